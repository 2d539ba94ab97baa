/- Contracts of functions of the seat, written by a program of this session (with the kit's print) for the laws of this claim; no condition beside what each states. -/
import Derived.Test.YthfokiabneflpaaPx0
import Derived.Test.YthfokiabneflpaaPx1
import Derived.Test.YthfokiabneflpaaPx2
import Derived.Test.YthfokiabneflpaaPx3
import Derived.Test.YthfokiabneflpaaPx4
import Derived.Test.YthfokiabneflpaaPx5
import Derived.Test.YthfokiabneflpaaPx8
namespace Go.Proofs.Ythfokiabneflpaa.P
open Go.Proofs.Ythfokiabneflpaa.Aux Go.RowKit Go.Proofs.YthfokiabneflpaaW.PrintWords Go.Proofs.YthfokiabneflpaaW.PrintLast Go.Proofs.YthfokiabneflpaaW.PrintMore
attribute [local go_sem] max2_int min2_int max_two min_two max_three min_three max_four min_four   -- for this text's walks alone
set_option linter.unusedVariables false
set_option linter.unusedSimpArgs false

/-! ### drawbridgelaw23_LinkStays: function 5 -/
mutual
def drawbridgelaw23_LinkStays.j0 : Nat → List Int → Int → Bool → List (List Int) → Int → Option (Bool)
 | 0, _, _, _, _, _ => none
 | k + 1, x1, x2, x25, x477000, x477001 => if x25 = true then ((drawbridgelaw23_heads.f k).bind fun t479 => (some t479)) else ((link_Push.f k x477000 x477001 x1).bind fun bt480 => ((link_Pop.f k x477000 x477001).bind fun bt486 => ((link_Check.f bt480.1 bt480.2.1).bind fun t495 => (if t495 = true then ((link_Check.f bt486.1 bt486.2.1).bind fun t496 => (if t496 = true then ((link_Drop.f k x477000 x477001 x2).bind fun bt497 => ((link_Check.f bt497.1 bt497.2).bind fun t501 => (if t501 = true then ((link_Twice.f k x477000 x477001 x2).bind fun bt502 => ((link_Check.f bt502.1 bt502.2).bind fun t506 => (if t506 = true then ((link_Swap.f k x477000 x477001 x2).bind fun bt507 => ((link_Swap.f k bt507.1 bt507.2 x2).bind fun bt511 => ((drawbridgeref23_Same.f k bt511.1 bt511.2 x477000 x477001).bind fun t515 => (drawbridgelaw23_LinkStays.j1 k x2 (!t515) x477000 x477001)))) else (drawbridgelaw23_LinkStays.j1 k x2 true x477000 x477001)))) else (drawbridgelaw23_LinkStays.j1 k x2 true x477000 x477001)))) else (drawbridgelaw23_LinkStays.j1 k x2 true x477000 x477001))) else (drawbridgelaw23_LinkStays.j1 k x2 true x477000 x477001)))))
def drawbridgelaw23_LinkStays.j1 : Nat → Int → Bool → List (List Int) → Int → Option (Bool)
 | 0, _, _, _, _ => none
 | k + 1, x2, x70, x477000, x477001 => if x70 = true then (some false) else ((link_Twice.f k x477000 x477001 x2).bind fun bt516 => (if (bt516.1.length : Int) = (x477000.length : Int) then ((drawbridgelaw23_heads.f k).bind fun t521 => (some t521)) else ((link_Drop.f k bt516.1 bt516.2 x2).bind fun bt522 => ((drawbridgeref23_Same.f k bt522.1 bt522.2 x477000 x477001).bind fun t526 => (if t526 = true then ((drawbridgelaw23_heads.f k).bind fun t527 => (some t527)) else (some false))))))
end
def drawbridgelaw23_LinkStays.f (k : Nat) (l0_0 : List (List Int)) (a0_1 : Int) (l1 : List Int) (a2 : Int) : Option (Bool) := (drawbridgelaw23_small.f k l0_0 a0_1).bind fun t477 => (if t477 = true then (if (l1.length : Int) > 3000 then (drawbridgelaw23_LinkStays.j0 k l1 a2 true l0_0 a0_1) else ((link_Check.f l0_0 a0_1).bind fun t478 => (drawbridgelaw23_LinkStays.j0 k l1 a2 (!t478) l0_0 a0_1))) else (drawbridgelaw23_LinkStays.j0 k l1 a2 true l0_0 a0_1))
theorem drawbridgelaw23_LinkStays.mono_l : ∀ k, (∀ y0 y1 y2 y3 y4, LeO (drawbridgelaw23_LinkStays.j0 k y0 y1 y2 y3 y4) (drawbridgelaw23_LinkStays.j0 (k + 1) y0 y1 y2 y3 y4)) ∧ (∀ y0 y1 y2 y3, LeO (drawbridgelaw23_LinkStays.j1 k y0 y1 y2 y3) (drawbridgelaw23_LinkStays.j1 (k + 1) y0 y1 y2 y3))
 | 0 => ⟨fun _ _ _ _ _ r h => by simp [drawbridgelaw23_LinkStays.j0] at h, fun _ _ _ _ r h => by simp [drawbridgelaw23_LinkStays.j1] at h⟩
 | k + 1 => by
  obtain ⟨ih0, ih1⟩ := drawbridgelaw23_LinkStays.mono_l k
  refine ⟨?_, ?_⟩
  ·intro y0 y1 y2 y3 y4
   unfold drawbridgelaw23_LinkStays.j0
   repeat' first
   | (with_reducible exact ih0 _ _ _ _ _)
   | (with_reducible exact ih1 _ _ _ _)
   | (with_reducible exact drawbridgelaw23_heads.mono _)
   | (with_reducible exact drawbridgelaw23_small.mono _ _ _)
   | (with_reducible exact drawbridgeref23_Same.mono _ _ _ _ _)
   | (with_reducible exact link_Drop.mono _ _ _ _)
   | (with_reducible exact link_Pop.mono _ _ _)
   | (with_reducible exact link_Push.mono _ _ _ _)
   | (with_reducible exact link_Swap.mono _ _ _ _)
   | (with_reducible exact link_Twice.mono _ _ _ _)
   | (with_reducible exact LeO.refl _)
   | (with_reducible exact LeO.none _)
   | (with_reducible refine LeO.ite ?_ ?_)
   | (with_reducible refine LeO.bind ?_ (fun _ => ?_))
   | exact ih0 _ _ _ _ _
   | exact ih1 _ _ _ _
   | exact drawbridgelaw23_heads.mono _
   | exact drawbridgelaw23_small.mono _ _ _
   | exact drawbridgeref23_Same.mono _ _ _ _ _
   | exact link_Drop.mono _ _ _ _
   | exact link_Pop.mono _ _ _
   | exact link_Push.mono _ _ _ _
   | exact link_Swap.mono _ _ _ _
   | exact link_Twice.mono _ _ _ _
   | exact LeO.none _
   | refine LeO.ite ?_ ?_
   | refine LeO.bind ?_ (fun _ => ?_)
  ·intro y0 y1 y2 y3
   unfold drawbridgelaw23_LinkStays.j1
   repeat' first
   | (with_reducible exact ih0 _ _ _ _ _)
   | (with_reducible exact ih1 _ _ _ _)
   | (with_reducible exact drawbridgelaw23_heads.mono _)
   | (with_reducible exact drawbridgelaw23_small.mono _ _ _)
   | (with_reducible exact drawbridgeref23_Same.mono _ _ _ _ _)
   | (with_reducible exact link_Drop.mono _ _ _ _)
   | (with_reducible exact link_Pop.mono _ _ _)
   | (with_reducible exact link_Push.mono _ _ _ _)
   | (with_reducible exact link_Swap.mono _ _ _ _)
   | (with_reducible exact link_Twice.mono _ _ _ _)
   | (with_reducible exact LeO.refl _)
   | (with_reducible exact LeO.none _)
   | (with_reducible refine LeO.ite ?_ ?_)
   | (with_reducible refine LeO.bind ?_ (fun _ => ?_))
   | exact ih0 _ _ _ _ _
   | exact ih1 _ _ _ _
   | exact drawbridgelaw23_heads.mono _
   | exact drawbridgelaw23_small.mono _ _ _
   | exact drawbridgeref23_Same.mono _ _ _ _ _
   | exact link_Drop.mono _ _ _ _
   | exact link_Pop.mono _ _ _
   | exact link_Push.mono _ _ _ _
   | exact link_Swap.mono _ _ _ _
   | exact link_Twice.mono _ _ _ _
   | exact LeO.none _
   | refine LeO.ite ?_ ?_
   | refine LeO.bind ?_ (fun _ => ?_)
theorem drawbridgelaw23_LinkStays.mono : ∀ a0 a1 a2 a3 k, LeO (drawbridgelaw23_LinkStays.f k a0 a1 a2 a3) (drawbridgelaw23_LinkStays.f (k + 1) a0 a1 a2 a3) := by
 intro a0 a1 a2 a3 k
 obtain ⟨ih0, ih1⟩ := drawbridgelaw23_LinkStays.mono_l k
 unfold drawbridgelaw23_LinkStays.f
 repeat' first
   | (with_reducible exact ih0 _ _ _ _ _)
   | (with_reducible exact ih1 _ _ _ _)
   | (with_reducible exact drawbridgelaw23_heads.mono _)
   | (with_reducible exact drawbridgelaw23_small.mono _ _ _)
   | (with_reducible exact drawbridgeref23_Same.mono _ _ _ _ _)
   | (with_reducible exact link_Drop.mono _ _ _ _)
   | (with_reducible exact link_Pop.mono _ _ _)
   | (with_reducible exact link_Push.mono _ _ _ _)
   | (with_reducible exact link_Swap.mono _ _ _ _)
   | (with_reducible exact link_Twice.mono _ _ _ _)
   | (with_reducible exact LeO.refl _)
   | (with_reducible exact LeO.none _)
   | (with_reducible refine LeO.ite ?_ ?_)
   | (with_reducible refine LeO.bind ?_ (fun _ => ?_))
   | exact ih0 _ _ _ _ _
   | exact ih1 _ _ _ _
   | exact drawbridgelaw23_heads.mono _
   | exact drawbridgelaw23_small.mono _ _ _
   | exact drawbridgeref23_Same.mono _ _ _ _ _
   | exact link_Drop.mono _ _ _ _
   | exact link_Pop.mono _ _ _
   | exact link_Push.mono _ _ _ _
   | exact link_Swap.mono _ _ _ _
   | exact link_Twice.mono _ _ _ _
   | exact LeO.none _
   | refine LeO.ite ?_ ?_
   | refine LeO.bind ?_ (fun _ => ?_)
def drawbridgelaw23_LinkStays.T5 : Bool × List (List Nat × List Nat) := (true, [([], []), ([0], [0]), ([1], [1]), ([2, 1], [2]), ([3], [3]), ([4, 3, 3], [3, 4]), ([5, 3], [3, 5]), ([3, 6], [3, 6]), ([7, 5], [7]), ([8], [8]), ([8], [8]), ([9, 10, 8, 8], [8, 9, 10]), ([11, 11, 8], [8, 11]), ([12, 8], [8, 12]), ([8, 13], [8, 13]), ([14, 12], [14]), ([15], [15]), ([15], [15]), ([16, 17, 15, 15], [15, 16, 17]), ([18, 18, 15], [15, 18]), ([19, 15], [15, 19]), ([15, 20], [15, 20]), ([21, 19], [21]), ([22], [22]), ([22], [22]), ([23, 24, 22, 22], [22, 23, 24]), ([22], [22]), ([25, 26, 25, 22], [22, 25, 26]), ([22], [22]), ([27, 28, 27, 22], [22, 27, 28]), ([29, 22], [22, 29]), ([22, 30], [22, 30])])
def drawbridgelaw23_LinkStays.B5 : List Nat := [0, 1, 3, 7, 15, 31, 63, 127, 255, 511, 511, 2047, 4095, 8191, 16383, 32767, 65535, 65535, 262143, 524287, 1048575, 2097151, 4194303, 8388607, 8388607, 33554431, 8388607, 134217727, 8388607, 536870911, 1073741823, 2147483647]
theorem drawbridgelaw23_LinkStays.tab5 : rtab .any (opsOf Try.f5 5) = drawbridgelaw23_LinkStays.T5 := by kernel_rfl
theorem drawbridgelaw23_LinkStays.bits5 : waitsOk drawbridgelaw23_LinkStays.T5.2 drawbridgelaw23_LinkStays.B5 = true := by kernel_rfl
def drawbridgelaw23_LinkStays.T8 : Bool × List (List Nat × List Nat) := (true, [([], []), ([0], [0]), ([1], [1]), ([], []), ([3], [3]), ([4], [4]), ([2, 5], [2, 5]), ([6], [6]), ([7], [7]), ([7], [7]), ([8, 9, 7, 7], [7, 8, 9]), ([7], [7]), ([10, 11, 10, 7], [7, 10, 11]), ([7, 12], [7, 12]), ([13, 12], [13]), ([14, 14], [14]), ([14, 15], [14, 15]), ([16, 15, 0, 1, 2, 3, 4, 5, 6, 7, 8, 9, 10, 11, 12, 13, 14, 15, 16], [16])])
def drawbridgelaw23_LinkStays.B8 : List Nat := [0, 1, 3, 0, 8, 24, 63, 127, 255, 255, 1023, 255, 4095, 8191, 16383, 32767, 65535, 131071]
theorem drawbridgelaw23_LinkStays.tab8 : rtab .any (opsOf Try.f5 8) = drawbridgelaw23_LinkStays.T8 := by kernel_rfl
theorem drawbridgelaw23_LinkStays.bits8 : waitsOk drawbridgelaw23_LinkStays.T8.2 drawbridgelaw23_LinkStays.B8 = true := by kernel_rfl
set_option maxHeartbeats 8000000 in
set_option maxRecDepth 100000 in
theorem drawbridgelaw23_LinkStays.calls (k : Nat) (A0_0 : Option Addr) (c0_0 : Nat) (l0_0 : List (List Int)) (a0_1 : Int) (A1 : Option Addr) (c1 : Nat) (l1 : List Int) (a2 : Int) (r : Bool) (w : World) (hr0_0 : Kd.C (Kd.slice 5 (Kd.int .u8)) w A0_0 l0_0.length l0_0) (hc0_0 : l0_0.length ≤ c0_0) (hr1 : Kd.C (Kd.int .u8) w A1 l1.length l1) (hc1 : l1.length ≤ c1) (hT_ : r = true) (h : drawbridgelaw23_LinkStays.f k l0_0 a0_1 l1 a2 = some r) :
  Calls Try.prog 5 #[.agg #[.slice A0_0 l0_0.length c0_0, .int .i64 a0_1], .slice A1 l1.length c1, .int .i64 a2] w fun e w' => e = .returned (.bool r) ∧ Below w.heap.size w w' := by
 have HTr_:=mK hT_
 clear hT_
 have hu24:=Try.underlying24
 have HR0_0:=mK hr0_0
 have HC0_0:=mK hc0_0
 clear hr0_0 hc0_0
 have HR1:=mK hr1
 have HC1:=mK hc1
 clear hr1 hc1
 have HB:=mK (Below.refl w.heap.size w)
 have H : ((drawbridgelaw23_small.f k l0_0 a0_1).bind fun t477=>(if t477 = true then (if (l1.length : Int) > 3000 then (drawbridgelaw23_LinkStays.j0 k l1 a2 true l0_0 a0_1) else ((link_Check.f l0_0 a0_1).bind fun t478=>(drawbridgelaw23_LinkStays.j0 k l1 a2 (!t478) l0_0 a0_1))) else (drawbridgelaw23_LinkStays.j0 k l1 a2 true l0_0 a0_1))) = some r:=h
 clear h
 have HC4:=mK H
 clear H
 go_enter Try.func5,Try.ntmps5
 go_upto_region 1 with (first|((with_reducible refine gate_dst (N:=3) rfl ?_);(try (refine gate_guard (by rfl) ?_;dsimp only));refine box_event ?hg (N:=3) ?hd (cs:=#[.slice A0_0 l0_0.length c0_0,.int .i64 a0_1]) (t:=24) ?hr ?_;(case hd=>rfl);(case hg=>rfl);(case hr=>first|(go_simp;done)|(go_simp;rfl));intro gb476 hg w5 hbox hb;have n0_:=mK (below_step (by repeat (first|(with_reducible first|exact HB.out|apply lA|apply lN|apply lD)|exact HB.out)) hb);have n1_:=mK (hbox);have n2_:=mK ((by rw [hg];exact (below_size (by repeat (first|(with_reducible first|exact HB.out|apply lA|apply lN|apply lD)|exact HB.out))) : w.heap.size ≤ gb476));have n3_:=mK ((by rw [hg];exact (below_size (by repeat (first|(with_reducible first|exact HB.out|apply lA|apply lN|apply lD)|exact HB.out))) : w.heap.size ≤ gb476));clear HB;have HB:=n0_;have BK476:=n1_;have GW476:=n2_;have GE476:=n3_;clear n0_ n1_ n2_ n3_;clear hb hbox hg))
 (try simp only [Act.put,sT,sZ,sS])
 go_cut [25] (fun v25 wc=>∃ (kq : Nat) (x25_3 : Bool),v25 = .bool x25_3∧Aside0 (drawbridgelaw23_LinkStays.j0 kq l1 a2 x25_3 l0_0 a0_1 = some r)∧Aside0 (kq ≤ k)∧Aside0 (wc.heap[gb476]? = some (.cells #[(.slice A0_0 l0_0.length c0_0),.int .i64 a0_1] 24 (0,0)))∧Aside0 (Below w.heap.size w wc))
 case first =>
  have H:=HC4.out
  clear HC4
  replace H:=Option.bind_eq_some_iff.mp H
  obtain ⟨t477,A60,H⟩:=H
  replace H : (if t477 = true then (if (l1.length : Int) > 3000 then (drawbridgelaw23_LinkStays.j0 k l1 a2 true l0_0 a0_1) else ((link_Check.f l0_0 a0_1).bind fun t478=>(drawbridgelaw23_LinkStays.j0 k l1 a2 (!t478) l0_0 a0_1))) else (drawbridgelaw23_LinkStays.j0 k l1 a2 true l0_0 a0_1)) = some r:=H
  have A6:=mK A60
  clear A60
  by_cases c7 : t477 = true
  ·subst c7
   have H1 : (if (l1.length : Int) > 3000 then (drawbridgelaw23_LinkStays.j0 k l1 a2 true l0_0 a0_1) else ((link_Check.f l0_0 a0_1).bind fun t478=>(drawbridgelaw23_LinkStays.j0 k l1 a2 (!t478) l0_0 a0_1))) = some r:= by rw [if_pos rfl] at H;exact H
   clear H
   have H:=H1
   clear H1
   by_cases c8 : (l1.length : Int) > 3000
   ·rw [if_pos c8] at H
    have c8b0 : decide (3000 < (l1.length : Int)) = true:=decide_eq_true c8
    have c8b1 : decide (3000 < l1.length) = true:=decide_eq_true (by omega)
    clear c8
    (first|rw [c8b0]|(simp only [i64_w,i32_w];rw [c8b0])|skip)
    have H':=mK H
    clear H
    have hcz9_0 : w5.cell? ⟨gb476,0,none⟩ = some (.slice A0_0 l0_0.length c0_0):=(blk_cell BK476.out 0).trans rfl
    have hcz9_1 : w5.cell? ⟨gb476,1,none⟩ = some (.int .i64 a0_1):=(blk_cell BK476.out 1).trans rfl
    have hfz9_0:=blk_frozen BK476.out 0
    have hfz9_1:=blk_frozen BK476.out 1
    go_wp2_with (first|((with_reducible refine gate_callee (f:=6) rfl ?_);refine goesL_ (some 14) rfl rfl Try.func6 (by kernel_rfl) rfl #[.agg #[.slice A0_0 l0_0.length c0_0,.int .i64 a0_1]] rfl (by (try simp only [List.map_toArray,List.map_cons,List.map_nil]);first|done|rfl|(simp only [List.length_drop,List.length_take];rfl)) ?_;(with_reducible refine (drawbridgelaw23_small.calls k _ _ l0_0 a0_1 true _ ?side1 ?side2 A6.out).mono ?_);(case side1=>repeat (first|exact (Kd.C_below HR0_0.out HB.out)|(with_reducible refine Kd.C_alloc ?_ _)|(with_reducible refine Kd.C_drewN ?_ _)|(with_reducible refine Kd.C_drew ?_)));(case side2=>exact HC0_0.out);rintro e w10 ⟨rfl,hb⟩;refine ⟨_,rfl,?_⟩;have n0_:=mK (blk_below (g:=gb476) (o:=.cells #[.slice A0_0 l0_0.length c0_0,.int .i64 a0_1] 24 (0,0)) (by (with_reducible repeat (first|apply bN|apply bD|apply bA));exact BK476.out) hb);have n1_:=mK (below_step (by repeat (first|(with_reducible first|exact HB.out|apply lA|apply lN|apply lD|refine lS ?_ GE476.out)|exact HB.out)) hb);clear BK476;clear HB;have BK476:=n0_;have HB:=n1_;clear n0_ n1_;(try clear hb);(try clear hb2);(try clear hk);(try clear hi)))
    go_meet
    case rel=>exact ⟨_,(true),(by first|rfl|(simp;done)|(simp [*];done)),H',⟨by first|omega|exact Nat.le_refl _⟩,⟨by (with_reducible repeat (first|apply bN|apply bD|apply bA));exact BK476.out⟩,⟨by repeat (first|(with_reducible first|exact HB.out|apply lA|apply lN|apply lD|refine lS ?_ GE476.out)|exact HB.out)⟩⟩
   ·rw [if_neg c8] at H
    have c8b0 : decide (3000 < (l1.length : Int)) = false:=decide_eq_false c8
    have c8b1 : decide (3000 < l1.length) = false:=decide_eq_false (by omega)
    clear c8
    (first|rw [c8b0]|(simp only [i64_w,i32_w];rw [c8b0])|skip)
    replace H:=Option.bind_eq_some_iff.mp H
    obtain ⟨t478,A110,H⟩:=H
    replace H : (drawbridgelaw23_LinkStays.j0 k l1 a2 (!t478) l0_0 a0_1) = some r:=H
    have A11:=mK A110
    clear A110
    have H':=mK H
    clear H
    have hcz12_0 : w5.cell? ⟨gb476,0,none⟩ = some (.slice A0_0 l0_0.length c0_0):=(blk_cell BK476.out 0).trans rfl
    have hcz12_1 : w5.cell? ⟨gb476,1,none⟩ = some (.int .i64 a0_1):=(blk_cell BK476.out 1).trans rfl
    have hfz12_0:=blk_frozen BK476.out 0
    have hfz12_1:=blk_frozen BK476.out 1
    go_wp2_with (first|((with_reducible refine gate_callee (f:=6) rfl ?_);refine goesL_ (some 14) rfl rfl Try.func6 (by kernel_rfl) rfl #[.agg #[.slice A0_0 l0_0.length c0_0,.int .i64 a0_1]] rfl (by (try simp only [List.map_toArray,List.map_cons,List.map_nil]);first|done|rfl|(simp only [List.length_drop,List.length_take];rfl)) ?_;(with_reducible refine (drawbridgelaw23_small.calls k _ _ l0_0 a0_1 true _ ?side1 ?side2 A6.out).mono ?_);(case side1=>repeat (first|exact (Kd.C_below HR0_0.out HB.out)|(with_reducible refine Kd.C_alloc ?_ _)|(with_reducible refine Kd.C_drewN ?_ _)|(with_reducible refine Kd.C_drew ?_)));(case side2=>exact HC0_0.out);rintro e w13 ⟨rfl,hb⟩;refine ⟨_,rfl,?_⟩;have n0_:=mK (blk_below (g:=gb476) (o:=.cells #[.slice A0_0 l0_0.length c0_0,.int .i64 a0_1] 24 (0,0)) (by (with_reducible repeat (first|apply bN|apply bD|apply bA));exact BK476.out) hb);have n1_:=mK (below_step (by repeat (first|(with_reducible first|exact HB.out|apply lA|apply lN|apply lD|refine lS ?_ GE476.out)|exact HB.out)) hb);clear BK476;clear HB;have BK476:=n0_;have HB:=n1_;clear n0_ n1_;(try clear hb);(try clear hb2);(try clear hk);(try clear hi);have hcz14_0 : w13.cell? ⟨gb476,0,none⟩ = some (.slice A0_0 l0_0.length c0_0):=(blk_cell BK476.out 0).trans rfl;have hcz14_1 : w13.cell? ⟨gb476,1,none⟩ = some (.int .i64 a0_1):=(blk_cell BK476.out 1).trans rfl;have hfz14_0:=blk_frozen BK476.out 0;have hfz14_1:=blk_frozen BK476.out 1)|(go_at_call 20;(with_reducible refine (link_Check.calls _ _ l0_0 a0_1 t478 _ ?side1 ?side2 A11.out).mono ?_);(case side1=>repeat (first|exact (Kd.C_below HR0_0.out HB.out)|(with_reducible refine Kd.C_alloc ?_ _)|(with_reducible refine Kd.C_drewN ?_ _)|(with_reducible refine Kd.C_drew ?_)));(case side2=>exact HC0_0.out);rintro e w15 ⟨rfl,hb⟩;have n0_:=mK (blk_below (g:=gb476) (o:=.cells #[.slice A0_0 l0_0.length c0_0,.int .i64 a0_1] 24 (0,0)) (by (with_reducible repeat (first|apply bN|apply bD|apply bA));exact BK476.out) hb);have n1_:=mK (below_step (by repeat (first|(with_reducible first|exact HB.out|apply lA|apply lN|apply lD|refine lS ?_ GE476.out)|exact HB.out)) hb);clear BK476;clear HB;have BK476:=n0_;have HB:=n1_;clear n0_ n1_;(try clear hb);(try clear hb2);(try clear hk);(try clear hi)))
    go_meet
    case rel=>exact ⟨_,(!t478),(by first|rfl|(simp;done)|(simp [*];done)),H',⟨by first|omega|exact Nat.le_refl _⟩,⟨by (with_reducible repeat (first|apply bN|apply bD|apply bA));exact BK476.out⟩,⟨by repeat (first|(with_reducible first|exact HB.out|apply lA|apply lN|apply lD|refine lS ?_ GE476.out)|exact HB.out)⟩⟩
  ·replace c7:=Bool.eq_false_iff.mpr c7
   subst c7
   have H1 : (drawbridgelaw23_LinkStays.j0 k l1 a2 true l0_0 a0_1) = some r:= by rw [if_neg (show ¬ (false = true) by decide)] at H;exact H
   clear H
   have H:=H1
   clear H1
   have H':=mK H
   clear H
   have hcz16_0 : w5.cell? ⟨gb476,0,none⟩ = some (.slice A0_0 l0_0.length c0_0):=(blk_cell BK476.out 0).trans rfl
   have hcz16_1 : w5.cell? ⟨gb476,1,none⟩ = some (.int .i64 a0_1):=(blk_cell BK476.out 1).trans rfl
   have hfz16_0:=blk_frozen BK476.out 0
   have hfz16_1:=blk_frozen BK476.out 1
   go_wp2_with (first|((with_reducible refine gate_callee (f:=6) rfl ?_);refine goesL_ (some 14) rfl rfl Try.func6 (by kernel_rfl) rfl #[.agg #[.slice A0_0 l0_0.length c0_0,.int .i64 a0_1]] rfl (by (try simp only [List.map_toArray,List.map_cons,List.map_nil]);first|done|rfl|(simp only [List.length_drop,List.length_take];rfl)) ?_;(with_reducible refine (drawbridgelaw23_small.calls k _ _ l0_0 a0_1 false _ ?side1 ?side2 A6.out).mono ?_);(case side1=>repeat (first|exact (Kd.C_below HR0_0.out HB.out)|(with_reducible refine Kd.C_alloc ?_ _)|(with_reducible refine Kd.C_drewN ?_ _)|(with_reducible refine Kd.C_drew ?_)));(case side2=>exact HC0_0.out);rintro e w17 ⟨rfl,hb⟩;refine ⟨_,rfl,?_⟩;have n0_:=mK (blk_below (g:=gb476) (o:=.cells #[.slice A0_0 l0_0.length c0_0,.int .i64 a0_1] 24 (0,0)) (by (with_reducible repeat (first|apply bN|apply bD|apply bA));exact BK476.out) hb);have n1_:=mK (below_step (by repeat (first|(with_reducible first|exact HB.out|apply lA|apply lN|apply lD|refine lS ?_ GE476.out)|exact HB.out)) hb);clear BK476;clear HB;have BK476:=n0_;have HB:=n1_;clear n0_ n1_;(try clear hb);(try clear hb2);(try clear hk);(try clear hi)))
   go_meet
   case rel=>exact ⟨_,(true),(by first|rfl|(simp;done)|(simp [*];done)),H',⟨by first|omega|exact Nat.le_refl _⟩,⟨by (with_reducible repeat (first|apply bN|apply bD|apply bA));exact BK476.out⟩,⟨by repeat (first|(with_reducible first|exact HB.out|apply lA|apply lN|apply lD|refine lS ?_ GE476.out)|exact HB.out)⟩⟩
 case rest =>
  clear HC4
  try clear c1
  try clear p2
  try clear c5
  try clear c6
  try clear c7
  try clear c8
  try clear c8b0
  try clear c8b1
  try clear hcz12_0
  try clear hcz12_1
  try clear hcz14_0
  try clear hcz14_1
  try clear hcz16_0
  try clear hcz16_1
  try clear hcz9_0
  try clear hcz9_1
  try clear hfz12_0
  try clear hfz12_1
  try clear hfz14_0
  try clear hfz14_1
  try clear hfz16_0
  try clear hfz16_1
  try clear hfz9_0
  try clear hfz9_1
  obtain ⟨kq,x25_3,rfl,HA,HJ3,BK476,HB⟩:=hcut
  cases kq with
  |zero=>exact absurd HA.out (by simp [drawbridgelaw23_LinkStays.j0])
  |succ kj3 =>
   have H:=HA.out
   clear HA
   simp only [drawbridgelaw23_LinkStays.j0] at H
   by_cases c18 : x25_3 = true
   ·subst c18
    have H1 : ((drawbridgelaw23_heads.f kj3).bind fun t479=>(some t479)) = some r:= by rw [if_pos rfl] at H;exact H
    clear H
    have H:=H1
    clear H1
    replace H:=Option.bind_eq_some_iff.mp H
    obtain ⟨t479,A190,H⟩:=H
    replace H : (some t479) = some r:=H
    have A19:=mK A190
    clear A190
    obtain rfl:=Option.some.inj H
    go_wp2_with (first|((with_reducible refine gate_callee (f:=7) rfl ?_);refine goesL_ (some 26) rfl rfl Try.func7 (by kernel_rfl) rfl #[] rfl (by (try simp only [List.map_toArray,List.map_cons,List.map_nil]);first|done|rfl|(simp only [List.length_drop,List.length_take];rfl)) ?_;(with_reducible refine (drawbridgelaw23_heads.calls kj3  t479 _ (by first|exact HTr_.out|assumption) A19.out).mono ?_);rintro e w20 ⟨rfl,hb⟩;refine ⟨_,rfl,?_⟩;have n1_:=mK (below_step (by repeat (first|(with_reducible first|exact HB.out|apply lA|apply lN|apply lD|refine lS ?_ GE476.out)|exact HB.out)) hb);clear HB;have HB:=n1_;clear n1_;(try clear hb);(try clear hb2);(try clear hk);(try clear hi)))
    go_ret
    exact ⟨by first|rfl|(simp [errW_none,errW_some] <;> rfl)|(simp [*,errW_none,errW_some] <;> rfl),by repeat (first|(with_reducible first|exact HB.out|apply lA|apply lN|apply lD|refine lS ?_ GE476.out)|exact HB.out)⟩
   ·replace c18:=Bool.eq_false_iff.mpr c18
    subst c18
    have H1 : ((link_Push.f kj3 l0_0 a0_1 l1).bind fun bt480=>((link_Pop.f kj3 l0_0 a0_1).bind fun bt486=>((link_Check.f bt480.1 bt480.2.1).bind fun t495=>(if t495 = true then ((link_Check.f bt486.1 bt486.2.1).bind fun t496=>(if t496 = true then ((link_Drop.f kj3 l0_0 a0_1 a2).bind fun bt497=>((link_Check.f bt497.1 bt497.2).bind fun t501=>(if t501 = true then ((link_Twice.f kj3 l0_0 a0_1 a2).bind fun bt502=>((link_Check.f bt502.1 bt502.2).bind fun t506=>(if t506 = true then ((link_Swap.f kj3 l0_0 a0_1 a2).bind fun bt507=>((link_Swap.f kj3 bt507.1 bt507.2 a2).bind fun bt511=>((drawbridgeref23_Same.f kj3 bt511.1 bt511.2 l0_0 a0_1).bind fun t515=>(drawbridgelaw23_LinkStays.j1 kj3 a2 (!t515) l0_0 a0_1)))) else (drawbridgelaw23_LinkStays.j1 kj3 a2 true l0_0 a0_1)))) else (drawbridgelaw23_LinkStays.j1 kj3 a2 true l0_0 a0_1)))) else (drawbridgelaw23_LinkStays.j1 kj3 a2 true l0_0 a0_1))) else (drawbridgelaw23_LinkStays.j1 kj3 a2 true l0_0 a0_1))))) = some r:= by rw [if_neg (show ¬ (false = true) by decide)] at H;exact H
    clear H
    have H:=H1
    clear H1
    replace H:=Option.bind_eq_some_iff.mp H
    obtain ⟨⟨t480,t483,t484⟩,A210,H⟩:=H
    replace H : ((link_Pop.f kj3 l0_0 a0_1).bind fun bt486=>((link_Check.f t480 t483).bind fun t495=>(if t495 = true then ((link_Check.f bt486.1 bt486.2.1).bind fun t496=>(if t496 = true then ((link_Drop.f kj3 l0_0 a0_1 a2).bind fun bt497=>((link_Check.f bt497.1 bt497.2).bind fun t501=>(if t501 = true then ((link_Twice.f kj3 l0_0 a0_1 a2).bind fun bt502=>((link_Check.f bt502.1 bt502.2).bind fun t506=>(if t506 = true then ((link_Swap.f kj3 l0_0 a0_1 a2).bind fun bt507=>((link_Swap.f kj3 bt507.1 bt507.2 a2).bind fun bt511=>((drawbridgeref23_Same.f kj3 bt511.1 bt511.2 l0_0 a0_1).bind fun t515=>(drawbridgelaw23_LinkStays.j1 kj3 a2 (!t515) l0_0 a0_1)))) else (drawbridgelaw23_LinkStays.j1 kj3 a2 true l0_0 a0_1)))) else (drawbridgelaw23_LinkStays.j1 kj3 a2 true l0_0 a0_1)))) else (drawbridgelaw23_LinkStays.j1 kj3 a2 true l0_0 a0_1))) else (drawbridgelaw23_LinkStays.j1 kj3 a2 true l0_0 a0_1)))) = some r:=H
    have A21:=mK A210
    clear A210
    replace H:=Option.bind_eq_some_iff.mp H
    obtain ⟨⟨t486,t489,t490,t493⟩,A220,H⟩:=H
    replace H : ((link_Check.f t480 t483).bind fun t495=>(if t495 = true then ((link_Check.f t486 t489).bind fun t496=>(if t496 = true then ((link_Drop.f kj3 l0_0 a0_1 a2).bind fun bt497=>((link_Check.f bt497.1 bt497.2).bind fun t501=>(if t501 = true then ((link_Twice.f kj3 l0_0 a0_1 a2).bind fun bt502=>((link_Check.f bt502.1 bt502.2).bind fun t506=>(if t506 = true then ((link_Swap.f kj3 l0_0 a0_1 a2).bind fun bt507=>((link_Swap.f kj3 bt507.1 bt507.2 a2).bind fun bt511=>((drawbridgeref23_Same.f kj3 bt511.1 bt511.2 l0_0 a0_1).bind fun t515=>(drawbridgelaw23_LinkStays.j1 kj3 a2 (!t515) l0_0 a0_1)))) else (drawbridgelaw23_LinkStays.j1 kj3 a2 true l0_0 a0_1)))) else (drawbridgelaw23_LinkStays.j1 kj3 a2 true l0_0 a0_1)))) else (drawbridgelaw23_LinkStays.j1 kj3 a2 true l0_0 a0_1))) else (drawbridgelaw23_LinkStays.j1 kj3 a2 true l0_0 a0_1))) = some r:=H
    have A22:=mK A220
    clear A220
    have HC23:=mK H
    clear H
    have hcz24_0 : wc.cell? ⟨gb476,0,none⟩ = some (.slice A0_0 l0_0.length c0_0):=(blk_cell BK476.out 0).trans rfl
    have hcz24_1 : wc.cell? ⟨gb476,1,none⟩ = some (.int .i64 a0_1):=(blk_cell BK476.out 1).trans rfl
    have hfz24_0:=blk_frozen BK476.out 0
    have hfz24_1:=blk_frozen BK476.out 1
    go_upto_region 5 with (first|((with_reducible refine gate_callee (f:=8) rfl ?_);refine goesL_ (some 30) rfl rfl Try.func8 (by kernel_rfl) rfl #[.agg #[.slice A0_0 l0_0.length c0_0,.int .i64 a0_1],.slice A1 l1.length c1] rfl (by (try simp only [List.map_toArray,List.map_cons,List.map_nil]);first|done|rfl|(simp only [List.length_drop,List.length_take];rfl)) ?_;(with_reducible refine (link_Push.calls kj3 (fun k_=>k_ < w.heap.size) _ _ l0_0 a0_1 (fun k_=>k_ < w.heap.size) _ _ l1 t480 t483 t484 _ ?side1 ?side2 A21.out).mono ?_);(case side1=>exact Kd.V_mk HC0_0.out (Kd.F_below (Kd.C_F (Kd.heap_slice 5 (Kd.heap_int .u8)) HR0_0.out) (by repeat (first|(with_reducible first|exact HB.out|apply lA|apply lN|apply lD|refine lS ?_ GE476.out)|exact HB.out))));(case side2=>exact Kd.V_mk HC1.out (Kd.F_below (Kd.C_F (Kd.heap_int .u8) HR1.out) (by repeat (first|(with_reducible first|exact HB.out|apply lA|apply lN|apply lD|refine lS ?_ GE476.out)|exact HB.out))));rintro e w25 ⟨v481,rfl,ho0,hb⟩;refine ⟨_,rfl,?_⟩;have n0_:=mK (Kd.V_lower (Kd.V_mono (ok':= fun k_=>k_ ≠ gb476) ho0 (fun k_ hk_=>Or.elim hk_ (fun hs_=>Or.elim hs_ (fun hs_=>fun e_=>Nat.not_le.2 hs_ (by rw [e_];exact GW476.out)) (fun hs_=>fun e_=>Nat.not_le.2 hs_ (by rw [e_];exact GW476.out))) (fun hn_=>(Kd.freshB (g:=gb476) (o:=.cells #[.slice A0_0 l0_0.length c0_0,.int .i64 a0_1] 24 (0,0)) (by (with_reducible repeat (first|apply bN|apply bD|apply bA));exact BK476.out) k_ hn_)))) (below_size (by repeat (first|(with_reducible first|exact HB.out|apply lA|apply lN|apply lD|refine lS ?_ GE476.out)|exact HB.out))));have n1_:=mK (blk_below (g:=gb476) (o:=.cells #[.slice A0_0 l0_0.length c0_0,.int .i64 a0_1] 24 (0,0)) (by (with_reducible repeat (first|apply bN|apply bD|apply bA));exact BK476.out) hb);have n2_:=mK (below_step (by repeat (first|(with_reducible first|exact HB.out|apply lA|apply lN|apply lD|refine lS ?_ GE476.out)|exact HB.out)) hb);clear BK476;clear HB;have HO482:=n0_;have BK476:=n1_;have HB:=n2_;clear n0_ n1_ n2_;(try clear hb);(try clear hb2);(try clear hk);(try clear hi);(try clear ho0))|((with_reducible refine gate_dst (N:=7) rfl ?_);(try (refine gate_guard (by rfl) ?_;dsimp only));refine box_event ?hg (N:=7) ?hd (cs:=#[.slice none 0 0,.int .i64 0]) (t:=24) ?hr ?_;(case hd=>rfl);(case hg=>rfl);(case hr=>first|(go_simp;done)|(go_simp;rfl));intro gb485 hg w26 hbox hb;have n0_:=mK (Kd.V_below (Kd.V_elderB (by (with_reducible repeat (first|apply vA|apply vN|apply vD));exact HO482.out) gb485 (Nat.le_of_eq hg.symm)) hb);have n1_:=mK (blk_below (g:=gb476) (o:=.cells #[.slice A0_0 l0_0.length c0_0,.int .i64 a0_1] 24 (0,0)) (by (with_reducible repeat (first|apply bN|apply bD|apply bA));exact BK476.out) hb);have n2_:=mK (below_step (by repeat (first|(with_reducible first|exact HB.out|apply lA|apply lN|apply lD|refine lS ?_ GE476.out)|exact HB.out)) hb);have n3_:=mK (hbox);have n4_:=mK ((by rw [hg];exact (below_size (by repeat (first|(with_reducible first|exact HB.out|apply lA|apply lN|apply lD|refine lS ?_ GE476.out)|exact HB.out))) : w.heap.size ≤ gb485));have n5_:=mK ((by rw [hg];exact (below_size (by repeat (first|(with_reducible first|exact HB.out|apply lA|apply lN|apply lD|refine lS ?_ GE476.out)|exact HB.out))) : w.heap.size ≤ gb485));have n6_:=mK ((by rw [hg];exact Nat.ne_of_lt (blk_lt (g:=gb476) (o:=.cells #[.slice A0_0 l0_0.length c0_0,.int .i64 a0_1] 24 (0,0)) (by (with_reducible repeat (first|apply bN|apply bD|apply bA));exact BK476.out)) : gb476 ≠ gb485));have n7_:=mK ((by rw [hg];exact Nat.ne_of_gt (blk_lt (g:=gb476) (o:=.cells #[.slice A0_0 l0_0.length c0_0,.int .i64 a0_1] 24 (0,0)) (by (with_reducible repeat (first|apply bN|apply bD|apply bA));exact BK476.out)) : gb485 ≠ gb476));clear HO482;clear BK476;clear HB;have HO482:=n0_;have BK476:=n1_;have HB:=n2_;have BK485:=n3_;have GW485:=n4_;have GE485:=n5_;have NB476_485:=n6_;have NB485_476:=n7_;clear n0_ n1_ n2_ n3_ n4_ n5_ n6_ n7_;clear hb hbox hg;obtain ⟨Ao27,co27,eo27⟩:=Kd.V_slice HO482.out;subst eo27;have hnb28:=NB485_476.out;have hnc28:=NB476_485.out;have hcz29_0 : w26.cell? ⟨gb485,0,none⟩ = some (.slice none 0 0):=(blk_cell BK485.out 0).trans rfl;have hcz29_1 : w26.cell? ⟨gb485,1,none⟩ = some (.int .i64 0):=(blk_cell BK485.out 1).trans rfl;have hfz29_0:=blk_frozen BK485.out 0;have hfz29_1:=blk_frozen BK485.out 1)|((with_reducible refine gate_store (t:=24) (p:=7) rfl ?_);refine store_event (t:=24) (p:=7) (v:=?vo_w30) (w1:=((w26.setCell ⟨gb485,0,none⟩ (.slice Ao27 t480.length co27)).setCell ⟨gb485,1,none⟩ (.int .i64 t483))) ?hg ?ho ?hn ?hr ?_;(case ho=>rfl);(case hg=>rfl);(case hn=>rfl);(case hr=>first|(go_simp;done)|(go_simp;rfl));intro w30 hw;have n0_ : Aside0 (Kd.V (Kd.slice 5 (Kd.int .u8)) 25 w30 w.heap.size (fun k_=>k_ ≠ gb476∧k_ ≠ gb485) (.slice Ao27 t480.length co27) t480):=⟨(by rw [hw];exact (by (with_reducible repeat (first|apply vA|apply vN|apply vD));exact Kd.V_mono (Kd.V_far (p:=⟨gb485,1,none⟩) (Kd.V_far (p:=⟨gb485,0,none⟩) (Kd.V_mono HO482.out (fun k_ hk=>(⟨hk,hk.2⟩ : _∧k_ ≠ gb485))) (fun _ hk=>hk.2) (.slice Ao27 t480.length co27)) (fun _ hk=>hk.2) (.int .i64 t483)) (fun _ hk=>⟨hk.1.1,hk.1.2⟩)))⟩;have n1_ : Aside0 (w30.heap[gb476]? = some (.cells #[.slice A0_0 l0_0.length c0_0,.int .i64 a0_1] 24 (0,0))):=⟨(by rw [hw];exact (by (with_reducible repeat (first|apply bN|apply bD|apply bA));refine blk_far ?_ NB476_485.out _;(with_reducible repeat (first|apply bN|apply bD|apply bA));refine blk_far ?_ NB476_485.out _;(with_reducible repeat (first|apply bN|apply bD|apply bA));exact BK476.out))⟩;have n2_ : Aside0 (w30.heap[gb485]? = some (.cells #[.slice Ao27 t480.length co27,.int .i64 t483] 24 (0,0))):=⟨(by rw [hw];exact (by (with_reducible repeat (first|apply bN|apply bD|apply bA));refine blk_put (cs:=#[.slice Ao27 t480.length co27,.int .i64 0]) ?_ 1 _ rfl;(with_reducible repeat (first|apply bN|apply bD|apply bA));refine blk_put (cs:=#[.slice none 0 0,.int .i64 0]) ?_ 0 _ rfl;(with_reducible repeat (first|apply bN|apply bD|apply bA));exact BK485.out))⟩;have n3_ : Aside0 (Below w.heap.size w w30):=⟨(by rw [hw];exact (by repeat (first|(with_reducible first|exact HB.out|apply lA|apply lN|apply lD|refine lS ?_ GE476.out|refine lS ?_ GE485.out)|exact HB.out)))⟩;clear hw;clear HO482;clear BK476;clear BK485;clear HB;have HO482:=n0_;have BK476:=n1_;have BK485:=n2_;have HB:=n3_;clear n0_ n1_ n2_ n3_;have hcz31_0 : w30.cell? ⟨gb476,0,none⟩ = some (.slice A0_0 l0_0.length c0_0):=(blk_cell BK476.out 0).trans rfl;have hcz31_1 : w30.cell? ⟨gb476,1,none⟩ = some (.int .i64 a0_1):=(blk_cell BK476.out 1).trans rfl;have hfz31_0:=blk_frozen BK476.out 0;have hfz31_1:=blk_frozen BK476.out 1)|((with_reducible refine gate_callee (f:=10) rfl ?_);refine goesL_ (some 35) rfl rfl Try.func10 (by kernel_rfl) rfl #[.agg #[.slice A0_0 l0_0.length c0_0,.int .i64 a0_1]] rfl (by (try simp only [List.map_toArray,List.map_cons,List.map_nil]);first|done|rfl|(simp only [List.length_drop,List.length_take];rfl)) ?_;(with_reducible refine (link_Pop.calls kj3 (fun k_=>k_ < w.heap.size) _ _ l0_0 a0_1 t486 t489 t490 t493 _ ?side1 A22.out).mono ?_);(case side1=>exact Kd.V_mk HC0_0.out (Kd.F_below (Kd.C_F (Kd.heap_slice 5 (Kd.heap_int .u8)) HR0_0.out) (by repeat (first|(with_reducible first|exact HB.out|apply lA|apply lN|apply lD|refine lS ?_ GE476.out|refine lS ?_ GE485.out)|exact HB.out))));rintro e w32 ⟨v487,v491,rfl,ho0,ho1,hb⟩;refine ⟨_,rfl,?_⟩;have n0_:=mK (Kd.V_elder' (by (with_reducible repeat (first|apply vA|apply vN|apply vD));exact HO482.out) (Kd.R_base ho1) hb);have n1_:=mK (Kd.V_lower (Kd.V_mono (ok':= fun k_=>some k_ ≠ (v491 : Value).ownBlock∧k_ ≠ gb476∧k_ ≠ gb485) ho0 (fun k_ hk_=>⟨hk_.2,Or.elim hk_.1 (fun hs_=>fun e_=>Nat.not_le.2 hs_ (by rw [e_];exact GW476.out)) (fun hn_=>(Kd.freshB (g:=gb476) (o:=.cells #[.slice A0_0 l0_0.length c0_0,.int .i64 a0_1] 24 (0,0)) (by (with_reducible repeat (first|apply bN|apply bD|apply bA));exact BK476.out) k_ hn_)),Or.elim hk_.1 (fun hs_=>fun e_=>Nat.not_le.2 hs_ (by rw [e_];exact GW485.out)) (fun hn_=>(Kd.freshB (g:=gb485) (o:=.cells #[.slice Ao27 t480.length co27,.int .i64 t483] 24 (0,0)) (by (with_reducible repeat (first|apply bN|apply bD|apply bA));exact BK485.out) k_ hn_))⟩)) (below_size (by repeat (first|(with_reducible first|exact HB.out|apply lA|apply lN|apply lD|refine lS ?_ GE476.out|refine lS ?_ GE485.out)|exact HB.out))));have n2_:=mK (Kd.R_lower (Kd.R_mono (ok':= fun k_=>True) ho1 (fun _ hk_=>trivial)) (below_size (by repeat (first|(with_reducible first|exact HB.out|apply lA|apply lN|apply lD|refine lS ?_ GE476.out|refine lS ?_ GE485.out)|exact HB.out))));have n3_:=mK (blk_below (g:=gb476) (o:=.cells #[.slice A0_0 l0_0.length c0_0,.int .i64 a0_1] 24 (0,0)) (by (with_reducible repeat (first|apply bN|apply bD|apply bA));exact BK476.out) hb);have n4_:=mK (blk_below (g:=gb485) (o:=.cells #[.slice Ao27 t480.length co27,.int .i64 t483] 24 (0,0)) (by (with_reducible repeat (first|apply bN|apply bD|apply bA));exact BK485.out) hb);have n5_:=mK (below_step (by repeat (first|(with_reducible first|exact HB.out|apply lA|apply lN|apply lD|refine lS ?_ GE476.out|refine lS ?_ GE485.out)|exact HB.out)) hb);clear HO482;clear BK476;clear BK485;clear HB;have HO482:=n0_;have HO488:=n1_;have HO492:=n2_;have BK476:=n3_;have BK485:=n4_;have HB:=n5_;clear n0_ n1_ n2_ n3_ n4_ n5_;(try clear hb);(try clear hb2);(try clear hk);(try clear hi);(try clear ho0);(try clear ho1))|((with_reducible refine gate_dst (N:=9) rfl ?_);(try (refine gate_guard (by rfl) ?_;dsimp only));refine box_event ?hg (N:=9) ?hd (cs:=#[.slice none 0 0,.int .i64 0]) (t:=24) ?hr ?_;(case hd=>rfl);(case hg=>rfl);(case hr=>first|(go_simp;done)|(go_simp;rfl));intro gb494 hg w33 hbox hb;have n0_:=mK (Kd.V_below (Kd.V_elderB (by (with_reducible repeat (first|apply vA|apply vN|apply vD));exact HO482.out) gb494 (Nat.le_of_eq hg.symm)) hb);have n1_:=mK (Kd.V_below (Kd.V_elderB (by (with_reducible repeat (first|apply vA|apply vN|apply vD));exact HO488.out) gb494 (Nat.le_of_eq hg.symm)) hb);have n2_:=mK (Kd.R_below (by (with_reducible repeat (first|apply rA|apply rN|apply rD));exact HO492.out) hb);have n3_:=mK (blk_below (g:=gb476) (o:=.cells #[.slice A0_0 l0_0.length c0_0,.int .i64 a0_1] 24 (0,0)) (by (with_reducible repeat (first|apply bN|apply bD|apply bA));exact BK476.out) hb);have n4_:=mK (blk_below (g:=gb485) (o:=.cells #[.slice Ao27 t480.length co27,.int .i64 t483] 24 (0,0)) (by (with_reducible repeat (first|apply bN|apply bD|apply bA));exact BK485.out) hb);have n5_:=mK (below_step (by repeat (first|(with_reducible first|exact HB.out|apply lA|apply lN|apply lD|refine lS ?_ GE476.out|refine lS ?_ GE485.out)|exact HB.out)) hb);have n6_:=mK (hbox);have n7_:=mK ((by rw [hg];exact (below_size (by repeat (first|(with_reducible first|exact HB.out|apply lA|apply lN|apply lD|refine lS ?_ GE476.out|refine lS ?_ GE485.out)|exact HB.out))) : w.heap.size ≤ gb494));have n8_:=mK ((by rw [hg];exact (below_size (by repeat (first|(with_reducible first|exact HB.out|apply lA|apply lN|apply lD|refine lS ?_ GE476.out|refine lS ?_ GE485.out)|exact HB.out))) : w.heap.size ≤ gb494));have n9_:=mK ((by rw [hg];exact Nat.ne_of_lt (blk_lt (g:=gb476) (o:=.cells #[.slice A0_0 l0_0.length c0_0,.int .i64 a0_1] 24 (0,0)) (by (with_reducible repeat (first|apply bN|apply bD|apply bA));exact BK476.out)) : gb476 ≠ gb494));have n10_:=mK ((by rw [hg];exact Nat.ne_of_gt (blk_lt (g:=gb476) (o:=.cells #[.slice A0_0 l0_0.length c0_0,.int .i64 a0_1] 24 (0,0)) (by (with_reducible repeat (first|apply bN|apply bD|apply bA));exact BK476.out)) : gb494 ≠ gb476));have n11_:=mK ((by rw [hg];exact Nat.ne_of_lt (blk_lt (g:=gb485) (o:=.cells #[.slice Ao27 t480.length co27,.int .i64 t483] 24 (0,0)) (by (with_reducible repeat (first|apply bN|apply bD|apply bA));exact BK485.out)) : gb485 ≠ gb494));have n12_:=mK ((by rw [hg];exact Nat.ne_of_gt (blk_lt (g:=gb485) (o:=.cells #[.slice Ao27 t480.length co27,.int .i64 t483] 24 (0,0)) (by (with_reducible repeat (first|apply bN|apply bD|apply bA));exact BK485.out)) : gb494 ≠ gb485));clear HO482;clear HO488;clear HO492;clear BK476;clear BK485;clear HB;have HO482:=n0_;have HO488:=n1_;have HO492:=n2_;have BK476:=n3_;have BK485:=n4_;have HB:=n5_;have BK494:=n6_;have GW494:=n7_;have GE494:=n8_;have NB476_494:=n9_;have NB494_476:=n10_;have NB485_494:=n11_;have NB494_485:=n12_;clear n0_ n1_ n2_ n3_ n4_ n5_ n6_ n7_ n8_ n9_ n10_ n11_ n12_;clear hb hbox hg;obtain ⟨Ao34,co34,eo34⟩:=Kd.V_slice HO488.out;subst eo34;have hnb35:=NB494_476.out;have hnc35:=NB476_494.out;have hnb36:=NB494_485.out;have hnc36:=NB485_494.out;have hcz37_0 : w33.cell? ⟨gb494,0,none⟩ = some (.slice none 0 0):=(blk_cell BK494.out 0).trans rfl;have hcz37_1 : w33.cell? ⟨gb494,1,none⟩ = some (.int .i64 0):=(blk_cell BK494.out 1).trans rfl;have hfz37_0:=blk_frozen BK494.out 0;have hfz37_1:=blk_frozen BK494.out 1))
    (try simp only [Act.put,sT,sZ,sS])
    go_cut [70] (fun v70 wc=>∃ (kq : Nat) (x70_22 : Bool),v70 = .bool x70_22∧Aside0 (drawbridgelaw23_LinkStays.j1 kq a2 x70_22 l0_0 a0_1 = some r)∧Aside0 (kq ≤ kj3)∧Aside0 (Kd.V (Kd.slice 5 (Kd.int .u8)) 25 wc w.heap.size (fun k_=>k_ ≠ gb476∧k_ ≠ gb485∧k_ ≠ gb494) (.slice Ao27 t480.length co27) t480)∧Aside0 (Kd.V (Kd.slice 5 (Kd.int .u8)) 25 wc w.heap.size (fun k_=>k_ ≠ gb476∧k_ ≠ gb485∧k_ ≠ gb494) (.slice Ao34 t486.length co34) t486)∧Aside0 (wc.heap[gb476]? = some (.cells #[(.slice A0_0 l0_0.length c0_0),.int .i64 a0_1] 24 (0,0)))∧Aside0 (wc.heap[gb485]? = some (.cells #[(.slice Ao27 t480.length co27),.int .i64 t483] 24 (0,0)))∧Aside0 (wc.heap[gb494]? = some (.cells #[(.slice Ao34 t486.length co34),.int .i64 t489] 24 (0,0)))∧Aside0 (Below w.heap.size w wc))
    case first =>
     have H:=HC23.out
     clear HC23
     replace H:=Option.bind_eq_some_iff.mp H
     obtain ⟨t495,A380,H⟩:=H
     replace H : (if t495 = true then ((link_Check.f t486 t489).bind fun t496=>(if t496 = true then ((link_Drop.f kj3 l0_0 a0_1 a2).bind fun bt497=>((link_Check.f bt497.1 bt497.2).bind fun t501=>(if t501 = true then ((link_Twice.f kj3 l0_0 a0_1 a2).bind fun bt502=>((link_Check.f bt502.1 bt502.2).bind fun t506=>(if t506 = true then ((link_Swap.f kj3 l0_0 a0_1 a2).bind fun bt507=>((link_Swap.f kj3 bt507.1 bt507.2 a2).bind fun bt511=>((drawbridgeref23_Same.f kj3 bt511.1 bt511.2 l0_0 a0_1).bind fun t515=>(drawbridgelaw23_LinkStays.j1 kj3 a2 (!t515) l0_0 a0_1)))) else (drawbridgelaw23_LinkStays.j1 kj3 a2 true l0_0 a0_1)))) else (drawbridgelaw23_LinkStays.j1 kj3 a2 true l0_0 a0_1)))) else (drawbridgelaw23_LinkStays.j1 kj3 a2 true l0_0 a0_1))) else (drawbridgelaw23_LinkStays.j1 kj3 a2 true l0_0 a0_1)) = some r:=H
     have A38:=mK A380
     clear A380
     by_cases c39 : t495 = true
     ·subst c39
      have H1 : ((link_Check.f t486 t489).bind fun t496=>(if t496 = true then ((link_Drop.f kj3 l0_0 a0_1 a2).bind fun bt497=>((link_Check.f bt497.1 bt497.2).bind fun t501=>(if t501 = true then ((link_Twice.f kj3 l0_0 a0_1 a2).bind fun bt502=>((link_Check.f bt502.1 bt502.2).bind fun t506=>(if t506 = true then ((link_Swap.f kj3 l0_0 a0_1 a2).bind fun bt507=>((link_Swap.f kj3 bt507.1 bt507.2 a2).bind fun bt511=>((drawbridgeref23_Same.f kj3 bt511.1 bt511.2 l0_0 a0_1).bind fun t515=>(drawbridgelaw23_LinkStays.j1 kj3 a2 (!t515) l0_0 a0_1)))) else (drawbridgelaw23_LinkStays.j1 kj3 a2 true l0_0 a0_1)))) else (drawbridgelaw23_LinkStays.j1 kj3 a2 true l0_0 a0_1)))) else (drawbridgelaw23_LinkStays.j1 kj3 a2 true l0_0 a0_1))) = some r:= by rw [if_pos rfl] at H;exact H
      clear H
      have H:=H1
      clear H1
      replace H:=Option.bind_eq_some_iff.mp H
      obtain ⟨t496,A400,H⟩:=H
      replace H : (if t496 = true then ((link_Drop.f kj3 l0_0 a0_1 a2).bind fun bt497=>((link_Check.f bt497.1 bt497.2).bind fun t501=>(if t501 = true then ((link_Twice.f kj3 l0_0 a0_1 a2).bind fun bt502=>((link_Check.f bt502.1 bt502.2).bind fun t506=>(if t506 = true then ((link_Swap.f kj3 l0_0 a0_1 a2).bind fun bt507=>((link_Swap.f kj3 bt507.1 bt507.2 a2).bind fun bt511=>((drawbridgeref23_Same.f kj3 bt511.1 bt511.2 l0_0 a0_1).bind fun t515=>(drawbridgelaw23_LinkStays.j1 kj3 a2 (!t515) l0_0 a0_1)))) else (drawbridgelaw23_LinkStays.j1 kj3 a2 true l0_0 a0_1)))) else (drawbridgelaw23_LinkStays.j1 kj3 a2 true l0_0 a0_1)))) else (drawbridgelaw23_LinkStays.j1 kj3 a2 true l0_0 a0_1)) = some r:=H
      have A40:=mK A400
      clear A400
      by_cases c41 : t496 = true
      ·subst c41
       have H1 : ((link_Drop.f kj3 l0_0 a0_1 a2).bind fun bt497=>((link_Check.f bt497.1 bt497.2).bind fun t501=>(if t501 = true then ((link_Twice.f kj3 l0_0 a0_1 a2).bind fun bt502=>((link_Check.f bt502.1 bt502.2).bind fun t506=>(if t506 = true then ((link_Swap.f kj3 l0_0 a0_1 a2).bind fun bt507=>((link_Swap.f kj3 bt507.1 bt507.2 a2).bind fun bt511=>((drawbridgeref23_Same.f kj3 bt511.1 bt511.2 l0_0 a0_1).bind fun t515=>(drawbridgelaw23_LinkStays.j1 kj3 a2 (!t515) l0_0 a0_1)))) else (drawbridgelaw23_LinkStays.j1 kj3 a2 true l0_0 a0_1)))) else (drawbridgelaw23_LinkStays.j1 kj3 a2 true l0_0 a0_1)))) = some r:= by rw [if_pos rfl] at H;exact H
       clear H
       have H:=H1
       clear H1
       replace H:=Option.bind_eq_some_iff.mp H
       obtain ⟨⟨t497,t500⟩,A420,H⟩:=H
       replace H : ((link_Check.f t497 t500).bind fun t501=>(if t501 = true then ((link_Twice.f kj3 l0_0 a0_1 a2).bind fun bt502=>((link_Check.f bt502.1 bt502.2).bind fun t506=>(if t506 = true then ((link_Swap.f kj3 l0_0 a0_1 a2).bind fun bt507=>((link_Swap.f kj3 bt507.1 bt507.2 a2).bind fun bt511=>((drawbridgeref23_Same.f kj3 bt511.1 bt511.2 l0_0 a0_1).bind fun t515=>(drawbridgelaw23_LinkStays.j1 kj3 a2 (!t515) l0_0 a0_1)))) else (drawbridgelaw23_LinkStays.j1 kj3 a2 true l0_0 a0_1)))) else (drawbridgelaw23_LinkStays.j1 kj3 a2 true l0_0 a0_1))) = some r:=H
       have A42:=mK A420
       clear A420
       replace H:=Option.bind_eq_some_iff.mp H
       obtain ⟨t501,A430,H⟩:=H
       replace H : (if t501 = true then ((link_Twice.f kj3 l0_0 a0_1 a2).bind fun bt502=>((link_Check.f bt502.1 bt502.2).bind fun t506=>(if t506 = true then ((link_Swap.f kj3 l0_0 a0_1 a2).bind fun bt507=>((link_Swap.f kj3 bt507.1 bt507.2 a2).bind fun bt511=>((drawbridgeref23_Same.f kj3 bt511.1 bt511.2 l0_0 a0_1).bind fun t515=>(drawbridgelaw23_LinkStays.j1 kj3 a2 (!t515) l0_0 a0_1)))) else (drawbridgelaw23_LinkStays.j1 kj3 a2 true l0_0 a0_1)))) else (drawbridgelaw23_LinkStays.j1 kj3 a2 true l0_0 a0_1)) = some r:=H
       have A43:=mK A430
       clear A430
       by_cases c44 : t501 = true
       ·subst c44
        have H1 : ((link_Twice.f kj3 l0_0 a0_1 a2).bind fun bt502=>((link_Check.f bt502.1 bt502.2).bind fun t506=>(if t506 = true then ((link_Swap.f kj3 l0_0 a0_1 a2).bind fun bt507=>((link_Swap.f kj3 bt507.1 bt507.2 a2).bind fun bt511=>((drawbridgeref23_Same.f kj3 bt511.1 bt511.2 l0_0 a0_1).bind fun t515=>(drawbridgelaw23_LinkStays.j1 kj3 a2 (!t515) l0_0 a0_1)))) else (drawbridgelaw23_LinkStays.j1 kj3 a2 true l0_0 a0_1)))) = some r:= by rw [if_pos rfl] at H;exact H
        clear H
        have H:=H1
        clear H1
        replace H:=Option.bind_eq_some_iff.mp H
        obtain ⟨⟨t502,t505⟩,A450,H⟩:=H
        replace H : ((link_Check.f t502 t505).bind fun t506=>(if t506 = true then ((link_Swap.f kj3 l0_0 a0_1 a2).bind fun bt507=>((link_Swap.f kj3 bt507.1 bt507.2 a2).bind fun bt511=>((drawbridgeref23_Same.f kj3 bt511.1 bt511.2 l0_0 a0_1).bind fun t515=>(drawbridgelaw23_LinkStays.j1 kj3 a2 (!t515) l0_0 a0_1)))) else (drawbridgelaw23_LinkStays.j1 kj3 a2 true l0_0 a0_1))) = some r:=H
        have A45:=mK A450
        clear A450
        replace H:=Option.bind_eq_some_iff.mp H
        obtain ⟨t506,A460,H⟩:=H
        replace H : (if t506 = true then ((link_Swap.f kj3 l0_0 a0_1 a2).bind fun bt507=>((link_Swap.f kj3 bt507.1 bt507.2 a2).bind fun bt511=>((drawbridgeref23_Same.f kj3 bt511.1 bt511.2 l0_0 a0_1).bind fun t515=>(drawbridgelaw23_LinkStays.j1 kj3 a2 (!t515) l0_0 a0_1)))) else (drawbridgelaw23_LinkStays.j1 kj3 a2 true l0_0 a0_1)) = some r:=H
        have A46:=mK A460
        clear A460
        by_cases c47 : t506 = true
        ·subst c47
         have H1 : ((link_Swap.f kj3 l0_0 a0_1 a2).bind fun bt507=>((link_Swap.f kj3 bt507.1 bt507.2 a2).bind fun bt511=>((drawbridgeref23_Same.f kj3 bt511.1 bt511.2 l0_0 a0_1).bind fun t515=>(drawbridgelaw23_LinkStays.j1 kj3 a2 (!t515) l0_0 a0_1)))) = some r:= by rw [if_pos rfl] at H;exact H
         clear H
         have H:=H1
         clear H1
         replace H:=Option.bind_eq_some_iff.mp H
         obtain ⟨⟨t507,t510⟩,A480,H⟩:=H
         replace H : ((link_Swap.f kj3 t507 t510 a2).bind fun bt511=>((drawbridgeref23_Same.f kj3 bt511.1 bt511.2 l0_0 a0_1).bind fun t515=>(drawbridgelaw23_LinkStays.j1 kj3 a2 (!t515) l0_0 a0_1))) = some r:=H
         have A48:=mK A480
         clear A480
         replace H:=Option.bind_eq_some_iff.mp H
         obtain ⟨⟨t511,t514⟩,A490,H⟩:=H
         replace H : ((drawbridgeref23_Same.f kj3 t511 t514 l0_0 a0_1).bind fun t515=>(drawbridgelaw23_LinkStays.j1 kj3 a2 (!t515) l0_0 a0_1)) = some r:=H
         have A49:=mK A490
         clear A490
         replace H:=Option.bind_eq_some_iff.mp H
         obtain ⟨t515,A500,H⟩:=H
         replace H : (drawbridgelaw23_LinkStays.j1 kj3 a2 (!t515) l0_0 a0_1) = some r:=H
         have A50:=mK A500
         clear A500
         have H':=mK H
         clear H
         try go_wp2
         have n0_ : Aside0 (Kd.V (Kd.slice 5 (Kd.int .u8)) 25 ((w33.setCell ⟨gb494,0,none⟩ (.slice Ao34 t486.length co34)).setCell ⟨gb494,1,none⟩ (.int .i64 t489)) w.heap.size (fun k_=>some k_ ≠ (v491 : Value).ownBlock∧k_ ≠ gb476∧k_ ≠ gb485∧k_ ≠ gb494) (.slice Ao27 t480.length co27) t480):=⟨by (with_reducible repeat (first|apply vA|apply vN|apply vD));exact Kd.V_mono (Kd.V_far (p:=⟨gb494,1,none⟩) (Kd.V_far (p:=⟨gb494,0,none⟩) (Kd.V_mono HO482.out (fun k_ hk=>(⟨hk,hk.2⟩ : _∧k_ ≠ gb494))) (fun _ hk=>hk.2) (.slice Ao34 t486.length co34)) (fun _ hk=>hk.2) (.int .i64 t489)) (fun _ hk=>⟨hk.1.1.2,⟨hk.1.1.1.1,⟨hk.1.1.1.2,hk.1.2⟩⟩⟩)⟩
         have n1_ : Aside0 (Kd.V (Kd.slice 5 (Kd.int .u8)) 25 ((w33.setCell ⟨gb494,0,none⟩ (.slice Ao34 t486.length co34)).setCell ⟨gb494,1,none⟩ (.int .i64 t489)) w.heap.size (fun k_=>some k_ ≠ (v491 : Value).ownBlock∧k_ ≠ gb476∧k_ ≠ gb485∧k_ ≠ gb494) (.slice Ao34 t486.length co34) t486):=⟨by (with_reducible repeat (first|apply vA|apply vN|apply vD));exact Kd.V_mono (Kd.V_far (p:=⟨gb494,1,none⟩) (Kd.V_far (p:=⟨gb494,0,none⟩) (Kd.V_mono HO488.out (fun k_ hk=>(⟨hk,hk.2⟩ : _∧k_ ≠ gb494))) (fun _ hk=>hk.2) (.slice Ao34 t486.length co34)) (fun _ hk=>hk.2) (.int .i64 t489)) (fun _ hk=>⟨hk.1.1.1,⟨hk.1.1.2.1,⟨hk.1.1.2.2,hk.1.2⟩⟩⟩)⟩
         have n2_ : Aside0 (Kd.R (Kd.int .u8) 5 ((w33.setCell ⟨gb494,0,none⟩ (.slice Ao34 t486.length co34)).setCell ⟨gb494,1,none⟩ (.int .i64 t489)) w.heap.size (fun _=>True) v491 t490):=⟨by (with_reducible repeat (first|apply rA|apply rN|apply rD));exact Kd.R_mono (Kd.R_far (p:=⟨gb494,1,none⟩) (Kd.R_far (p:=⟨gb494,0,none⟩) (Kd.R_types HO492.out BK494.out (by decide)) (fun _ hk=>hk.2) (.slice Ao34 t486.length co34)) (fun _ hk=>hk.2) (.int .i64 t489)) (fun _ hk=>trivial)⟩
         have n3_ : Aside0 (((w33.setCell ⟨gb494,0,none⟩ (.slice Ao34 t486.length co34)).setCell ⟨gb494,1,none⟩ (.int .i64 t489)).heap[gb476]? = some (.cells #[.slice A0_0 l0_0.length c0_0,.int .i64 a0_1] 24 (0,0))):=⟨by (with_reducible repeat (first|apply bN|apply bD|apply bA));refine blk_far ?_ NB476_494.out _;(with_reducible repeat (first|apply bN|apply bD|apply bA));refine blk_far ?_ NB476_494.out _;(with_reducible repeat (first|apply bN|apply bD|apply bA));exact BK476.out⟩
         have n4_ : Aside0 (((w33.setCell ⟨gb494,0,none⟩ (.slice Ao34 t486.length co34)).setCell ⟨gb494,1,none⟩ (.int .i64 t489)).heap[gb485]? = some (.cells #[.slice Ao27 t480.length co27,.int .i64 t483] 24 (0,0))):=⟨by (with_reducible repeat (first|apply bN|apply bD|apply bA));refine blk_far ?_ NB485_494.out _;(with_reducible repeat (first|apply bN|apply bD|apply bA));refine blk_far ?_ NB485_494.out _;(with_reducible repeat (first|apply bN|apply bD|apply bA));exact BK485.out⟩
         have n5_ : Aside0 (((w33.setCell ⟨gb494,0,none⟩ (.slice Ao34 t486.length co34)).setCell ⟨gb494,1,none⟩ (.int .i64 t489)).heap[gb494]? = some (.cells #[.slice Ao34 t486.length co34,.int .i64 t489] 24 (0,0))):=⟨by (with_reducible repeat (first|apply bN|apply bD|apply bA));refine blk_put (cs:=#[.slice Ao34 t486.length co34,.int .i64 0]) ?_ 1 _ rfl;(with_reducible repeat (first|apply bN|apply bD|apply bA));refine blk_put (cs:=#[.slice none 0 0,.int .i64 0]) ?_ 0 _ rfl;(with_reducible repeat (first|apply bN|apply bD|apply bA));exact BK494.out⟩
         have n6_ : Aside0 (Below w.heap.size w ((w33.setCell ⟨gb494,0,none⟩ (.slice Ao34 t486.length co34)).setCell ⟨gb494,1,none⟩ (.int .i64 t489))):=⟨by repeat (first|(with_reducible first|exact HB.out|apply lA|apply lN|apply lD|refine lS ?_ GE476.out|refine lS ?_ GE485.out|refine lS ?_ GE494.out)|exact HB.out)⟩
         (try clear HO482)
         (try clear HO488)
         (try clear HO492)
         (try clear BK476)
         (try clear BK485)
         (try clear BK494)
         (try clear HB)
         generalize ((w33.setCell ⟨gb494,0,none⟩ (.slice Ao34 t486.length co34)).setCell ⟨gb494,1,none⟩ (.int .i64 t489)) = w51 at n0_ n1_ n2_ n3_ n4_ n5_ n6_ ⊢
         have HO482:=n0_
         have HO488:=n1_
         have HO492:=n2_
         have BK476:=n3_
         have BK485:=n4_
         have BK494:=n5_
         have HB:=n6_
         clear n0_ n1_ n2_ n3_ n4_ n5_ n6_
         have n0_:=mK (Kd.V_drew HO482.out)
         have n1_:=mK (Kd.V_drew HO488.out)
         have n2_:=mK (Kd.R_drew HO492.out)
         have n3_:=mK (blk_drew BK476.out)
         have n4_:=mK (blk_drew BK485.out)
         have n5_:=mK (blk_drew BK494.out)
         have n6_:=mK (below_drew1 HB.out)
         clear HO482
         clear HO488
         clear HO492
         clear BK476
         clear BK485
         clear BK494
         clear HB
         have HO482:=n0_
         have HO488:=n1_
         have HO492:=n2_
         have BK476:=n3_
         have BK485:=n4_
         have BK494:=n5_
         have HB:=n6_
         clear n0_ n1_ n2_ n3_ n4_ n5_ n6_
         refine start_ (n:=32) (S:= fun w'=>w'.cell? ⟨gb485,0,none⟩ = some (.slice Ao27 t480.length co27)∧w'.cell? ⟨gb485,1,none⟩ = some (.int .i64 t483)∧w'.cell? ⟨gb494,0,none⟩ = some (.slice Ao34 t486.length co34)∧w'.cell? ⟨gb494,1,none⟩ = some (.int .i64 t489)∧w'.cell? ⟨gb476,0,none⟩ = some (.slice A0_0 l0_0.length c0_0)∧w'.cell? ⟨gb476,1,none⟩ = some (.int .i64 a0_1)) (ds:=[]) #[φ,φ,φ,φ,φ,φ,φ,φ,φ,φ,φ,φ,φ,φ,φ,φ,φ,φ,φ,φ,φ,φ,φ,φ,φ,φ,φ,φ,φ,φ,φ,φ] (by kernel_rfl) rfl rfl ⟨(blk_cell BK485.out 0).trans rfl,(blk_cell BK485.out 1).trans rfl,(blk_cell BK494.out 0).trans rfl,(blk_cell BK494.out 1).trans rfl,(blk_cell BK476.out 0).trans rfl,(blk_cell BK476.out 1).trans rfl⟩ (fun hHeld=>?_);refine with_tabW drawbridgelaw23_LinkStays.tab5 drawbridgelaw23_LinkStays.bits5 (fun HT_ HW_=>?_)
         generalize w51.drew = w52 at HO482 HO488 HO492 BK476 BK485 BK494 HB hHeld ⊢
         refine take_ (i:=0) (N:=some 39) (v:=?_) (a':=?_) #[τ,φ,φ,φ,φ,φ,φ,φ,φ,φ,φ,φ,φ,φ,φ,φ,φ,φ,φ,φ,φ,φ,φ,φ,φ,φ,φ,φ,φ,φ,φ,φ] rfl rfl (take_ofW HT_.out HW_.out (by kernel_rfl)) (fun _ _ _ h=>h) (Or.inl ⟨by rfl,?_⟩) hHeld ?_ ?_
         rotate_left
         ·rintro w' ⟨s0,s1,s2,s3,s4,s5⟩
          go_simp
          with_reducible rfl
         rotate_left
         ·simp only [Act.put,sT,sZ,sS,i64_w,i32_w]
          rfl
         refine one_ (i:=1) (N:=some 40) #[τ,τ,φ,φ,φ,φ,φ,φ,φ,φ,φ,φ,φ,φ,φ,φ,φ,φ,φ,φ,φ,φ,φ,φ,φ,φ,φ,φ,φ,φ,φ,φ] rfl rfl (one_of HT_.out (by kernel_rfl)) (by decide) (fun K hK=>?_)
         refine goes_ Try.func20 (by kernel_rfl) rfl #[.agg #[.slice Ao27 t480.length co27,.int .i64 t483]] (by rfl) rfl rfl (by (try simp only [List.map_toArray,List.map_cons,List.map_nil]);first|done|rfl|(simp only [List.length_drop,List.length_take];rfl)) ?_
         with_reducible refine (link_Check.calls _ _ t480 t483 true _ ?side1 ?side2 A38.out).mono ?_
         (case side1=>repeat (first|exact (Kd.V_reads' HO482.out).2.2|(with_reducible refine Kd.C_alloc ?_ _)|(with_reducible refine Kd.C_drewN ?_ _)|(with_reducible refine Kd.C_drew ?_)))
         (case side2=>exact (Kd.V_reads' HO482.out).2.1)
         rintro e w53 ⟨rfl,hb⟩
         refine ⟨_,rfl,?_⟩
         have n0_:=mK (Kd.V_below (by (with_reducible repeat (first|apply vA|apply vN|apply vD));exact HO482.out) hb)
         have n1_:=mK (Kd.V_below (by (with_reducible repeat (first|apply vA|apply vN|apply vD));exact HO488.out) hb)
         have n2_:=mK (Kd.R_below (by (with_reducible repeat (first|apply rA|apply rN|apply rD));exact HO492.out) hb)
         have n3_:=mK (blk_below (g:=gb476) (o:=.cells #[.slice A0_0 l0_0.length c0_0,.int .i64 a0_1] 24 (0,0)) (by (with_reducible repeat (first|apply bN|apply bD|apply bA));exact BK476.out) hb)
         have n4_:=mK (blk_below (g:=gb485) (o:=.cells #[.slice Ao27 t480.length co27,.int .i64 t483] 24 (0,0)) (by (with_reducible repeat (first|apply bN|apply bD|apply bA));exact BK485.out) hb)
         have n5_:=mK (blk_below (g:=gb494) (o:=.cells #[.slice Ao34 t486.length co34,.int .i64 t489] 24 (0,0)) (by (with_reducible repeat (first|apply bN|apply bD|apply bA));exact BK494.out) hb)
         have n6_:=mK (below_step (by repeat (first|(with_reducible first|exact HB.out|apply lA|apply lN|apply lD|refine lS ?_ GE476.out|refine lS ?_ GE485.out|refine lS ?_ GE494.out)|exact HB.out)) hb)
         clear HO482
         clear HO488
         clear HO492
         clear BK476
         clear BK485
         clear BK494
         clear HB
         have HO482:=n0_
         have HO488:=n1_
         have HO492:=n2_
         have BK476:=n3_
         have BK485:=n4_
         have BK494:=n5_
         have HB:=n6_
         clear n0_ n1_ n2_ n3_ n4_ n5_ n6_
         (try clear hb)
         (try clear hb2)
         (try clear hk)
         (try clear hi)
         refine hK.out _ _ ⟨(blk_cell BK485.out 0).trans rfl,(blk_cell BK485.out 1).trans rfl,(blk_cell BK494.out 0).trans rfl,(blk_cell BK494.out 1).trans rfl,(blk_cell BK476.out 0).trans rfl,(blk_cell BK476.out 1).trans rfl⟩ (fun hHeld=>?_)
         clear hK K
         refine norm_ (a':=?_) ?_ ?_
         rotate_left
         ·show Act.put _ (some 40) _ = _
          simp only [Act.put,sT,sZ,sS,i64_w,i32_w]
          rfl
         refine pure_ (i:=2) (N:=some 41) (v:=?_) (a':=?_) #[τ,τ,τ,φ,φ,φ,φ,φ,φ,φ,φ,φ,φ,φ,φ,φ,φ,φ,φ,φ,φ,φ,φ,φ,φ,φ,φ,φ,φ,φ,φ,φ] rfl rfl (any_of HT_.out (by kernel_rfl)) (fun _ _ _ h=>h) (Or.inl ⟨by rfl,?_⟩) ?_ ?_
         rotate_left
         ·intro w'
          go_simp
          with_reducible rfl
         rotate_left
         ·simp only [Act.put,sT,sZ,sS,i64_w,i32_w]
          rfl
         refine pure_ (i:=3) (N:=some 42) (v:=?_) (a':=?_) #[τ,τ,τ,τ,φ,φ,φ,φ,φ,φ,φ,φ,φ,φ,φ,φ,φ,φ,φ,φ,φ,φ,φ,φ,φ,φ,φ,φ,φ,φ,φ,φ] rfl rfl (any_of HT_.out (by kernel_rfl)) (fun _ _ _ h=>h) (Or.inl ⟨by rfl,?_⟩) ?_ ?_
         rotate_left
         ·intro w'
          go_simp
          with_reducible rfl
         rotate_left
         ·simp only [Act.put,sT,sZ,sS,i64_w,i32_w]
          rfl
         refine take_ (i:=4) (N:=some 43) (v:=?_) (a':=?_) #[τ,τ,τ,τ,τ,φ,φ,φ,φ,φ,φ,φ,φ,φ,φ,φ,φ,φ,φ,φ,φ,φ,φ,φ,φ,φ,φ,φ,φ,φ,φ,φ] rfl rfl (take_ofW HT_.out HW_.out (by kernel_rfl)) (fun _ _ _ h=>h) (Or.inl ⟨by rfl,?_⟩) hHeld ?_ ?_
         rotate_left
         ·rintro w' ⟨s0,s1,s2,s3,s4,s5⟩
          go_simp
          with_reducible rfl
         rotate_left
         ·simp only [Act.put,sT,sZ,sS,i64_w,i32_w]
          rfl
         refine one_ (i:=5) (N:=some 44) #[τ,τ,τ,τ,τ,τ,φ,φ,φ,φ,φ,φ,φ,φ,φ,φ,φ,φ,φ,φ,φ,φ,φ,φ,φ,φ,φ,φ,φ,φ,φ,φ] rfl rfl (one_of HT_.out (by kernel_rfl)) (by decide) (fun K hK=>?_)
         refine goes_ Try.func20 (by kernel_rfl) rfl #[.agg #[.slice Ao34 t486.length co34,.int .i64 t489]] (by rfl) rfl rfl (by (try simp only [List.map_toArray,List.map_cons,List.map_nil]);first|done|rfl|(simp only [List.length_drop,List.length_take];rfl)) ?_
         with_reducible refine (link_Check.calls _ _ t486 t489 true _ ?side1 ?side2 A40.out).mono ?_
         (case side1=>repeat (first|exact (Kd.V_reads' HO488.out).2.2|(with_reducible refine Kd.C_alloc ?_ _)|(with_reducible refine Kd.C_drewN ?_ _)|(with_reducible refine Kd.C_drew ?_)))
         (case side2=>exact (Kd.V_reads' HO488.out).2.1)
         rintro e w54 ⟨rfl,hb⟩
         refine ⟨_,rfl,?_⟩
         have n0_:=mK (Kd.V_below (by (with_reducible repeat (first|apply vA|apply vN|apply vD));exact HO482.out) hb)
         have n1_:=mK (Kd.V_below (by (with_reducible repeat (first|apply vA|apply vN|apply vD));exact HO488.out) hb)
         have n2_:=mK (Kd.R_below (by (with_reducible repeat (first|apply rA|apply rN|apply rD));exact HO492.out) hb)
         have n3_:=mK (blk_below (g:=gb476) (o:=.cells #[.slice A0_0 l0_0.length c0_0,.int .i64 a0_1] 24 (0,0)) (by (with_reducible repeat (first|apply bN|apply bD|apply bA));exact BK476.out) hb)
         have n4_:=mK (blk_below (g:=gb485) (o:=.cells #[.slice Ao27 t480.length co27,.int .i64 t483] 24 (0,0)) (by (with_reducible repeat (first|apply bN|apply bD|apply bA));exact BK485.out) hb)
         have n5_:=mK (blk_below (g:=gb494) (o:=.cells #[.slice Ao34 t486.length co34,.int .i64 t489] 24 (0,0)) (by (with_reducible repeat (first|apply bN|apply bD|apply bA));exact BK494.out) hb)
         have n6_:=mK (below_step (by repeat (first|(with_reducible first|exact HB.out|apply lA|apply lN|apply lD|refine lS ?_ GE476.out|refine lS ?_ GE485.out|refine lS ?_ GE494.out)|exact HB.out)) hb)
         clear HO482
         clear HO488
         clear HO492
         clear BK476
         clear BK485
         clear BK494
         clear HB
         have HO482:=n0_
         have HO488:=n1_
         have HO492:=n2_
         have BK476:=n3_
         have BK485:=n4_
         have BK494:=n5_
         have HB:=n6_
         clear n0_ n1_ n2_ n3_ n4_ n5_ n6_
         (try clear hb)
         (try clear hb2)
         (try clear hk)
         (try clear hi)
         refine hK.out _ _ ⟨(blk_cell BK485.out 0).trans rfl,(blk_cell BK485.out 1).trans rfl,(blk_cell BK494.out 0).trans rfl,(blk_cell BK494.out 1).trans rfl,(blk_cell BK476.out 0).trans rfl,(blk_cell BK476.out 1).trans rfl⟩ (fun hHeld=>?_)
         clear hK K
         refine norm_ (a':=?_) ?_ ?_
         rotate_left
         ·show Act.put _ (some 44) _ = _
          simp only [Act.put,sT,sZ,sS,i64_w,i32_w]
          rfl
         refine pure_ (i:=6) (N:=some 45) (v:=?_) (a':=?_) #[τ,τ,τ,τ,τ,τ,τ,φ,φ,φ,φ,φ,φ,φ,φ,φ,φ,φ,φ,φ,φ,φ,φ,φ,φ,φ,φ,φ,φ,φ,φ,φ] rfl rfl (any_of HT_.out (by kernel_rfl)) (fun _ _ _ h=>h) (Or.inl ⟨by rfl,?_⟩) ?_ ?_
         rotate_left
         ·intro w'
          go_simp
          with_reducible rfl
         rotate_left
         ·simp only [Act.put,sT,sZ,sS,i64_w,i32_w]
          rfl
         refine pure_ (i:=7) (N:=some 46) (v:=?_) (a':=?_) #[τ,τ,τ,τ,τ,τ,τ,τ,φ,φ,φ,φ,φ,φ,φ,φ,φ,φ,φ,φ,φ,φ,φ,φ,φ,φ,φ,φ,φ,φ,φ,φ] rfl rfl (any_of HT_.out (by kernel_rfl)) (fun _ _ _ h=>h) (Or.inl ⟨by rfl,?_⟩) ?_ ?_
         rotate_left
         ·intro w'
          go_simp
          with_reducible rfl
         rotate_left
         ·simp only [Act.put,sT,sZ,sS,i64_w,i32_w]
          rfl
         refine pure_ (i:=8) (N:=some 47) (v:=?_) (a':=?_) #[τ,τ,τ,τ,τ,τ,τ,τ,τ,φ,φ,φ,φ,φ,φ,φ,φ,φ,φ,φ,φ,φ,φ,φ,φ,φ,φ,φ,φ,φ,φ,φ] rfl rfl (any_of HT_.out (by kernel_rfl)) (fun _ _ _ h=>h) (Or.inl ⟨by rfl,?_⟩) ?_ ?_
         rotate_left
         ·intro w'
          go_simp
          with_reducible rfl
         rotate_left
         ·simp only [Act.put,sT,sZ,sS,i64_w,i32_w]
          rfl
         refine pure_ (i:=10) (N:=some 49) (v:=?_) (a':=?_) #[τ,τ,τ,τ,τ,τ,τ,τ,τ,φ,τ,φ,φ,φ,φ,φ,φ,φ,φ,φ,φ,φ,φ,φ,φ,φ,φ,φ,φ,φ,φ,φ] rfl rfl (any_of HT_.out (by kernel_rfl)) (fun _ _ _ h=>h) (Or.inl ⟨by rfl,?_⟩) ?_ ?_
         rotate_left
         ·intro w'
          go_simp
          with_reducible rfl
         rotate_left
         ·simp only [Act.put,sT,sZ,sS,i64_w,i32_w]
          rfl
         refine take_ (i:=9) (N:=some 48) (v:=?_) (a':=?_) #[τ,τ,τ,τ,τ,τ,τ,τ,τ,τ,τ,φ,φ,φ,φ,φ,φ,φ,φ,φ,φ,φ,φ,φ,φ,φ,φ,φ,φ,φ,φ,φ] rfl rfl (take_ofW HT_.out HW_.out (by kernel_rfl)) (fun _ _ _ h=>h) (Or.inl ⟨by rfl,?_⟩) hHeld ?_ ?_
         rotate_left
         ·rintro w' ⟨s0,s1,s2,s3,s4,s5⟩
          go_simp
          with_reducible rfl
         rotate_left
         ·simp only [Act.put,sT,sZ,sS,i64_w,i32_w]
          rfl
         refine one_ (i:=11) (N:=some 50) #[τ,τ,τ,τ,τ,τ,τ,τ,τ,τ,τ,τ,φ,φ,φ,φ,φ,φ,φ,φ,φ,φ,φ,φ,φ,φ,φ,φ,φ,φ,φ,φ] rfl rfl (one_of HT_.out (by kernel_rfl)) (by decide) (fun K hK=>?_)
         refine goes_ Try.func14 (by kernel_rfl) rfl #[.agg #[.slice A0_0 l0_0.length c0_0,.int .i64 a0_1],.int .i64 a2] (by rfl) rfl rfl (by (try simp only [List.map_toArray,List.map_cons,List.map_nil]);first|done|rfl|(simp only [List.length_drop,List.length_take];rfl)) ?_
         with_reducible refine (link_Drop.calls kj3 (fun k_=>k_ < w.heap.size) _ _ l0_0 a0_1 a2 t497 t500 _ ?side1 A42.out).mono ?_
         (case side1=>exact Kd.V_mk HC0_0.out (Kd.F_below (Kd.C_F (Kd.heap_slice 5 (Kd.heap_int .u8)) HR0_0.out) (by repeat (first|(with_reducible first|exact HB.out|apply lA|apply lN|apply lD|refine lS ?_ GE476.out|refine lS ?_ GE485.out|refine lS ?_ GE494.out)|exact HB.out))))
         rintro e w55 ⟨v498,rfl,ho0,hb⟩
         refine ⟨_,rfl,?_⟩
         have n0_:=mK (Kd.V_below (by (with_reducible repeat (first|apply vA|apply vN|apply vD));exact HO482.out) hb)
         have n1_:=mK (Kd.V_below (by (with_reducible repeat (first|apply vA|apply vN|apply vD));exact HO488.out) hb)
         have n2_:=mK (Kd.R_below (by (with_reducible repeat (first|apply rA|apply rN|apply rD));exact HO492.out) hb)
         have n3_:=mK (Kd.V_lower (Kd.V_mono (ok':= fun k_=>some k_ ≠ (v491 : Value).ownBlock∧k_ ≠ gb476∧k_ ≠ gb485∧k_ ≠ gb494) ho0 (fun k_ hk_=>⟨Or.elim hk_ (fun hs_=>fun e_=>Nat.not_le.2 hs_ (Kd.R_base HO492.out k_ e_.symm)) (fun hn_=>(Kd.fresh' (Kd.R_lt (by (with_reducible repeat (first|apply rA|apply rN|apply rD));exact HO492.out)) k_ hn_)),Or.elim hk_ (fun hs_=>fun e_=>Nat.not_le.2 hs_ (by rw [e_];exact GW476.out)) (fun hn_=>(Kd.freshB (g:=gb476) (o:=.cells #[.slice A0_0 l0_0.length c0_0,.int .i64 a0_1] 24 (0,0)) (by (with_reducible repeat (first|apply bN|apply bD|apply bA));exact BK476.out) k_ hn_)),Or.elim hk_ (fun hs_=>fun e_=>Nat.not_le.2 hs_ (by rw [e_];exact GW485.out)) (fun hn_=>(Kd.freshB (g:=gb485) (o:=.cells #[.slice Ao27 t480.length co27,.int .i64 t483] 24 (0,0)) (by (with_reducible repeat (first|apply bN|apply bD|apply bA));exact BK485.out) k_ hn_)),Or.elim hk_ (fun hs_=>fun e_=>Nat.not_le.2 hs_ (by rw [e_];exact GW494.out)) (fun hn_=>(Kd.freshB (g:=gb494) (o:=.cells #[.slice Ao34 t486.length co34,.int .i64 t489] 24 (0,0)) (by (with_reducible repeat (first|apply bN|apply bD|apply bA));exact BK494.out) k_ hn_))⟩)) (below_size (by repeat (first|(with_reducible first|exact HB.out|apply lA|apply lN|apply lD|refine lS ?_ GE476.out|refine lS ?_ GE485.out|refine lS ?_ GE494.out)|exact HB.out))))
         have n4_:=mK (blk_below (g:=gb476) (o:=.cells #[.slice A0_0 l0_0.length c0_0,.int .i64 a0_1] 24 (0,0)) (by (with_reducible repeat (first|apply bN|apply bD|apply bA));exact BK476.out) hb)
         have n5_:=mK (blk_below (g:=gb485) (o:=.cells #[.slice Ao27 t480.length co27,.int .i64 t483] 24 (0,0)) (by (with_reducible repeat (first|apply bN|apply bD|apply bA));exact BK485.out) hb)
         have n6_:=mK (blk_below (g:=gb494) (o:=.cells #[.slice Ao34 t486.length co34,.int .i64 t489] 24 (0,0)) (by (with_reducible repeat (first|apply bN|apply bD|apply bA));exact BK494.out) hb)
         have n7_:=mK (below_step (by repeat (first|(with_reducible first|exact HB.out|apply lA|apply lN|apply lD|refine lS ?_ GE476.out|refine lS ?_ GE485.out|refine lS ?_ GE494.out)|exact HB.out)) hb)
         clear HO482
         clear HO488
         clear HO492
         clear BK476
         clear BK485
         clear BK494
         clear HB
         have HO482:=n0_
         have HO488:=n1_
         have HO492:=n2_
         have HO499:=n3_
         have BK476:=n4_
         have BK485:=n5_
         have BK494:=n6_
         have HB:=n7_
         clear n0_ n1_ n2_ n3_ n4_ n5_ n6_ n7_
         (try clear hb)
         (try clear hb2)
         (try clear hk)
         (try clear hi)
         (try clear ho0)
         obtain ⟨Ao56,co56,eo56⟩:=Kd.V_slice HO499.out
         (first|subst eo56|(injection eo56 with f1_ f2_ f3_;have f4_:=f1_.symm;have f5_:=f3_.symm;clear f1_ f2_ f3_;subst f4_;subst f5_))
         refine hK.out _ _ ⟨(blk_cell BK485.out 0).trans rfl,(blk_cell BK485.out 1).trans rfl,(blk_cell BK494.out 0).trans rfl,(blk_cell BK494.out 1).trans rfl,(blk_cell BK476.out 0).trans rfl,(blk_cell BK476.out 1).trans rfl⟩ (fun hHeld=>?_)
         clear hK K
         refine norm_ (a':=?_) ?_ ?_
         rotate_left
         ·show Act.put _ (some 50) _ = _
          simp only [Act.put,sT,sZ,sS,i64_w,i32_w]
          rfl
         refine one_ (i:=12) (N:=some 51) #[τ,τ,τ,τ,τ,τ,τ,τ,τ,τ,τ,τ,τ,φ,φ,φ,φ,φ,φ,φ,φ,φ,φ,φ,φ,φ,φ,φ,φ,φ,φ,φ] rfl rfl (one_of HT_.out (by kernel_rfl)) (by decide) (fun K hK=>?_)
         refine goes_ Try.func20 (by kernel_rfl) rfl #[.agg #[.slice Ao56 t497.length co56,.int .i64 t500]] (by rfl) rfl rfl (by (try simp only [List.map_toArray,List.map_cons,List.map_nil]);first|done|rfl|(simp only [List.length_drop,List.length_take];rfl)) ?_
         with_reducible refine (link_Check.calls _ _ t497 t500 true _ ?side1 ?side2 A43.out).mono ?_
         (case side1=>repeat (first|exact (Kd.V_reads' HO499.out).2.2|(with_reducible refine Kd.C_alloc ?_ _)|(with_reducible refine Kd.C_drewN ?_ _)|(with_reducible refine Kd.C_drew ?_)))
         (case side2=>exact (Kd.V_reads' HO499.out).2.1)
         rintro e w57 ⟨rfl,hb⟩
         refine ⟨_,rfl,?_⟩
         have n0_:=mK (Kd.V_below (by (with_reducible repeat (first|apply vA|apply vN|apply vD));exact HO482.out) hb)
         have n1_:=mK (Kd.V_below (by (with_reducible repeat (first|apply vA|apply vN|apply vD));exact HO488.out) hb)
         have n2_:=mK (Kd.R_below (by (with_reducible repeat (first|apply rA|apply rN|apply rD));exact HO492.out) hb)
         have n4_:=mK (blk_below (g:=gb476) (o:=.cells #[.slice A0_0 l0_0.length c0_0,.int .i64 a0_1] 24 (0,0)) (by (with_reducible repeat (first|apply bN|apply bD|apply bA));exact BK476.out) hb)
         have n5_:=mK (blk_below (g:=gb485) (o:=.cells #[.slice Ao27 t480.length co27,.int .i64 t483] 24 (0,0)) (by (with_reducible repeat (first|apply bN|apply bD|apply bA));exact BK485.out) hb)
         have n6_:=mK (blk_below (g:=gb494) (o:=.cells #[.slice Ao34 t486.length co34,.int .i64 t489] 24 (0,0)) (by (with_reducible repeat (first|apply bN|apply bD|apply bA));exact BK494.out) hb)
         have n7_:=mK (below_step (by repeat (first|(with_reducible first|exact HB.out|apply lA|apply lN|apply lD|refine lS ?_ GE476.out|refine lS ?_ GE485.out|refine lS ?_ GE494.out)|exact HB.out)) hb)
         clear HO482
         clear HO488
         clear HO492
         clear BK476
         clear BK485
         clear BK494
         clear HB
         have HO482:=n0_
         have HO488:=n1_
         have HO492:=n2_
         have BK476:=n4_
         have BK485:=n5_
         have BK494:=n6_
         have HB:=n7_
         clear n0_ n1_ n2_ n4_ n5_ n6_ n7_
         (try clear hb)
         (try clear hb2)
         (try clear hk)
         (try clear hi)
         refine hK.out _ _ ⟨(blk_cell BK485.out 0).trans rfl,(blk_cell BK485.out 1).trans rfl,(blk_cell BK494.out 0).trans rfl,(blk_cell BK494.out 1).trans rfl,(blk_cell BK476.out 0).trans rfl,(blk_cell BK476.out 1).trans rfl⟩ (fun hHeld=>?_)
         clear hK K
         refine norm_ (a':=?_) ?_ ?_
         rotate_left
         ·show Act.put _ (some 51) _ = _
          simp only [Act.put,sT,sZ,sS,i64_w,i32_w]
          rfl
         refine pure_ (i:=13) (N:=some 52) (v:=?_) (a':=?_) #[τ,τ,τ,τ,τ,τ,τ,τ,τ,τ,τ,τ,τ,τ,φ,φ,φ,φ,φ,φ,φ,φ,φ,φ,φ,φ,φ,φ,φ,φ,φ,φ] rfl rfl (any_of HT_.out (by kernel_rfl)) (fun _ _ _ h=>h) (Or.inl ⟨by rfl,?_⟩) ?_ ?_
         rotate_left
         ·intro w'
          go_simp
          with_reducible rfl
         rotate_left
         ·simp only [Act.put,sT,sZ,sS,i64_w,i32_w]
          rfl
         refine pure_ (i:=14) (N:=some 53) (v:=?_) (a':=?_) #[τ,τ,τ,τ,τ,τ,τ,τ,τ,τ,τ,τ,τ,τ,τ,φ,φ,φ,φ,φ,φ,φ,φ,φ,φ,φ,φ,φ,φ,φ,φ,φ] rfl rfl (any_of HT_.out (by kernel_rfl)) (fun _ _ _ h=>h) (Or.inl ⟨by rfl,?_⟩) ?_ ?_
         rotate_left
         ·intro w'
          go_simp
          with_reducible rfl
         rotate_left
         ·simp only [Act.put,sT,sZ,sS,i64_w,i32_w]
          rfl
         refine pure_ (i:=15) (N:=some 54) (v:=?_) (a':=?_) #[τ,τ,τ,τ,τ,τ,τ,τ,τ,τ,τ,τ,τ,τ,τ,τ,φ,φ,φ,φ,φ,φ,φ,φ,φ,φ,φ,φ,φ,φ,φ,φ] rfl rfl (any_of HT_.out (by kernel_rfl)) (fun _ _ _ h=>h) (Or.inl ⟨by rfl,?_⟩) ?_ ?_
         rotate_left
         ·intro w'
          go_simp
          with_reducible rfl
         rotate_left
         ·simp only [Act.put,sT,sZ,sS,i64_w,i32_w]
          rfl
         refine pure_ (i:=17) (N:=some 56) (v:=?_) (a':=?_) #[τ,τ,τ,τ,τ,τ,τ,τ,τ,τ,τ,τ,τ,τ,τ,τ,φ,τ,φ,φ,φ,φ,φ,φ,φ,φ,φ,φ,φ,φ,φ,φ] rfl rfl (any_of HT_.out (by kernel_rfl)) (fun _ _ _ h=>h) (Or.inl ⟨by rfl,?_⟩) ?_ ?_
         rotate_left
         ·intro w'
          go_simp
          with_reducible rfl
         rotate_left
         ·simp only [Act.put,sT,sZ,sS,i64_w,i32_w]
          rfl
         refine take_ (i:=16) (N:=some 55) (v:=?_) (a':=?_) #[τ,τ,τ,τ,τ,τ,τ,τ,τ,τ,τ,τ,τ,τ,τ,τ,τ,τ,φ,φ,φ,φ,φ,φ,φ,φ,φ,φ,φ,φ,φ,φ] rfl rfl (take_ofW HT_.out HW_.out (by kernel_rfl)) (fun _ _ _ h=>h) (Or.inl ⟨by rfl,?_⟩) hHeld ?_ ?_
         rotate_left
         ·rintro w' ⟨s0,s1,s2,s3,s4,s5⟩
          go_simp
          with_reducible rfl
         rotate_left
         ·simp only [Act.put,sT,sZ,sS,i64_w,i32_w]
          rfl
         refine one_ (i:=18) (N:=some 57) #[τ,τ,τ,τ,τ,τ,τ,τ,τ,τ,τ,τ,τ,τ,τ,τ,τ,τ,τ,φ,φ,φ,φ,φ,φ,φ,φ,φ,φ,φ,φ,φ] rfl rfl (one_of HT_.out (by kernel_rfl)) (by decide) (fun K hK=>?_)
         refine goes_ Try.func16 (by kernel_rfl) rfl #[.agg #[.slice A0_0 l0_0.length c0_0,.int .i64 a0_1],.int .i64 a2] (by rfl) rfl rfl (by (try simp only [List.map_toArray,List.map_cons,List.map_nil]);first|done|rfl|(simp only [List.length_drop,List.length_take];rfl)) ?_
         with_reducible refine (link_Twice.calls kj3 (fun k_=>k_ < w.heap.size) _ _ l0_0 a0_1 a2 t502 t505 _ ?side1 A45.out).mono ?_
         (case side1=>exact Kd.V_mk HC0_0.out (Kd.F_below (Kd.C_F (Kd.heap_slice 5 (Kd.heap_int .u8)) HR0_0.out) (by repeat (first|(with_reducible first|exact HB.out|apply lA|apply lN|apply lD|refine lS ?_ GE476.out|refine lS ?_ GE485.out|refine lS ?_ GE494.out)|exact HB.out))))
         rintro e w58 ⟨v503,rfl,ho0,hb⟩
         refine ⟨_,rfl,?_⟩
         have n0_:=mK (Kd.V_below (by (with_reducible repeat (first|apply vA|apply vN|apply vD));exact HO482.out) hb)
         have n1_:=mK (Kd.V_below (by (with_reducible repeat (first|apply vA|apply vN|apply vD));exact HO488.out) hb)
         have n2_:=mK (Kd.R_below (by (with_reducible repeat (first|apply rA|apply rN|apply rD));exact HO492.out) hb)
         have n4_:=mK (Kd.V_lower (Kd.V_mono (ok':= fun k_=>some k_ ≠ (v491 : Value).ownBlock∧k_ ≠ gb476∧k_ ≠ gb485∧k_ ≠ gb494) ho0 (fun k_ hk_=>⟨Or.elim hk_ (fun hs_=>fun e_=>Nat.not_le.2 hs_ (Kd.R_base HO492.out k_ e_.symm)) (fun hn_=>(Kd.fresh' (Kd.R_lt (by (with_reducible repeat (first|apply rA|apply rN|apply rD));exact HO492.out)) k_ hn_)),Or.elim hk_ (fun hs_=>fun e_=>Nat.not_le.2 hs_ (by rw [e_];exact GW476.out)) (fun hn_=>(Kd.freshB (g:=gb476) (o:=.cells #[.slice A0_0 l0_0.length c0_0,.int .i64 a0_1] 24 (0,0)) (by (with_reducible repeat (first|apply bN|apply bD|apply bA));exact BK476.out) k_ hn_)),Or.elim hk_ (fun hs_=>fun e_=>Nat.not_le.2 hs_ (by rw [e_];exact GW485.out)) (fun hn_=>(Kd.freshB (g:=gb485) (o:=.cells #[.slice Ao27 t480.length co27,.int .i64 t483] 24 (0,0)) (by (with_reducible repeat (first|apply bN|apply bD|apply bA));exact BK485.out) k_ hn_)),Or.elim hk_ (fun hs_=>fun e_=>Nat.not_le.2 hs_ (by rw [e_];exact GW494.out)) (fun hn_=>(Kd.freshB (g:=gb494) (o:=.cells #[.slice Ao34 t486.length co34,.int .i64 t489] 24 (0,0)) (by (with_reducible repeat (first|apply bN|apply bD|apply bA));exact BK494.out) k_ hn_))⟩)) (below_size (by repeat (first|(with_reducible first|exact HB.out|apply lA|apply lN|apply lD|refine lS ?_ GE476.out|refine lS ?_ GE485.out|refine lS ?_ GE494.out)|exact HB.out))))
         have n5_:=mK (blk_below (g:=gb476) (o:=.cells #[.slice A0_0 l0_0.length c0_0,.int .i64 a0_1] 24 (0,0)) (by (with_reducible repeat (first|apply bN|apply bD|apply bA));exact BK476.out) hb)
         have n6_:=mK (blk_below (g:=gb485) (o:=.cells #[.slice Ao27 t480.length co27,.int .i64 t483] 24 (0,0)) (by (with_reducible repeat (first|apply bN|apply bD|apply bA));exact BK485.out) hb)
         have n7_:=mK (blk_below (g:=gb494) (o:=.cells #[.slice Ao34 t486.length co34,.int .i64 t489] 24 (0,0)) (by (with_reducible repeat (first|apply bN|apply bD|apply bA));exact BK494.out) hb)
         have n8_:=mK (below_step (by repeat (first|(with_reducible first|exact HB.out|apply lA|apply lN|apply lD|refine lS ?_ GE476.out|refine lS ?_ GE485.out|refine lS ?_ GE494.out)|exact HB.out)) hb)
         clear HO482
         clear HO488
         clear HO492
         clear BK476
         clear BK485
         clear BK494
         clear HB
         have HO482:=n0_
         have HO488:=n1_
         have HO492:=n2_
         have HO504:=n4_
         have BK476:=n5_
         have BK485:=n6_
         have BK494:=n7_
         have HB:=n8_
         clear n0_ n1_ n2_ n4_ n5_ n6_ n7_ n8_
         (try clear hb)
         (try clear hb2)
         (try clear hk)
         (try clear hi)
         (try clear ho0)
         obtain ⟨Ao59,co59,eo59⟩:=Kd.V_slice HO504.out
         (first|subst eo59|(injection eo59 with f1_ f2_ f3_;have f4_:=f1_.symm;have f5_:=f3_.symm;clear f1_ f2_ f3_;subst f4_;subst f5_))
         refine hK.out _ _ ⟨(blk_cell BK485.out 0).trans rfl,(blk_cell BK485.out 1).trans rfl,(blk_cell BK494.out 0).trans rfl,(blk_cell BK494.out 1).trans rfl,(blk_cell BK476.out 0).trans rfl,(blk_cell BK476.out 1).trans rfl⟩ (fun hHeld=>?_)
         clear hK K
         refine norm_ (a':=?_) ?_ ?_
         rotate_left
         ·show Act.put _ (some 57) _ = _
          simp only [Act.put,sT,sZ,sS,i64_w,i32_w]
          rfl
         refine one_ (i:=19) (N:=some 58) #[τ,τ,τ,τ,τ,τ,τ,τ,τ,τ,τ,τ,τ,τ,τ,τ,τ,τ,τ,τ,φ,φ,φ,φ,φ,φ,φ,φ,φ,φ,φ,φ] rfl rfl (one_of HT_.out (by kernel_rfl)) (by decide) (fun K hK=>?_)
         refine goes_ Try.func20 (by kernel_rfl) rfl #[.agg #[.slice Ao59 t502.length co59,.int .i64 t505]] (by rfl) rfl rfl (by (try simp only [List.map_toArray,List.map_cons,List.map_nil]);first|done|rfl|(simp only [List.length_drop,List.length_take];rfl)) ?_
         with_reducible refine (link_Check.calls _ _ t502 t505 true _ ?side1 ?side2 A46.out).mono ?_
         (case side1=>repeat (first|exact (Kd.V_reads' HO504.out).2.2|(with_reducible refine Kd.C_alloc ?_ _)|(with_reducible refine Kd.C_drewN ?_ _)|(with_reducible refine Kd.C_drew ?_)))
         (case side2=>exact (Kd.V_reads' HO504.out).2.1)
         rintro e w60 ⟨rfl,hb⟩
         refine ⟨_,rfl,?_⟩
         have n0_:=mK (Kd.V_below (by (with_reducible repeat (first|apply vA|apply vN|apply vD));exact HO482.out) hb)
         have n1_:=mK (Kd.V_below (by (with_reducible repeat (first|apply vA|apply vN|apply vD));exact HO488.out) hb)
         have n2_:=mK (Kd.R_below (by (with_reducible repeat (first|apply rA|apply rN|apply rD));exact HO492.out) hb)
         have n5_:=mK (blk_below (g:=gb476) (o:=.cells #[.slice A0_0 l0_0.length c0_0,.int .i64 a0_1] 24 (0,0)) (by (with_reducible repeat (first|apply bN|apply bD|apply bA));exact BK476.out) hb)
         have n6_:=mK (blk_below (g:=gb485) (o:=.cells #[.slice Ao27 t480.length co27,.int .i64 t483] 24 (0,0)) (by (with_reducible repeat (first|apply bN|apply bD|apply bA));exact BK485.out) hb)
         have n7_:=mK (blk_below (g:=gb494) (o:=.cells #[.slice Ao34 t486.length co34,.int .i64 t489] 24 (0,0)) (by (with_reducible repeat (first|apply bN|apply bD|apply bA));exact BK494.out) hb)
         have n8_:=mK (below_step (by repeat (first|(with_reducible first|exact HB.out|apply lA|apply lN|apply lD|refine lS ?_ GE476.out|refine lS ?_ GE485.out|refine lS ?_ GE494.out)|exact HB.out)) hb)
         clear HO482
         clear HO488
         clear HO492
         clear BK476
         clear BK485
         clear BK494
         clear HB
         have HO482:=n0_
         have HO488:=n1_
         have HO492:=n2_
         have BK476:=n5_
         have BK485:=n6_
         have BK494:=n7_
         have HB:=n8_
         clear n0_ n1_ n2_ n5_ n6_ n7_ n8_
         (try clear hb)
         (try clear hb2)
         (try clear hk)
         (try clear hi)
         refine hK.out _ _ ⟨(blk_cell BK485.out 0).trans rfl,(blk_cell BK485.out 1).trans rfl,(blk_cell BK494.out 0).trans rfl,(blk_cell BK494.out 1).trans rfl,(blk_cell BK476.out 0).trans rfl,(blk_cell BK476.out 1).trans rfl⟩ (fun hHeld=>?_)
         clear hK K
         refine norm_ (a':=?_) ?_ ?_
         rotate_left
         ·show Act.put _ (some 58) _ = _
          simp only [Act.put,sT,sZ,sS,i64_w,i32_w]
          rfl
         refine pure_ (i:=20) (N:=some 59) (v:=?_) (a':=?_) #[τ,τ,τ,τ,τ,τ,τ,τ,τ,τ,τ,τ,τ,τ,τ,τ,τ,τ,τ,τ,τ,φ,φ,φ,φ,φ,φ,φ,φ,φ,φ,φ] rfl rfl (any_of HT_.out (by kernel_rfl)) (fun _ _ _ h=>h) (Or.inl ⟨by rfl,?_⟩) ?_ ?_
         rotate_left
         ·intro w'
          go_simp
          with_reducible rfl
         rotate_left
         ·simp only [Act.put,sT,sZ,sS,i64_w,i32_w]
          rfl
         refine pure_ (i:=21) (N:=some 60) (v:=?_) (a':=?_) #[τ,τ,τ,τ,τ,τ,τ,τ,τ,τ,τ,τ,τ,τ,τ,τ,τ,τ,τ,τ,τ,τ,φ,φ,φ,φ,φ,φ,φ,φ,φ,φ] rfl rfl (any_of HT_.out (by kernel_rfl)) (fun _ _ _ h=>h) (Or.inl ⟨by rfl,?_⟩) ?_ ?_
         rotate_left
         ·intro w'
          go_simp
          with_reducible rfl
         rotate_left
         ·simp only [Act.put,sT,sZ,sS,i64_w,i32_w]
          rfl
         refine pure_ (i:=22) (N:=some 61) (v:=?_) (a':=?_) #[τ,τ,τ,τ,τ,τ,τ,τ,τ,τ,τ,τ,τ,τ,τ,τ,τ,τ,τ,τ,τ,τ,τ,φ,φ,φ,φ,φ,φ,φ,φ,φ] rfl rfl (any_of HT_.out (by kernel_rfl)) (fun _ _ _ h=>h) (Or.inl ⟨by rfl,?_⟩) ?_ ?_
         rotate_left
         ·intro w'
          go_simp
          with_reducible rfl
         rotate_left
         ·simp only [Act.put,sT,sZ,sS,i64_w,i32_w]
          rfl
         refine pure_ (i:=24) (N:=some 63) (v:=?_) (a':=?_) #[τ,τ,τ,τ,τ,τ,τ,τ,τ,τ,τ,τ,τ,τ,τ,τ,τ,τ,τ,τ,τ,τ,τ,φ,τ,φ,φ,φ,φ,φ,φ,φ] rfl rfl (any_of HT_.out (by kernel_rfl)) (fun _ _ _ h=>h) (Or.inl ⟨by rfl,?_⟩) ?_ ?_
         rotate_left
         ·intro w'
          go_simp
          with_reducible rfl
         rotate_left
         ·simp only [Act.put,sT,sZ,sS,i64_w,i32_w]
          rfl
         refine pure_ (i:=26) (N:=some 65) (v:=?_) (a':=?_) #[τ,τ,τ,τ,τ,τ,τ,τ,τ,τ,τ,τ,τ,τ,τ,τ,τ,τ,τ,τ,τ,τ,τ,φ,τ,φ,τ,φ,φ,φ,φ,φ] rfl rfl (any_of HT_.out (by kernel_rfl)) (fun _ _ _ h=>h) (Or.inl ⟨by rfl,?_⟩) ?_ ?_
         rotate_left
         ·intro w'
          go_simp
          with_reducible rfl
         rotate_left
         ·simp only [Act.put,sT,sZ,sS,i64_w,i32_w]
          rfl
         refine take_ (i:=23) (N:=some 62) (v:=?_) (a':=?_) #[τ,τ,τ,τ,τ,τ,τ,τ,τ,τ,τ,τ,τ,τ,τ,τ,τ,τ,τ,τ,τ,τ,τ,τ,τ,φ,τ,φ,φ,φ,φ,φ] rfl rfl (take_ofW HT_.out HW_.out (by kernel_rfl)) (fun _ _ _ h=>h) (Or.inl ⟨by rfl,?_⟩) hHeld ?_ ?_
         rotate_left
         ·rintro w' ⟨s0,s1,s2,s3,s4,s5⟩
          go_simp
          with_reducible rfl
         rotate_left
         ·simp only [Act.put,sT,sZ,sS,i64_w,i32_w]
          rfl
         refine take_ (i:=28) (N:=some 67) (v:=?_) (a':=?_) #[τ,τ,τ,τ,τ,τ,τ,τ,τ,τ,τ,τ,τ,τ,τ,τ,τ,τ,τ,τ,τ,τ,τ,τ,τ,φ,τ,φ,τ,φ,φ,φ] rfl rfl (take_ofW HT_.out HW_.out (by kernel_rfl)) (fun _ _ _ h=>h) (Or.inl ⟨by rfl,?_⟩) hHeld ?_ ?_
         rotate_left
         ·rintro w' ⟨s0,s1,s2,s3,s4,s5⟩
          go_simp
          with_reducible rfl
         rotate_left
         ·simp only [Act.put,sT,sZ,sS,i64_w,i32_w]
          rfl
         refine one_ (i:=25) (N:=some 64) #[τ,τ,τ,τ,τ,τ,τ,τ,τ,τ,τ,τ,τ,τ,τ,τ,τ,τ,τ,τ,τ,τ,τ,τ,τ,τ,τ,φ,τ,φ,φ,φ] rfl rfl (one_of HT_.out (by kernel_rfl)) (by decide) (fun K hK=>?_)
         refine goes_ Try.func18 (by kernel_rfl) rfl #[.agg #[.slice A0_0 l0_0.length c0_0,.int .i64 a0_1],.int .i64 a2] (by rfl) rfl rfl (by (try simp only [List.map_toArray,List.map_cons,List.map_nil]);first|done|rfl|(simp only [List.length_drop,List.length_take];rfl)) ?_
         with_reducible refine (link_Swap.calls kj3 (fun k_=>k_ < w.heap.size) _ _ l0_0 a0_1 a2 t507 t510 _ ?side1 A48.out).mono ?_
         (case side1=>exact Kd.V_mk HC0_0.out (Kd.F_below (Kd.C_F (Kd.heap_slice 5 (Kd.heap_int .u8)) HR0_0.out) (by repeat (first|(with_reducible first|exact HB.out|apply lA|apply lN|apply lD|refine lS ?_ GE476.out|refine lS ?_ GE485.out|refine lS ?_ GE494.out)|exact HB.out))))
         rintro e w61 ⟨v508,rfl,ho0,hb⟩
         refine ⟨_,rfl,?_⟩
         have n0_:=mK (Kd.V_below (by (with_reducible repeat (first|apply vA|apply vN|apply vD));exact HO482.out) hb)
         have n1_:=mK (Kd.V_below (by (with_reducible repeat (first|apply vA|apply vN|apply vD));exact HO488.out) hb)
         have n2_:=mK (Kd.R_below (by (with_reducible repeat (first|apply rA|apply rN|apply rD));exact HO492.out) hb)
         have n5_:=mK (Kd.V_lower (Kd.V_mono (ok':= fun k_=>some k_ ≠ (v491 : Value).ownBlock∧k_ ≠ gb476∧k_ ≠ gb485∧k_ ≠ gb494) ho0 (fun k_ hk_=>⟨Or.elim hk_ (fun hs_=>fun e_=>Nat.not_le.2 hs_ (Kd.R_base HO492.out k_ e_.symm)) (fun hn_=>(Kd.fresh' (Kd.R_lt (by (with_reducible repeat (first|apply rA|apply rN|apply rD));exact HO492.out)) k_ hn_)),Or.elim hk_ (fun hs_=>fun e_=>Nat.not_le.2 hs_ (by rw [e_];exact GW476.out)) (fun hn_=>(Kd.freshB (g:=gb476) (o:=.cells #[.slice A0_0 l0_0.length c0_0,.int .i64 a0_1] 24 (0,0)) (by (with_reducible repeat (first|apply bN|apply bD|apply bA));exact BK476.out) k_ hn_)),Or.elim hk_ (fun hs_=>fun e_=>Nat.not_le.2 hs_ (by rw [e_];exact GW485.out)) (fun hn_=>(Kd.freshB (g:=gb485) (o:=.cells #[.slice Ao27 t480.length co27,.int .i64 t483] 24 (0,0)) (by (with_reducible repeat (first|apply bN|apply bD|apply bA));exact BK485.out) k_ hn_)),Or.elim hk_ (fun hs_=>fun e_=>Nat.not_le.2 hs_ (by rw [e_];exact GW494.out)) (fun hn_=>(Kd.freshB (g:=gb494) (o:=.cells #[.slice Ao34 t486.length co34,.int .i64 t489] 24 (0,0)) (by (with_reducible repeat (first|apply bN|apply bD|apply bA));exact BK494.out) k_ hn_))⟩)) (below_size (by repeat (first|(with_reducible first|exact HB.out|apply lA|apply lN|apply lD|refine lS ?_ GE476.out|refine lS ?_ GE485.out|refine lS ?_ GE494.out)|exact HB.out))))
         have n6_:=mK (blk_below (g:=gb476) (o:=.cells #[.slice A0_0 l0_0.length c0_0,.int .i64 a0_1] 24 (0,0)) (by (with_reducible repeat (first|apply bN|apply bD|apply bA));exact BK476.out) hb)
         have n7_:=mK (blk_below (g:=gb485) (o:=.cells #[.slice Ao27 t480.length co27,.int .i64 t483] 24 (0,0)) (by (with_reducible repeat (first|apply bN|apply bD|apply bA));exact BK485.out) hb)
         have n8_:=mK (blk_below (g:=gb494) (o:=.cells #[.slice Ao34 t486.length co34,.int .i64 t489] 24 (0,0)) (by (with_reducible repeat (first|apply bN|apply bD|apply bA));exact BK494.out) hb)
         have n9_:=mK (below_step (by repeat (first|(with_reducible first|exact HB.out|apply lA|apply lN|apply lD|refine lS ?_ GE476.out|refine lS ?_ GE485.out|refine lS ?_ GE494.out)|exact HB.out)) hb)
         clear HO482
         clear HO488
         clear HO492
         clear BK476
         clear BK485
         clear BK494
         clear HB
         have HO482:=n0_
         have HO488:=n1_
         have HO492:=n2_
         have HO509:=n5_
         have BK476:=n6_
         have BK485:=n7_
         have BK494:=n8_
         have HB:=n9_
         clear n0_ n1_ n2_ n5_ n6_ n7_ n8_ n9_
         (try clear hb)
         (try clear hb2)
         (try clear hk)
         (try clear hi)
         (try clear ho0)
         obtain ⟨Ao62,co62,eo62⟩:=Kd.V_slice HO509.out
         (first|subst eo62|(injection eo62 with f1_ f2_ f3_;have f4_:=f1_.symm;have f5_:=f3_.symm;clear f1_ f2_ f3_;subst f4_;subst f5_))
         refine hK.out _ _ ⟨(blk_cell BK485.out 0).trans rfl,(blk_cell BK485.out 1).trans rfl,(blk_cell BK494.out 0).trans rfl,(blk_cell BK494.out 1).trans rfl,(blk_cell BK476.out 0).trans rfl,(blk_cell BK476.out 1).trans rfl⟩ (fun hHeld=>?_)
         clear hK K
         refine norm_ (a':=?_) ?_ ?_
         rotate_left
         ·show Act.put _ (some 64) _ = _
          simp only [Act.put,sT,sZ,sS,i64_w,i32_w]
          rfl
         refine one_ (i:=27) (N:=some 66) #[τ,τ,τ,τ,τ,τ,τ,τ,τ,τ,τ,τ,τ,τ,τ,τ,τ,τ,τ,τ,τ,τ,τ,τ,τ,τ,τ,τ,τ,φ,φ,φ] rfl rfl (one_of HT_.out (by kernel_rfl)) (by decide) (fun K hK=>?_)
         refine goes_ Try.func18 (by kernel_rfl) rfl #[.agg #[.slice Ao62 t507.length co62,.int .i64 t510],.int .i64 a2] (by rfl) rfl rfl (by (try simp only [List.map_toArray,List.map_cons,List.map_nil]);first|done|rfl|(simp only [List.length_drop,List.length_take];rfl)) ?_
         with_reducible refine (link_Swap.calls kj3 (fun k_=>(some k_ ≠ (v491 : Value).ownBlock∧(k_ ≠ gb476∧(k_ ≠ gb485∧k_ ≠ gb494)))) _ _ t507 t510 a2 t511 t514 _ ?side1 A49.out).mono ?_
         (case side1=>exact HO509.out)
         rintro e w63 ⟨v512,rfl,ho0,hb⟩
         refine ⟨_,rfl,?_⟩
         have n0_:=mK (Kd.V_below (by (with_reducible repeat (first|apply vA|apply vN|apply vD));exact HO482.out) hb)
         have n1_:=mK (Kd.V_below (by (with_reducible repeat (first|apply vA|apply vN|apply vD));exact HO488.out) hb)
         have n6_:=mK (Kd.V_lower (Kd.V_mono (ok':= fun k_=>some k_ ≠ (v491 : Value).ownBlock∧k_ ≠ gb476∧k_ ≠ gb485∧k_ ≠ gb494) ho0 (fun k_ hk_=>⟨Or.elim hk_ (fun hs_=>hs_.1) (fun hn_=>(Kd.fresh' (Kd.R_lt (by (with_reducible repeat (first|apply rA|apply rN|apply rD));exact HO492.out)) k_ hn_)),Or.elim hk_ (fun hs_=>hs_.2.1) (fun hn_=>(Kd.freshB (g:=gb476) (o:=.cells #[.slice A0_0 l0_0.length c0_0,.int .i64 a0_1] 24 (0,0)) (by (with_reducible repeat (first|apply bN|apply bD|apply bA));exact BK476.out) k_ hn_)),Or.elim hk_ (fun hs_=>hs_.2.2.1) (fun hn_=>(Kd.freshB (g:=gb485) (o:=.cells #[.slice Ao27 t480.length co27,.int .i64 t483] 24 (0,0)) (by (with_reducible repeat (first|apply bN|apply bD|apply bA));exact BK485.out) k_ hn_)),Or.elim hk_ (fun hs_=>hs_.2.2.2) (fun hn_=>(Kd.freshB (g:=gb494) (o:=.cells #[.slice Ao34 t486.length co34,.int .i64 t489] 24 (0,0)) (by (with_reducible repeat (first|apply bN|apply bD|apply bA));exact BK494.out) k_ hn_))⟩)) (below_size (by repeat (first|(with_reducible first|exact HB.out|apply lA|apply lN|apply lD|refine lS ?_ GE476.out|refine lS ?_ GE485.out|refine lS ?_ GE494.out)|exact HB.out))))
         have n7_:=mK (blk_below (g:=gb476) (o:=.cells #[.slice A0_0 l0_0.length c0_0,.int .i64 a0_1] 24 (0,0)) (by (with_reducible repeat (first|apply bN|apply bD|apply bA));exact BK476.out) hb)
         have n8_:=mK (blk_below (g:=gb485) (o:=.cells #[.slice Ao27 t480.length co27,.int .i64 t483] 24 (0,0)) (by (with_reducible repeat (first|apply bN|apply bD|apply bA));exact BK485.out) hb)
         have n9_:=mK (blk_below (g:=gb494) (o:=.cells #[.slice Ao34 t486.length co34,.int .i64 t489] 24 (0,0)) (by (with_reducible repeat (first|apply bN|apply bD|apply bA));exact BK494.out) hb)
         have n10_:=mK (below_step (by repeat (first|(with_reducible first|exact HB.out|apply lA|apply lN|apply lD|refine lS ?_ GE476.out|refine lS ?_ GE485.out|refine lS ?_ GE494.out)|exact HB.out)) hb)
         clear HO482
         clear HO488
         clear BK476
         clear BK485
         clear BK494
         clear HB
         have HO482:=n0_
         have HO488:=n1_
         have HO513:=n6_
         have BK476:=n7_
         have BK485:=n8_
         have BK494:=n9_
         have HB:=n10_
         clear n0_ n1_ n6_ n7_ n8_ n9_ n10_
         (try clear hb)
         (try clear hb2)
         (try clear hk)
         (try clear hi)
         (try clear ho0)
         obtain ⟨Ao64,co64,eo64⟩:=Kd.V_slice HO513.out
         (first|subst eo64|(injection eo64 with f1_ f2_ f3_;have f4_:=f1_.symm;have f5_:=f3_.symm;clear f1_ f2_ f3_;subst f4_;subst f5_))
         refine hK.out _ _ ⟨(blk_cell BK485.out 0).trans rfl,(blk_cell BK485.out 1).trans rfl,(blk_cell BK494.out 0).trans rfl,(blk_cell BK494.out 1).trans rfl,(blk_cell BK476.out 0).trans rfl,(blk_cell BK476.out 1).trans rfl⟩ (fun hHeld=>?_)
         clear hK K
         refine norm_ (a':=?_) ?_ ?_
         rotate_left
         ·show Act.put _ (some 66) _ = _
          simp only [Act.put,sT,sZ,sS,i64_w,i32_w]
          rfl
         refine one_ (i:=29) (N:=some 68) #[τ,τ,τ,τ,τ,τ,τ,τ,τ,τ,τ,τ,τ,τ,τ,τ,τ,τ,τ,τ,τ,τ,τ,τ,τ,τ,τ,τ,τ,τ,φ,φ] rfl rfl (one_of HT_.out (by kernel_rfl)) (by decide) (fun K hK=>?_)
         refine goes_ Try.func12 (by kernel_rfl) rfl #[.agg #[.slice Ao64 t511.length co64,.int .i64 t514],.agg #[.slice A0_0 l0_0.length c0_0,.int .i64 a0_1]] (by rfl) rfl rfl (by (try simp only [List.map_toArray,List.map_cons,List.map_nil]);first|done|rfl|(simp only [List.length_drop,List.length_take];rfl)) ?_
         with_reducible refine (drawbridgeref23_Same.calls kj3 _ _ t511 t514 _ _ l0_0 a0_1 t515 _ ?side1 ?side2 ?side3 ?side4 A50.out).mono ?_
         (case side1=>repeat (first|exact (Kd.V_reads' HO513.out).2.2|(with_reducible refine Kd.C_alloc ?_ _)|(with_reducible refine Kd.C_drewN ?_ _)|(with_reducible refine Kd.C_drew ?_)))
         (case side2=>exact (Kd.V_reads' HO513.out).2.1)
         (case side3=>repeat (first|exact (Kd.C_below HR0_0.out HB.out)|(with_reducible refine Kd.C_alloc ?_ _)|(with_reducible refine Kd.C_drewN ?_ _)|(with_reducible refine Kd.C_drew ?_)))
         (case side4=>exact HC0_0.out)
         rintro e w65 ⟨rfl,hb⟩
         refine ⟨_,rfl,?_⟩
         have n0_:=mK (Kd.V_below (by (with_reducible repeat (first|apply vA|apply vN|apply vD));exact HO482.out) hb)
         have n1_:=mK (Kd.V_below (by (with_reducible repeat (first|apply vA|apply vN|apply vD));exact HO488.out) hb)
         have n7_:=mK (blk_below (g:=gb476) (o:=.cells #[.slice A0_0 l0_0.length c0_0,.int .i64 a0_1] 24 (0,0)) (by (with_reducible repeat (first|apply bN|apply bD|apply bA));exact BK476.out) hb)
         have n8_:=mK (blk_below (g:=gb485) (o:=.cells #[.slice Ao27 t480.length co27,.int .i64 t483] 24 (0,0)) (by (with_reducible repeat (first|apply bN|apply bD|apply bA));exact BK485.out) hb)
         have n9_:=mK (blk_below (g:=gb494) (o:=.cells #[.slice Ao34 t486.length co34,.int .i64 t489] 24 (0,0)) (by (with_reducible repeat (first|apply bN|apply bD|apply bA));exact BK494.out) hb)
         have n10_:=mK (below_step (by repeat (first|(with_reducible first|exact HB.out|apply lA|apply lN|apply lD|refine lS ?_ GE476.out|refine lS ?_ GE485.out|refine lS ?_ GE494.out)|exact HB.out)) hb)
         clear HO482
         clear HO488
         clear BK476
         clear BK485
         clear BK494
         clear HB
         have HO482:=n0_
         have HO488:=n1_
         have BK476:=n7_
         have BK485:=n8_
         have BK494:=n9_
         have HB:=n10_
         clear n0_ n1_ n7_ n8_ n9_ n10_
         (try clear hb)
         (try clear hb2)
         (try clear hk)
         (try clear hi)
         refine hK.out _ _ ⟨(blk_cell BK485.out 0).trans rfl,(blk_cell BK485.out 1).trans rfl,(blk_cell BK494.out 0).trans rfl,(blk_cell BK494.out 1).trans rfl,(blk_cell BK476.out 0).trans rfl,(blk_cell BK476.out 1).trans rfl⟩ (fun hHeld=>?_)
         clear hK K
         refine norm_ (a':=?_) ?_ ?_
         rotate_left
         ·show Act.put _ (some 68) _ = _
          simp only [Act.put,sT,sZ,sS,i64_w,i32_w]
          rfl
         refine pure_ (i:=30) (N:=some 69) (v:=?_) (a':=?_) #[τ,τ,τ,τ,τ,τ,τ,τ,τ,τ,τ,τ,τ,τ,τ,τ,τ,τ,τ,τ,τ,τ,τ,τ,τ,τ,τ,τ,τ,τ,τ,φ] rfl rfl (any_of HT_.out (by kernel_rfl)) (fun _ _ _ h=>h) (Or.inl ⟨by rfl,?_⟩) ?_ ?_
         rotate_left
         ·intro w'
          go_simp
          with_reducible rfl
         rotate_left
         ·simp only [Act.put,sT,sZ,sS,i64_w,i32_w]
          rfl
         refine pure_ (i:=31) (N:=some 70) (v:=?_) (a':=?_) #[τ,τ,τ,τ,τ,τ,τ,τ,τ,τ,τ,τ,τ,τ,τ,τ,τ,τ,τ,τ,τ,τ,τ,τ,τ,τ,τ,τ,τ,τ,τ,τ] rfl rfl (any_of HT_.out (by kernel_rfl)) (fun _ _ _ h=>h) (Or.inl ⟨by rfl,?_⟩) ?_ ?_
         rotate_left
         ·intro w'
          go_simp
          with_reducible rfl
         rotate_left
         ·simp only [Act.put,sT,sZ,sS,i64_w,i32_w]
          rfl
         refine done_ (done_of HT_.out (by kernel_rfl)) ?_
         try go_wp2
         go_meet
         case rel=>exact ⟨_,(!t515),(by first|rfl|(simp;done)|(simp [*];done)),H',⟨by have:=HJ3.out;first|omega|exact Nat.le_refl _⟩,⟨by (with_reducible repeat (first|apply vA|apply vN|apply vD));exact Kd.V_mono HO482.out (fun _ hk=>⟨hk.2.1,⟨hk.2.2.1,hk.2.2.2⟩⟩)⟩,⟨by (with_reducible repeat (first|apply vA|apply vN|apply vD));exact Kd.V_mono HO488.out (fun _ hk=>⟨hk.2.1,⟨hk.2.2.1,hk.2.2.2⟩⟩)⟩,⟨by (with_reducible repeat (first|apply bN|apply bD|apply bA));exact BK476.out⟩,⟨by (with_reducible repeat (first|apply bN|apply bD|apply bA));exact BK485.out⟩,⟨by (with_reducible repeat (first|apply bN|apply bD|apply bA));exact BK494.out⟩,⟨by repeat (first|(with_reducible first|exact HB.out|apply lA|apply lN|apply lD|refine lS ?_ GE476.out|refine lS ?_ GE485.out|refine lS ?_ GE494.out)|exact HB.out)⟩⟩
        ·replace c47:=Bool.eq_false_iff.mpr c47
         subst c47
         have H1 : (drawbridgelaw23_LinkStays.j1 kj3 a2 true l0_0 a0_1) = some r:= by rw [if_neg (show ¬ (false = true) by decide)] at H;exact H
         clear H
         have H:=H1
         clear H1
         have H':=mK H
         clear H
         try go_wp2
         have n0_ : Aside0 (Kd.V (Kd.slice 5 (Kd.int .u8)) 25 ((w33.setCell ⟨gb494,0,none⟩ (.slice Ao34 t486.length co34)).setCell ⟨gb494,1,none⟩ (.int .i64 t489)) w.heap.size (fun k_=>some k_ ≠ (v491 : Value).ownBlock∧k_ ≠ gb476∧k_ ≠ gb485∧k_ ≠ gb494) (.slice Ao27 t480.length co27) t480):=⟨by (with_reducible repeat (first|apply vA|apply vN|apply vD));exact Kd.V_mono (Kd.V_far (p:=⟨gb494,1,none⟩) (Kd.V_far (p:=⟨gb494,0,none⟩) (Kd.V_mono HO482.out (fun k_ hk=>(⟨hk,hk.2⟩ : _∧k_ ≠ gb494))) (fun _ hk=>hk.2) (.slice Ao34 t486.length co34)) (fun _ hk=>hk.2) (.int .i64 t489)) (fun _ hk=>⟨hk.1.1.2,⟨hk.1.1.1.1,⟨hk.1.1.1.2,hk.1.2⟩⟩⟩)⟩
         have n1_ : Aside0 (Kd.V (Kd.slice 5 (Kd.int .u8)) 25 ((w33.setCell ⟨gb494,0,none⟩ (.slice Ao34 t486.length co34)).setCell ⟨gb494,1,none⟩ (.int .i64 t489)) w.heap.size (fun k_=>some k_ ≠ (v491 : Value).ownBlock∧k_ ≠ gb476∧k_ ≠ gb485∧k_ ≠ gb494) (.slice Ao34 t486.length co34) t486):=⟨by (with_reducible repeat (first|apply vA|apply vN|apply vD));exact Kd.V_mono (Kd.V_far (p:=⟨gb494,1,none⟩) (Kd.V_far (p:=⟨gb494,0,none⟩) (Kd.V_mono HO488.out (fun k_ hk=>(⟨hk,hk.2⟩ : _∧k_ ≠ gb494))) (fun _ hk=>hk.2) (.slice Ao34 t486.length co34)) (fun _ hk=>hk.2) (.int .i64 t489)) (fun _ hk=>⟨hk.1.1.1,⟨hk.1.1.2.1,⟨hk.1.1.2.2,hk.1.2⟩⟩⟩)⟩
         have n2_ : Aside0 (Kd.R (Kd.int .u8) 5 ((w33.setCell ⟨gb494,0,none⟩ (.slice Ao34 t486.length co34)).setCell ⟨gb494,1,none⟩ (.int .i64 t489)) w.heap.size (fun _=>True) v491 t490):=⟨by (with_reducible repeat (first|apply rA|apply rN|apply rD));exact Kd.R_mono (Kd.R_far (p:=⟨gb494,1,none⟩) (Kd.R_far (p:=⟨gb494,0,none⟩) (Kd.R_types HO492.out BK494.out (by decide)) (fun _ hk=>hk.2) (.slice Ao34 t486.length co34)) (fun _ hk=>hk.2) (.int .i64 t489)) (fun _ hk=>trivial)⟩
         have n3_ : Aside0 (((w33.setCell ⟨gb494,0,none⟩ (.slice Ao34 t486.length co34)).setCell ⟨gb494,1,none⟩ (.int .i64 t489)).heap[gb476]? = some (.cells #[.slice A0_0 l0_0.length c0_0,.int .i64 a0_1] 24 (0,0))):=⟨by (with_reducible repeat (first|apply bN|apply bD|apply bA));refine blk_far ?_ NB476_494.out _;(with_reducible repeat (first|apply bN|apply bD|apply bA));refine blk_far ?_ NB476_494.out _;(with_reducible repeat (first|apply bN|apply bD|apply bA));exact BK476.out⟩
         have n4_ : Aside0 (((w33.setCell ⟨gb494,0,none⟩ (.slice Ao34 t486.length co34)).setCell ⟨gb494,1,none⟩ (.int .i64 t489)).heap[gb485]? = some (.cells #[.slice Ao27 t480.length co27,.int .i64 t483] 24 (0,0))):=⟨by (with_reducible repeat (first|apply bN|apply bD|apply bA));refine blk_far ?_ NB485_494.out _;(with_reducible repeat (first|apply bN|apply bD|apply bA));refine blk_far ?_ NB485_494.out _;(with_reducible repeat (first|apply bN|apply bD|apply bA));exact BK485.out⟩
         have n5_ : Aside0 (((w33.setCell ⟨gb494,0,none⟩ (.slice Ao34 t486.length co34)).setCell ⟨gb494,1,none⟩ (.int .i64 t489)).heap[gb494]? = some (.cells #[.slice Ao34 t486.length co34,.int .i64 t489] 24 (0,0))):=⟨by (with_reducible repeat (first|apply bN|apply bD|apply bA));refine blk_put (cs:=#[.slice Ao34 t486.length co34,.int .i64 0]) ?_ 1 _ rfl;(with_reducible repeat (first|apply bN|apply bD|apply bA));refine blk_put (cs:=#[.slice none 0 0,.int .i64 0]) ?_ 0 _ rfl;(with_reducible repeat (first|apply bN|apply bD|apply bA));exact BK494.out⟩
         have n6_ : Aside0 (Below w.heap.size w ((w33.setCell ⟨gb494,0,none⟩ (.slice Ao34 t486.length co34)).setCell ⟨gb494,1,none⟩ (.int .i64 t489))):=⟨by repeat (first|(with_reducible first|exact HB.out|apply lA|apply lN|apply lD|refine lS ?_ GE476.out|refine lS ?_ GE485.out|refine lS ?_ GE494.out)|exact HB.out)⟩
         (try clear HO482)
         (try clear HO488)
         (try clear HO492)
         (try clear BK476)
         (try clear BK485)
         (try clear BK494)
         (try clear HB)
         generalize ((w33.setCell ⟨gb494,0,none⟩ (.slice Ao34 t486.length co34)).setCell ⟨gb494,1,none⟩ (.int .i64 t489)) = w66 at n0_ n1_ n2_ n3_ n4_ n5_ n6_ ⊢
         have HO482:=n0_
         have HO488:=n1_
         have HO492:=n2_
         have BK476:=n3_
         have BK485:=n4_
         have BK494:=n5_
         have HB:=n6_
         clear n0_ n1_ n2_ n3_ n4_ n5_ n6_
         have n0_:=mK (Kd.V_drew HO482.out)
         have n1_:=mK (Kd.V_drew HO488.out)
         have n2_:=mK (Kd.R_drew HO492.out)
         have n3_:=mK (blk_drew BK476.out)
         have n4_:=mK (blk_drew BK485.out)
         have n5_:=mK (blk_drew BK494.out)
         have n6_:=mK (below_drew1 HB.out)
         clear HO482
         clear HO488
         clear HO492
         clear BK476
         clear BK485
         clear BK494
         clear HB
         have HO482:=n0_
         have HO488:=n1_
         have HO492:=n2_
         have BK476:=n3_
         have BK485:=n4_
         have BK494:=n5_
         have HB:=n6_
         clear n0_ n1_ n2_ n3_ n4_ n5_ n6_
         refine start_ (n:=32) (S:= fun w'=>w'.cell? ⟨gb485,0,none⟩ = some (.slice Ao27 t480.length co27)∧w'.cell? ⟨gb485,1,none⟩ = some (.int .i64 t483)∧w'.cell? ⟨gb494,0,none⟩ = some (.slice Ao34 t486.length co34)∧w'.cell? ⟨gb494,1,none⟩ = some (.int .i64 t489)∧w'.cell? ⟨gb476,0,none⟩ = some (.slice A0_0 l0_0.length c0_0)∧w'.cell? ⟨gb476,1,none⟩ = some (.int .i64 a0_1)) (ds:=[]) #[φ,φ,φ,φ,φ,φ,φ,φ,φ,φ,φ,φ,φ,φ,φ,φ,φ,φ,φ,φ,φ,φ,φ,φ,φ,φ,φ,φ,φ,φ,φ,φ] (by kernel_rfl) rfl rfl ⟨(blk_cell BK485.out 0).trans rfl,(blk_cell BK485.out 1).trans rfl,(blk_cell BK494.out 0).trans rfl,(blk_cell BK494.out 1).trans rfl,(blk_cell BK476.out 0).trans rfl,(blk_cell BK476.out 1).trans rfl⟩ (fun hHeld=>?_);refine with_tabW drawbridgelaw23_LinkStays.tab5 drawbridgelaw23_LinkStays.bits5 (fun HT_ HW_=>?_)
         generalize w66.drew = w67 at HO482 HO488 HO492 BK476 BK485 BK494 HB hHeld ⊢
         refine take_ (i:=0) (N:=some 39) (v:=?_) (a':=?_) #[τ,φ,φ,φ,φ,φ,φ,φ,φ,φ,φ,φ,φ,φ,φ,φ,φ,φ,φ,φ,φ,φ,φ,φ,φ,φ,φ,φ,φ,φ,φ,φ] rfl rfl (take_ofW HT_.out HW_.out (by kernel_rfl)) (fun _ _ _ h=>h) (Or.inl ⟨by rfl,?_⟩) hHeld ?_ ?_
         rotate_left
         ·rintro w' ⟨s0,s1,s2,s3,s4,s5⟩
          go_simp
          with_reducible rfl
         rotate_left
         ·simp only [Act.put,sT,sZ,sS,i64_w,i32_w]
          rfl
         refine one_ (i:=1) (N:=some 40) #[τ,τ,φ,φ,φ,φ,φ,φ,φ,φ,φ,φ,φ,φ,φ,φ,φ,φ,φ,φ,φ,φ,φ,φ,φ,φ,φ,φ,φ,φ,φ,φ] rfl rfl (one_of HT_.out (by kernel_rfl)) (by decide) (fun K hK=>?_)
         refine goes_ Try.func20 (by kernel_rfl) rfl #[.agg #[.slice Ao27 t480.length co27,.int .i64 t483]] (by rfl) rfl rfl (by (try simp only [List.map_toArray,List.map_cons,List.map_nil]);first|done|rfl|(simp only [List.length_drop,List.length_take];rfl)) ?_
         with_reducible refine (link_Check.calls _ _ t480 t483 true _ ?side1 ?side2 A38.out).mono ?_
         (case side1=>repeat (first|exact (Kd.V_reads' HO482.out).2.2|(with_reducible refine Kd.C_alloc ?_ _)|(with_reducible refine Kd.C_drewN ?_ _)|(with_reducible refine Kd.C_drew ?_)))
         (case side2=>exact (Kd.V_reads' HO482.out).2.1)
         rintro e w68 ⟨rfl,hb⟩
         refine ⟨_,rfl,?_⟩
         have n0_:=mK (Kd.V_below (by (with_reducible repeat (first|apply vA|apply vN|apply vD));exact HO482.out) hb)
         have n1_:=mK (Kd.V_below (by (with_reducible repeat (first|apply vA|apply vN|apply vD));exact HO488.out) hb)
         have n2_:=mK (Kd.R_below (by (with_reducible repeat (first|apply rA|apply rN|apply rD));exact HO492.out) hb)
         have n3_:=mK (blk_below (g:=gb476) (o:=.cells #[.slice A0_0 l0_0.length c0_0,.int .i64 a0_1] 24 (0,0)) (by (with_reducible repeat (first|apply bN|apply bD|apply bA));exact BK476.out) hb)
         have n4_:=mK (blk_below (g:=gb485) (o:=.cells #[.slice Ao27 t480.length co27,.int .i64 t483] 24 (0,0)) (by (with_reducible repeat (first|apply bN|apply bD|apply bA));exact BK485.out) hb)
         have n5_:=mK (blk_below (g:=gb494) (o:=.cells #[.slice Ao34 t486.length co34,.int .i64 t489] 24 (0,0)) (by (with_reducible repeat (first|apply bN|apply bD|apply bA));exact BK494.out) hb)
         have n6_:=mK (below_step (by repeat (first|(with_reducible first|exact HB.out|apply lA|apply lN|apply lD|refine lS ?_ GE476.out|refine lS ?_ GE485.out|refine lS ?_ GE494.out)|exact HB.out)) hb)
         clear HO482
         clear HO488
         clear HO492
         clear BK476
         clear BK485
         clear BK494
         clear HB
         have HO482:=n0_
         have HO488:=n1_
         have HO492:=n2_
         have BK476:=n3_
         have BK485:=n4_
         have BK494:=n5_
         have HB:=n6_
         clear n0_ n1_ n2_ n3_ n4_ n5_ n6_
         (try clear hb)
         (try clear hb2)
         (try clear hk)
         (try clear hi)
         refine hK.out _ _ ⟨(blk_cell BK485.out 0).trans rfl,(blk_cell BK485.out 1).trans rfl,(blk_cell BK494.out 0).trans rfl,(blk_cell BK494.out 1).trans rfl,(blk_cell BK476.out 0).trans rfl,(blk_cell BK476.out 1).trans rfl⟩ (fun hHeld=>?_)
         clear hK K
         refine norm_ (a':=?_) ?_ ?_
         rotate_left
         ·show Act.put _ (some 40) _ = _
          simp only [Act.put,sT,sZ,sS,i64_w,i32_w]
          rfl
         refine pure_ (i:=2) (N:=some 41) (v:=?_) (a':=?_) #[τ,τ,τ,φ,φ,φ,φ,φ,φ,φ,φ,φ,φ,φ,φ,φ,φ,φ,φ,φ,φ,φ,φ,φ,φ,φ,φ,φ,φ,φ,φ,φ] rfl rfl (any_of HT_.out (by kernel_rfl)) (fun _ _ _ h=>h) (Or.inl ⟨by rfl,?_⟩) ?_ ?_
         rotate_left
         ·intro w'
          go_simp
          with_reducible rfl
         rotate_left
         ·simp only [Act.put,sT,sZ,sS,i64_w,i32_w]
          rfl
         refine pure_ (i:=3) (N:=some 42) (v:=?_) (a':=?_) #[τ,τ,τ,τ,φ,φ,φ,φ,φ,φ,φ,φ,φ,φ,φ,φ,φ,φ,φ,φ,φ,φ,φ,φ,φ,φ,φ,φ,φ,φ,φ,φ] rfl rfl (any_of HT_.out (by kernel_rfl)) (fun _ _ _ h=>h) (Or.inl ⟨by rfl,?_⟩) ?_ ?_
         rotate_left
         ·intro w'
          go_simp
          with_reducible rfl
         rotate_left
         ·simp only [Act.put,sT,sZ,sS,i64_w,i32_w]
          rfl
         refine take_ (i:=4) (N:=some 43) (v:=?_) (a':=?_) #[τ,τ,τ,τ,τ,φ,φ,φ,φ,φ,φ,φ,φ,φ,φ,φ,φ,φ,φ,φ,φ,φ,φ,φ,φ,φ,φ,φ,φ,φ,φ,φ] rfl rfl (take_ofW HT_.out HW_.out (by kernel_rfl)) (fun _ _ _ h=>h) (Or.inl ⟨by rfl,?_⟩) hHeld ?_ ?_
         rotate_left
         ·rintro w' ⟨s0,s1,s2,s3,s4,s5⟩
          go_simp
          with_reducible rfl
         rotate_left
         ·simp only [Act.put,sT,sZ,sS,i64_w,i32_w]
          rfl
         refine one_ (i:=5) (N:=some 44) #[τ,τ,τ,τ,τ,τ,φ,φ,φ,φ,φ,φ,φ,φ,φ,φ,φ,φ,φ,φ,φ,φ,φ,φ,φ,φ,φ,φ,φ,φ,φ,φ] rfl rfl (one_of HT_.out (by kernel_rfl)) (by decide) (fun K hK=>?_)
         refine goes_ Try.func20 (by kernel_rfl) rfl #[.agg #[.slice Ao34 t486.length co34,.int .i64 t489]] (by rfl) rfl rfl (by (try simp only [List.map_toArray,List.map_cons,List.map_nil]);first|done|rfl|(simp only [List.length_drop,List.length_take];rfl)) ?_
         with_reducible refine (link_Check.calls _ _ t486 t489 true _ ?side1 ?side2 A40.out).mono ?_
         (case side1=>repeat (first|exact (Kd.V_reads' HO488.out).2.2|(with_reducible refine Kd.C_alloc ?_ _)|(with_reducible refine Kd.C_drewN ?_ _)|(with_reducible refine Kd.C_drew ?_)))
         (case side2=>exact (Kd.V_reads' HO488.out).2.1)
         rintro e w69 ⟨rfl,hb⟩
         refine ⟨_,rfl,?_⟩
         have n0_:=mK (Kd.V_below (by (with_reducible repeat (first|apply vA|apply vN|apply vD));exact HO482.out) hb)
         have n1_:=mK (Kd.V_below (by (with_reducible repeat (first|apply vA|apply vN|apply vD));exact HO488.out) hb)
         have n2_:=mK (Kd.R_below (by (with_reducible repeat (first|apply rA|apply rN|apply rD));exact HO492.out) hb)
         have n3_:=mK (blk_below (g:=gb476) (o:=.cells #[.slice A0_0 l0_0.length c0_0,.int .i64 a0_1] 24 (0,0)) (by (with_reducible repeat (first|apply bN|apply bD|apply bA));exact BK476.out) hb)
         have n4_:=mK (blk_below (g:=gb485) (o:=.cells #[.slice Ao27 t480.length co27,.int .i64 t483] 24 (0,0)) (by (with_reducible repeat (first|apply bN|apply bD|apply bA));exact BK485.out) hb)
         have n5_:=mK (blk_below (g:=gb494) (o:=.cells #[.slice Ao34 t486.length co34,.int .i64 t489] 24 (0,0)) (by (with_reducible repeat (first|apply bN|apply bD|apply bA));exact BK494.out) hb)
         have n6_:=mK (below_step (by repeat (first|(with_reducible first|exact HB.out|apply lA|apply lN|apply lD|refine lS ?_ GE476.out|refine lS ?_ GE485.out|refine lS ?_ GE494.out)|exact HB.out)) hb)
         clear HO482
         clear HO488
         clear HO492
         clear BK476
         clear BK485
         clear BK494
         clear HB
         have HO482:=n0_
         have HO488:=n1_
         have HO492:=n2_
         have BK476:=n3_
         have BK485:=n4_
         have BK494:=n5_
         have HB:=n6_
         clear n0_ n1_ n2_ n3_ n4_ n5_ n6_
         (try clear hb)
         (try clear hb2)
         (try clear hk)
         (try clear hi)
         refine hK.out _ _ ⟨(blk_cell BK485.out 0).trans rfl,(blk_cell BK485.out 1).trans rfl,(blk_cell BK494.out 0).trans rfl,(blk_cell BK494.out 1).trans rfl,(blk_cell BK476.out 0).trans rfl,(blk_cell BK476.out 1).trans rfl⟩ (fun hHeld=>?_)
         clear hK K
         refine norm_ (a':=?_) ?_ ?_
         rotate_left
         ·show Act.put _ (some 44) _ = _
          simp only [Act.put,sT,sZ,sS,i64_w,i32_w]
          rfl
         refine pure_ (i:=6) (N:=some 45) (v:=?_) (a':=?_) #[τ,τ,τ,τ,τ,τ,τ,φ,φ,φ,φ,φ,φ,φ,φ,φ,φ,φ,φ,φ,φ,φ,φ,φ,φ,φ,φ,φ,φ,φ,φ,φ] rfl rfl (any_of HT_.out (by kernel_rfl)) (fun _ _ _ h=>h) (Or.inl ⟨by rfl,?_⟩) ?_ ?_
         rotate_left
         ·intro w'
          go_simp
          with_reducible rfl
         rotate_left
         ·simp only [Act.put,sT,sZ,sS,i64_w,i32_w]
          rfl
         refine pure_ (i:=7) (N:=some 46) (v:=?_) (a':=?_) #[τ,τ,τ,τ,τ,τ,τ,τ,φ,φ,φ,φ,φ,φ,φ,φ,φ,φ,φ,φ,φ,φ,φ,φ,φ,φ,φ,φ,φ,φ,φ,φ] rfl rfl (any_of HT_.out (by kernel_rfl)) (fun _ _ _ h=>h) (Or.inl ⟨by rfl,?_⟩) ?_ ?_
         rotate_left
         ·intro w'
          go_simp
          with_reducible rfl
         rotate_left
         ·simp only [Act.put,sT,sZ,sS,i64_w,i32_w]
          rfl
         refine pure_ (i:=8) (N:=some 47) (v:=?_) (a':=?_) #[τ,τ,τ,τ,τ,τ,τ,τ,τ,φ,φ,φ,φ,φ,φ,φ,φ,φ,φ,φ,φ,φ,φ,φ,φ,φ,φ,φ,φ,φ,φ,φ] rfl rfl (any_of HT_.out (by kernel_rfl)) (fun _ _ _ h=>h) (Or.inl ⟨by rfl,?_⟩) ?_ ?_
         rotate_left
         ·intro w'
          go_simp
          with_reducible rfl
         rotate_left
         ·simp only [Act.put,sT,sZ,sS,i64_w,i32_w]
          rfl
         refine pure_ (i:=10) (N:=some 49) (v:=?_) (a':=?_) #[τ,τ,τ,τ,τ,τ,τ,τ,τ,φ,τ,φ,φ,φ,φ,φ,φ,φ,φ,φ,φ,φ,φ,φ,φ,φ,φ,φ,φ,φ,φ,φ] rfl rfl (any_of HT_.out (by kernel_rfl)) (fun _ _ _ h=>h) (Or.inl ⟨by rfl,?_⟩) ?_ ?_
         rotate_left
         ·intro w'
          go_simp
          with_reducible rfl
         rotate_left
         ·simp only [Act.put,sT,sZ,sS,i64_w,i32_w]
          rfl
         refine take_ (i:=9) (N:=some 48) (v:=?_) (a':=?_) #[τ,τ,τ,τ,τ,τ,τ,τ,τ,τ,τ,φ,φ,φ,φ,φ,φ,φ,φ,φ,φ,φ,φ,φ,φ,φ,φ,φ,φ,φ,φ,φ] rfl rfl (take_ofW HT_.out HW_.out (by kernel_rfl)) (fun _ _ _ h=>h) (Or.inl ⟨by rfl,?_⟩) hHeld ?_ ?_
         rotate_left
         ·rintro w' ⟨s0,s1,s2,s3,s4,s5⟩
          go_simp
          with_reducible rfl
         rotate_left
         ·simp only [Act.put,sT,sZ,sS,i64_w,i32_w]
          rfl
         refine one_ (i:=11) (N:=some 50) #[τ,τ,τ,τ,τ,τ,τ,τ,τ,τ,τ,τ,φ,φ,φ,φ,φ,φ,φ,φ,φ,φ,φ,φ,φ,φ,φ,φ,φ,φ,φ,φ] rfl rfl (one_of HT_.out (by kernel_rfl)) (by decide) (fun K hK=>?_)
         refine goes_ Try.func14 (by kernel_rfl) rfl #[.agg #[.slice A0_0 l0_0.length c0_0,.int .i64 a0_1],.int .i64 a2] (by rfl) rfl rfl (by (try simp only [List.map_toArray,List.map_cons,List.map_nil]);first|done|rfl|(simp only [List.length_drop,List.length_take];rfl)) ?_
         with_reducible refine (link_Drop.calls kj3 (fun k_=>k_ < w.heap.size) _ _ l0_0 a0_1 a2 t497 t500 _ ?side1 A42.out).mono ?_
         (case side1=>exact Kd.V_mk HC0_0.out (Kd.F_below (Kd.C_F (Kd.heap_slice 5 (Kd.heap_int .u8)) HR0_0.out) (by repeat (first|(with_reducible first|exact HB.out|apply lA|apply lN|apply lD|refine lS ?_ GE476.out|refine lS ?_ GE485.out|refine lS ?_ GE494.out)|exact HB.out))))
         rintro e w70 ⟨v498,rfl,ho0,hb⟩
         refine ⟨_,rfl,?_⟩
         have n0_:=mK (Kd.V_below (by (with_reducible repeat (first|apply vA|apply vN|apply vD));exact HO482.out) hb)
         have n1_:=mK (Kd.V_below (by (with_reducible repeat (first|apply vA|apply vN|apply vD));exact HO488.out) hb)
         have n2_:=mK (Kd.R_below (by (with_reducible repeat (first|apply rA|apply rN|apply rD));exact HO492.out) hb)
         have n3_:=mK (Kd.V_lower (Kd.V_mono (ok':= fun k_=>some k_ ≠ (v491 : Value).ownBlock∧k_ ≠ gb476∧k_ ≠ gb485∧k_ ≠ gb494) ho0 (fun k_ hk_=>⟨Or.elim hk_ (fun hs_=>fun e_=>Nat.not_le.2 hs_ (Kd.R_base HO492.out k_ e_.symm)) (fun hn_=>(Kd.fresh' (Kd.R_lt (by (with_reducible repeat (first|apply rA|apply rN|apply rD));exact HO492.out)) k_ hn_)),Or.elim hk_ (fun hs_=>fun e_=>Nat.not_le.2 hs_ (by rw [e_];exact GW476.out)) (fun hn_=>(Kd.freshB (g:=gb476) (o:=.cells #[.slice A0_0 l0_0.length c0_0,.int .i64 a0_1] 24 (0,0)) (by (with_reducible repeat (first|apply bN|apply bD|apply bA));exact BK476.out) k_ hn_)),Or.elim hk_ (fun hs_=>fun e_=>Nat.not_le.2 hs_ (by rw [e_];exact GW485.out)) (fun hn_=>(Kd.freshB (g:=gb485) (o:=.cells #[.slice Ao27 t480.length co27,.int .i64 t483] 24 (0,0)) (by (with_reducible repeat (first|apply bN|apply bD|apply bA));exact BK485.out) k_ hn_)),Or.elim hk_ (fun hs_=>fun e_=>Nat.not_le.2 hs_ (by rw [e_];exact GW494.out)) (fun hn_=>(Kd.freshB (g:=gb494) (o:=.cells #[.slice Ao34 t486.length co34,.int .i64 t489] 24 (0,0)) (by (with_reducible repeat (first|apply bN|apply bD|apply bA));exact BK494.out) k_ hn_))⟩)) (below_size (by repeat (first|(with_reducible first|exact HB.out|apply lA|apply lN|apply lD|refine lS ?_ GE476.out|refine lS ?_ GE485.out|refine lS ?_ GE494.out)|exact HB.out))))
         have n4_:=mK (blk_below (g:=gb476) (o:=.cells #[.slice A0_0 l0_0.length c0_0,.int .i64 a0_1] 24 (0,0)) (by (with_reducible repeat (first|apply bN|apply bD|apply bA));exact BK476.out) hb)
         have n5_:=mK (blk_below (g:=gb485) (o:=.cells #[.slice Ao27 t480.length co27,.int .i64 t483] 24 (0,0)) (by (with_reducible repeat (first|apply bN|apply bD|apply bA));exact BK485.out) hb)
         have n6_:=mK (blk_below (g:=gb494) (o:=.cells #[.slice Ao34 t486.length co34,.int .i64 t489] 24 (0,0)) (by (with_reducible repeat (first|apply bN|apply bD|apply bA));exact BK494.out) hb)
         have n7_:=mK (below_step (by repeat (first|(with_reducible first|exact HB.out|apply lA|apply lN|apply lD|refine lS ?_ GE476.out|refine lS ?_ GE485.out|refine lS ?_ GE494.out)|exact HB.out)) hb)
         clear HO482
         clear HO488
         clear HO492
         clear BK476
         clear BK485
         clear BK494
         clear HB
         have HO482:=n0_
         have HO488:=n1_
         have HO492:=n2_
         have HO499:=n3_
         have BK476:=n4_
         have BK485:=n5_
         have BK494:=n6_
         have HB:=n7_
         clear n0_ n1_ n2_ n3_ n4_ n5_ n6_ n7_
         (try clear hb)
         (try clear hb2)
         (try clear hk)
         (try clear hi)
         (try clear ho0)
         obtain ⟨Ao71,co71,eo71⟩:=Kd.V_slice HO499.out
         (first|subst eo71|(injection eo71 with f1_ f2_ f3_;have f4_:=f1_.symm;have f5_:=f3_.symm;clear f1_ f2_ f3_;subst f4_;subst f5_))
         refine hK.out _ _ ⟨(blk_cell BK485.out 0).trans rfl,(blk_cell BK485.out 1).trans rfl,(blk_cell BK494.out 0).trans rfl,(blk_cell BK494.out 1).trans rfl,(blk_cell BK476.out 0).trans rfl,(blk_cell BK476.out 1).trans rfl⟩ (fun hHeld=>?_)
         clear hK K
         refine norm_ (a':=?_) ?_ ?_
         rotate_left
         ·show Act.put _ (some 50) _ = _
          simp only [Act.put,sT,sZ,sS,i64_w,i32_w]
          rfl
         refine one_ (i:=12) (N:=some 51) #[τ,τ,τ,τ,τ,τ,τ,τ,τ,τ,τ,τ,τ,φ,φ,φ,φ,φ,φ,φ,φ,φ,φ,φ,φ,φ,φ,φ,φ,φ,φ,φ] rfl rfl (one_of HT_.out (by kernel_rfl)) (by decide) (fun K hK=>?_)
         refine goes_ Try.func20 (by kernel_rfl) rfl #[.agg #[.slice Ao71 t497.length co71,.int .i64 t500]] (by rfl) rfl rfl (by (try simp only [List.map_toArray,List.map_cons,List.map_nil]);first|done|rfl|(simp only [List.length_drop,List.length_take];rfl)) ?_
         with_reducible refine (link_Check.calls _ _ t497 t500 true _ ?side1 ?side2 A43.out).mono ?_
         (case side1=>repeat (first|exact (Kd.V_reads' HO499.out).2.2|(with_reducible refine Kd.C_alloc ?_ _)|(with_reducible refine Kd.C_drewN ?_ _)|(with_reducible refine Kd.C_drew ?_)))
         (case side2=>exact (Kd.V_reads' HO499.out).2.1)
         rintro e w72 ⟨rfl,hb⟩
         refine ⟨_,rfl,?_⟩
         have n0_:=mK (Kd.V_below (by (with_reducible repeat (first|apply vA|apply vN|apply vD));exact HO482.out) hb)
         have n1_:=mK (Kd.V_below (by (with_reducible repeat (first|apply vA|apply vN|apply vD));exact HO488.out) hb)
         have n2_:=mK (Kd.R_below (by (with_reducible repeat (first|apply rA|apply rN|apply rD));exact HO492.out) hb)
         have n4_:=mK (blk_below (g:=gb476) (o:=.cells #[.slice A0_0 l0_0.length c0_0,.int .i64 a0_1] 24 (0,0)) (by (with_reducible repeat (first|apply bN|apply bD|apply bA));exact BK476.out) hb)
         have n5_:=mK (blk_below (g:=gb485) (o:=.cells #[.slice Ao27 t480.length co27,.int .i64 t483] 24 (0,0)) (by (with_reducible repeat (first|apply bN|apply bD|apply bA));exact BK485.out) hb)
         have n6_:=mK (blk_below (g:=gb494) (o:=.cells #[.slice Ao34 t486.length co34,.int .i64 t489] 24 (0,0)) (by (with_reducible repeat (first|apply bN|apply bD|apply bA));exact BK494.out) hb)
         have n7_:=mK (below_step (by repeat (first|(with_reducible first|exact HB.out|apply lA|apply lN|apply lD|refine lS ?_ GE476.out|refine lS ?_ GE485.out|refine lS ?_ GE494.out)|exact HB.out)) hb)
         clear HO482
         clear HO488
         clear HO492
         clear BK476
         clear BK485
         clear BK494
         clear HB
         have HO482:=n0_
         have HO488:=n1_
         have HO492:=n2_
         have BK476:=n4_
         have BK485:=n5_
         have BK494:=n6_
         have HB:=n7_
         clear n0_ n1_ n2_ n4_ n5_ n6_ n7_
         (try clear hb)
         (try clear hb2)
         (try clear hk)
         (try clear hi)
         refine hK.out _ _ ⟨(blk_cell BK485.out 0).trans rfl,(blk_cell BK485.out 1).trans rfl,(blk_cell BK494.out 0).trans rfl,(blk_cell BK494.out 1).trans rfl,(blk_cell BK476.out 0).trans rfl,(blk_cell BK476.out 1).trans rfl⟩ (fun hHeld=>?_)
         clear hK K
         refine norm_ (a':=?_) ?_ ?_
         rotate_left
         ·show Act.put _ (some 51) _ = _
          simp only [Act.put,sT,sZ,sS,i64_w,i32_w]
          rfl
         refine pure_ (i:=13) (N:=some 52) (v:=?_) (a':=?_) #[τ,τ,τ,τ,τ,τ,τ,τ,τ,τ,τ,τ,τ,τ,φ,φ,φ,φ,φ,φ,φ,φ,φ,φ,φ,φ,φ,φ,φ,φ,φ,φ] rfl rfl (any_of HT_.out (by kernel_rfl)) (fun _ _ _ h=>h) (Or.inl ⟨by rfl,?_⟩) ?_ ?_
         rotate_left
         ·intro w'
          go_simp
          with_reducible rfl
         rotate_left
         ·simp only [Act.put,sT,sZ,sS,i64_w,i32_w]
          rfl
         refine pure_ (i:=14) (N:=some 53) (v:=?_) (a':=?_) #[τ,τ,τ,τ,τ,τ,τ,τ,τ,τ,τ,τ,τ,τ,τ,φ,φ,φ,φ,φ,φ,φ,φ,φ,φ,φ,φ,φ,φ,φ,φ,φ] rfl rfl (any_of HT_.out (by kernel_rfl)) (fun _ _ _ h=>h) (Or.inl ⟨by rfl,?_⟩) ?_ ?_
         rotate_left
         ·intro w'
          go_simp
          with_reducible rfl
         rotate_left
         ·simp only [Act.put,sT,sZ,sS,i64_w,i32_w]
          rfl
         refine pure_ (i:=15) (N:=some 54) (v:=?_) (a':=?_) #[τ,τ,τ,τ,τ,τ,τ,τ,τ,τ,τ,τ,τ,τ,τ,τ,φ,φ,φ,φ,φ,φ,φ,φ,φ,φ,φ,φ,φ,φ,φ,φ] rfl rfl (any_of HT_.out (by kernel_rfl)) (fun _ _ _ h=>h) (Or.inl ⟨by rfl,?_⟩) ?_ ?_
         rotate_left
         ·intro w'
          go_simp
          with_reducible rfl
         rotate_left
         ·simp only [Act.put,sT,sZ,sS,i64_w,i32_w]
          rfl
         refine pure_ (i:=17) (N:=some 56) (v:=?_) (a':=?_) #[τ,τ,τ,τ,τ,τ,τ,τ,τ,τ,τ,τ,τ,τ,τ,τ,φ,τ,φ,φ,φ,φ,φ,φ,φ,φ,φ,φ,φ,φ,φ,φ] rfl rfl (any_of HT_.out (by kernel_rfl)) (fun _ _ _ h=>h) (Or.inl ⟨by rfl,?_⟩) ?_ ?_
         rotate_left
         ·intro w'
          go_simp
          with_reducible rfl
         rotate_left
         ·simp only [Act.put,sT,sZ,sS,i64_w,i32_w]
          rfl
         refine take_ (i:=16) (N:=some 55) (v:=?_) (a':=?_) #[τ,τ,τ,τ,τ,τ,τ,τ,τ,τ,τ,τ,τ,τ,τ,τ,τ,τ,φ,φ,φ,φ,φ,φ,φ,φ,φ,φ,φ,φ,φ,φ] rfl rfl (take_ofW HT_.out HW_.out (by kernel_rfl)) (fun _ _ _ h=>h) (Or.inl ⟨by rfl,?_⟩) hHeld ?_ ?_
         rotate_left
         ·rintro w' ⟨s0,s1,s2,s3,s4,s5⟩
          go_simp
          with_reducible rfl
         rotate_left
         ·simp only [Act.put,sT,sZ,sS,i64_w,i32_w]
          rfl
         refine one_ (i:=18) (N:=some 57) #[τ,τ,τ,τ,τ,τ,τ,τ,τ,τ,τ,τ,τ,τ,τ,τ,τ,τ,τ,φ,φ,φ,φ,φ,φ,φ,φ,φ,φ,φ,φ,φ] rfl rfl (one_of HT_.out (by kernel_rfl)) (by decide) (fun K hK=>?_)
         refine goes_ Try.func16 (by kernel_rfl) rfl #[.agg #[.slice A0_0 l0_0.length c0_0,.int .i64 a0_1],.int .i64 a2] (by rfl) rfl rfl (by (try simp only [List.map_toArray,List.map_cons,List.map_nil]);first|done|rfl|(simp only [List.length_drop,List.length_take];rfl)) ?_
         with_reducible refine (link_Twice.calls kj3 (fun k_=>k_ < w.heap.size) _ _ l0_0 a0_1 a2 t502 t505 _ ?side1 A45.out).mono ?_
         (case side1=>exact Kd.V_mk HC0_0.out (Kd.F_below (Kd.C_F (Kd.heap_slice 5 (Kd.heap_int .u8)) HR0_0.out) (by repeat (first|(with_reducible first|exact HB.out|apply lA|apply lN|apply lD|refine lS ?_ GE476.out|refine lS ?_ GE485.out|refine lS ?_ GE494.out)|exact HB.out))))
         rintro e w73 ⟨v503,rfl,ho0,hb⟩
         refine ⟨_,rfl,?_⟩
         have n0_:=mK (Kd.V_below (by (with_reducible repeat (first|apply vA|apply vN|apply vD));exact HO482.out) hb)
         have n1_:=mK (Kd.V_below (by (with_reducible repeat (first|apply vA|apply vN|apply vD));exact HO488.out) hb)
         have n4_:=mK (Kd.V_lower (Kd.V_mono (ok':= fun k_=>some k_ ≠ (v491 : Value).ownBlock∧k_ ≠ gb476∧k_ ≠ gb485∧k_ ≠ gb494) ho0 (fun k_ hk_=>⟨Or.elim hk_ (fun hs_=>fun e_=>Nat.not_le.2 hs_ (Kd.R_base HO492.out k_ e_.symm)) (fun hn_=>(Kd.fresh' (Kd.R_lt (by (with_reducible repeat (first|apply rA|apply rN|apply rD));exact HO492.out)) k_ hn_)),Or.elim hk_ (fun hs_=>fun e_=>Nat.not_le.2 hs_ (by rw [e_];exact GW476.out)) (fun hn_=>(Kd.freshB (g:=gb476) (o:=.cells #[.slice A0_0 l0_0.length c0_0,.int .i64 a0_1] 24 (0,0)) (by (with_reducible repeat (first|apply bN|apply bD|apply bA));exact BK476.out) k_ hn_)),Or.elim hk_ (fun hs_=>fun e_=>Nat.not_le.2 hs_ (by rw [e_];exact GW485.out)) (fun hn_=>(Kd.freshB (g:=gb485) (o:=.cells #[.slice Ao27 t480.length co27,.int .i64 t483] 24 (0,0)) (by (with_reducible repeat (first|apply bN|apply bD|apply bA));exact BK485.out) k_ hn_)),Or.elim hk_ (fun hs_=>fun e_=>Nat.not_le.2 hs_ (by rw [e_];exact GW494.out)) (fun hn_=>(Kd.freshB (g:=gb494) (o:=.cells #[.slice Ao34 t486.length co34,.int .i64 t489] 24 (0,0)) (by (with_reducible repeat (first|apply bN|apply bD|apply bA));exact BK494.out) k_ hn_))⟩)) (below_size (by repeat (first|(with_reducible first|exact HB.out|apply lA|apply lN|apply lD|refine lS ?_ GE476.out|refine lS ?_ GE485.out|refine lS ?_ GE494.out)|exact HB.out))))
         have n5_:=mK (blk_below (g:=gb476) (o:=.cells #[.slice A0_0 l0_0.length c0_0,.int .i64 a0_1] 24 (0,0)) (by (with_reducible repeat (first|apply bN|apply bD|apply bA));exact BK476.out) hb)
         have n6_:=mK (blk_below (g:=gb485) (o:=.cells #[.slice Ao27 t480.length co27,.int .i64 t483] 24 (0,0)) (by (with_reducible repeat (first|apply bN|apply bD|apply bA));exact BK485.out) hb)
         have n7_:=mK (blk_below (g:=gb494) (o:=.cells #[.slice Ao34 t486.length co34,.int .i64 t489] 24 (0,0)) (by (with_reducible repeat (first|apply bN|apply bD|apply bA));exact BK494.out) hb)
         have n8_:=mK (below_step (by repeat (first|(with_reducible first|exact HB.out|apply lA|apply lN|apply lD|refine lS ?_ GE476.out|refine lS ?_ GE485.out|refine lS ?_ GE494.out)|exact HB.out)) hb)
         clear HO482
         clear HO488
         clear BK476
         clear BK485
         clear BK494
         clear HB
         have HO482:=n0_
         have HO488:=n1_
         have HO504:=n4_
         have BK476:=n5_
         have BK485:=n6_
         have BK494:=n7_
         have HB:=n8_
         clear n0_ n1_ n4_ n5_ n6_ n7_ n8_
         (try clear hb)
         (try clear hb2)
         (try clear hk)
         (try clear hi)
         (try clear ho0)
         obtain ⟨Ao74,co74,eo74⟩:=Kd.V_slice HO504.out
         (first|subst eo74|(injection eo74 with f1_ f2_ f3_;have f4_:=f1_.symm;have f5_:=f3_.symm;clear f1_ f2_ f3_;subst f4_;subst f5_))
         refine hK.out _ _ ⟨(blk_cell BK485.out 0).trans rfl,(blk_cell BK485.out 1).trans rfl,(blk_cell BK494.out 0).trans rfl,(blk_cell BK494.out 1).trans rfl,(blk_cell BK476.out 0).trans rfl,(blk_cell BK476.out 1).trans rfl⟩ (fun hHeld=>?_)
         clear hK K
         refine norm_ (a':=?_) ?_ ?_
         rotate_left
         ·show Act.put _ (some 57) _ = _
          simp only [Act.put,sT,sZ,sS,i64_w,i32_w]
          rfl
         refine one_ (i:=19) (N:=some 58) #[τ,τ,τ,τ,τ,τ,τ,τ,τ,τ,τ,τ,τ,τ,τ,τ,τ,τ,τ,τ,φ,φ,φ,φ,φ,φ,φ,φ,φ,φ,φ,φ] rfl rfl (one_of HT_.out (by kernel_rfl)) (by decide) (fun K hK=>?_)
         refine goes_ Try.func20 (by kernel_rfl) rfl #[.agg #[.slice Ao74 t502.length co74,.int .i64 t505]] (by rfl) rfl rfl (by (try simp only [List.map_toArray,List.map_cons,List.map_nil]);first|done|rfl|(simp only [List.length_drop,List.length_take];rfl)) ?_
         with_reducible refine (link_Check.calls _ _ t502 t505 false _ ?side1 ?side2 A46.out).mono ?_
         (case side1=>repeat (first|exact (Kd.V_reads' HO504.out).2.2|(with_reducible refine Kd.C_alloc ?_ _)|(with_reducible refine Kd.C_drewN ?_ _)|(with_reducible refine Kd.C_drew ?_)))
         (case side2=>exact (Kd.V_reads' HO504.out).2.1)
         rintro e w75 ⟨rfl,hb⟩
         refine ⟨_,rfl,?_⟩
         have n0_:=mK (Kd.V_below (by (with_reducible repeat (first|apply vA|apply vN|apply vD));exact HO482.out) hb)
         have n1_:=mK (Kd.V_below (by (with_reducible repeat (first|apply vA|apply vN|apply vD));exact HO488.out) hb)
         have n5_:=mK (blk_below (g:=gb476) (o:=.cells #[.slice A0_0 l0_0.length c0_0,.int .i64 a0_1] 24 (0,0)) (by (with_reducible repeat (first|apply bN|apply bD|apply bA));exact BK476.out) hb)
         have n6_:=mK (blk_below (g:=gb485) (o:=.cells #[.slice Ao27 t480.length co27,.int .i64 t483] 24 (0,0)) (by (with_reducible repeat (first|apply bN|apply bD|apply bA));exact BK485.out) hb)
         have n7_:=mK (blk_below (g:=gb494) (o:=.cells #[.slice Ao34 t486.length co34,.int .i64 t489] 24 (0,0)) (by (with_reducible repeat (first|apply bN|apply bD|apply bA));exact BK494.out) hb)
         have n8_:=mK (below_step (by repeat (first|(with_reducible first|exact HB.out|apply lA|apply lN|apply lD|refine lS ?_ GE476.out|refine lS ?_ GE485.out|refine lS ?_ GE494.out)|exact HB.out)) hb)
         clear HO482
         clear HO488
         clear BK476
         clear BK485
         clear BK494
         clear HB
         have HO482:=n0_
         have HO488:=n1_
         have BK476:=n5_
         have BK485:=n6_
         have BK494:=n7_
         have HB:=n8_
         clear n0_ n1_ n5_ n6_ n7_ n8_
         (try clear hb)
         (try clear hb2)
         (try clear hk)
         (try clear hi)
         refine hK.out _ _ ⟨(blk_cell BK485.out 0).trans rfl,(blk_cell BK485.out 1).trans rfl,(blk_cell BK494.out 0).trans rfl,(blk_cell BK494.out 1).trans rfl,(blk_cell BK476.out 0).trans rfl,(blk_cell BK476.out 1).trans rfl⟩ (fun hHeld=>?_)
         clear hK K
         refine norm_ (a':=?_) ?_ ?_
         rotate_left
         ·show Act.put _ (some 58) _ = _
          simp only [Act.put,sT,sZ,sS,i64_w,i32_w]
          rfl
         refine pure_ (i:=20) (N:=some 59) (v:=?_) (a':=?_) #[τ,τ,τ,τ,τ,τ,τ,τ,τ,τ,τ,τ,τ,τ,τ,τ,τ,τ,τ,τ,τ,φ,φ,φ,φ,φ,φ,φ,φ,φ,φ,φ] rfl rfl (any_of HT_.out (by kernel_rfl)) (fun _ _ _ h=>h) (Or.inl ⟨by rfl,?_⟩) ?_ ?_
         rotate_left
         ·intro w'
          go_simp
          with_reducible rfl
         rotate_left
         ·simp only [Act.put,sT,sZ,sS,i64_w,i32_w]
          rfl
         refine pure_ (i:=21) (N:=some 60) (v:=?_) (a':=?_) #[τ,τ,τ,τ,τ,τ,τ,τ,τ,τ,τ,τ,τ,τ,τ,τ,τ,τ,τ,τ,τ,τ,φ,φ,φ,φ,φ,φ,φ,φ,φ,φ] rfl rfl (any_of HT_.out (by kernel_rfl)) (fun _ _ _ h=>h) (Or.inl ⟨by rfl,?_⟩) ?_ ?_
         rotate_left
         ·intro w'
          go_simp
          with_reducible rfl
         rotate_left
         ·simp only [Act.put,sT,sZ,sS,i64_w,i32_w]
          rfl
         refine pure_ (i:=22) (N:=some 61) (v:=?_) (a':=?_) #[τ,τ,τ,τ,τ,τ,τ,τ,τ,τ,τ,τ,τ,τ,τ,τ,τ,τ,τ,τ,τ,τ,τ,φ,φ,φ,φ,φ,φ,φ,φ,φ] rfl rfl (any_of HT_.out (by kernel_rfl)) (fun _ _ _ h=>h) (Or.inl ⟨by rfl,?_⟩) ?_ ?_
         rotate_left
         ·intro w'
          go_simp
          with_reducible rfl
         rotate_left
         ·simp only [Act.put,sT,sZ,sS,i64_w,i32_w]
          rfl
         refine pure_ (i:=23) (N:=some 62) (v:=undef) (a':=?_) #[τ,τ,τ,τ,τ,τ,τ,τ,τ,τ,τ,τ,τ,τ,τ,τ,τ,τ,τ,τ,τ,τ,τ,τ,φ,φ,φ,φ,φ,φ,φ,φ] rfl rfl (any_of HT_.out (by kernel_rfl)) (fun _ _ _ h=>h) (Or.inr ⟨by rfl,rfl⟩) ?_ ?_
         rotate_left
         ·simp only [Act.put,sT,sZ,sS,i64_w,i32_w]
          rfl
         refine pure_ (i:=24) (N:=some 63) (v:=undef) (a':=?_) #[τ,τ,τ,τ,τ,τ,τ,τ,τ,τ,τ,τ,τ,τ,τ,τ,τ,τ,τ,τ,τ,τ,τ,τ,τ,φ,φ,φ,φ,φ,φ,φ] rfl rfl (any_of HT_.out (by kernel_rfl)) (fun _ _ _ h=>h) (Or.inr ⟨by rfl,rfl⟩) ?_ ?_
         rotate_left
         ·simp only [Act.put,sT,sZ,sS,i64_w,i32_w]
          rfl
         refine pure_ (i:=25) (N:=some 64) (v:=undef) (a':=?_) #[τ,τ,τ,τ,τ,τ,τ,τ,τ,τ,τ,τ,τ,τ,τ,τ,τ,τ,τ,τ,τ,τ,τ,τ,τ,τ,φ,φ,φ,φ,φ,φ] rfl rfl (any_of HT_.out (by kernel_rfl)) (fun _ _ _ h=>h) (Or.inr ⟨by rfl,rfl⟩) ?_ ?_
         rotate_left
         ·simp only [Act.put,sT,sZ,sS,i64_w,i32_w]
          rfl
         refine pure_ (i:=26) (N:=some 65) (v:=undef) (a':=?_) #[τ,τ,τ,τ,τ,τ,τ,τ,τ,τ,τ,τ,τ,τ,τ,τ,τ,τ,τ,τ,τ,τ,τ,τ,τ,τ,τ,φ,φ,φ,φ,φ] rfl rfl (any_of HT_.out (by kernel_rfl)) (fun _ _ _ h=>h) (Or.inr ⟨by rfl,rfl⟩) ?_ ?_
         rotate_left
         ·simp only [Act.put,sT,sZ,sS,i64_w,i32_w]
          rfl
         refine pure_ (i:=27) (N:=some 66) (v:=undef) (a':=?_) #[τ,τ,τ,τ,τ,τ,τ,τ,τ,τ,τ,τ,τ,τ,τ,τ,τ,τ,τ,τ,τ,τ,τ,τ,τ,τ,τ,τ,φ,φ,φ,φ] rfl rfl (any_of HT_.out (by kernel_rfl)) (fun _ _ _ h=>h) (Or.inr ⟨by rfl,rfl⟩) ?_ ?_
         rotate_left
         ·simp only [Act.put,sT,sZ,sS,i64_w,i32_w]
          rfl
         refine pure_ (i:=28) (N:=some 67) (v:=undef) (a':=?_) #[τ,τ,τ,τ,τ,τ,τ,τ,τ,τ,τ,τ,τ,τ,τ,τ,τ,τ,τ,τ,τ,τ,τ,τ,τ,τ,τ,τ,τ,φ,φ,φ] rfl rfl (any_of HT_.out (by kernel_rfl)) (fun _ _ _ h=>h) (Or.inr ⟨by rfl,rfl⟩) ?_ ?_
         rotate_left
         ·simp only [Act.put,sT,sZ,sS,i64_w,i32_w]
          rfl
         refine pure_ (i:=29) (N:=some 68) (v:=undef) (a':=?_) #[τ,τ,τ,τ,τ,τ,τ,τ,τ,τ,τ,τ,τ,τ,τ,τ,τ,τ,τ,τ,τ,τ,τ,τ,τ,τ,τ,τ,τ,τ,φ,φ] rfl rfl (any_of HT_.out (by kernel_rfl)) (fun _ _ _ h=>h) (Or.inr ⟨by rfl,rfl⟩) ?_ ?_
         rotate_left
         ·simp only [Act.put,sT,sZ,sS,i64_w,i32_w]
          rfl
         refine pure_ (i:=30) (N:=some 69) (v:=undef) (a':=?_) #[τ,τ,τ,τ,τ,τ,τ,τ,τ,τ,τ,τ,τ,τ,τ,τ,τ,τ,τ,τ,τ,τ,τ,τ,τ,τ,τ,τ,τ,τ,τ,φ] rfl rfl (any_of HT_.out (by kernel_rfl)) (fun _ _ _ h=>h) (Or.inr ⟨by rfl,rfl⟩) ?_ ?_
         rotate_left
         ·simp only [Act.put,sT,sZ,sS,i64_w,i32_w]
          rfl
         refine pure_ (i:=31) (N:=some 70) (v:=?_) (a':=?_) #[τ,τ,τ,τ,τ,τ,τ,τ,τ,τ,τ,τ,τ,τ,τ,τ,τ,τ,τ,τ,τ,τ,τ,τ,τ,τ,τ,τ,τ,τ,τ,τ] rfl rfl (any_of HT_.out (by kernel_rfl)) (fun _ _ _ h=>h) (Or.inl ⟨by rfl,?_⟩) ?_ ?_
         rotate_left
         ·intro w'
          go_simp
          with_reducible rfl
         rotate_left
         ·simp only [Act.put,sT,sZ,sS,i64_w,i32_w]
          rfl
         refine done_ (done_of HT_.out (by kernel_rfl)) ?_
         try go_wp2
         go_meet
         case rel=>exact ⟨_,(true),(by first|rfl|(simp;done)|(simp [*];done)),H',⟨by have:=HJ3.out;first|omega|exact Nat.le_refl _⟩,⟨by (with_reducible repeat (first|apply vA|apply vN|apply vD));exact Kd.V_mono HO482.out (fun _ hk=>⟨hk.2.1,⟨hk.2.2.1,hk.2.2.2⟩⟩)⟩,⟨by (with_reducible repeat (first|apply vA|apply vN|apply vD));exact Kd.V_mono HO488.out (fun _ hk=>⟨hk.2.1,⟨hk.2.2.1,hk.2.2.2⟩⟩)⟩,⟨by (with_reducible repeat (first|apply bN|apply bD|apply bA));exact BK476.out⟩,⟨by (with_reducible repeat (first|apply bN|apply bD|apply bA));exact BK485.out⟩,⟨by (with_reducible repeat (first|apply bN|apply bD|apply bA));exact BK494.out⟩,⟨by repeat (first|(with_reducible first|exact HB.out|apply lA|apply lN|apply lD|refine lS ?_ GE476.out|refine lS ?_ GE485.out|refine lS ?_ GE494.out)|exact HB.out)⟩⟩
       ·replace c44:=Bool.eq_false_iff.mpr c44
        subst c44
        have H1 : (drawbridgelaw23_LinkStays.j1 kj3 a2 true l0_0 a0_1) = some r:= by rw [if_neg (show ¬ (false = true) by decide)] at H;exact H
        clear H
        have H:=H1
        clear H1
        have H':=mK H
        clear H
        try go_wp2
        have n0_ : Aside0 (Kd.V (Kd.slice 5 (Kd.int .u8)) 25 ((w33.setCell ⟨gb494,0,none⟩ (.slice Ao34 t486.length co34)).setCell ⟨gb494,1,none⟩ (.int .i64 t489)) w.heap.size (fun k_=>some k_ ≠ (v491 : Value).ownBlock∧k_ ≠ gb476∧k_ ≠ gb485∧k_ ≠ gb494) (.slice Ao27 t480.length co27) t480):=⟨by (with_reducible repeat (first|apply vA|apply vN|apply vD));exact Kd.V_mono (Kd.V_far (p:=⟨gb494,1,none⟩) (Kd.V_far (p:=⟨gb494,0,none⟩) (Kd.V_mono HO482.out (fun k_ hk=>(⟨hk,hk.2⟩ : _∧k_ ≠ gb494))) (fun _ hk=>hk.2) (.slice Ao34 t486.length co34)) (fun _ hk=>hk.2) (.int .i64 t489)) (fun _ hk=>⟨hk.1.1.2,⟨hk.1.1.1.1,⟨hk.1.1.1.2,hk.1.2⟩⟩⟩)⟩
        have n1_ : Aside0 (Kd.V (Kd.slice 5 (Kd.int .u8)) 25 ((w33.setCell ⟨gb494,0,none⟩ (.slice Ao34 t486.length co34)).setCell ⟨gb494,1,none⟩ (.int .i64 t489)) w.heap.size (fun k_=>some k_ ≠ (v491 : Value).ownBlock∧k_ ≠ gb476∧k_ ≠ gb485∧k_ ≠ gb494) (.slice Ao34 t486.length co34) t486):=⟨by (with_reducible repeat (first|apply vA|apply vN|apply vD));exact Kd.V_mono (Kd.V_far (p:=⟨gb494,1,none⟩) (Kd.V_far (p:=⟨gb494,0,none⟩) (Kd.V_mono HO488.out (fun k_ hk=>(⟨hk,hk.2⟩ : _∧k_ ≠ gb494))) (fun _ hk=>hk.2) (.slice Ao34 t486.length co34)) (fun _ hk=>hk.2) (.int .i64 t489)) (fun _ hk=>⟨hk.1.1.1,⟨hk.1.1.2.1,⟨hk.1.1.2.2,hk.1.2⟩⟩⟩)⟩
        have n2_ : Aside0 (Kd.R (Kd.int .u8) 5 ((w33.setCell ⟨gb494,0,none⟩ (.slice Ao34 t486.length co34)).setCell ⟨gb494,1,none⟩ (.int .i64 t489)) w.heap.size (fun _=>True) v491 t490):=⟨by (with_reducible repeat (first|apply rA|apply rN|apply rD));exact Kd.R_mono (Kd.R_far (p:=⟨gb494,1,none⟩) (Kd.R_far (p:=⟨gb494,0,none⟩) (Kd.R_types HO492.out BK494.out (by decide)) (fun _ hk=>hk.2) (.slice Ao34 t486.length co34)) (fun _ hk=>hk.2) (.int .i64 t489)) (fun _ hk=>trivial)⟩
        have n3_ : Aside0 (((w33.setCell ⟨gb494,0,none⟩ (.slice Ao34 t486.length co34)).setCell ⟨gb494,1,none⟩ (.int .i64 t489)).heap[gb476]? = some (.cells #[.slice A0_0 l0_0.length c0_0,.int .i64 a0_1] 24 (0,0))):=⟨by (with_reducible repeat (first|apply bN|apply bD|apply bA));refine blk_far ?_ NB476_494.out _;(with_reducible repeat (first|apply bN|apply bD|apply bA));refine blk_far ?_ NB476_494.out _;(with_reducible repeat (first|apply bN|apply bD|apply bA));exact BK476.out⟩
        have n4_ : Aside0 (((w33.setCell ⟨gb494,0,none⟩ (.slice Ao34 t486.length co34)).setCell ⟨gb494,1,none⟩ (.int .i64 t489)).heap[gb485]? = some (.cells #[.slice Ao27 t480.length co27,.int .i64 t483] 24 (0,0))):=⟨by (with_reducible repeat (first|apply bN|apply bD|apply bA));refine blk_far ?_ NB485_494.out _;(with_reducible repeat (first|apply bN|apply bD|apply bA));refine blk_far ?_ NB485_494.out _;(with_reducible repeat (first|apply bN|apply bD|apply bA));exact BK485.out⟩
        have n5_ : Aside0 (((w33.setCell ⟨gb494,0,none⟩ (.slice Ao34 t486.length co34)).setCell ⟨gb494,1,none⟩ (.int .i64 t489)).heap[gb494]? = some (.cells #[.slice Ao34 t486.length co34,.int .i64 t489] 24 (0,0))):=⟨by (with_reducible repeat (first|apply bN|apply bD|apply bA));refine blk_put (cs:=#[.slice Ao34 t486.length co34,.int .i64 0]) ?_ 1 _ rfl;(with_reducible repeat (first|apply bN|apply bD|apply bA));refine blk_put (cs:=#[.slice none 0 0,.int .i64 0]) ?_ 0 _ rfl;(with_reducible repeat (first|apply bN|apply bD|apply bA));exact BK494.out⟩
        have n6_ : Aside0 (Below w.heap.size w ((w33.setCell ⟨gb494,0,none⟩ (.slice Ao34 t486.length co34)).setCell ⟨gb494,1,none⟩ (.int .i64 t489))):=⟨by repeat (first|(with_reducible first|exact HB.out|apply lA|apply lN|apply lD|refine lS ?_ GE476.out|refine lS ?_ GE485.out|refine lS ?_ GE494.out)|exact HB.out)⟩
        (try clear HO482)
        (try clear HO488)
        (try clear HO492)
        (try clear BK476)
        (try clear BK485)
        (try clear BK494)
        (try clear HB)
        generalize ((w33.setCell ⟨gb494,0,none⟩ (.slice Ao34 t486.length co34)).setCell ⟨gb494,1,none⟩ (.int .i64 t489)) = w76 at n0_ n1_ n2_ n3_ n4_ n5_ n6_ ⊢
        have HO482:=n0_
        have HO488:=n1_
        have HO492:=n2_
        have BK476:=n3_
        have BK485:=n4_
        have BK494:=n5_
        have HB:=n6_
        clear n0_ n1_ n2_ n3_ n4_ n5_ n6_
        have n0_:=mK (Kd.V_drew HO482.out)
        have n1_:=mK (Kd.V_drew HO488.out)
        have n2_:=mK (Kd.R_drew HO492.out)
        have n3_:=mK (blk_drew BK476.out)
        have n4_:=mK (blk_drew BK485.out)
        have n5_:=mK (blk_drew BK494.out)
        have n6_:=mK (below_drew1 HB.out)
        clear HO482
        clear HO488
        clear HO492
        clear BK476
        clear BK485
        clear BK494
        clear HB
        have HO482:=n0_
        have HO488:=n1_
        have HO492:=n2_
        have BK476:=n3_
        have BK485:=n4_
        have BK494:=n5_
        have HB:=n6_
        clear n0_ n1_ n2_ n3_ n4_ n5_ n6_
        refine start_ (n:=32) (S:= fun w'=>w'.cell? ⟨gb485,0,none⟩ = some (.slice Ao27 t480.length co27)∧w'.cell? ⟨gb485,1,none⟩ = some (.int .i64 t483)∧w'.cell? ⟨gb494,0,none⟩ = some (.slice Ao34 t486.length co34)∧w'.cell? ⟨gb494,1,none⟩ = some (.int .i64 t489)∧w'.cell? ⟨gb476,0,none⟩ = some (.slice A0_0 l0_0.length c0_0)∧w'.cell? ⟨gb476,1,none⟩ = some (.int .i64 a0_1)) (ds:=[]) #[φ,φ,φ,φ,φ,φ,φ,φ,φ,φ,φ,φ,φ,φ,φ,φ,φ,φ,φ,φ,φ,φ,φ,φ,φ,φ,φ,φ,φ,φ,φ,φ] (by kernel_rfl) rfl rfl ⟨(blk_cell BK485.out 0).trans rfl,(blk_cell BK485.out 1).trans rfl,(blk_cell BK494.out 0).trans rfl,(blk_cell BK494.out 1).trans rfl,(blk_cell BK476.out 0).trans rfl,(blk_cell BK476.out 1).trans rfl⟩ (fun hHeld=>?_);refine with_tabW drawbridgelaw23_LinkStays.tab5 drawbridgelaw23_LinkStays.bits5 (fun HT_ HW_=>?_)
        generalize w76.drew = w77 at HO482 HO488 HO492 BK476 BK485 BK494 HB hHeld ⊢
        refine take_ (i:=0) (N:=some 39) (v:=?_) (a':=?_) #[τ,φ,φ,φ,φ,φ,φ,φ,φ,φ,φ,φ,φ,φ,φ,φ,φ,φ,φ,φ,φ,φ,φ,φ,φ,φ,φ,φ,φ,φ,φ,φ] rfl rfl (take_ofW HT_.out HW_.out (by kernel_rfl)) (fun _ _ _ h=>h) (Or.inl ⟨by rfl,?_⟩) hHeld ?_ ?_
        rotate_left
        ·rintro w' ⟨s0,s1,s2,s3,s4,s5⟩
         go_simp
         with_reducible rfl
        rotate_left
        ·simp only [Act.put,sT,sZ,sS,i64_w,i32_w]
         rfl
        refine one_ (i:=1) (N:=some 40) #[τ,τ,φ,φ,φ,φ,φ,φ,φ,φ,φ,φ,φ,φ,φ,φ,φ,φ,φ,φ,φ,φ,φ,φ,φ,φ,φ,φ,φ,φ,φ,φ] rfl rfl (one_of HT_.out (by kernel_rfl)) (by decide) (fun K hK=>?_)
        refine goes_ Try.func20 (by kernel_rfl) rfl #[.agg #[.slice Ao27 t480.length co27,.int .i64 t483]] (by rfl) rfl rfl (by (try simp only [List.map_toArray,List.map_cons,List.map_nil]);first|done|rfl|(simp only [List.length_drop,List.length_take];rfl)) ?_
        with_reducible refine (link_Check.calls _ _ t480 t483 true _ ?side1 ?side2 A38.out).mono ?_
        (case side1=>repeat (first|exact (Kd.V_reads' HO482.out).2.2|(with_reducible refine Kd.C_alloc ?_ _)|(with_reducible refine Kd.C_drewN ?_ _)|(with_reducible refine Kd.C_drew ?_)))
        (case side2=>exact (Kd.V_reads' HO482.out).2.1)
        rintro e w78 ⟨rfl,hb⟩
        refine ⟨_,rfl,?_⟩
        have n0_:=mK (Kd.V_below (by (with_reducible repeat (first|apply vA|apply vN|apply vD));exact HO482.out) hb)
        have n1_:=mK (Kd.V_below (by (with_reducible repeat (first|apply vA|apply vN|apply vD));exact HO488.out) hb)
        have n2_:=mK (Kd.R_below (by (with_reducible repeat (first|apply rA|apply rN|apply rD));exact HO492.out) hb)
        have n3_:=mK (blk_below (g:=gb476) (o:=.cells #[.slice A0_0 l0_0.length c0_0,.int .i64 a0_1] 24 (0,0)) (by (with_reducible repeat (first|apply bN|apply bD|apply bA));exact BK476.out) hb)
        have n4_:=mK (blk_below (g:=gb485) (o:=.cells #[.slice Ao27 t480.length co27,.int .i64 t483] 24 (0,0)) (by (with_reducible repeat (first|apply bN|apply bD|apply bA));exact BK485.out) hb)
        have n5_:=mK (blk_below (g:=gb494) (o:=.cells #[.slice Ao34 t486.length co34,.int .i64 t489] 24 (0,0)) (by (with_reducible repeat (first|apply bN|apply bD|apply bA));exact BK494.out) hb)
        have n6_:=mK (below_step (by repeat (first|(with_reducible first|exact HB.out|apply lA|apply lN|apply lD|refine lS ?_ GE476.out|refine lS ?_ GE485.out|refine lS ?_ GE494.out)|exact HB.out)) hb)
        clear HO482
        clear HO488
        clear HO492
        clear BK476
        clear BK485
        clear BK494
        clear HB
        have HO482:=n0_
        have HO488:=n1_
        have HO492:=n2_
        have BK476:=n3_
        have BK485:=n4_
        have BK494:=n5_
        have HB:=n6_
        clear n0_ n1_ n2_ n3_ n4_ n5_ n6_
        (try clear hb)
        (try clear hb2)
        (try clear hk)
        (try clear hi)
        refine hK.out _ _ ⟨(blk_cell BK485.out 0).trans rfl,(blk_cell BK485.out 1).trans rfl,(blk_cell BK494.out 0).trans rfl,(blk_cell BK494.out 1).trans rfl,(blk_cell BK476.out 0).trans rfl,(blk_cell BK476.out 1).trans rfl⟩ (fun hHeld=>?_)
        clear hK K
        refine norm_ (a':=?_) ?_ ?_
        rotate_left
        ·show Act.put _ (some 40) _ = _
         simp only [Act.put,sT,sZ,sS,i64_w,i32_w]
         rfl
        refine pure_ (i:=2) (N:=some 41) (v:=?_) (a':=?_) #[τ,τ,τ,φ,φ,φ,φ,φ,φ,φ,φ,φ,φ,φ,φ,φ,φ,φ,φ,φ,φ,φ,φ,φ,φ,φ,φ,φ,φ,φ,φ,φ] rfl rfl (any_of HT_.out (by kernel_rfl)) (fun _ _ _ h=>h) (Or.inl ⟨by rfl,?_⟩) ?_ ?_
        rotate_left
        ·intro w'
         go_simp
         with_reducible rfl
        rotate_left
        ·simp only [Act.put,sT,sZ,sS,i64_w,i32_w]
         rfl
        refine pure_ (i:=3) (N:=some 42) (v:=?_) (a':=?_) #[τ,τ,τ,τ,φ,φ,φ,φ,φ,φ,φ,φ,φ,φ,φ,φ,φ,φ,φ,φ,φ,φ,φ,φ,φ,φ,φ,φ,φ,φ,φ,φ] rfl rfl (any_of HT_.out (by kernel_rfl)) (fun _ _ _ h=>h) (Or.inl ⟨by rfl,?_⟩) ?_ ?_
        rotate_left
        ·intro w'
         go_simp
         with_reducible rfl
        rotate_left
        ·simp only [Act.put,sT,sZ,sS,i64_w,i32_w]
         rfl
        refine take_ (i:=4) (N:=some 43) (v:=?_) (a':=?_) #[τ,τ,τ,τ,τ,φ,φ,φ,φ,φ,φ,φ,φ,φ,φ,φ,φ,φ,φ,φ,φ,φ,φ,φ,φ,φ,φ,φ,φ,φ,φ,φ] rfl rfl (take_ofW HT_.out HW_.out (by kernel_rfl)) (fun _ _ _ h=>h) (Or.inl ⟨by rfl,?_⟩) hHeld ?_ ?_
        rotate_left
        ·rintro w' ⟨s0,s1,s2,s3,s4,s5⟩
         go_simp
         with_reducible rfl
        rotate_left
        ·simp only [Act.put,sT,sZ,sS,i64_w,i32_w]
         rfl
        refine one_ (i:=5) (N:=some 44) #[τ,τ,τ,τ,τ,τ,φ,φ,φ,φ,φ,φ,φ,φ,φ,φ,φ,φ,φ,φ,φ,φ,φ,φ,φ,φ,φ,φ,φ,φ,φ,φ] rfl rfl (one_of HT_.out (by kernel_rfl)) (by decide) (fun K hK=>?_)
        refine goes_ Try.func20 (by kernel_rfl) rfl #[.agg #[.slice Ao34 t486.length co34,.int .i64 t489]] (by rfl) rfl rfl (by (try simp only [List.map_toArray,List.map_cons,List.map_nil]);first|done|rfl|(simp only [List.length_drop,List.length_take];rfl)) ?_
        with_reducible refine (link_Check.calls _ _ t486 t489 true _ ?side1 ?side2 A40.out).mono ?_
        (case side1=>repeat (first|exact (Kd.V_reads' HO488.out).2.2|(with_reducible refine Kd.C_alloc ?_ _)|(with_reducible refine Kd.C_drewN ?_ _)|(with_reducible refine Kd.C_drew ?_)))
        (case side2=>exact (Kd.V_reads' HO488.out).2.1)
        rintro e w79 ⟨rfl,hb⟩
        refine ⟨_,rfl,?_⟩
        have n0_:=mK (Kd.V_below (by (with_reducible repeat (first|apply vA|apply vN|apply vD));exact HO482.out) hb)
        have n1_:=mK (Kd.V_below (by (with_reducible repeat (first|apply vA|apply vN|apply vD));exact HO488.out) hb)
        have n2_:=mK (Kd.R_below (by (with_reducible repeat (first|apply rA|apply rN|apply rD));exact HO492.out) hb)
        have n3_:=mK (blk_below (g:=gb476) (o:=.cells #[.slice A0_0 l0_0.length c0_0,.int .i64 a0_1] 24 (0,0)) (by (with_reducible repeat (first|apply bN|apply bD|apply bA));exact BK476.out) hb)
        have n4_:=mK (blk_below (g:=gb485) (o:=.cells #[.slice Ao27 t480.length co27,.int .i64 t483] 24 (0,0)) (by (with_reducible repeat (first|apply bN|apply bD|apply bA));exact BK485.out) hb)
        have n5_:=mK (blk_below (g:=gb494) (o:=.cells #[.slice Ao34 t486.length co34,.int .i64 t489] 24 (0,0)) (by (with_reducible repeat (first|apply bN|apply bD|apply bA));exact BK494.out) hb)
        have n6_:=mK (below_step (by repeat (first|(with_reducible first|exact HB.out|apply lA|apply lN|apply lD|refine lS ?_ GE476.out|refine lS ?_ GE485.out|refine lS ?_ GE494.out)|exact HB.out)) hb)
        clear HO482
        clear HO488
        clear HO492
        clear BK476
        clear BK485
        clear BK494
        clear HB
        have HO482:=n0_
        have HO488:=n1_
        have HO492:=n2_
        have BK476:=n3_
        have BK485:=n4_
        have BK494:=n5_
        have HB:=n6_
        clear n0_ n1_ n2_ n3_ n4_ n5_ n6_
        (try clear hb)
        (try clear hb2)
        (try clear hk)
        (try clear hi)
        refine hK.out _ _ ⟨(blk_cell BK485.out 0).trans rfl,(blk_cell BK485.out 1).trans rfl,(blk_cell BK494.out 0).trans rfl,(blk_cell BK494.out 1).trans rfl,(blk_cell BK476.out 0).trans rfl,(blk_cell BK476.out 1).trans rfl⟩ (fun hHeld=>?_)
        clear hK K
        refine norm_ (a':=?_) ?_ ?_
        rotate_left
        ·show Act.put _ (some 44) _ = _
         simp only [Act.put,sT,sZ,sS,i64_w,i32_w]
         rfl
        refine pure_ (i:=6) (N:=some 45) (v:=?_) (a':=?_) #[τ,τ,τ,τ,τ,τ,τ,φ,φ,φ,φ,φ,φ,φ,φ,φ,φ,φ,φ,φ,φ,φ,φ,φ,φ,φ,φ,φ,φ,φ,φ,φ] rfl rfl (any_of HT_.out (by kernel_rfl)) (fun _ _ _ h=>h) (Or.inl ⟨by rfl,?_⟩) ?_ ?_
        rotate_left
        ·intro w'
         go_simp
         with_reducible rfl
        rotate_left
        ·simp only [Act.put,sT,sZ,sS,i64_w,i32_w]
         rfl
        refine pure_ (i:=7) (N:=some 46) (v:=?_) (a':=?_) #[τ,τ,τ,τ,τ,τ,τ,τ,φ,φ,φ,φ,φ,φ,φ,φ,φ,φ,φ,φ,φ,φ,φ,φ,φ,φ,φ,φ,φ,φ,φ,φ] rfl rfl (any_of HT_.out (by kernel_rfl)) (fun _ _ _ h=>h) (Or.inl ⟨by rfl,?_⟩) ?_ ?_
        rotate_left
        ·intro w'
         go_simp
         with_reducible rfl
        rotate_left
        ·simp only [Act.put,sT,sZ,sS,i64_w,i32_w]
         rfl
        refine pure_ (i:=8) (N:=some 47) (v:=?_) (a':=?_) #[τ,τ,τ,τ,τ,τ,τ,τ,τ,φ,φ,φ,φ,φ,φ,φ,φ,φ,φ,φ,φ,φ,φ,φ,φ,φ,φ,φ,φ,φ,φ,φ] rfl rfl (any_of HT_.out (by kernel_rfl)) (fun _ _ _ h=>h) (Or.inl ⟨by rfl,?_⟩) ?_ ?_
        rotate_left
        ·intro w'
         go_simp
         with_reducible rfl
        rotate_left
        ·simp only [Act.put,sT,sZ,sS,i64_w,i32_w]
         rfl
        refine pure_ (i:=10) (N:=some 49) (v:=?_) (a':=?_) #[τ,τ,τ,τ,τ,τ,τ,τ,τ,φ,τ,φ,φ,φ,φ,φ,φ,φ,φ,φ,φ,φ,φ,φ,φ,φ,φ,φ,φ,φ,φ,φ] rfl rfl (any_of HT_.out (by kernel_rfl)) (fun _ _ _ h=>h) (Or.inl ⟨by rfl,?_⟩) ?_ ?_
        rotate_left
        ·intro w'
         go_simp
         with_reducible rfl
        rotate_left
        ·simp only [Act.put,sT,sZ,sS,i64_w,i32_w]
         rfl
        refine take_ (i:=9) (N:=some 48) (v:=?_) (a':=?_) #[τ,τ,τ,τ,τ,τ,τ,τ,τ,τ,τ,φ,φ,φ,φ,φ,φ,φ,φ,φ,φ,φ,φ,φ,φ,φ,φ,φ,φ,φ,φ,φ] rfl rfl (take_ofW HT_.out HW_.out (by kernel_rfl)) (fun _ _ _ h=>h) (Or.inl ⟨by rfl,?_⟩) hHeld ?_ ?_
        rotate_left
        ·rintro w' ⟨s0,s1,s2,s3,s4,s5⟩
         go_simp
         with_reducible rfl
        rotate_left
        ·simp only [Act.put,sT,sZ,sS,i64_w,i32_w]
         rfl
        refine one_ (i:=11) (N:=some 50) #[τ,τ,τ,τ,τ,τ,τ,τ,τ,τ,τ,τ,φ,φ,φ,φ,φ,φ,φ,φ,φ,φ,φ,φ,φ,φ,φ,φ,φ,φ,φ,φ] rfl rfl (one_of HT_.out (by kernel_rfl)) (by decide) (fun K hK=>?_)
        refine goes_ Try.func14 (by kernel_rfl) rfl #[.agg #[.slice A0_0 l0_0.length c0_0,.int .i64 a0_1],.int .i64 a2] (by rfl) rfl rfl (by (try simp only [List.map_toArray,List.map_cons,List.map_nil]);first|done|rfl|(simp only [List.length_drop,List.length_take];rfl)) ?_
        with_reducible refine (link_Drop.calls kj3 (fun k_=>k_ < w.heap.size) _ _ l0_0 a0_1 a2 t497 t500 _ ?side1 A42.out).mono ?_
        (case side1=>exact Kd.V_mk HC0_0.out (Kd.F_below (Kd.C_F (Kd.heap_slice 5 (Kd.heap_int .u8)) HR0_0.out) (by repeat (first|(with_reducible first|exact HB.out|apply lA|apply lN|apply lD|refine lS ?_ GE476.out|refine lS ?_ GE485.out|refine lS ?_ GE494.out)|exact HB.out))))
        rintro e w80 ⟨v498,rfl,ho0,hb⟩
        refine ⟨_,rfl,?_⟩
        have n0_:=mK (Kd.V_below (by (with_reducible repeat (first|apply vA|apply vN|apply vD));exact HO482.out) hb)
        have n1_:=mK (Kd.V_below (by (with_reducible repeat (first|apply vA|apply vN|apply vD));exact HO488.out) hb)
        have n3_:=mK (Kd.V_lower (Kd.V_mono (ok':= fun k_=>some k_ ≠ (v491 : Value).ownBlock∧k_ ≠ gb476∧k_ ≠ gb485∧k_ ≠ gb494) ho0 (fun k_ hk_=>⟨Or.elim hk_ (fun hs_=>fun e_=>Nat.not_le.2 hs_ (Kd.R_base HO492.out k_ e_.symm)) (fun hn_=>(Kd.fresh' (Kd.R_lt (by (with_reducible repeat (first|apply rA|apply rN|apply rD));exact HO492.out)) k_ hn_)),Or.elim hk_ (fun hs_=>fun e_=>Nat.not_le.2 hs_ (by rw [e_];exact GW476.out)) (fun hn_=>(Kd.freshB (g:=gb476) (o:=.cells #[.slice A0_0 l0_0.length c0_0,.int .i64 a0_1] 24 (0,0)) (by (with_reducible repeat (first|apply bN|apply bD|apply bA));exact BK476.out) k_ hn_)),Or.elim hk_ (fun hs_=>fun e_=>Nat.not_le.2 hs_ (by rw [e_];exact GW485.out)) (fun hn_=>(Kd.freshB (g:=gb485) (o:=.cells #[.slice Ao27 t480.length co27,.int .i64 t483] 24 (0,0)) (by (with_reducible repeat (first|apply bN|apply bD|apply bA));exact BK485.out) k_ hn_)),Or.elim hk_ (fun hs_=>fun e_=>Nat.not_le.2 hs_ (by rw [e_];exact GW494.out)) (fun hn_=>(Kd.freshB (g:=gb494) (o:=.cells #[.slice Ao34 t486.length co34,.int .i64 t489] 24 (0,0)) (by (with_reducible repeat (first|apply bN|apply bD|apply bA));exact BK494.out) k_ hn_))⟩)) (below_size (by repeat (first|(with_reducible first|exact HB.out|apply lA|apply lN|apply lD|refine lS ?_ GE476.out|refine lS ?_ GE485.out|refine lS ?_ GE494.out)|exact HB.out))))
        have n4_:=mK (blk_below (g:=gb476) (o:=.cells #[.slice A0_0 l0_0.length c0_0,.int .i64 a0_1] 24 (0,0)) (by (with_reducible repeat (first|apply bN|apply bD|apply bA));exact BK476.out) hb)
        have n5_:=mK (blk_below (g:=gb485) (o:=.cells #[.slice Ao27 t480.length co27,.int .i64 t483] 24 (0,0)) (by (with_reducible repeat (first|apply bN|apply bD|apply bA));exact BK485.out) hb)
        have n6_:=mK (blk_below (g:=gb494) (o:=.cells #[.slice Ao34 t486.length co34,.int .i64 t489] 24 (0,0)) (by (with_reducible repeat (first|apply bN|apply bD|apply bA));exact BK494.out) hb)
        have n7_:=mK (below_step (by repeat (first|(with_reducible first|exact HB.out|apply lA|apply lN|apply lD|refine lS ?_ GE476.out|refine lS ?_ GE485.out|refine lS ?_ GE494.out)|exact HB.out)) hb)
        clear HO482
        clear HO488
        clear BK476
        clear BK485
        clear BK494
        clear HB
        have HO482:=n0_
        have HO488:=n1_
        have HO499:=n3_
        have BK476:=n4_
        have BK485:=n5_
        have BK494:=n6_
        have HB:=n7_
        clear n0_ n1_ n3_ n4_ n5_ n6_ n7_
        (try clear hb)
        (try clear hb2)
        (try clear hk)
        (try clear hi)
        (try clear ho0)
        obtain ⟨Ao81,co81,eo81⟩:=Kd.V_slice HO499.out
        (first|subst eo81|(injection eo81 with f1_ f2_ f3_;have f4_:=f1_.symm;have f5_:=f3_.symm;clear f1_ f2_ f3_;subst f4_;subst f5_))
        refine hK.out _ _ ⟨(blk_cell BK485.out 0).trans rfl,(blk_cell BK485.out 1).trans rfl,(blk_cell BK494.out 0).trans rfl,(blk_cell BK494.out 1).trans rfl,(blk_cell BK476.out 0).trans rfl,(blk_cell BK476.out 1).trans rfl⟩ (fun hHeld=>?_)
        clear hK K
        refine norm_ (a':=?_) ?_ ?_
        rotate_left
        ·show Act.put _ (some 50) _ = _
         simp only [Act.put,sT,sZ,sS,i64_w,i32_w]
         rfl
        refine one_ (i:=12) (N:=some 51) #[τ,τ,τ,τ,τ,τ,τ,τ,τ,τ,τ,τ,τ,φ,φ,φ,φ,φ,φ,φ,φ,φ,φ,φ,φ,φ,φ,φ,φ,φ,φ,φ] rfl rfl (one_of HT_.out (by kernel_rfl)) (by decide) (fun K hK=>?_)
        refine goes_ Try.func20 (by kernel_rfl) rfl #[.agg #[.slice Ao81 t497.length co81,.int .i64 t500]] (by rfl) rfl rfl (by (try simp only [List.map_toArray,List.map_cons,List.map_nil]);first|done|rfl|(simp only [List.length_drop,List.length_take];rfl)) ?_
        with_reducible refine (link_Check.calls _ _ t497 t500 false _ ?side1 ?side2 A43.out).mono ?_
        (case side1=>repeat (first|exact (Kd.V_reads' HO499.out).2.2|(with_reducible refine Kd.C_alloc ?_ _)|(with_reducible refine Kd.C_drewN ?_ _)|(with_reducible refine Kd.C_drew ?_)))
        (case side2=>exact (Kd.V_reads' HO499.out).2.1)
        rintro e w82 ⟨rfl,hb⟩
        refine ⟨_,rfl,?_⟩
        have n0_:=mK (Kd.V_below (by (with_reducible repeat (first|apply vA|apply vN|apply vD));exact HO482.out) hb)
        have n1_:=mK (Kd.V_below (by (with_reducible repeat (first|apply vA|apply vN|apply vD));exact HO488.out) hb)
        have n4_:=mK (blk_below (g:=gb476) (o:=.cells #[.slice A0_0 l0_0.length c0_0,.int .i64 a0_1] 24 (0,0)) (by (with_reducible repeat (first|apply bN|apply bD|apply bA));exact BK476.out) hb)
        have n5_:=mK (blk_below (g:=gb485) (o:=.cells #[.slice Ao27 t480.length co27,.int .i64 t483] 24 (0,0)) (by (with_reducible repeat (first|apply bN|apply bD|apply bA));exact BK485.out) hb)
        have n6_:=mK (blk_below (g:=gb494) (o:=.cells #[.slice Ao34 t486.length co34,.int .i64 t489] 24 (0,0)) (by (with_reducible repeat (first|apply bN|apply bD|apply bA));exact BK494.out) hb)
        have n7_:=mK (below_step (by repeat (first|(with_reducible first|exact HB.out|apply lA|apply lN|apply lD|refine lS ?_ GE476.out|refine lS ?_ GE485.out|refine lS ?_ GE494.out)|exact HB.out)) hb)
        clear HO482
        clear HO488
        clear BK476
        clear BK485
        clear BK494
        clear HB
        have HO482:=n0_
        have HO488:=n1_
        have BK476:=n4_
        have BK485:=n5_
        have BK494:=n6_
        have HB:=n7_
        clear n0_ n1_ n4_ n5_ n6_ n7_
        (try clear hb)
        (try clear hb2)
        (try clear hk)
        (try clear hi)
        refine hK.out _ _ ⟨(blk_cell BK485.out 0).trans rfl,(blk_cell BK485.out 1).trans rfl,(blk_cell BK494.out 0).trans rfl,(blk_cell BK494.out 1).trans rfl,(blk_cell BK476.out 0).trans rfl,(blk_cell BK476.out 1).trans rfl⟩ (fun hHeld=>?_)
        clear hK K
        refine norm_ (a':=?_) ?_ ?_
        rotate_left
        ·show Act.put _ (some 51) _ = _
         simp only [Act.put,sT,sZ,sS,i64_w,i32_w]
         rfl
        refine pure_ (i:=13) (N:=some 52) (v:=?_) (a':=?_) #[τ,τ,τ,τ,τ,τ,τ,τ,τ,τ,τ,τ,τ,τ,φ,φ,φ,φ,φ,φ,φ,φ,φ,φ,φ,φ,φ,φ,φ,φ,φ,φ] rfl rfl (any_of HT_.out (by kernel_rfl)) (fun _ _ _ h=>h) (Or.inl ⟨by rfl,?_⟩) ?_ ?_
        rotate_left
        ·intro w'
         go_simp
         with_reducible rfl
        rotate_left
        ·simp only [Act.put,sT,sZ,sS,i64_w,i32_w]
         rfl
        refine pure_ (i:=14) (N:=some 53) (v:=?_) (a':=?_) #[τ,τ,τ,τ,τ,τ,τ,τ,τ,τ,τ,τ,τ,τ,τ,φ,φ,φ,φ,φ,φ,φ,φ,φ,φ,φ,φ,φ,φ,φ,φ,φ] rfl rfl (any_of HT_.out (by kernel_rfl)) (fun _ _ _ h=>h) (Or.inl ⟨by rfl,?_⟩) ?_ ?_
        rotate_left
        ·intro w'
         go_simp
         with_reducible rfl
        rotate_left
        ·simp only [Act.put,sT,sZ,sS,i64_w,i32_w]
         rfl
        refine pure_ (i:=15) (N:=some 54) (v:=?_) (a':=?_) #[τ,τ,τ,τ,τ,τ,τ,τ,τ,τ,τ,τ,τ,τ,τ,τ,φ,φ,φ,φ,φ,φ,φ,φ,φ,φ,φ,φ,φ,φ,φ,φ] rfl rfl (any_of HT_.out (by kernel_rfl)) (fun _ _ _ h=>h) (Or.inl ⟨by rfl,?_⟩) ?_ ?_
        rotate_left
        ·intro w'
         go_simp
         with_reducible rfl
        rotate_left
        ·simp only [Act.put,sT,sZ,sS,i64_w,i32_w]
         rfl
        refine pure_ (i:=16) (N:=some 55) (v:=undef) (a':=?_) #[τ,τ,τ,τ,τ,τ,τ,τ,τ,τ,τ,τ,τ,τ,τ,τ,τ,φ,φ,φ,φ,φ,φ,φ,φ,φ,φ,φ,φ,φ,φ,φ] rfl rfl (any_of HT_.out (by kernel_rfl)) (fun _ _ _ h=>h) (Or.inr ⟨by rfl,rfl⟩) ?_ ?_
        rotate_left
        ·simp only [Act.put,sT,sZ,sS,i64_w,i32_w]
         rfl
        refine pure_ (i:=17) (N:=some 56) (v:=undef) (a':=?_) #[τ,τ,τ,τ,τ,τ,τ,τ,τ,τ,τ,τ,τ,τ,τ,τ,τ,τ,φ,φ,φ,φ,φ,φ,φ,φ,φ,φ,φ,φ,φ,φ] rfl rfl (any_of HT_.out (by kernel_rfl)) (fun _ _ _ h=>h) (Or.inr ⟨by rfl,rfl⟩) ?_ ?_
        rotate_left
        ·simp only [Act.put,sT,sZ,sS,i64_w,i32_w]
         rfl
        refine pure_ (i:=18) (N:=some 57) (v:=undef) (a':=?_) #[τ,τ,τ,τ,τ,τ,τ,τ,τ,τ,τ,τ,τ,τ,τ,τ,τ,τ,τ,φ,φ,φ,φ,φ,φ,φ,φ,φ,φ,φ,φ,φ] rfl rfl (any_of HT_.out (by kernel_rfl)) (fun _ _ _ h=>h) (Or.inr ⟨by rfl,rfl⟩) ?_ ?_
        rotate_left
        ·simp only [Act.put,sT,sZ,sS,i64_w,i32_w]
         rfl
        refine pure_ (i:=19) (N:=some 58) (v:=undef) (a':=?_) #[τ,τ,τ,τ,τ,τ,τ,τ,τ,τ,τ,τ,τ,τ,τ,τ,τ,τ,τ,τ,φ,φ,φ,φ,φ,φ,φ,φ,φ,φ,φ,φ] rfl rfl (any_of HT_.out (by kernel_rfl)) (fun _ _ _ h=>h) (Or.inr ⟨by rfl,rfl⟩) ?_ ?_
        rotate_left
        ·simp only [Act.put,sT,sZ,sS,i64_w,i32_w]
         rfl
        refine pure_ (i:=20) (N:=some 59) (v:=undef) (a':=?_) #[τ,τ,τ,τ,τ,τ,τ,τ,τ,τ,τ,τ,τ,τ,τ,τ,τ,τ,τ,τ,τ,φ,φ,φ,φ,φ,φ,φ,φ,φ,φ,φ] rfl rfl (any_of HT_.out (by kernel_rfl)) (fun _ _ _ h=>h) (Or.inr ⟨by rfl,rfl⟩) ?_ ?_
        rotate_left
        ·simp only [Act.put,sT,sZ,sS,i64_w,i32_w]
         rfl
        refine pure_ (i:=21) (N:=some 60) (v:=?_) (a':=?_) #[τ,τ,τ,τ,τ,τ,τ,τ,τ,τ,τ,τ,τ,τ,τ,τ,τ,τ,τ,τ,τ,τ,φ,φ,φ,φ,φ,φ,φ,φ,φ,φ] rfl rfl (any_of HT_.out (by kernel_rfl)) (fun _ _ _ h=>h) (Or.inl ⟨by rfl,?_⟩) ?_ ?_
        rotate_left
        ·intro w'
         go_simp
         with_reducible rfl
        rotate_left
        ·simp only [Act.put,sT,sZ,sS,i64_w,i32_w]
         rfl
        refine pure_ (i:=22) (N:=some 61) (v:=?_) (a':=?_) #[τ,τ,τ,τ,τ,τ,τ,τ,τ,τ,τ,τ,τ,τ,τ,τ,τ,τ,τ,τ,τ,τ,τ,φ,φ,φ,φ,φ,φ,φ,φ,φ] rfl rfl (any_of HT_.out (by kernel_rfl)) (fun _ _ _ h=>h) (Or.inl ⟨by rfl,?_⟩) ?_ ?_
        rotate_left
        ·intro w'
         go_simp
         with_reducible rfl
        rotate_left
        ·simp only [Act.put,sT,sZ,sS,i64_w,i32_w]
         rfl
        refine pure_ (i:=23) (N:=some 62) (v:=undef) (a':=?_) #[τ,τ,τ,τ,τ,τ,τ,τ,τ,τ,τ,τ,τ,τ,τ,τ,τ,τ,τ,τ,τ,τ,τ,τ,φ,φ,φ,φ,φ,φ,φ,φ] rfl rfl (any_of HT_.out (by kernel_rfl)) (fun _ _ _ h=>h) (Or.inr ⟨by rfl,rfl⟩) ?_ ?_
        rotate_left
        ·simp only [Act.put,sT,sZ,sS,i64_w,i32_w]
         rfl
        refine pure_ (i:=24) (N:=some 63) (v:=undef) (a':=?_) #[τ,τ,τ,τ,τ,τ,τ,τ,τ,τ,τ,τ,τ,τ,τ,τ,τ,τ,τ,τ,τ,τ,τ,τ,τ,φ,φ,φ,φ,φ,φ,φ] rfl rfl (any_of HT_.out (by kernel_rfl)) (fun _ _ _ h=>h) (Or.inr ⟨by rfl,rfl⟩) ?_ ?_
        rotate_left
        ·simp only [Act.put,sT,sZ,sS,i64_w,i32_w]
         rfl
        refine pure_ (i:=25) (N:=some 64) (v:=undef) (a':=?_) #[τ,τ,τ,τ,τ,τ,τ,τ,τ,τ,τ,τ,τ,τ,τ,τ,τ,τ,τ,τ,τ,τ,τ,τ,τ,τ,φ,φ,φ,φ,φ,φ] rfl rfl (any_of HT_.out (by kernel_rfl)) (fun _ _ _ h=>h) (Or.inr ⟨by rfl,rfl⟩) ?_ ?_
        rotate_left
        ·simp only [Act.put,sT,sZ,sS,i64_w,i32_w]
         rfl
        refine pure_ (i:=26) (N:=some 65) (v:=undef) (a':=?_) #[τ,τ,τ,τ,τ,τ,τ,τ,τ,τ,τ,τ,τ,τ,τ,τ,τ,τ,τ,τ,τ,τ,τ,τ,τ,τ,τ,φ,φ,φ,φ,φ] rfl rfl (any_of HT_.out (by kernel_rfl)) (fun _ _ _ h=>h) (Or.inr ⟨by rfl,rfl⟩) ?_ ?_
        rotate_left
        ·simp only [Act.put,sT,sZ,sS,i64_w,i32_w]
         rfl
        refine pure_ (i:=27) (N:=some 66) (v:=undef) (a':=?_) #[τ,τ,τ,τ,τ,τ,τ,τ,τ,τ,τ,τ,τ,τ,τ,τ,τ,τ,τ,τ,τ,τ,τ,τ,τ,τ,τ,τ,φ,φ,φ,φ] rfl rfl (any_of HT_.out (by kernel_rfl)) (fun _ _ _ h=>h) (Or.inr ⟨by rfl,rfl⟩) ?_ ?_
        rotate_left
        ·simp only [Act.put,sT,sZ,sS,i64_w,i32_w]
         rfl
        refine pure_ (i:=28) (N:=some 67) (v:=undef) (a':=?_) #[τ,τ,τ,τ,τ,τ,τ,τ,τ,τ,τ,τ,τ,τ,τ,τ,τ,τ,τ,τ,τ,τ,τ,τ,τ,τ,τ,τ,τ,φ,φ,φ] rfl rfl (any_of HT_.out (by kernel_rfl)) (fun _ _ _ h=>h) (Or.inr ⟨by rfl,rfl⟩) ?_ ?_
        rotate_left
        ·simp only [Act.put,sT,sZ,sS,i64_w,i32_w]
         rfl
        refine pure_ (i:=29) (N:=some 68) (v:=undef) (a':=?_) #[τ,τ,τ,τ,τ,τ,τ,τ,τ,τ,τ,τ,τ,τ,τ,τ,τ,τ,τ,τ,τ,τ,τ,τ,τ,τ,τ,τ,τ,τ,φ,φ] rfl rfl (any_of HT_.out (by kernel_rfl)) (fun _ _ _ h=>h) (Or.inr ⟨by rfl,rfl⟩) ?_ ?_
        rotate_left
        ·simp only [Act.put,sT,sZ,sS,i64_w,i32_w]
         rfl
        refine pure_ (i:=30) (N:=some 69) (v:=undef) (a':=?_) #[τ,τ,τ,τ,τ,τ,τ,τ,τ,τ,τ,τ,τ,τ,τ,τ,τ,τ,τ,τ,τ,τ,τ,τ,τ,τ,τ,τ,τ,τ,τ,φ] rfl rfl (any_of HT_.out (by kernel_rfl)) (fun _ _ _ h=>h) (Or.inr ⟨by rfl,rfl⟩) ?_ ?_
        rotate_left
        ·simp only [Act.put,sT,sZ,sS,i64_w,i32_w]
         rfl
        refine pure_ (i:=31) (N:=some 70) (v:=?_) (a':=?_) #[τ,τ,τ,τ,τ,τ,τ,τ,τ,τ,τ,τ,τ,τ,τ,τ,τ,τ,τ,τ,τ,τ,τ,τ,τ,τ,τ,τ,τ,τ,τ,τ] rfl rfl (any_of HT_.out (by kernel_rfl)) (fun _ _ _ h=>h) (Or.inl ⟨by rfl,?_⟩) ?_ ?_
        rotate_left
        ·intro w'
         go_simp
         with_reducible rfl
        rotate_left
        ·simp only [Act.put,sT,sZ,sS,i64_w,i32_w]
         rfl
        refine done_ (done_of HT_.out (by kernel_rfl)) ?_
        try go_wp2
        go_meet
        case rel=>exact ⟨_,(true),(by first|rfl|(simp;done)|(simp [*];done)),H',⟨by have:=HJ3.out;first|omega|exact Nat.le_refl _⟩,⟨by (with_reducible repeat (first|apply vA|apply vN|apply vD));exact Kd.V_mono HO482.out (fun _ hk=>⟨hk.2.1,⟨hk.2.2.1,hk.2.2.2⟩⟩)⟩,⟨by (with_reducible repeat (first|apply vA|apply vN|apply vD));exact Kd.V_mono HO488.out (fun _ hk=>⟨hk.2.1,⟨hk.2.2.1,hk.2.2.2⟩⟩)⟩,⟨by (with_reducible repeat (first|apply bN|apply bD|apply bA));exact BK476.out⟩,⟨by (with_reducible repeat (first|apply bN|apply bD|apply bA));exact BK485.out⟩,⟨by (with_reducible repeat (first|apply bN|apply bD|apply bA));exact BK494.out⟩,⟨by repeat (first|(with_reducible first|exact HB.out|apply lA|apply lN|apply lD|refine lS ?_ GE476.out|refine lS ?_ GE485.out|refine lS ?_ GE494.out)|exact HB.out)⟩⟩
      ·replace c41:=Bool.eq_false_iff.mpr c41
       subst c41
       have H1 : (drawbridgelaw23_LinkStays.j1 kj3 a2 true l0_0 a0_1) = some r:= by rw [if_neg (show ¬ (false = true) by decide)] at H;exact H
       clear H
       have H:=H1
       clear H1
       have H':=mK H
       clear H
       try go_wp2
       have n0_ : Aside0 (Kd.V (Kd.slice 5 (Kd.int .u8)) 25 ((w33.setCell ⟨gb494,0,none⟩ (.slice Ao34 t486.length co34)).setCell ⟨gb494,1,none⟩ (.int .i64 t489)) w.heap.size (fun k_=>some k_ ≠ (v491 : Value).ownBlock∧k_ ≠ gb476∧k_ ≠ gb485∧k_ ≠ gb494) (.slice Ao27 t480.length co27) t480):=⟨by (with_reducible repeat (first|apply vA|apply vN|apply vD));exact Kd.V_mono (Kd.V_far (p:=⟨gb494,1,none⟩) (Kd.V_far (p:=⟨gb494,0,none⟩) (Kd.V_mono HO482.out (fun k_ hk=>(⟨hk,hk.2⟩ : _∧k_ ≠ gb494))) (fun _ hk=>hk.2) (.slice Ao34 t486.length co34)) (fun _ hk=>hk.2) (.int .i64 t489)) (fun _ hk=>⟨hk.1.1.2,⟨hk.1.1.1.1,⟨hk.1.1.1.2,hk.1.2⟩⟩⟩)⟩
       have n1_ : Aside0 (Kd.V (Kd.slice 5 (Kd.int .u8)) 25 ((w33.setCell ⟨gb494,0,none⟩ (.slice Ao34 t486.length co34)).setCell ⟨gb494,1,none⟩ (.int .i64 t489)) w.heap.size (fun k_=>some k_ ≠ (v491 : Value).ownBlock∧k_ ≠ gb476∧k_ ≠ gb485∧k_ ≠ gb494) (.slice Ao34 t486.length co34) t486):=⟨by (with_reducible repeat (first|apply vA|apply vN|apply vD));exact Kd.V_mono (Kd.V_far (p:=⟨gb494,1,none⟩) (Kd.V_far (p:=⟨gb494,0,none⟩) (Kd.V_mono HO488.out (fun k_ hk=>(⟨hk,hk.2⟩ : _∧k_ ≠ gb494))) (fun _ hk=>hk.2) (.slice Ao34 t486.length co34)) (fun _ hk=>hk.2) (.int .i64 t489)) (fun _ hk=>⟨hk.1.1.1,⟨hk.1.1.2.1,⟨hk.1.1.2.2,hk.1.2⟩⟩⟩)⟩
       have n2_ : Aside0 (Kd.R (Kd.int .u8) 5 ((w33.setCell ⟨gb494,0,none⟩ (.slice Ao34 t486.length co34)).setCell ⟨gb494,1,none⟩ (.int .i64 t489)) w.heap.size (fun _=>True) v491 t490):=⟨by (with_reducible repeat (first|apply rA|apply rN|apply rD));exact Kd.R_mono (Kd.R_far (p:=⟨gb494,1,none⟩) (Kd.R_far (p:=⟨gb494,0,none⟩) (Kd.R_types HO492.out BK494.out (by decide)) (fun _ hk=>hk.2) (.slice Ao34 t486.length co34)) (fun _ hk=>hk.2) (.int .i64 t489)) (fun _ hk=>trivial)⟩
       have n3_ : Aside0 (((w33.setCell ⟨gb494,0,none⟩ (.slice Ao34 t486.length co34)).setCell ⟨gb494,1,none⟩ (.int .i64 t489)).heap[gb476]? = some (.cells #[.slice A0_0 l0_0.length c0_0,.int .i64 a0_1] 24 (0,0))):=⟨by (with_reducible repeat (first|apply bN|apply bD|apply bA));refine blk_far ?_ NB476_494.out _;(with_reducible repeat (first|apply bN|apply bD|apply bA));refine blk_far ?_ NB476_494.out _;(with_reducible repeat (first|apply bN|apply bD|apply bA));exact BK476.out⟩
       have n4_ : Aside0 (((w33.setCell ⟨gb494,0,none⟩ (.slice Ao34 t486.length co34)).setCell ⟨gb494,1,none⟩ (.int .i64 t489)).heap[gb485]? = some (.cells #[.slice Ao27 t480.length co27,.int .i64 t483] 24 (0,0))):=⟨by (with_reducible repeat (first|apply bN|apply bD|apply bA));refine blk_far ?_ NB485_494.out _;(with_reducible repeat (first|apply bN|apply bD|apply bA));refine blk_far ?_ NB485_494.out _;(with_reducible repeat (first|apply bN|apply bD|apply bA));exact BK485.out⟩
       have n5_ : Aside0 (((w33.setCell ⟨gb494,0,none⟩ (.slice Ao34 t486.length co34)).setCell ⟨gb494,1,none⟩ (.int .i64 t489)).heap[gb494]? = some (.cells #[.slice Ao34 t486.length co34,.int .i64 t489] 24 (0,0))):=⟨by (with_reducible repeat (first|apply bN|apply bD|apply bA));refine blk_put (cs:=#[.slice Ao34 t486.length co34,.int .i64 0]) ?_ 1 _ rfl;(with_reducible repeat (first|apply bN|apply bD|apply bA));refine blk_put (cs:=#[.slice none 0 0,.int .i64 0]) ?_ 0 _ rfl;(with_reducible repeat (first|apply bN|apply bD|apply bA));exact BK494.out⟩
       have n6_ : Aside0 (Below w.heap.size w ((w33.setCell ⟨gb494,0,none⟩ (.slice Ao34 t486.length co34)).setCell ⟨gb494,1,none⟩ (.int .i64 t489))):=⟨by repeat (first|(with_reducible first|exact HB.out|apply lA|apply lN|apply lD|refine lS ?_ GE476.out|refine lS ?_ GE485.out|refine lS ?_ GE494.out)|exact HB.out)⟩
       (try clear HO482)
       (try clear HO488)
       (try clear HO492)
       (try clear BK476)
       (try clear BK485)
       (try clear BK494)
       (try clear HB)
       generalize ((w33.setCell ⟨gb494,0,none⟩ (.slice Ao34 t486.length co34)).setCell ⟨gb494,1,none⟩ (.int .i64 t489)) = w83 at n0_ n1_ n2_ n3_ n4_ n5_ n6_ ⊢
       have HO482:=n0_
       have HO488:=n1_
       have HO492:=n2_
       have BK476:=n3_
       have BK485:=n4_
       have BK494:=n5_
       have HB:=n6_
       clear n0_ n1_ n2_ n3_ n4_ n5_ n6_
       have n0_:=mK (Kd.V_drew HO482.out)
       have n1_:=mK (Kd.V_drew HO488.out)
       have n2_:=mK (Kd.R_drew HO492.out)
       have n3_:=mK (blk_drew BK476.out)
       have n4_:=mK (blk_drew BK485.out)
       have n5_:=mK (blk_drew BK494.out)
       have n6_:=mK (below_drew1 HB.out)
       clear HO482
       clear HO488
       clear HO492
       clear BK476
       clear BK485
       clear BK494
       clear HB
       have HO482:=n0_
       have HO488:=n1_
       have HO492:=n2_
       have BK476:=n3_
       have BK485:=n4_
       have BK494:=n5_
       have HB:=n6_
       clear n0_ n1_ n2_ n3_ n4_ n5_ n6_
       refine start_ (n:=32) (S:= fun w'=>w'.cell? ⟨gb485,0,none⟩ = some (.slice Ao27 t480.length co27)∧w'.cell? ⟨gb485,1,none⟩ = some (.int .i64 t483)∧w'.cell? ⟨gb494,0,none⟩ = some (.slice Ao34 t486.length co34)∧w'.cell? ⟨gb494,1,none⟩ = some (.int .i64 t489)) (ds:=[]) #[φ,φ,φ,φ,φ,φ,φ,φ,φ,φ,φ,φ,φ,φ,φ,φ,φ,φ,φ,φ,φ,φ,φ,φ,φ,φ,φ,φ,φ,φ,φ,φ] (by kernel_rfl) rfl rfl ⟨(blk_cell BK485.out 0).trans rfl,(blk_cell BK485.out 1).trans rfl,(blk_cell BK494.out 0).trans rfl,(blk_cell BK494.out 1).trans rfl⟩ (fun hHeld=>?_);refine with_tabW drawbridgelaw23_LinkStays.tab5 drawbridgelaw23_LinkStays.bits5 (fun HT_ HW_=>?_)
       generalize w83.drew = w84 at HO482 HO488 HO492 BK476 BK485 BK494 HB hHeld ⊢
       refine take_ (i:=0) (N:=some 39) (v:=?_) (a':=?_) #[τ,φ,φ,φ,φ,φ,φ,φ,φ,φ,φ,φ,φ,φ,φ,φ,φ,φ,φ,φ,φ,φ,φ,φ,φ,φ,φ,φ,φ,φ,φ,φ] rfl rfl (take_ofW HT_.out HW_.out (by kernel_rfl)) (fun _ _ _ h=>h) (Or.inl ⟨by rfl,?_⟩) hHeld ?_ ?_
       rotate_left
       ·rintro w' ⟨s0,s1,s2,s3⟩
        go_simp
        with_reducible rfl
       rotate_left
       ·simp only [Act.put,sT,sZ,sS,i64_w,i32_w]
        rfl
       refine one_ (i:=1) (N:=some 40) #[τ,τ,φ,φ,φ,φ,φ,φ,φ,φ,φ,φ,φ,φ,φ,φ,φ,φ,φ,φ,φ,φ,φ,φ,φ,φ,φ,φ,φ,φ,φ,φ] rfl rfl (one_of HT_.out (by kernel_rfl)) (by decide) (fun K hK=>?_)
       refine goes_ Try.func20 (by kernel_rfl) rfl #[.agg #[.slice Ao27 t480.length co27,.int .i64 t483]] (by rfl) rfl rfl (by (try simp only [List.map_toArray,List.map_cons,List.map_nil]);first|done|rfl|(simp only [List.length_drop,List.length_take];rfl)) ?_
       with_reducible refine (link_Check.calls _ _ t480 t483 true _ ?side1 ?side2 A38.out).mono ?_
       (case side1=>repeat (first|exact (Kd.V_reads' HO482.out).2.2|(with_reducible refine Kd.C_alloc ?_ _)|(with_reducible refine Kd.C_drewN ?_ _)|(with_reducible refine Kd.C_drew ?_)))
       (case side2=>exact (Kd.V_reads' HO482.out).2.1)
       rintro e w85 ⟨rfl,hb⟩
       refine ⟨_,rfl,?_⟩
       have n0_:=mK (Kd.V_below (by (with_reducible repeat (first|apply vA|apply vN|apply vD));exact HO482.out) hb)
       have n1_:=mK (Kd.V_below (by (with_reducible repeat (first|apply vA|apply vN|apply vD));exact HO488.out) hb)
       have n3_:=mK (blk_below (g:=gb476) (o:=.cells #[.slice A0_0 l0_0.length c0_0,.int .i64 a0_1] 24 (0,0)) (by (with_reducible repeat (first|apply bN|apply bD|apply bA));exact BK476.out) hb)
       have n4_:=mK (blk_below (g:=gb485) (o:=.cells #[.slice Ao27 t480.length co27,.int .i64 t483] 24 (0,0)) (by (with_reducible repeat (first|apply bN|apply bD|apply bA));exact BK485.out) hb)
       have n5_:=mK (blk_below (g:=gb494) (o:=.cells #[.slice Ao34 t486.length co34,.int .i64 t489] 24 (0,0)) (by (with_reducible repeat (first|apply bN|apply bD|apply bA));exact BK494.out) hb)
       have n6_:=mK (below_step (by repeat (first|(with_reducible first|exact HB.out|apply lA|apply lN|apply lD|refine lS ?_ GE476.out|refine lS ?_ GE485.out|refine lS ?_ GE494.out)|exact HB.out)) hb)
       clear HO482
       clear HO488
       clear BK476
       clear BK485
       clear BK494
       clear HB
       have HO482:=n0_
       have HO488:=n1_
       have BK476:=n3_
       have BK485:=n4_
       have BK494:=n5_
       have HB:=n6_
       clear n0_ n1_ n3_ n4_ n5_ n6_
       (try clear hb)
       (try clear hb2)
       (try clear hk)
       (try clear hi)
       refine hK.out _ _ ⟨(blk_cell BK485.out 0).trans rfl,(blk_cell BK485.out 1).trans rfl,(blk_cell BK494.out 0).trans rfl,(blk_cell BK494.out 1).trans rfl⟩ (fun hHeld=>?_)
       clear hK K
       refine norm_ (a':=?_) ?_ ?_
       rotate_left
       ·show Act.put _ (some 40) _ = _
        simp only [Act.put,sT,sZ,sS,i64_w,i32_w]
        rfl
       refine pure_ (i:=2) (N:=some 41) (v:=?_) (a':=?_) #[τ,τ,τ,φ,φ,φ,φ,φ,φ,φ,φ,φ,φ,φ,φ,φ,φ,φ,φ,φ,φ,φ,φ,φ,φ,φ,φ,φ,φ,φ,φ,φ] rfl rfl (any_of HT_.out (by kernel_rfl)) (fun _ _ _ h=>h) (Or.inl ⟨by rfl,?_⟩) ?_ ?_
       rotate_left
       ·intro w'
        go_simp
        with_reducible rfl
       rotate_left
       ·simp only [Act.put,sT,sZ,sS,i64_w,i32_w]
        rfl
       refine pure_ (i:=3) (N:=some 42) (v:=?_) (a':=?_) #[τ,τ,τ,τ,φ,φ,φ,φ,φ,φ,φ,φ,φ,φ,φ,φ,φ,φ,φ,φ,φ,φ,φ,φ,φ,φ,φ,φ,φ,φ,φ,φ] rfl rfl (any_of HT_.out (by kernel_rfl)) (fun _ _ _ h=>h) (Or.inl ⟨by rfl,?_⟩) ?_ ?_
       rotate_left
       ·intro w'
        go_simp
        with_reducible rfl
       rotate_left
       ·simp only [Act.put,sT,sZ,sS,i64_w,i32_w]
        rfl
       refine take_ (i:=4) (N:=some 43) (v:=?_) (a':=?_) #[τ,τ,τ,τ,τ,φ,φ,φ,φ,φ,φ,φ,φ,φ,φ,φ,φ,φ,φ,φ,φ,φ,φ,φ,φ,φ,φ,φ,φ,φ,φ,φ] rfl rfl (take_ofW HT_.out HW_.out (by kernel_rfl)) (fun _ _ _ h=>h) (Or.inl ⟨by rfl,?_⟩) hHeld ?_ ?_
       rotate_left
       ·rintro w' ⟨s0,s1,s2,s3⟩
        go_simp
        with_reducible rfl
       rotate_left
       ·simp only [Act.put,sT,sZ,sS,i64_w,i32_w]
        rfl
       refine one_ (i:=5) (N:=some 44) #[τ,τ,τ,τ,τ,τ,φ,φ,φ,φ,φ,φ,φ,φ,φ,φ,φ,φ,φ,φ,φ,φ,φ,φ,φ,φ,φ,φ,φ,φ,φ,φ] rfl rfl (one_of HT_.out (by kernel_rfl)) (by decide) (fun K hK=>?_)
       refine goes_ Try.func20 (by kernel_rfl) rfl #[.agg #[.slice Ao34 t486.length co34,.int .i64 t489]] (by rfl) rfl rfl (by (try simp only [List.map_toArray,List.map_cons,List.map_nil]);first|done|rfl|(simp only [List.length_drop,List.length_take];rfl)) ?_
       with_reducible refine (link_Check.calls _ _ t486 t489 false _ ?side1 ?side2 A40.out).mono ?_
       (case side1=>repeat (first|exact (Kd.V_reads' HO488.out).2.2|(with_reducible refine Kd.C_alloc ?_ _)|(with_reducible refine Kd.C_drewN ?_ _)|(with_reducible refine Kd.C_drew ?_)))
       (case side2=>exact (Kd.V_reads' HO488.out).2.1)
       rintro e w86 ⟨rfl,hb⟩
       refine ⟨_,rfl,?_⟩
       have n0_:=mK (Kd.V_below (by (with_reducible repeat (first|apply vA|apply vN|apply vD));exact HO482.out) hb)
       have n1_:=mK (Kd.V_below (by (with_reducible repeat (first|apply vA|apply vN|apply vD));exact HO488.out) hb)
       have n3_:=mK (blk_below (g:=gb476) (o:=.cells #[.slice A0_0 l0_0.length c0_0,.int .i64 a0_1] 24 (0,0)) (by (with_reducible repeat (first|apply bN|apply bD|apply bA));exact BK476.out) hb)
       have n4_:=mK (blk_below (g:=gb485) (o:=.cells #[.slice Ao27 t480.length co27,.int .i64 t483] 24 (0,0)) (by (with_reducible repeat (first|apply bN|apply bD|apply bA));exact BK485.out) hb)
       have n5_:=mK (blk_below (g:=gb494) (o:=.cells #[.slice Ao34 t486.length co34,.int .i64 t489] 24 (0,0)) (by (with_reducible repeat (first|apply bN|apply bD|apply bA));exact BK494.out) hb)
       have n6_:=mK (below_step (by repeat (first|(with_reducible first|exact HB.out|apply lA|apply lN|apply lD|refine lS ?_ GE476.out|refine lS ?_ GE485.out|refine lS ?_ GE494.out)|exact HB.out)) hb)
       clear HO482
       clear HO488
       clear BK476
       clear BK485
       clear BK494
       clear HB
       have HO482:=n0_
       have HO488:=n1_
       have BK476:=n3_
       have BK485:=n4_
       have BK494:=n5_
       have HB:=n6_
       clear n0_ n1_ n3_ n4_ n5_ n6_
       (try clear hb)
       (try clear hb2)
       (try clear hk)
       (try clear hi)
       refine hK.out _ _ ⟨(blk_cell BK485.out 0).trans rfl,(blk_cell BK485.out 1).trans rfl,(blk_cell BK494.out 0).trans rfl,(blk_cell BK494.out 1).trans rfl⟩ (fun hHeld=>?_)
       clear hK K
       refine norm_ (a':=?_) ?_ ?_
       rotate_left
       ·show Act.put _ (some 44) _ = _
        simp only [Act.put,sT,sZ,sS,i64_w,i32_w]
        rfl
       refine pure_ (i:=6) (N:=some 45) (v:=?_) (a':=?_) #[τ,τ,τ,τ,τ,τ,τ,φ,φ,φ,φ,φ,φ,φ,φ,φ,φ,φ,φ,φ,φ,φ,φ,φ,φ,φ,φ,φ,φ,φ,φ,φ] rfl rfl (any_of HT_.out (by kernel_rfl)) (fun _ _ _ h=>h) (Or.inl ⟨by rfl,?_⟩) ?_ ?_
       rotate_left
       ·intro w'
        go_simp
        with_reducible rfl
       rotate_left
       ·simp only [Act.put,sT,sZ,sS,i64_w,i32_w]
        rfl
       refine pure_ (i:=7) (N:=some 46) (v:=?_) (a':=?_) #[τ,τ,τ,τ,τ,τ,τ,τ,φ,φ,φ,φ,φ,φ,φ,φ,φ,φ,φ,φ,φ,φ,φ,φ,φ,φ,φ,φ,φ,φ,φ,φ] rfl rfl (any_of HT_.out (by kernel_rfl)) (fun _ _ _ h=>h) (Or.inl ⟨by rfl,?_⟩) ?_ ?_
       rotate_left
       ·intro w'
        go_simp
        with_reducible rfl
       rotate_left
       ·simp only [Act.put,sT,sZ,sS,i64_w,i32_w]
        rfl
       refine pure_ (i:=8) (N:=some 47) (v:=?_) (a':=?_) #[τ,τ,τ,τ,τ,τ,τ,τ,τ,φ,φ,φ,φ,φ,φ,φ,φ,φ,φ,φ,φ,φ,φ,φ,φ,φ,φ,φ,φ,φ,φ,φ] rfl rfl (any_of HT_.out (by kernel_rfl)) (fun _ _ _ h=>h) (Or.inl ⟨by rfl,?_⟩) ?_ ?_
       rotate_left
       ·intro w'
        go_simp
        with_reducible rfl
       rotate_left
       ·simp only [Act.put,sT,sZ,sS,i64_w,i32_w]
        rfl
       refine pure_ (i:=9) (N:=some 48) (v:=undef) (a':=?_) #[τ,τ,τ,τ,τ,τ,τ,τ,τ,τ,φ,φ,φ,φ,φ,φ,φ,φ,φ,φ,φ,φ,φ,φ,φ,φ,φ,φ,φ,φ,φ,φ] rfl rfl (any_of HT_.out (by kernel_rfl)) (fun _ _ _ h=>h) (Or.inr ⟨by rfl,rfl⟩) ?_ ?_
       rotate_left
       ·simp only [Act.put,sT,sZ,sS,i64_w,i32_w]
        rfl
       refine pure_ (i:=10) (N:=some 49) (v:=undef) (a':=?_) #[τ,τ,τ,τ,τ,τ,τ,τ,τ,τ,τ,φ,φ,φ,φ,φ,φ,φ,φ,φ,φ,φ,φ,φ,φ,φ,φ,φ,φ,φ,φ,φ] rfl rfl (any_of HT_.out (by kernel_rfl)) (fun _ _ _ h=>h) (Or.inr ⟨by rfl,rfl⟩) ?_ ?_
       rotate_left
       ·simp only [Act.put,sT,sZ,sS,i64_w,i32_w]
        rfl
       refine pure_ (i:=11) (N:=some 50) (v:=undef) (a':=?_) #[τ,τ,τ,τ,τ,τ,τ,τ,τ,τ,τ,τ,φ,φ,φ,φ,φ,φ,φ,φ,φ,φ,φ,φ,φ,φ,φ,φ,φ,φ,φ,φ] rfl rfl (any_of HT_.out (by kernel_rfl)) (fun _ _ _ h=>h) (Or.inr ⟨by rfl,rfl⟩) ?_ ?_
       rotate_left
       ·simp only [Act.put,sT,sZ,sS,i64_w,i32_w]
        rfl
       refine pure_ (i:=12) (N:=some 51) (v:=undef) (a':=?_) #[τ,τ,τ,τ,τ,τ,τ,τ,τ,τ,τ,τ,τ,φ,φ,φ,φ,φ,φ,φ,φ,φ,φ,φ,φ,φ,φ,φ,φ,φ,φ,φ] rfl rfl (any_of HT_.out (by kernel_rfl)) (fun _ _ _ h=>h) (Or.inr ⟨by rfl,rfl⟩) ?_ ?_
       rotate_left
       ·simp only [Act.put,sT,sZ,sS,i64_w,i32_w]
        rfl
       refine pure_ (i:=13) (N:=some 52) (v:=undef) (a':=?_) #[τ,τ,τ,τ,τ,τ,τ,τ,τ,τ,τ,τ,τ,τ,φ,φ,φ,φ,φ,φ,φ,φ,φ,φ,φ,φ,φ,φ,φ,φ,φ,φ] rfl rfl (any_of HT_.out (by kernel_rfl)) (fun _ _ _ h=>h) (Or.inr ⟨by rfl,rfl⟩) ?_ ?_
       rotate_left
       ·simp only [Act.put,sT,sZ,sS,i64_w,i32_w]
        rfl
       refine pure_ (i:=14) (N:=some 53) (v:=?_) (a':=?_) #[τ,τ,τ,τ,τ,τ,τ,τ,τ,τ,τ,τ,τ,τ,τ,φ,φ,φ,φ,φ,φ,φ,φ,φ,φ,φ,φ,φ,φ,φ,φ,φ] rfl rfl (any_of HT_.out (by kernel_rfl)) (fun _ _ _ h=>h) (Or.inl ⟨by rfl,?_⟩) ?_ ?_
       rotate_left
       ·intro w'
        go_simp
        with_reducible rfl
       rotate_left
       ·simp only [Act.put,sT,sZ,sS,i64_w,i32_w]
        rfl
       refine pure_ (i:=15) (N:=some 54) (v:=?_) (a':=?_) #[τ,τ,τ,τ,τ,τ,τ,τ,τ,τ,τ,τ,τ,τ,τ,τ,φ,φ,φ,φ,φ,φ,φ,φ,φ,φ,φ,φ,φ,φ,φ,φ] rfl rfl (any_of HT_.out (by kernel_rfl)) (fun _ _ _ h=>h) (Or.inl ⟨by rfl,?_⟩) ?_ ?_
       rotate_left
       ·intro w'
        go_simp
        with_reducible rfl
       rotate_left
       ·simp only [Act.put,sT,sZ,sS,i64_w,i32_w]
        rfl
       refine pure_ (i:=16) (N:=some 55) (v:=undef) (a':=?_) #[τ,τ,τ,τ,τ,τ,τ,τ,τ,τ,τ,τ,τ,τ,τ,τ,τ,φ,φ,φ,φ,φ,φ,φ,φ,φ,φ,φ,φ,φ,φ,φ] rfl rfl (any_of HT_.out (by kernel_rfl)) (fun _ _ _ h=>h) (Or.inr ⟨by rfl,rfl⟩) ?_ ?_
       rotate_left
       ·simp only [Act.put,sT,sZ,sS,i64_w,i32_w]
        rfl
       refine pure_ (i:=17) (N:=some 56) (v:=undef) (a':=?_) #[τ,τ,τ,τ,τ,τ,τ,τ,τ,τ,τ,τ,τ,τ,τ,τ,τ,τ,φ,φ,φ,φ,φ,φ,φ,φ,φ,φ,φ,φ,φ,φ] rfl rfl (any_of HT_.out (by kernel_rfl)) (fun _ _ _ h=>h) (Or.inr ⟨by rfl,rfl⟩) ?_ ?_
       rotate_left
       ·simp only [Act.put,sT,sZ,sS,i64_w,i32_w]
        rfl
       refine pure_ (i:=18) (N:=some 57) (v:=undef) (a':=?_) #[τ,τ,τ,τ,τ,τ,τ,τ,τ,τ,τ,τ,τ,τ,τ,τ,τ,τ,τ,φ,φ,φ,φ,φ,φ,φ,φ,φ,φ,φ,φ,φ] rfl rfl (any_of HT_.out (by kernel_rfl)) (fun _ _ _ h=>h) (Or.inr ⟨by rfl,rfl⟩) ?_ ?_
       rotate_left
       ·simp only [Act.put,sT,sZ,sS,i64_w,i32_w]
        rfl
       refine pure_ (i:=19) (N:=some 58) (v:=undef) (a':=?_) #[τ,τ,τ,τ,τ,τ,τ,τ,τ,τ,τ,τ,τ,τ,τ,τ,τ,τ,τ,τ,φ,φ,φ,φ,φ,φ,φ,φ,φ,φ,φ,φ] rfl rfl (any_of HT_.out (by kernel_rfl)) (fun _ _ _ h=>h) (Or.inr ⟨by rfl,rfl⟩) ?_ ?_
       rotate_left
       ·simp only [Act.put,sT,sZ,sS,i64_w,i32_w]
        rfl
       refine pure_ (i:=20) (N:=some 59) (v:=undef) (a':=?_) #[τ,τ,τ,τ,τ,τ,τ,τ,τ,τ,τ,τ,τ,τ,τ,τ,τ,τ,τ,τ,τ,φ,φ,φ,φ,φ,φ,φ,φ,φ,φ,φ] rfl rfl (any_of HT_.out (by kernel_rfl)) (fun _ _ _ h=>h) (Or.inr ⟨by rfl,rfl⟩) ?_ ?_
       rotate_left
       ·simp only [Act.put,sT,sZ,sS,i64_w,i32_w]
        rfl
       refine pure_ (i:=21) (N:=some 60) (v:=?_) (a':=?_) #[τ,τ,τ,τ,τ,τ,τ,τ,τ,τ,τ,τ,τ,τ,τ,τ,τ,τ,τ,τ,τ,τ,φ,φ,φ,φ,φ,φ,φ,φ,φ,φ] rfl rfl (any_of HT_.out (by kernel_rfl)) (fun _ _ _ h=>h) (Or.inl ⟨by rfl,?_⟩) ?_ ?_
       rotate_left
       ·intro w'
        go_simp
        with_reducible rfl
       rotate_left
       ·simp only [Act.put,sT,sZ,sS,i64_w,i32_w]
        rfl
       refine pure_ (i:=22) (N:=some 61) (v:=?_) (a':=?_) #[τ,τ,τ,τ,τ,τ,τ,τ,τ,τ,τ,τ,τ,τ,τ,τ,τ,τ,τ,τ,τ,τ,τ,φ,φ,φ,φ,φ,φ,φ,φ,φ] rfl rfl (any_of HT_.out (by kernel_rfl)) (fun _ _ _ h=>h) (Or.inl ⟨by rfl,?_⟩) ?_ ?_
       rotate_left
       ·intro w'
        go_simp
        with_reducible rfl
       rotate_left
       ·simp only [Act.put,sT,sZ,sS,i64_w,i32_w]
        rfl
       refine pure_ (i:=23) (N:=some 62) (v:=undef) (a':=?_) #[τ,τ,τ,τ,τ,τ,τ,τ,τ,τ,τ,τ,τ,τ,τ,τ,τ,τ,τ,τ,τ,τ,τ,τ,φ,φ,φ,φ,φ,φ,φ,φ] rfl rfl (any_of HT_.out (by kernel_rfl)) (fun _ _ _ h=>h) (Or.inr ⟨by rfl,rfl⟩) ?_ ?_
       rotate_left
       ·simp only [Act.put,sT,sZ,sS,i64_w,i32_w]
        rfl
       refine pure_ (i:=24) (N:=some 63) (v:=undef) (a':=?_) #[τ,τ,τ,τ,τ,τ,τ,τ,τ,τ,τ,τ,τ,τ,τ,τ,τ,τ,τ,τ,τ,τ,τ,τ,τ,φ,φ,φ,φ,φ,φ,φ] rfl rfl (any_of HT_.out (by kernel_rfl)) (fun _ _ _ h=>h) (Or.inr ⟨by rfl,rfl⟩) ?_ ?_
       rotate_left
       ·simp only [Act.put,sT,sZ,sS,i64_w,i32_w]
        rfl
       refine pure_ (i:=25) (N:=some 64) (v:=undef) (a':=?_) #[τ,τ,τ,τ,τ,τ,τ,τ,τ,τ,τ,τ,τ,τ,τ,τ,τ,τ,τ,τ,τ,τ,τ,τ,τ,τ,φ,φ,φ,φ,φ,φ] rfl rfl (any_of HT_.out (by kernel_rfl)) (fun _ _ _ h=>h) (Or.inr ⟨by rfl,rfl⟩) ?_ ?_
       rotate_left
       ·simp only [Act.put,sT,sZ,sS,i64_w,i32_w]
        rfl
       refine pure_ (i:=26) (N:=some 65) (v:=undef) (a':=?_) #[τ,τ,τ,τ,τ,τ,τ,τ,τ,τ,τ,τ,τ,τ,τ,τ,τ,τ,τ,τ,τ,τ,τ,τ,τ,τ,τ,φ,φ,φ,φ,φ] rfl rfl (any_of HT_.out (by kernel_rfl)) (fun _ _ _ h=>h) (Or.inr ⟨by rfl,rfl⟩) ?_ ?_
       rotate_left
       ·simp only [Act.put,sT,sZ,sS,i64_w,i32_w]
        rfl
       refine pure_ (i:=27) (N:=some 66) (v:=undef) (a':=?_) #[τ,τ,τ,τ,τ,τ,τ,τ,τ,τ,τ,τ,τ,τ,τ,τ,τ,τ,τ,τ,τ,τ,τ,τ,τ,τ,τ,τ,φ,φ,φ,φ] rfl rfl (any_of HT_.out (by kernel_rfl)) (fun _ _ _ h=>h) (Or.inr ⟨by rfl,rfl⟩) ?_ ?_
       rotate_left
       ·simp only [Act.put,sT,sZ,sS,i64_w,i32_w]
        rfl
       refine pure_ (i:=28) (N:=some 67) (v:=undef) (a':=?_) #[τ,τ,τ,τ,τ,τ,τ,τ,τ,τ,τ,τ,τ,τ,τ,τ,τ,τ,τ,τ,τ,τ,τ,τ,τ,τ,τ,τ,τ,φ,φ,φ] rfl rfl (any_of HT_.out (by kernel_rfl)) (fun _ _ _ h=>h) (Or.inr ⟨by rfl,rfl⟩) ?_ ?_
       rotate_left
       ·simp only [Act.put,sT,sZ,sS,i64_w,i32_w]
        rfl
       refine pure_ (i:=29) (N:=some 68) (v:=undef) (a':=?_) #[τ,τ,τ,τ,τ,τ,τ,τ,τ,τ,τ,τ,τ,τ,τ,τ,τ,τ,τ,τ,τ,τ,τ,τ,τ,τ,τ,τ,τ,τ,φ,φ] rfl rfl (any_of HT_.out (by kernel_rfl)) (fun _ _ _ h=>h) (Or.inr ⟨by rfl,rfl⟩) ?_ ?_
       rotate_left
       ·simp only [Act.put,sT,sZ,sS,i64_w,i32_w]
        rfl
       refine pure_ (i:=30) (N:=some 69) (v:=undef) (a':=?_) #[τ,τ,τ,τ,τ,τ,τ,τ,τ,τ,τ,τ,τ,τ,τ,τ,τ,τ,τ,τ,τ,τ,τ,τ,τ,τ,τ,τ,τ,τ,τ,φ] rfl rfl (any_of HT_.out (by kernel_rfl)) (fun _ _ _ h=>h) (Or.inr ⟨by rfl,rfl⟩) ?_ ?_
       rotate_left
       ·simp only [Act.put,sT,sZ,sS,i64_w,i32_w]
        rfl
       refine pure_ (i:=31) (N:=some 70) (v:=?_) (a':=?_) #[τ,τ,τ,τ,τ,τ,τ,τ,τ,τ,τ,τ,τ,τ,τ,τ,τ,τ,τ,τ,τ,τ,τ,τ,τ,τ,τ,τ,τ,τ,τ,τ] rfl rfl (any_of HT_.out (by kernel_rfl)) (fun _ _ _ h=>h) (Or.inl ⟨by rfl,?_⟩) ?_ ?_
       rotate_left
       ·intro w'
        go_simp
        with_reducible rfl
       rotate_left
       ·simp only [Act.put,sT,sZ,sS,i64_w,i32_w]
        rfl
       refine done_ (done_of HT_.out (by kernel_rfl)) ?_
       try go_wp2
       go_meet
       case rel=>exact ⟨_,(true),(by first|rfl|(simp;done)|(simp [*];done)),H',⟨by have:=HJ3.out;first|omega|exact Nat.le_refl _⟩,⟨by (with_reducible repeat (first|apply vA|apply vN|apply vD));exact Kd.V_mono HO482.out (fun _ hk=>⟨hk.2.1,⟨hk.2.2.1,hk.2.2.2⟩⟩)⟩,⟨by (with_reducible repeat (first|apply vA|apply vN|apply vD));exact Kd.V_mono HO488.out (fun _ hk=>⟨hk.2.1,⟨hk.2.2.1,hk.2.2.2⟩⟩)⟩,⟨by (with_reducible repeat (first|apply bN|apply bD|apply bA));exact BK476.out⟩,⟨by (with_reducible repeat (first|apply bN|apply bD|apply bA));exact BK485.out⟩,⟨by (with_reducible repeat (first|apply bN|apply bD|apply bA));exact BK494.out⟩,⟨by repeat (first|(with_reducible first|exact HB.out|apply lA|apply lN|apply lD|refine lS ?_ GE476.out|refine lS ?_ GE485.out|refine lS ?_ GE494.out)|exact HB.out)⟩⟩
     ·replace c39:=Bool.eq_false_iff.mpr c39
      subst c39
      have H1 : (drawbridgelaw23_LinkStays.j1 kj3 a2 true l0_0 a0_1) = some r:= by rw [if_neg (show ¬ (false = true) by decide)] at H;exact H
      clear H
      have H:=H1
      clear H1
      have H':=mK H
      clear H
      try go_wp2
      have n0_ : Aside0 (Kd.V (Kd.slice 5 (Kd.int .u8)) 25 ((w33.setCell ⟨gb494,0,none⟩ (.slice Ao34 t486.length co34)).setCell ⟨gb494,1,none⟩ (.int .i64 t489)) w.heap.size (fun k_=>some k_ ≠ (v491 : Value).ownBlock∧k_ ≠ gb476∧k_ ≠ gb485∧k_ ≠ gb494) (.slice Ao27 t480.length co27) t480):=⟨by (with_reducible repeat (first|apply vA|apply vN|apply vD));exact Kd.V_mono (Kd.V_far (p:=⟨gb494,1,none⟩) (Kd.V_far (p:=⟨gb494,0,none⟩) (Kd.V_mono HO482.out (fun k_ hk=>(⟨hk,hk.2⟩ : _∧k_ ≠ gb494))) (fun _ hk=>hk.2) (.slice Ao34 t486.length co34)) (fun _ hk=>hk.2) (.int .i64 t489)) (fun _ hk=>⟨hk.1.1.2,⟨hk.1.1.1.1,⟨hk.1.1.1.2,hk.1.2⟩⟩⟩)⟩
      have n1_ : Aside0 (Kd.V (Kd.slice 5 (Kd.int .u8)) 25 ((w33.setCell ⟨gb494,0,none⟩ (.slice Ao34 t486.length co34)).setCell ⟨gb494,1,none⟩ (.int .i64 t489)) w.heap.size (fun k_=>some k_ ≠ (v491 : Value).ownBlock∧k_ ≠ gb476∧k_ ≠ gb485∧k_ ≠ gb494) (.slice Ao34 t486.length co34) t486):=⟨by (with_reducible repeat (first|apply vA|apply vN|apply vD));exact Kd.V_mono (Kd.V_far (p:=⟨gb494,1,none⟩) (Kd.V_far (p:=⟨gb494,0,none⟩) (Kd.V_mono HO488.out (fun k_ hk=>(⟨hk,hk.2⟩ : _∧k_ ≠ gb494))) (fun _ hk=>hk.2) (.slice Ao34 t486.length co34)) (fun _ hk=>hk.2) (.int .i64 t489)) (fun _ hk=>⟨hk.1.1.1,⟨hk.1.1.2.1,⟨hk.1.1.2.2,hk.1.2⟩⟩⟩)⟩
      have n2_ : Aside0 (Kd.R (Kd.int .u8) 5 ((w33.setCell ⟨gb494,0,none⟩ (.slice Ao34 t486.length co34)).setCell ⟨gb494,1,none⟩ (.int .i64 t489)) w.heap.size (fun _=>True) v491 t490):=⟨by (with_reducible repeat (first|apply rA|apply rN|apply rD));exact Kd.R_mono (Kd.R_far (p:=⟨gb494,1,none⟩) (Kd.R_far (p:=⟨gb494,0,none⟩) (Kd.R_types HO492.out BK494.out (by decide)) (fun _ hk=>hk.2) (.slice Ao34 t486.length co34)) (fun _ hk=>hk.2) (.int .i64 t489)) (fun _ hk=>trivial)⟩
      have n3_ : Aside0 (((w33.setCell ⟨gb494,0,none⟩ (.slice Ao34 t486.length co34)).setCell ⟨gb494,1,none⟩ (.int .i64 t489)).heap[gb476]? = some (.cells #[.slice A0_0 l0_0.length c0_0,.int .i64 a0_1] 24 (0,0))):=⟨by (with_reducible repeat (first|apply bN|apply bD|apply bA));refine blk_far ?_ NB476_494.out _;(with_reducible repeat (first|apply bN|apply bD|apply bA));refine blk_far ?_ NB476_494.out _;(with_reducible repeat (first|apply bN|apply bD|apply bA));exact BK476.out⟩
      have n4_ : Aside0 (((w33.setCell ⟨gb494,0,none⟩ (.slice Ao34 t486.length co34)).setCell ⟨gb494,1,none⟩ (.int .i64 t489)).heap[gb485]? = some (.cells #[.slice Ao27 t480.length co27,.int .i64 t483] 24 (0,0))):=⟨by (with_reducible repeat (first|apply bN|apply bD|apply bA));refine blk_far ?_ NB485_494.out _;(with_reducible repeat (first|apply bN|apply bD|apply bA));refine blk_far ?_ NB485_494.out _;(with_reducible repeat (first|apply bN|apply bD|apply bA));exact BK485.out⟩
      have n5_ : Aside0 (((w33.setCell ⟨gb494,0,none⟩ (.slice Ao34 t486.length co34)).setCell ⟨gb494,1,none⟩ (.int .i64 t489)).heap[gb494]? = some (.cells #[.slice Ao34 t486.length co34,.int .i64 t489] 24 (0,0))):=⟨by (with_reducible repeat (first|apply bN|apply bD|apply bA));refine blk_put (cs:=#[.slice Ao34 t486.length co34,.int .i64 0]) ?_ 1 _ rfl;(with_reducible repeat (first|apply bN|apply bD|apply bA));refine blk_put (cs:=#[.slice none 0 0,.int .i64 0]) ?_ 0 _ rfl;(with_reducible repeat (first|apply bN|apply bD|apply bA));exact BK494.out⟩
      have n6_ : Aside0 (Below w.heap.size w ((w33.setCell ⟨gb494,0,none⟩ (.slice Ao34 t486.length co34)).setCell ⟨gb494,1,none⟩ (.int .i64 t489))):=⟨by repeat (first|(with_reducible first|exact HB.out|apply lA|apply lN|apply lD|refine lS ?_ GE476.out|refine lS ?_ GE485.out|refine lS ?_ GE494.out)|exact HB.out)⟩
      (try clear HO482)
      (try clear HO488)
      (try clear HO492)
      (try clear BK476)
      (try clear BK485)
      (try clear BK494)
      (try clear HB)
      generalize ((w33.setCell ⟨gb494,0,none⟩ (.slice Ao34 t486.length co34)).setCell ⟨gb494,1,none⟩ (.int .i64 t489)) = w87 at n0_ n1_ n2_ n3_ n4_ n5_ n6_ ⊢
      have HO482:=n0_
      have HO488:=n1_
      have HO492:=n2_
      have BK476:=n3_
      have BK485:=n4_
      have BK494:=n5_
      have HB:=n6_
      clear n0_ n1_ n2_ n3_ n4_ n5_ n6_
      have n0_:=mK (Kd.V_drew HO482.out)
      have n1_:=mK (Kd.V_drew HO488.out)
      have n2_:=mK (Kd.R_drew HO492.out)
      have n3_:=mK (blk_drew BK476.out)
      have n4_:=mK (blk_drew BK485.out)
      have n5_:=mK (blk_drew BK494.out)
      have n6_:=mK (below_drew1 HB.out)
      clear HO482
      clear HO488
      clear HO492
      clear BK476
      clear BK485
      clear BK494
      clear HB
      have HO482:=n0_
      have HO488:=n1_
      have HO492:=n2_
      have BK476:=n3_
      have BK485:=n4_
      have BK494:=n5_
      have HB:=n6_
      clear n0_ n1_ n2_ n3_ n4_ n5_ n6_
      refine start_ (n:=32) (S:= fun w'=>w'.cell? ⟨gb485,0,none⟩ = some (.slice Ao27 t480.length co27)∧w'.cell? ⟨gb485,1,none⟩ = some (.int .i64 t483)) (ds:=[]) #[φ,φ,φ,φ,φ,φ,φ,φ,φ,φ,φ,φ,φ,φ,φ,φ,φ,φ,φ,φ,φ,φ,φ,φ,φ,φ,φ,φ,φ,φ,φ,φ] (by kernel_rfl) rfl rfl ⟨(blk_cell BK485.out 0).trans rfl,(blk_cell BK485.out 1).trans rfl⟩ (fun hHeld=>?_);refine with_tabW drawbridgelaw23_LinkStays.tab5 drawbridgelaw23_LinkStays.bits5 (fun HT_ HW_=>?_)
      generalize w87.drew = w88 at HO482 HO488 HO492 BK476 BK485 BK494 HB hHeld ⊢
      refine take_ (i:=0) (N:=some 39) (v:=?_) (a':=?_) #[τ,φ,φ,φ,φ,φ,φ,φ,φ,φ,φ,φ,φ,φ,φ,φ,φ,φ,φ,φ,φ,φ,φ,φ,φ,φ,φ,φ,φ,φ,φ,φ] rfl rfl (take_ofW HT_.out HW_.out (by kernel_rfl)) (fun _ _ _ h=>h) (Or.inl ⟨by rfl,?_⟩) hHeld ?_ ?_
      rotate_left
      ·rintro w' ⟨s0,s1⟩
       go_simp
       with_reducible rfl
      rotate_left
      ·simp only [Act.put,sT,sZ,sS,i64_w,i32_w]
       rfl
      refine one_ (i:=1) (N:=some 40) #[τ,τ,φ,φ,φ,φ,φ,φ,φ,φ,φ,φ,φ,φ,φ,φ,φ,φ,φ,φ,φ,φ,φ,φ,φ,φ,φ,φ,φ,φ,φ,φ] rfl rfl (one_of HT_.out (by kernel_rfl)) (by decide) (fun K hK=>?_)
      refine goes_ Try.func20 (by kernel_rfl) rfl #[.agg #[.slice Ao27 t480.length co27,.int .i64 t483]] (by rfl) rfl rfl (by (try simp only [List.map_toArray,List.map_cons,List.map_nil]);first|done|rfl|(simp only [List.length_drop,List.length_take];rfl)) ?_
      with_reducible refine (link_Check.calls _ _ t480 t483 false _ ?side1 ?side2 A38.out).mono ?_
      (case side1=>repeat (first|exact (Kd.V_reads' HO482.out).2.2|(with_reducible refine Kd.C_alloc ?_ _)|(with_reducible refine Kd.C_drewN ?_ _)|(with_reducible refine Kd.C_drew ?_)))
      (case side2=>exact (Kd.V_reads' HO482.out).2.1)
      rintro e w89 ⟨rfl,hb⟩
      refine ⟨_,rfl,?_⟩
      have n0_:=mK (Kd.V_below (by (with_reducible repeat (first|apply vA|apply vN|apply vD));exact HO482.out) hb)
      have n1_:=mK (Kd.V_below (by (with_reducible repeat (first|apply vA|apply vN|apply vD));exact HO488.out) hb)
      have n3_:=mK (blk_below (g:=gb476) (o:=.cells #[.slice A0_0 l0_0.length c0_0,.int .i64 a0_1] 24 (0,0)) (by (with_reducible repeat (first|apply bN|apply bD|apply bA));exact BK476.out) hb)
      have n4_:=mK (blk_below (g:=gb485) (o:=.cells #[.slice Ao27 t480.length co27,.int .i64 t483] 24 (0,0)) (by (with_reducible repeat (first|apply bN|apply bD|apply bA));exact BK485.out) hb)
      have n5_:=mK (blk_below (g:=gb494) (o:=.cells #[.slice Ao34 t486.length co34,.int .i64 t489] 24 (0,0)) (by (with_reducible repeat (first|apply bN|apply bD|apply bA));exact BK494.out) hb)
      have n6_:=mK (below_step (by repeat (first|(with_reducible first|exact HB.out|apply lA|apply lN|apply lD|refine lS ?_ GE476.out|refine lS ?_ GE485.out|refine lS ?_ GE494.out)|exact HB.out)) hb)
      clear HO482
      clear HO488
      clear BK476
      clear BK485
      clear BK494
      clear HB
      have HO482:=n0_
      have HO488:=n1_
      have BK476:=n3_
      have BK485:=n4_
      have BK494:=n5_
      have HB:=n6_
      clear n0_ n1_ n3_ n4_ n5_ n6_
      (try clear hb)
      (try clear hb2)
      (try clear hk)
      (try clear hi)
      refine hK.out _ _ ⟨(blk_cell BK485.out 0).trans rfl,(blk_cell BK485.out 1).trans rfl⟩ (fun hHeld=>?_)
      clear hK K
      refine norm_ (a':=?_) ?_ ?_
      rotate_left
      ·show Act.put _ (some 40) _ = _
       simp only [Act.put,sT,sZ,sS,i64_w,i32_w]
       rfl
      refine pure_ (i:=2) (N:=some 41) (v:=?_) (a':=?_) #[τ,τ,τ,φ,φ,φ,φ,φ,φ,φ,φ,φ,φ,φ,φ,φ,φ,φ,φ,φ,φ,φ,φ,φ,φ,φ,φ,φ,φ,φ,φ,φ] rfl rfl (any_of HT_.out (by kernel_rfl)) (fun _ _ _ h=>h) (Or.inl ⟨by rfl,?_⟩) ?_ ?_
      rotate_left
      ·intro w'
       go_simp
       with_reducible rfl
      rotate_left
      ·simp only [Act.put,sT,sZ,sS,i64_w,i32_w]
       rfl
      refine pure_ (i:=3) (N:=some 42) (v:=?_) (a':=?_) #[τ,τ,τ,τ,φ,φ,φ,φ,φ,φ,φ,φ,φ,φ,φ,φ,φ,φ,φ,φ,φ,φ,φ,φ,φ,φ,φ,φ,φ,φ,φ,φ] rfl rfl (any_of HT_.out (by kernel_rfl)) (fun _ _ _ h=>h) (Or.inl ⟨by rfl,?_⟩) ?_ ?_
      rotate_left
      ·intro w'
       go_simp
       with_reducible rfl
      rotate_left
      ·simp only [Act.put,sT,sZ,sS,i64_w,i32_w]
       rfl
      refine pure_ (i:=4) (N:=some 43) (v:=undef) (a':=?_) #[τ,τ,τ,τ,τ,φ,φ,φ,φ,φ,φ,φ,φ,φ,φ,φ,φ,φ,φ,φ,φ,φ,φ,φ,φ,φ,φ,φ,φ,φ,φ,φ] rfl rfl (any_of HT_.out (by kernel_rfl)) (fun _ _ _ h=>h) (Or.inr ⟨by rfl,rfl⟩) ?_ ?_
      rotate_left
      ·simp only [Act.put,sT,sZ,sS,i64_w,i32_w]
       rfl
      refine pure_ (i:=5) (N:=some 44) (v:=undef) (a':=?_) #[τ,τ,τ,τ,τ,τ,φ,φ,φ,φ,φ,φ,φ,φ,φ,φ,φ,φ,φ,φ,φ,φ,φ,φ,φ,φ,φ,φ,φ,φ,φ,φ] rfl rfl (any_of HT_.out (by kernel_rfl)) (fun _ _ _ h=>h) (Or.inr ⟨by rfl,rfl⟩) ?_ ?_
      rotate_left
      ·simp only [Act.put,sT,sZ,sS,i64_w,i32_w]
       rfl
      refine pure_ (i:=6) (N:=some 45) (v:=undef) (a':=?_) #[τ,τ,τ,τ,τ,τ,τ,φ,φ,φ,φ,φ,φ,φ,φ,φ,φ,φ,φ,φ,φ,φ,φ,φ,φ,φ,φ,φ,φ,φ,φ,φ] rfl rfl (any_of HT_.out (by kernel_rfl)) (fun _ _ _ h=>h) (Or.inr ⟨by rfl,rfl⟩) ?_ ?_
      rotate_left
      ·simp only [Act.put,sT,sZ,sS,i64_w,i32_w]
       rfl
      refine pure_ (i:=7) (N:=some 46) (v:=?_) (a':=?_) #[τ,τ,τ,τ,τ,τ,τ,τ,φ,φ,φ,φ,φ,φ,φ,φ,φ,φ,φ,φ,φ,φ,φ,φ,φ,φ,φ,φ,φ,φ,φ,φ] rfl rfl (any_of HT_.out (by kernel_rfl)) (fun _ _ _ h=>h) (Or.inl ⟨by rfl,?_⟩) ?_ ?_
      rotate_left
      ·intro w'
       go_simp
       with_reducible rfl
      rotate_left
      ·simp only [Act.put,sT,sZ,sS,i64_w,i32_w]
       rfl
      refine pure_ (i:=8) (N:=some 47) (v:=?_) (a':=?_) #[τ,τ,τ,τ,τ,τ,τ,τ,τ,φ,φ,φ,φ,φ,φ,φ,φ,φ,φ,φ,φ,φ,φ,φ,φ,φ,φ,φ,φ,φ,φ,φ] rfl rfl (any_of HT_.out (by kernel_rfl)) (fun _ _ _ h=>h) (Or.inl ⟨by rfl,?_⟩) ?_ ?_
      rotate_left
      ·intro w'
       go_simp
       with_reducible rfl
      rotate_left
      ·simp only [Act.put,sT,sZ,sS,i64_w,i32_w]
       rfl
      refine pure_ (i:=9) (N:=some 48) (v:=undef) (a':=?_) #[τ,τ,τ,τ,τ,τ,τ,τ,τ,τ,φ,φ,φ,φ,φ,φ,φ,φ,φ,φ,φ,φ,φ,φ,φ,φ,φ,φ,φ,φ,φ,φ] rfl rfl (any_of HT_.out (by kernel_rfl)) (fun _ _ _ h=>h) (Or.inr ⟨by rfl,rfl⟩) ?_ ?_
      rotate_left
      ·simp only [Act.put,sT,sZ,sS,i64_w,i32_w]
       rfl
      refine pure_ (i:=10) (N:=some 49) (v:=undef) (a':=?_) #[τ,τ,τ,τ,τ,τ,τ,τ,τ,τ,τ,φ,φ,φ,φ,φ,φ,φ,φ,φ,φ,φ,φ,φ,φ,φ,φ,φ,φ,φ,φ,φ] rfl rfl (any_of HT_.out (by kernel_rfl)) (fun _ _ _ h=>h) (Or.inr ⟨by rfl,rfl⟩) ?_ ?_
      rotate_left
      ·simp only [Act.put,sT,sZ,sS,i64_w,i32_w]
       rfl
      refine pure_ (i:=11) (N:=some 50) (v:=undef) (a':=?_) #[τ,τ,τ,τ,τ,τ,τ,τ,τ,τ,τ,τ,φ,φ,φ,φ,φ,φ,φ,φ,φ,φ,φ,φ,φ,φ,φ,φ,φ,φ,φ,φ] rfl rfl (any_of HT_.out (by kernel_rfl)) (fun _ _ _ h=>h) (Or.inr ⟨by rfl,rfl⟩) ?_ ?_
      rotate_left
      ·simp only [Act.put,sT,sZ,sS,i64_w,i32_w]
       rfl
      refine pure_ (i:=12) (N:=some 51) (v:=undef) (a':=?_) #[τ,τ,τ,τ,τ,τ,τ,τ,τ,τ,τ,τ,τ,φ,φ,φ,φ,φ,φ,φ,φ,φ,φ,φ,φ,φ,φ,φ,φ,φ,φ,φ] rfl rfl (any_of HT_.out (by kernel_rfl)) (fun _ _ _ h=>h) (Or.inr ⟨by rfl,rfl⟩) ?_ ?_
      rotate_left
      ·simp only [Act.put,sT,sZ,sS,i64_w,i32_w]
       rfl
      refine pure_ (i:=13) (N:=some 52) (v:=undef) (a':=?_) #[τ,τ,τ,τ,τ,τ,τ,τ,τ,τ,τ,τ,τ,τ,φ,φ,φ,φ,φ,φ,φ,φ,φ,φ,φ,φ,φ,φ,φ,φ,φ,φ] rfl rfl (any_of HT_.out (by kernel_rfl)) (fun _ _ _ h=>h) (Or.inr ⟨by rfl,rfl⟩) ?_ ?_
      rotate_left
      ·simp only [Act.put,sT,sZ,sS,i64_w,i32_w]
       rfl
      refine pure_ (i:=14) (N:=some 53) (v:=?_) (a':=?_) #[τ,τ,τ,τ,τ,τ,τ,τ,τ,τ,τ,τ,τ,τ,τ,φ,φ,φ,φ,φ,φ,φ,φ,φ,φ,φ,φ,φ,φ,φ,φ,φ] rfl rfl (any_of HT_.out (by kernel_rfl)) (fun _ _ _ h=>h) (Or.inl ⟨by rfl,?_⟩) ?_ ?_
      rotate_left
      ·intro w'
       go_simp
       with_reducible rfl
      rotate_left
      ·simp only [Act.put,sT,sZ,sS,i64_w,i32_w]
       rfl
      refine pure_ (i:=15) (N:=some 54) (v:=?_) (a':=?_) #[τ,τ,τ,τ,τ,τ,τ,τ,τ,τ,τ,τ,τ,τ,τ,τ,φ,φ,φ,φ,φ,φ,φ,φ,φ,φ,φ,φ,φ,φ,φ,φ] rfl rfl (any_of HT_.out (by kernel_rfl)) (fun _ _ _ h=>h) (Or.inl ⟨by rfl,?_⟩) ?_ ?_
      rotate_left
      ·intro w'
       go_simp
       with_reducible rfl
      rotate_left
      ·simp only [Act.put,sT,sZ,sS,i64_w,i32_w]
       rfl
      refine pure_ (i:=16) (N:=some 55) (v:=undef) (a':=?_) #[τ,τ,τ,τ,τ,τ,τ,τ,τ,τ,τ,τ,τ,τ,τ,τ,τ,φ,φ,φ,φ,φ,φ,φ,φ,φ,φ,φ,φ,φ,φ,φ] rfl rfl (any_of HT_.out (by kernel_rfl)) (fun _ _ _ h=>h) (Or.inr ⟨by rfl,rfl⟩) ?_ ?_
      rotate_left
      ·simp only [Act.put,sT,sZ,sS,i64_w,i32_w]
       rfl
      refine pure_ (i:=17) (N:=some 56) (v:=undef) (a':=?_) #[τ,τ,τ,τ,τ,τ,τ,τ,τ,τ,τ,τ,τ,τ,τ,τ,τ,τ,φ,φ,φ,φ,φ,φ,φ,φ,φ,φ,φ,φ,φ,φ] rfl rfl (any_of HT_.out (by kernel_rfl)) (fun _ _ _ h=>h) (Or.inr ⟨by rfl,rfl⟩) ?_ ?_
      rotate_left
      ·simp only [Act.put,sT,sZ,sS,i64_w,i32_w]
       rfl
      refine pure_ (i:=18) (N:=some 57) (v:=undef) (a':=?_) #[τ,τ,τ,τ,τ,τ,τ,τ,τ,τ,τ,τ,τ,τ,τ,τ,τ,τ,τ,φ,φ,φ,φ,φ,φ,φ,φ,φ,φ,φ,φ,φ] rfl rfl (any_of HT_.out (by kernel_rfl)) (fun _ _ _ h=>h) (Or.inr ⟨by rfl,rfl⟩) ?_ ?_
      rotate_left
      ·simp only [Act.put,sT,sZ,sS,i64_w,i32_w]
       rfl
      refine pure_ (i:=19) (N:=some 58) (v:=undef) (a':=?_) #[τ,τ,τ,τ,τ,τ,τ,τ,τ,τ,τ,τ,τ,τ,τ,τ,τ,τ,τ,τ,φ,φ,φ,φ,φ,φ,φ,φ,φ,φ,φ,φ] rfl rfl (any_of HT_.out (by kernel_rfl)) (fun _ _ _ h=>h) (Or.inr ⟨by rfl,rfl⟩) ?_ ?_
      rotate_left
      ·simp only [Act.put,sT,sZ,sS,i64_w,i32_w]
       rfl
      refine pure_ (i:=20) (N:=some 59) (v:=undef) (a':=?_) #[τ,τ,τ,τ,τ,τ,τ,τ,τ,τ,τ,τ,τ,τ,τ,τ,τ,τ,τ,τ,τ,φ,φ,φ,φ,φ,φ,φ,φ,φ,φ,φ] rfl rfl (any_of HT_.out (by kernel_rfl)) (fun _ _ _ h=>h) (Or.inr ⟨by rfl,rfl⟩) ?_ ?_
      rotate_left
      ·simp only [Act.put,sT,sZ,sS,i64_w,i32_w]
       rfl
      refine pure_ (i:=21) (N:=some 60) (v:=?_) (a':=?_) #[τ,τ,τ,τ,τ,τ,τ,τ,τ,τ,τ,τ,τ,τ,τ,τ,τ,τ,τ,τ,τ,τ,φ,φ,φ,φ,φ,φ,φ,φ,φ,φ] rfl rfl (any_of HT_.out (by kernel_rfl)) (fun _ _ _ h=>h) (Or.inl ⟨by rfl,?_⟩) ?_ ?_
      rotate_left
      ·intro w'
       go_simp
       with_reducible rfl
      rotate_left
      ·simp only [Act.put,sT,sZ,sS,i64_w,i32_w]
       rfl
      refine pure_ (i:=22) (N:=some 61) (v:=?_) (a':=?_) #[τ,τ,τ,τ,τ,τ,τ,τ,τ,τ,τ,τ,τ,τ,τ,τ,τ,τ,τ,τ,τ,τ,τ,φ,φ,φ,φ,φ,φ,φ,φ,φ] rfl rfl (any_of HT_.out (by kernel_rfl)) (fun _ _ _ h=>h) (Or.inl ⟨by rfl,?_⟩) ?_ ?_
      rotate_left
      ·intro w'
       go_simp
       with_reducible rfl
      rotate_left
      ·simp only [Act.put,sT,sZ,sS,i64_w,i32_w]
       rfl
      refine pure_ (i:=23) (N:=some 62) (v:=undef) (a':=?_) #[τ,τ,τ,τ,τ,τ,τ,τ,τ,τ,τ,τ,τ,τ,τ,τ,τ,τ,τ,τ,τ,τ,τ,τ,φ,φ,φ,φ,φ,φ,φ,φ] rfl rfl (any_of HT_.out (by kernel_rfl)) (fun _ _ _ h=>h) (Or.inr ⟨by rfl,rfl⟩) ?_ ?_
      rotate_left
      ·simp only [Act.put,sT,sZ,sS,i64_w,i32_w]
       rfl
      refine pure_ (i:=24) (N:=some 63) (v:=undef) (a':=?_) #[τ,τ,τ,τ,τ,τ,τ,τ,τ,τ,τ,τ,τ,τ,τ,τ,τ,τ,τ,τ,τ,τ,τ,τ,τ,φ,φ,φ,φ,φ,φ,φ] rfl rfl (any_of HT_.out (by kernel_rfl)) (fun _ _ _ h=>h) (Or.inr ⟨by rfl,rfl⟩) ?_ ?_
      rotate_left
      ·simp only [Act.put,sT,sZ,sS,i64_w,i32_w]
       rfl
      refine pure_ (i:=25) (N:=some 64) (v:=undef) (a':=?_) #[τ,τ,τ,τ,τ,τ,τ,τ,τ,τ,τ,τ,τ,τ,τ,τ,τ,τ,τ,τ,τ,τ,τ,τ,τ,τ,φ,φ,φ,φ,φ,φ] rfl rfl (any_of HT_.out (by kernel_rfl)) (fun _ _ _ h=>h) (Or.inr ⟨by rfl,rfl⟩) ?_ ?_
      rotate_left
      ·simp only [Act.put,sT,sZ,sS,i64_w,i32_w]
       rfl
      refine pure_ (i:=26) (N:=some 65) (v:=undef) (a':=?_) #[τ,τ,τ,τ,τ,τ,τ,τ,τ,τ,τ,τ,τ,τ,τ,τ,τ,τ,τ,τ,τ,τ,τ,τ,τ,τ,τ,φ,φ,φ,φ,φ] rfl rfl (any_of HT_.out (by kernel_rfl)) (fun _ _ _ h=>h) (Or.inr ⟨by rfl,rfl⟩) ?_ ?_
      rotate_left
      ·simp only [Act.put,sT,sZ,sS,i64_w,i32_w]
       rfl
      refine pure_ (i:=27) (N:=some 66) (v:=undef) (a':=?_) #[τ,τ,τ,τ,τ,τ,τ,τ,τ,τ,τ,τ,τ,τ,τ,τ,τ,τ,τ,τ,τ,τ,τ,τ,τ,τ,τ,τ,φ,φ,φ,φ] rfl rfl (any_of HT_.out (by kernel_rfl)) (fun _ _ _ h=>h) (Or.inr ⟨by rfl,rfl⟩) ?_ ?_
      rotate_left
      ·simp only [Act.put,sT,sZ,sS,i64_w,i32_w]
       rfl
      refine pure_ (i:=28) (N:=some 67) (v:=undef) (a':=?_) #[τ,τ,τ,τ,τ,τ,τ,τ,τ,τ,τ,τ,τ,τ,τ,τ,τ,τ,τ,τ,τ,τ,τ,τ,τ,τ,τ,τ,τ,φ,φ,φ] rfl rfl (any_of HT_.out (by kernel_rfl)) (fun _ _ _ h=>h) (Or.inr ⟨by rfl,rfl⟩) ?_ ?_
      rotate_left
      ·simp only [Act.put,sT,sZ,sS,i64_w,i32_w]
       rfl
      refine pure_ (i:=29) (N:=some 68) (v:=undef) (a':=?_) #[τ,τ,τ,τ,τ,τ,τ,τ,τ,τ,τ,τ,τ,τ,τ,τ,τ,τ,τ,τ,τ,τ,τ,τ,τ,τ,τ,τ,τ,τ,φ,φ] rfl rfl (any_of HT_.out (by kernel_rfl)) (fun _ _ _ h=>h) (Or.inr ⟨by rfl,rfl⟩) ?_ ?_
      rotate_left
      ·simp only [Act.put,sT,sZ,sS,i64_w,i32_w]
       rfl
      refine pure_ (i:=30) (N:=some 69) (v:=undef) (a':=?_) #[τ,τ,τ,τ,τ,τ,τ,τ,τ,τ,τ,τ,τ,τ,τ,τ,τ,τ,τ,τ,τ,τ,τ,τ,τ,τ,τ,τ,τ,τ,τ,φ] rfl rfl (any_of HT_.out (by kernel_rfl)) (fun _ _ _ h=>h) (Or.inr ⟨by rfl,rfl⟩) ?_ ?_
      rotate_left
      ·simp only [Act.put,sT,sZ,sS,i64_w,i32_w]
       rfl
      refine pure_ (i:=31) (N:=some 70) (v:=?_) (a':=?_) #[τ,τ,τ,τ,τ,τ,τ,τ,τ,τ,τ,τ,τ,τ,τ,τ,τ,τ,τ,τ,τ,τ,τ,τ,τ,τ,τ,τ,τ,τ,τ,τ] rfl rfl (any_of HT_.out (by kernel_rfl)) (fun _ _ _ h=>h) (Or.inl ⟨by rfl,?_⟩) ?_ ?_
      rotate_left
      ·intro w'
       go_simp
       with_reducible rfl
      rotate_left
      ·simp only [Act.put,sT,sZ,sS,i64_w,i32_w]
       rfl
      refine done_ (done_of HT_.out (by kernel_rfl)) ?_
      try go_wp2
      go_meet
      case rel=>exact ⟨_,(true),(by first|rfl|(simp;done)|(simp [*];done)),H',⟨by have:=HJ3.out;first|omega|exact Nat.le_refl _⟩,⟨by (with_reducible repeat (first|apply vA|apply vN|apply vD));exact Kd.V_mono HO482.out (fun _ hk=>⟨hk.2.1,⟨hk.2.2.1,hk.2.2.2⟩⟩)⟩,⟨by (with_reducible repeat (first|apply vA|apply vN|apply vD));exact Kd.V_mono HO488.out (fun _ hk=>⟨hk.2.1,⟨hk.2.2.1,hk.2.2.2⟩⟩)⟩,⟨by (with_reducible repeat (first|apply bN|apply bD|apply bA));exact BK476.out⟩,⟨by (with_reducible repeat (first|apply bN|apply bD|apply bA));exact BK485.out⟩,⟨by (with_reducible repeat (first|apply bN|apply bD|apply bA));exact BK494.out⟩,⟨by repeat (first|(with_reducible first|exact HB.out|apply lA|apply lN|apply lD|refine lS ?_ GE476.out|refine lS ?_ GE485.out|refine lS ?_ GE494.out)|exact HB.out)⟩⟩
    case rest =>
     clear HC23
     try clear c2
     try clear p2
     try clear c3
     try clear c4
     try clear c20
     try clear c39
     try clear c41
     obtain ⟨kq,x70_22,rfl,HA,HJ22,HO_486000,HO_495000,BK476,BK485,BK494,HB⟩:=hcut
     cases kq with
     |zero=>exact absurd HA.out (by simp [drawbridgelaw23_LinkStays.j1])
     |succ kj22 =>
      have H:=HA.out
      clear HA
      simp only [drawbridgelaw23_LinkStays.j1] at H
      by_cases c90 : x70_22 = true
      ·subst c90
       have H1 : (some false) = some r:= by rw [if_pos rfl] at H;exact H
       clear H
       have H:=H1
       clear H1
       exact absurd (H.trans (congrArg some HTr_.out)) (by simp)
      ·replace c90:=Bool.eq_false_iff.mpr c90
       subst c90
       have H1 : ((link_Twice.f kj22 l0_0 a0_1 a2).bind fun bt516=>(if (bt516.1.length : Int) = (l0_0.length : Int) then ((drawbridgelaw23_heads.f kj22).bind fun t521=>(some t521)) else ((link_Drop.f kj22 bt516.1 bt516.2 a2).bind fun bt522=>((drawbridgeref23_Same.f kj22 bt522.1 bt522.2 l0_0 a0_1).bind fun t526=>(if t526 = true then ((drawbridgelaw23_heads.f kj22).bind fun t527=>(some t527)) else (some false)))))) = some r:= by rw [if_neg (show ¬ (false = true) by decide)] at H;exact H
       clear H
       have H:=H1
       clear H1
       replace H:=Option.bind_eq_some_iff.mp H
       obtain ⟨⟨t516,t519⟩,A910,H⟩:=H
       replace H : (if (t516.length : Int) = (l0_0.length : Int) then ((drawbridgelaw23_heads.f kj22).bind fun t521=>(some t521)) else ((link_Drop.f kj22 t516 t519 a2).bind fun bt522=>((drawbridgeref23_Same.f kj22 bt522.1 bt522.2 l0_0 a0_1).bind fun t526=>(if t526 = true then ((drawbridgelaw23_heads.f kj22).bind fun t527=>(some t527)) else (some false))))) = some r:=H
       have A91:=mK A910
       clear A910
       by_cases c92 : (t516.length : Int) = (l0_0.length : Int)
       ·rw [if_pos c92] at H
        have c92b0 : ((t516.length : Int) == (l0_0.length : Int)) = true:=beq_iff_eq.mpr c92
        have c92b1 : ((t516.length : Int) != (l0_0.length : Int)) = false:=bne_eq_false_iff_eq.mpr c92
        have c92b2 : (t516.length == l0_0.length) = true:= by first|simpa using c92|(simp at c92 ⊢; omega)
        clear c92
        replace H:=Option.bind_eq_some_iff.mp H
        obtain ⟨t521,A930,H⟩:=H
        replace H : (some t521) = some r:=H
        have A93:=mK A930
        clear A930
        obtain rfl:=Option.some.inj H
        have hnb94:=NB476_485.out
        have hnc94:=NB485_476.out
        have hnb95:=NB476_494.out
        have hnc95:=NB494_476.out
        have hcz96_0 : wc.cell? ⟨gb476,0,none⟩ = some (.slice A0_0 l0_0.length c0_0):=(blk_cell BK476.out 0).trans rfl
        have hcz96_1 : wc.cell? ⟨gb476,1,none⟩ = some (.int .i64 a0_1):=(blk_cell BK476.out 1).trans rfl
        have hfz96_0:=blk_frozen BK476.out 0
        have hfz96_1:=blk_frozen BK476.out 1
        try go_wp2_with (first|((with_reducible refine gate_callee (f:=16) rfl ?_);refine goesL_ (some 73) rfl rfl Try.func16 (by kernel_rfl) rfl #[.agg #[.slice A0_0 l0_0.length c0_0,.int .i64 a0_1],.int .i64 a2] rfl (by (try simp only [List.map_toArray,List.map_cons,List.map_nil]);first|done|rfl|(simp only [List.length_drop,List.length_take];rfl)) ?_;(with_reducible refine (link_Twice.calls kj22 (fun k_=>k_ < w.heap.size) _ _ l0_0 a0_1 a2 t516 t519 _ ?side1 A91.out).mono ?_);(case side1=>exact Kd.V_mk HC0_0.out (Kd.F_below (Kd.C_F (Kd.heap_slice 5 (Kd.heap_int .u8)) HR0_0.out) (by repeat (first|(with_reducible first|exact HB.out|apply lA|apply lN|apply lD|refine lS ?_ GE476.out|refine lS ?_ GE485.out|refine lS ?_ GE494.out)|exact HB.out))));rintro e w97 ⟨v517,rfl,ho0,hb⟩;refine ⟨_,rfl,?_⟩;have n0_:=mK (Kd.V_below (by (with_reducible repeat (first|apply vA|apply vN|apply vD));exact HO_486000.out) hb);have n1_:=mK (Kd.V_below (by (with_reducible repeat (first|apply vA|apply vN|apply vD));exact HO_495000.out) hb);have n2_:=mK (Kd.V_lower (Kd.V_mono (ok':= fun k_=>k_ ≠ gb476∧k_ ≠ gb485∧k_ ≠ gb494) ho0 (fun k_ hk_=>⟨Or.elim hk_ (fun hs_=>fun e_=>Nat.not_le.2 hs_ (by rw [e_];exact GW476.out)) (fun hn_=>(Kd.freshB (g:=gb476) (o:=.cells #[.slice A0_0 l0_0.length c0_0,.int .i64 a0_1] 24 (0,0)) (by (with_reducible repeat (first|apply bN|apply bD|apply bA));exact BK476.out) k_ hn_)),Or.elim hk_ (fun hs_=>fun e_=>Nat.not_le.2 hs_ (by rw [e_];exact GW485.out)) (fun hn_=>(Kd.freshB (g:=gb485) (o:=.cells #[.slice Ao27 t480.length co27,.int .i64 t483] 24 (0,0)) (by (with_reducible repeat (first|apply bN|apply bD|apply bA));exact BK485.out) k_ hn_)),Or.elim hk_ (fun hs_=>fun e_=>Nat.not_le.2 hs_ (by rw [e_];exact GW494.out)) (fun hn_=>(Kd.freshB (g:=gb494) (o:=.cells #[.slice Ao34 t486.length co34,.int .i64 t489] 24 (0,0)) (by (with_reducible repeat (first|apply bN|apply bD|apply bA));exact BK494.out) k_ hn_))⟩)) (below_size (by repeat (first|(with_reducible first|exact HB.out|apply lA|apply lN|apply lD|refine lS ?_ GE476.out|refine lS ?_ GE485.out|refine lS ?_ GE494.out)|exact HB.out))));have n3_:=mK (blk_below (g:=gb476) (o:=.cells #[.slice A0_0 l0_0.length c0_0,.int .i64 a0_1] 24 (0,0)) (by (with_reducible repeat (first|apply bN|apply bD|apply bA));exact BK476.out) hb);have n4_:=mK (blk_below (g:=gb485) (o:=.cells #[.slice Ao27 t480.length co27,.int .i64 t483] 24 (0,0)) (by (with_reducible repeat (first|apply bN|apply bD|apply bA));exact BK485.out) hb);have n5_:=mK (blk_below (g:=gb494) (o:=.cells #[.slice Ao34 t486.length co34,.int .i64 t489] 24 (0,0)) (by (with_reducible repeat (first|apply bN|apply bD|apply bA));exact BK494.out) hb);have n6_:=mK (below_step (by repeat (first|(with_reducible first|exact HB.out|apply lA|apply lN|apply lD|refine lS ?_ GE476.out|refine lS ?_ GE485.out|refine lS ?_ GE494.out)|exact HB.out)) hb);clear HO_486000;clear HO_495000;clear BK476;clear BK485;clear BK494;clear HB;have HO_486000:=n0_;have HO_495000:=n1_;have HO518:=n2_;have BK476:=n3_;have BK485:=n4_;have BK494:=n5_;have HB:=n6_;clear n0_ n1_ n2_ n3_ n4_ n5_ n6_;(try clear hb);(try clear hb2);(try clear hk);(try clear hi);(try clear ho0))|((with_reducible refine gate_dst (N:=12) rfl ?_);(try (refine gate_guard (by rfl) ?_;dsimp only));refine box_event ?hg (N:=12) ?hd (cs:=#[.slice none 0 0,.int .i64 0]) (t:=24) ?hr ?_;(case hd=>rfl);(case hg=>rfl);(case hr=>first|(go_simp;done)|(go_simp;rfl));intro gb520 hg w98 hbox hb;have n0_:=mK (Kd.V_below (Kd.V_elderB (by (with_reducible repeat (first|apply vA|apply vN|apply vD));exact HO_486000.out) gb520 (Nat.le_of_eq hg.symm)) hb);have n1_:=mK (Kd.V_below (Kd.V_elderB (by (with_reducible repeat (first|apply vA|apply vN|apply vD));exact HO_495000.out) gb520 (Nat.le_of_eq hg.symm)) hb);have n2_:=mK (Kd.V_below (Kd.V_elderB (by (with_reducible repeat (first|apply vA|apply vN|apply vD));exact HO518.out) gb520 (Nat.le_of_eq hg.symm)) hb);have n3_:=mK (blk_below (g:=gb476) (o:=.cells #[.slice A0_0 l0_0.length c0_0,.int .i64 a0_1] 24 (0,0)) (by (with_reducible repeat (first|apply bN|apply bD|apply bA));exact BK476.out) hb);have n4_:=mK (blk_below (g:=gb485) (o:=.cells #[.slice Ao27 t480.length co27,.int .i64 t483] 24 (0,0)) (by (with_reducible repeat (first|apply bN|apply bD|apply bA));exact BK485.out) hb);have n5_:=mK (blk_below (g:=gb494) (o:=.cells #[.slice Ao34 t486.length co34,.int .i64 t489] 24 (0,0)) (by (with_reducible repeat (first|apply bN|apply bD|apply bA));exact BK494.out) hb);have n6_:=mK (below_step (by repeat (first|(with_reducible first|exact HB.out|apply lA|apply lN|apply lD|refine lS ?_ GE476.out|refine lS ?_ GE485.out|refine lS ?_ GE494.out)|exact HB.out)) hb);have n7_:=mK (hbox);have n9_:=mK ((by rw [hg];exact (below_size (by repeat (first|(with_reducible first|exact HB.out|apply lA|apply lN|apply lD|refine lS ?_ GE476.out|refine lS ?_ GE485.out|refine lS ?_ GE494.out)|exact HB.out))) : w.heap.size ≤ gb520));have n10_:=mK ((by rw [hg];exact Nat.ne_of_lt (blk_lt (g:=gb476) (o:=.cells #[.slice A0_0 l0_0.length c0_0,.int .i64 a0_1] 24 (0,0)) (by (with_reducible repeat (first|apply bN|apply bD|apply bA));exact BK476.out)) : gb476 ≠ gb520));have n11_:=mK ((by rw [hg];exact Nat.ne_of_gt (blk_lt (g:=gb476) (o:=.cells #[.slice A0_0 l0_0.length c0_0,.int .i64 a0_1] 24 (0,0)) (by (with_reducible repeat (first|apply bN|apply bD|apply bA));exact BK476.out)) : gb520 ≠ gb476));have n12_:=mK ((by rw [hg];exact Nat.ne_of_lt (blk_lt (g:=gb485) (o:=.cells #[.slice Ao27 t480.length co27,.int .i64 t483] 24 (0,0)) (by (with_reducible repeat (first|apply bN|apply bD|apply bA));exact BK485.out)) : gb485 ≠ gb520));have n13_:=mK ((by rw [hg];exact Nat.ne_of_gt (blk_lt (g:=gb485) (o:=.cells #[.slice Ao27 t480.length co27,.int .i64 t483] 24 (0,0)) (by (with_reducible repeat (first|apply bN|apply bD|apply bA));exact BK485.out)) : gb520 ≠ gb485));have n14_:=mK ((by rw [hg];exact Nat.ne_of_lt (blk_lt (g:=gb494) (o:=.cells #[.slice Ao34 t486.length co34,.int .i64 t489] 24 (0,0)) (by (with_reducible repeat (first|apply bN|apply bD|apply bA));exact BK494.out)) : gb494 ≠ gb520));have n15_:=mK ((by rw [hg];exact Nat.ne_of_gt (blk_lt (g:=gb494) (o:=.cells #[.slice Ao34 t486.length co34,.int .i64 t489] 24 (0,0)) (by (with_reducible repeat (first|apply bN|apply bD|apply bA));exact BK494.out)) : gb520 ≠ gb494));clear HO_486000;clear HO_495000;clear HO518;clear BK476;clear BK485;clear BK494;clear HB;have HO_486000:=n0_;have HO_495000:=n1_;have HO518:=n2_;have BK476:=n3_;have BK485:=n4_;have BK494:=n5_;have HB:=n6_;have BK520:=n7_;have GE520:=n9_;have NB476_520:=n10_;have NB520_476:=n11_;have NB485_520:=n12_;have NB520_485:=n13_;have NB494_520:=n14_;have NB520_494:=n15_;clear n0_ n1_ n2_ n3_ n4_ n5_ n6_ n7_ n9_ n10_ n11_ n12_ n13_ n14_ n15_;clear hb hbox hg;obtain ⟨Ao99,co99,eo99⟩:=Kd.V_slice HO518.out;subst eo99;have hnb100:=NB520_476.out;have hnc100:=NB476_520.out;have hnb101:=NB520_485.out;have hnc101:=NB485_520.out;have hnb102:=NB520_494.out;have hnc102:=NB494_520.out;have hcz103_0 : w98.cell? ⟨gb520,0,none⟩ = some (.slice none 0 0):=(blk_cell BK520.out 0).trans rfl;have hcz103_1 : w98.cell? ⟨gb520,1,none⟩ = some (.int .i64 0):=(blk_cell BK520.out 1).trans rfl;have hfz103_0:=blk_frozen BK520.out 0;have hfz103_1:=blk_frozen BK520.out 1))
        have n0_ : Aside0 (Kd.V (Kd.slice 5 (Kd.int .u8)) 25 ((w98.setCell ⟨gb520,0,none⟩ (.slice Ao99 t516.length co99)).setCell ⟨gb520,1,none⟩ (.int .i64 t519)) w.heap.size (fun k_=>k_ ≠ gb476∧k_ ≠ gb485∧k_ ≠ gb494∧k_ ≠ gb520) (.slice Ao27 t480.length co27) t480):=⟨by (with_reducible repeat (first|apply vA|apply vN|apply vD));exact Kd.V_mono (Kd.V_far (p:=⟨gb520,1,none⟩) (Kd.V_far (p:=⟨gb520,0,none⟩) (Kd.V_mono HO_486000.out (fun k_ hk=>(⟨hk,hk.2⟩ : _∧k_ ≠ gb520))) (fun _ hk=>hk.2) (.slice Ao99 t516.length co99)) (fun _ hk=>hk.2) (.int .i64 t519)) (fun _ hk=>⟨hk.1.1.1,⟨hk.1.1.2.1,⟨hk.1.1.2.2,hk.1.2⟩⟩⟩)⟩
        have n1_ : Aside0 (Kd.V (Kd.slice 5 (Kd.int .u8)) 25 ((w98.setCell ⟨gb520,0,none⟩ (.slice Ao99 t516.length co99)).setCell ⟨gb520,1,none⟩ (.int .i64 t519)) w.heap.size (fun k_=>k_ ≠ gb476∧k_ ≠ gb485∧k_ ≠ gb494∧k_ ≠ gb520) (.slice Ao34 t486.length co34) t486):=⟨by (with_reducible repeat (first|apply vA|apply vN|apply vD));exact Kd.V_mono (Kd.V_far (p:=⟨gb520,1,none⟩) (Kd.V_far (p:=⟨gb520,0,none⟩) (Kd.V_mono HO_495000.out (fun k_ hk=>(⟨hk,hk.2⟩ : _∧k_ ≠ gb520))) (fun _ hk=>hk.2) (.slice Ao99 t516.length co99)) (fun _ hk=>hk.2) (.int .i64 t519)) (fun _ hk=>⟨hk.1.1.1,⟨hk.1.1.2.1,⟨hk.1.1.2.2,hk.1.2⟩⟩⟩)⟩
        have n2_ : Aside0 (Kd.V (Kd.slice 5 (Kd.int .u8)) 25 ((w98.setCell ⟨gb520,0,none⟩ (.slice Ao99 t516.length co99)).setCell ⟨gb520,1,none⟩ (.int .i64 t519)) w.heap.size (fun k_=>k_ ≠ gb476∧k_ ≠ gb485∧k_ ≠ gb494∧k_ ≠ gb520) (.slice Ao99 t516.length co99) t516):=⟨by (with_reducible repeat (first|apply vA|apply vN|apply vD));exact Kd.V_mono (Kd.V_far (p:=⟨gb520,1,none⟩) (Kd.V_far (p:=⟨gb520,0,none⟩) (Kd.V_mono HO518.out (fun k_ hk=>(⟨hk,hk.2⟩ : _∧k_ ≠ gb520))) (fun _ hk=>hk.2) (.slice Ao99 t516.length co99)) (fun _ hk=>hk.2) (.int .i64 t519)) (fun _ hk=>⟨hk.1.1.1,⟨hk.1.1.2.1,⟨hk.1.1.2.2,hk.1.2⟩⟩⟩)⟩
        have n3_ : Aside0 (((w98.setCell ⟨gb520,0,none⟩ (.slice Ao99 t516.length co99)).setCell ⟨gb520,1,none⟩ (.int .i64 t519)).heap[gb476]? = some (.cells #[.slice A0_0 l0_0.length c0_0,.int .i64 a0_1] 24 (0,0))):=⟨by (with_reducible repeat (first|apply bN|apply bD|apply bA));refine blk_far ?_ NB476_520.out _;(with_reducible repeat (first|apply bN|apply bD|apply bA));refine blk_far ?_ NB476_520.out _;(with_reducible repeat (first|apply bN|apply bD|apply bA));exact BK476.out⟩
        have n4_ : Aside0 (((w98.setCell ⟨gb520,0,none⟩ (.slice Ao99 t516.length co99)).setCell ⟨gb520,1,none⟩ (.int .i64 t519)).heap[gb485]? = some (.cells #[.slice Ao27 t480.length co27,.int .i64 t483] 24 (0,0))):=⟨by (with_reducible repeat (first|apply bN|apply bD|apply bA));refine blk_far ?_ NB485_520.out _;(with_reducible repeat (first|apply bN|apply bD|apply bA));refine blk_far ?_ NB485_520.out _;(with_reducible repeat (first|apply bN|apply bD|apply bA));exact BK485.out⟩
        have n5_ : Aside0 (((w98.setCell ⟨gb520,0,none⟩ (.slice Ao99 t516.length co99)).setCell ⟨gb520,1,none⟩ (.int .i64 t519)).heap[gb494]? = some (.cells #[.slice Ao34 t486.length co34,.int .i64 t489] 24 (0,0))):=⟨by (with_reducible repeat (first|apply bN|apply bD|apply bA));refine blk_far ?_ NB494_520.out _;(with_reducible repeat (first|apply bN|apply bD|apply bA));refine blk_far ?_ NB494_520.out _;(with_reducible repeat (first|apply bN|apply bD|apply bA));exact BK494.out⟩
        have n6_ : Aside0 (((w98.setCell ⟨gb520,0,none⟩ (.slice Ao99 t516.length co99)).setCell ⟨gb520,1,none⟩ (.int .i64 t519)).heap[gb520]? = some (.cells #[.slice Ao99 t516.length co99,.int .i64 t519] 24 (0,0))):=⟨by (with_reducible repeat (first|apply bN|apply bD|apply bA));refine blk_put (cs:=#[.slice Ao99 t516.length co99,.int .i64 0]) ?_ 1 _ rfl;(with_reducible repeat (first|apply bN|apply bD|apply bA));refine blk_put (cs:=#[.slice none 0 0,.int .i64 0]) ?_ 0 _ rfl;(with_reducible repeat (first|apply bN|apply bD|apply bA));exact BK520.out⟩
        have n7_ : Aside0 (Below w.heap.size w ((w98.setCell ⟨gb520,0,none⟩ (.slice Ao99 t516.length co99)).setCell ⟨gb520,1,none⟩ (.int .i64 t519))):=⟨by repeat (first|(with_reducible first|exact HB.out|apply lA|apply lN|apply lD|refine lS ?_ GE476.out|refine lS ?_ GE485.out|refine lS ?_ GE494.out|refine lS ?_ GE520.out)|exact HB.out)⟩
        (try clear HO_486000)
        (try clear HO_495000)
        (try clear HO518)
        (try clear BK476)
        (try clear BK485)
        (try clear BK494)
        (try clear BK520)
        (try clear HB)
        generalize ((w98.setCell ⟨gb520,0,none⟩ (.slice Ao99 t516.length co99)).setCell ⟨gb520,1,none⟩ (.int .i64 t519)) = w104 at n0_ n1_ n2_ n3_ n4_ n5_ n6_ n7_ ⊢
        have HO_486000:=n0_
        have HO_495000:=n1_
        have HO518:=n2_
        have BK476:=n3_
        have BK485:=n4_
        have BK494:=n5_
        have BK520:=n6_
        have HB:=n7_
        clear n0_ n1_ n2_ n3_ n4_ n5_ n6_ n7_
        have n0_:=mK (Kd.V_drew HO_486000.out)
        have n1_:=mK (Kd.V_drew HO_495000.out)
        have n2_:=mK (Kd.V_drew HO518.out)
        have n3_:=mK (blk_drew BK476.out)
        have n4_:=mK (blk_drew BK485.out)
        have n5_:=mK (blk_drew BK494.out)
        have n6_:=mK (blk_drew BK520.out)
        have n7_:=mK (below_drew1 HB.out)
        clear HO_486000
        clear HO_495000
        clear HO518
        clear BK476
        clear BK485
        clear BK494
        clear BK520
        clear HB
        have HO_486000:=n0_
        have HO_495000:=n1_
        have HO518:=n2_
        have BK476:=n3_
        have BK485:=n4_
        have BK494:=n5_
        have BK520:=n6_
        have HB:=n7_
        clear n0_ n1_ n2_ n3_ n4_ n5_ n6_ n7_
        refine start_ (n:=18) (S:= fun w'=>w'.cell? ⟨gb520,0,none⟩ = some (.slice Ao99 t516.length co99)∧w'.cell? ⟨gb520,1,none⟩ = some (.int .i64 t519)∧w'.cell? ⟨gb476,0,none⟩ = some (.slice A0_0 l0_0.length c0_0)∧w'.cell? ⟨gb476,1,none⟩ = some (.int .i64 a0_1)) (ds:=[]) #[φ,φ,φ,φ,φ,φ,φ,φ,φ,φ,φ,φ,φ,φ,φ,φ,φ,φ] (by kernel_rfl) rfl rfl ⟨(blk_cell BK520.out 0).trans rfl,(blk_cell BK520.out 1).trans rfl,(blk_cell BK476.out 0).trans rfl,(blk_cell BK476.out 1).trans rfl⟩ (fun hHeld=>?_);refine with_tabW drawbridgelaw23_LinkStays.tab8 drawbridgelaw23_LinkStays.bits8 (fun HT_ HW_=>?_)
        generalize w104.drew = w105 at HO_486000 HO_495000 HO518 BK476 BK485 BK494 BK520 HB hHeld ⊢
        refine pure_ (i:=0) (N:=some 74) (v:=?_) (a':=?_) #[τ,φ,φ,φ,φ,φ,φ,φ,φ,φ,φ,φ,φ,φ,φ,φ,φ,φ] rfl rfl (any_of HT_.out (by kernel_rfl)) (fun _ _ _ h=>h) (Or.inl ⟨by rfl,?_⟩) ?_ ?_
        rotate_left
        ·intro w'
         go_simp
         with_reducible rfl
        rotate_left
        ·simp only [Act.put,sT,sZ,sS,i64_w,i32_w]
         rfl
        refine pure_ (i:=3) (N:=some 77) (v:=?_) (a':=?_) #[τ,φ,φ,τ,φ,φ,φ,φ,φ,φ,φ,φ,φ,φ,φ,φ,φ,φ] rfl rfl (any_of HT_.out (by kernel_rfl)) (fun _ _ _ h=>h) (Or.inl ⟨by rfl,?_⟩) ?_ ?_
        rotate_left
        ·intro w'
         go_simp
         with_reducible rfl
        rotate_left
        ·simp only [Act.put,sT,sZ,sS,i64_w,i32_w]
         rfl
        refine take_ (i:=1) (N:=some 75) (v:=?_) (a':=?_) #[τ,τ,φ,τ,φ,φ,φ,φ,φ,φ,φ,φ,φ,φ,φ,φ,φ,φ] rfl rfl (take_ofW HT_.out HW_.out (by kernel_rfl)) (fun _ _ _ h=>h) (Or.inl ⟨by rfl,?_⟩) hHeld ?_ ?_
        rotate_left
        ·rintro w' ⟨s0,s1,s2,s3⟩
         go_simp
         with_reducible rfl
        rotate_left
        ·simp only [Act.put,sT,sZ,sS,i64_w,i32_w]
         rfl
        refine pure_ (i:=2) (N:=some 76) (v:=?_) (a':=?_) #[τ,τ,τ,τ,φ,φ,φ,φ,φ,φ,φ,φ,φ,φ,φ,φ,φ,φ] rfl rfl (any_of HT_.out (by kernel_rfl)) (fun _ _ _ h=>h) (Or.inl ⟨by rfl,?_⟩) ?_ ?_
        rotate_left
        ·intro w'
         go_simp
         with_reducible rfl
        rotate_left
        ·simp only [Act.put,sT,sZ,sS,i64_w,i32_w]
         rfl
        refine take_ (i:=4) (N:=some 78) (v:=?_) (a':=?_) #[τ,τ,τ,τ,τ,φ,φ,φ,φ,φ,φ,φ,φ,φ,φ,φ,φ,φ] rfl rfl (take_ofW HT_.out HW_.out (by kernel_rfl)) (fun _ _ _ h=>h) (Or.inl ⟨by rfl,?_⟩) hHeld ?_ ?_
        rotate_left
        ·rintro w' ⟨s0,s1,s2,s3⟩
         go_simp
         with_reducible rfl
        rotate_left
        ·simp only [Act.put,sT,sZ,sS,i64_w,i32_w]
         rfl
        refine pure_ (i:=5) (N:=some 79) (v:=?_) (a':=?_) #[τ,τ,τ,τ,τ,τ,φ,φ,φ,φ,φ,φ,φ,φ,φ,φ,φ,φ] rfl rfl (any_of HT_.out (by kernel_rfl)) (fun _ _ _ h=>h) (Or.inl ⟨by rfl,?_⟩) ?_ ?_
        rotate_left
        ·intro w'
         go_simp
         with_reducible rfl
        rotate_left
        ·simp only [Act.put,sT,sZ,sS,i64_w,i32_w]
         rfl
        refine pure_ (i:=6) (N:=some 80) (v:=?_) (a':=?_) #[τ,τ,τ,τ,τ,τ,τ,φ,φ,φ,φ,φ,φ,φ,φ,φ,φ,φ] rfl rfl (any_of HT_.out (by kernel_rfl)) (fun _ _ _ h=>h) (Or.inl ⟨by rfl,?_⟩) ?_ ?_
        rotate_left
        ·intro w'
         go_simp
         with_reducible rfl
        rotate_left
        ·simp only [Act.put,sT,sZ,sS,i64_w,i32_w]
         rfl
        refine pure_ (i:=7) (N:=some 81) (v:=?_) (a':=?_) #[τ,τ,τ,τ,τ,τ,τ,τ,φ,φ,φ,φ,φ,φ,φ,φ,φ,φ] rfl rfl (any_of HT_.out (by kernel_rfl)) (fun _ _ _ h=>h) (Or.inl ⟨by rfl,?_⟩) ?_ ?_
        rotate_left
        ·intro w'
         go_simp
         with_reducible rfl
        rotate_left
        ·simp only [Act.put,sT,sZ,sS,i64_w,i32_w]
         rfl
        refine pure_ (i:=8) (N:=some 82) (v:=undef) (a':=?_) #[τ,τ,τ,τ,τ,τ,τ,τ,τ,φ,φ,φ,φ,φ,φ,φ,φ,φ] rfl rfl (any_of HT_.out (by kernel_rfl)) (fun _ _ _ h=>h) (Or.inr ⟨by rfl,rfl⟩) ?_ ?_
        rotate_left
        ·simp only [Act.put,sT,sZ,sS,i64_w,i32_w]
         rfl
        refine pure_ (i:=9) (N:=some 83) (v:=undef) (a':=?_) #[τ,τ,τ,τ,τ,τ,τ,τ,τ,τ,φ,φ,φ,φ,φ,φ,φ,φ] rfl rfl (any_of HT_.out (by kernel_rfl)) (fun _ _ _ h=>h) (Or.inr ⟨by rfl,rfl⟩) ?_ ?_
        rotate_left
        ·simp only [Act.put,sT,sZ,sS,i64_w,i32_w]
         rfl
        refine pure_ (i:=10) (N:=some 84) (v:=undef) (a':=?_) #[τ,τ,τ,τ,τ,τ,τ,τ,τ,τ,τ,φ,φ,φ,φ,φ,φ,φ] rfl rfl (any_of HT_.out (by kernel_rfl)) (fun _ _ _ h=>h) (Or.inr ⟨by rfl,rfl⟩) ?_ ?_
        rotate_left
        ·simp only [Act.put,sT,sZ,sS,i64_w,i32_w]
         rfl
        refine pure_ (i:=11) (N:=some 85) (v:=undef) (a':=?_) #[τ,τ,τ,τ,τ,τ,τ,τ,τ,τ,τ,τ,φ,φ,φ,φ,φ,φ] rfl rfl (any_of HT_.out (by kernel_rfl)) (fun _ _ _ h=>h) (Or.inr ⟨by rfl,rfl⟩) ?_ ?_
        rotate_left
        ·simp only [Act.put,sT,sZ,sS,i64_w,i32_w]
         rfl
        refine pure_ (i:=12) (N:=some 86) (v:=undef) (a':=?_) #[τ,τ,τ,τ,τ,τ,τ,τ,τ,τ,τ,τ,τ,φ,φ,φ,φ,φ] rfl rfl (any_of HT_.out (by kernel_rfl)) (fun _ _ _ h=>h) (Or.inr ⟨by rfl,rfl⟩) ?_ ?_
        rotate_left
        ·simp only [Act.put,sT,sZ,sS,i64_w,i32_w]
         rfl
        refine pure_ (i:=13) (N:=some 87) (v:=?_) (a':=?_) #[τ,τ,τ,τ,τ,τ,τ,τ,τ,τ,τ,τ,τ,τ,φ,φ,φ,φ] rfl rfl (any_of HT_.out (by kernel_rfl)) (fun _ _ _ h=>h) (Or.inl ⟨by rfl,?_⟩) ?_ ?_
        rotate_left
        ·intro w'
         go_simp
         with_reducible rfl
        rotate_left
        ·simp only [Act.put,sT,sZ,sS,i64_w,i32_w]
         rfl
        refine pure_ (i:=14) (N:=some 88) (v:=?_) (a':=?_) #[τ,τ,τ,τ,τ,τ,τ,τ,τ,τ,τ,τ,τ,τ,τ,φ,φ,φ] rfl rfl (any_of HT_.out (by kernel_rfl)) (fun _ _ _ h=>h) (Or.inl ⟨by rfl,?_⟩) ?_ ?_
        rotate_left
        ·intro w'
         go_simp
         with_reducible rfl
        rotate_left
        ·simp only [Act.put,sT,sZ,sS,i64_w,i32_w]
         rfl
        refine one_ (i:=15) (N:=some 89) #[τ,τ,τ,τ,τ,τ,τ,τ,τ,τ,τ,τ,τ,τ,τ,τ,φ,φ] rfl rfl (one_of HT_.out (by kernel_rfl)) (by decide) (fun K hK=>?_)
        refine goes_ Try.func7 (by kernel_rfl) rfl #[] (by rfl) rfl rfl (by (try simp only [List.map_toArray,List.map_cons,List.map_nil]);first|done|rfl|(simp only [List.length_drop,List.length_take];rfl)) ?_
        with_reducible refine (drawbridgelaw23_heads.calls kj22  t521 _ (by first|exact HTr_.out|assumption) A93.out).mono ?_
        rintro e w106 ⟨rfl,hb⟩
        refine ⟨_,rfl,?_⟩
        have n3_:=mK (blk_below (g:=gb476) (o:=.cells #[.slice A0_0 l0_0.length c0_0,.int .i64 a0_1] 24 (0,0)) (by (with_reducible repeat (first|apply bN|apply bD|apply bA));exact BK476.out) hb)
        have n6_:=mK (blk_below (g:=gb520) (o:=.cells #[.slice Ao99 t516.length co99,.int .i64 t519] 24 (0,0)) (by (with_reducible repeat (first|apply bN|apply bD|apply bA));exact BK520.out) hb)
        have n7_:=mK (below_step (by repeat (first|(with_reducible first|exact HB.out|apply lA|apply lN|apply lD|refine lS ?_ GE476.out|refine lS ?_ GE485.out|refine lS ?_ GE494.out|refine lS ?_ GE520.out)|exact HB.out)) hb)
        clear BK476
        clear BK520
        clear HB
        have BK476:=n3_
        have BK520:=n6_
        have HB:=n7_
        clear n3_ n6_ n7_
        (try clear hb)
        (try clear hb2)
        (try clear hk)
        (try clear hi)
        refine hK.out _ _ ⟨(blk_cell BK520.out 0).trans rfl,(blk_cell BK520.out 1).trans rfl,(blk_cell BK476.out 0).trans rfl,(blk_cell BK476.out 1).trans rfl⟩ (fun hHeld=>?_)
        clear hK K
        refine norm_ (a':=?_) ?_ ?_
        rotate_left
        ·show Act.put _ (some 89) _ = _
         simp only [Act.put,sT,sZ,sS,i64_w,i32_w]
         rfl
        refine pure_ (i:=16) (N:=some 90) (v:=?_) (a':=?_) #[τ,τ,τ,τ,τ,τ,τ,τ,τ,τ,τ,τ,τ,τ,τ,τ,τ,φ] rfl rfl (any_of HT_.out (by kernel_rfl)) (fun _ _ _ h=>h) (Or.inl ⟨by rfl,?_⟩) ?_ ?_
        rotate_left
        ·intro w'
         go_simp
         with_reducible rfl
        rotate_left
        ·simp only [Act.put,sT,sZ,sS,i64_w,i32_w]
         rfl
        refine pure_ (i:=17) (N:=some 6) (v:=?_) (a':=?_) #[τ,τ,τ,τ,τ,τ,τ,τ,τ,τ,τ,τ,τ,τ,τ,τ,τ,τ] rfl rfl (any_of HT_.out (by kernel_rfl)) (fun _ _ _ h=>h) (Or.inl ⟨by rfl,?_⟩) ?_ ?_
        rotate_left
        ·intro w'
         go_simp
         with_reducible rfl
        rotate_left
        ·simp only [Act.put,sT,sZ,sS,i64_w,i32_w]
         rfl
        refine done_ (done_of HT_.out (by kernel_rfl)) ?_
        try go_wp2
        go_ret
        exact ⟨by first|rfl|(simp [errW_none,errW_some] <;> rfl)|(simp [*,errW_none,errW_some] <;> rfl),by repeat (first|(with_reducible first|exact HB.out|apply lA|apply lN|apply lD|refine lS ?_ GE476.out|refine lS ?_ GE485.out|refine lS ?_ GE494.out|refine lS ?_ GE520.out)|exact HB.out)⟩
       ·rw [if_neg c92] at H
        have c92b0 : ((t516.length : Int) == (l0_0.length : Int)) = false:=beq_eq_false_iff_ne.mpr c92
        have c92b1 : ((t516.length : Int) != (l0_0.length : Int)) = true:=bne_iff_ne.mpr c92
        have c92b2 : (t516.length == l0_0.length) = false:= by first|simpa using c92|(simp at c92 ⊢; omega)
        replace H:=Option.bind_eq_some_iff.mp H
        obtain ⟨⟨t522,t525⟩,A1070,H⟩:=H
        replace H : ((drawbridgeref23_Same.f kj22 t522 t525 l0_0 a0_1).bind fun t526=>(if t526 = true then ((drawbridgelaw23_heads.f kj22).bind fun t527=>(some t527)) else (some false))) = some r:=H
        have A107:=mK A1070
        clear A1070
        replace H:=Option.bind_eq_some_iff.mp H
        obtain ⟨t526,A1080,H⟩:=H
        replace H : (if t526 = true then ((drawbridgelaw23_heads.f kj22).bind fun t527=>(some t527)) else (some false)) = some r:=H
        have A108:=mK A1080
        clear A1080
        by_cases c109 : t526 = true
        ·subst c109
         have H1 : ((drawbridgelaw23_heads.f kj22).bind fun t527=>(some t527)) = some r:= by rw [if_pos rfl] at H;exact H
         clear H
         have H:=H1
         clear H1
         replace H:=Option.bind_eq_some_iff.mp H
         obtain ⟨t527,A1100,H⟩:=H
         replace H : (some t527) = some r:=H
         have A110:=mK A1100
         clear A1100
         obtain rfl:=Option.some.inj H
         have hnb111:=NB476_485.out
         have hnc111:=NB485_476.out
         have hnb112:=NB476_494.out
         have hnc112:=NB494_476.out
         have hcz113_0 : wc.cell? ⟨gb476,0,none⟩ = some (.slice A0_0 l0_0.length c0_0):=(blk_cell BK476.out 0).trans rfl
         have hcz113_1 : wc.cell? ⟨gb476,1,none⟩ = some (.int .i64 a0_1):=(blk_cell BK476.out 1).trans rfl
         have hfz113_0:=blk_frozen BK476.out 0
         have hfz113_1:=blk_frozen BK476.out 1
         try go_wp2_with (first|((with_reducible refine gate_callee (f:=16) rfl ?_);refine goesL_ (some 73) rfl rfl Try.func16 (by kernel_rfl) rfl #[.agg #[.slice A0_0 l0_0.length c0_0,.int .i64 a0_1],.int .i64 a2] rfl (by (try simp only [List.map_toArray,List.map_cons,List.map_nil]);first|done|rfl|(simp only [List.length_drop,List.length_take];rfl)) ?_;(with_reducible refine (link_Twice.calls kj22 (fun k_=>k_ < w.heap.size) _ _ l0_0 a0_1 a2 t516 t519 _ ?side1 A91.out).mono ?_);(case side1=>exact Kd.V_mk HC0_0.out (Kd.F_below (Kd.C_F (Kd.heap_slice 5 (Kd.heap_int .u8)) HR0_0.out) (by repeat (first|(with_reducible first|exact HB.out|apply lA|apply lN|apply lD|refine lS ?_ GE476.out|refine lS ?_ GE485.out|refine lS ?_ GE494.out)|exact HB.out))));rintro e w114 ⟨v517,rfl,ho0,hb⟩;refine ⟨_,rfl,?_⟩;have n0_:=mK (Kd.V_below (by (with_reducible repeat (first|apply vA|apply vN|apply vD));exact HO_486000.out) hb);have n1_:=mK (Kd.V_below (by (with_reducible repeat (first|apply vA|apply vN|apply vD));exact HO_495000.out) hb);have n2_:=mK (Kd.V_lower (Kd.V_mono (ok':= fun k_=>k_ ≠ gb476∧k_ ≠ gb485∧k_ ≠ gb494) ho0 (fun k_ hk_=>⟨Or.elim hk_ (fun hs_=>fun e_=>Nat.not_le.2 hs_ (by rw [e_];exact GW476.out)) (fun hn_=>(Kd.freshB (g:=gb476) (o:=.cells #[.slice A0_0 l0_0.length c0_0,.int .i64 a0_1] 24 (0,0)) (by (with_reducible repeat (first|apply bN|apply bD|apply bA));exact BK476.out) k_ hn_)),Or.elim hk_ (fun hs_=>fun e_=>Nat.not_le.2 hs_ (by rw [e_];exact GW485.out)) (fun hn_=>(Kd.freshB (g:=gb485) (o:=.cells #[.slice Ao27 t480.length co27,.int .i64 t483] 24 (0,0)) (by (with_reducible repeat (first|apply bN|apply bD|apply bA));exact BK485.out) k_ hn_)),Or.elim hk_ (fun hs_=>fun e_=>Nat.not_le.2 hs_ (by rw [e_];exact GW494.out)) (fun hn_=>(Kd.freshB (g:=gb494) (o:=.cells #[.slice Ao34 t486.length co34,.int .i64 t489] 24 (0,0)) (by (with_reducible repeat (first|apply bN|apply bD|apply bA));exact BK494.out) k_ hn_))⟩)) (below_size (by repeat (first|(with_reducible first|exact HB.out|apply lA|apply lN|apply lD|refine lS ?_ GE476.out|refine lS ?_ GE485.out|refine lS ?_ GE494.out)|exact HB.out))));have n3_:=mK (blk_below (g:=gb476) (o:=.cells #[.slice A0_0 l0_0.length c0_0,.int .i64 a0_1] 24 (0,0)) (by (with_reducible repeat (first|apply bN|apply bD|apply bA));exact BK476.out) hb);have n4_:=mK (blk_below (g:=gb485) (o:=.cells #[.slice Ao27 t480.length co27,.int .i64 t483] 24 (0,0)) (by (with_reducible repeat (first|apply bN|apply bD|apply bA));exact BK485.out) hb);have n5_:=mK (blk_below (g:=gb494) (o:=.cells #[.slice Ao34 t486.length co34,.int .i64 t489] 24 (0,0)) (by (with_reducible repeat (first|apply bN|apply bD|apply bA));exact BK494.out) hb);have n6_:=mK (below_step (by repeat (first|(with_reducible first|exact HB.out|apply lA|apply lN|apply lD|refine lS ?_ GE476.out|refine lS ?_ GE485.out|refine lS ?_ GE494.out)|exact HB.out)) hb);clear HO_486000;clear HO_495000;clear BK476;clear BK485;clear BK494;clear HB;have HO_486000:=n0_;have HO_495000:=n1_;have HO518:=n2_;have BK476:=n3_;have BK485:=n4_;have BK494:=n5_;have HB:=n6_;clear n0_ n1_ n2_ n3_ n4_ n5_ n6_;(try clear hb);(try clear hb2);(try clear hk);(try clear hi);(try clear ho0))|((with_reducible refine gate_dst (N:=12) rfl ?_);(try (refine gate_guard (by rfl) ?_;dsimp only));refine box_event ?hg (N:=12) ?hd (cs:=#[.slice none 0 0,.int .i64 0]) (t:=24) ?hr ?_;(case hd=>rfl);(case hg=>rfl);(case hr=>first|(go_simp;done)|(go_simp;rfl));intro gb520 hg w115 hbox hb;have n0_:=mK (Kd.V_below (Kd.V_elderB (by (with_reducible repeat (first|apply vA|apply vN|apply vD));exact HO_486000.out) gb520 (Nat.le_of_eq hg.symm)) hb);have n1_:=mK (Kd.V_below (Kd.V_elderB (by (with_reducible repeat (first|apply vA|apply vN|apply vD));exact HO_495000.out) gb520 (Nat.le_of_eq hg.symm)) hb);have n2_:=mK (Kd.V_below (Kd.V_elderB (by (with_reducible repeat (first|apply vA|apply vN|apply vD));exact HO518.out) gb520 (Nat.le_of_eq hg.symm)) hb);have n3_:=mK (blk_below (g:=gb476) (o:=.cells #[.slice A0_0 l0_0.length c0_0,.int .i64 a0_1] 24 (0,0)) (by (with_reducible repeat (first|apply bN|apply bD|apply bA));exact BK476.out) hb);have n4_:=mK (blk_below (g:=gb485) (o:=.cells #[.slice Ao27 t480.length co27,.int .i64 t483] 24 (0,0)) (by (with_reducible repeat (first|apply bN|apply bD|apply bA));exact BK485.out) hb);have n5_:=mK (blk_below (g:=gb494) (o:=.cells #[.slice Ao34 t486.length co34,.int .i64 t489] 24 (0,0)) (by (with_reducible repeat (first|apply bN|apply bD|apply bA));exact BK494.out) hb);have n6_:=mK (below_step (by repeat (first|(with_reducible first|exact HB.out|apply lA|apply lN|apply lD|refine lS ?_ GE476.out|refine lS ?_ GE485.out|refine lS ?_ GE494.out)|exact HB.out)) hb);have n7_:=mK (hbox);have n9_:=mK ((by rw [hg];exact (below_size (by repeat (first|(with_reducible first|exact HB.out|apply lA|apply lN|apply lD|refine lS ?_ GE476.out|refine lS ?_ GE485.out|refine lS ?_ GE494.out)|exact HB.out))) : w.heap.size ≤ gb520));have n10_:=mK ((by rw [hg];exact Nat.ne_of_lt (blk_lt (g:=gb476) (o:=.cells #[.slice A0_0 l0_0.length c0_0,.int .i64 a0_1] 24 (0,0)) (by (with_reducible repeat (first|apply bN|apply bD|apply bA));exact BK476.out)) : gb476 ≠ gb520));have n11_:=mK ((by rw [hg];exact Nat.ne_of_gt (blk_lt (g:=gb476) (o:=.cells #[.slice A0_0 l0_0.length c0_0,.int .i64 a0_1] 24 (0,0)) (by (with_reducible repeat (first|apply bN|apply bD|apply bA));exact BK476.out)) : gb520 ≠ gb476));have n12_:=mK ((by rw [hg];exact Nat.ne_of_lt (blk_lt (g:=gb485) (o:=.cells #[.slice Ao27 t480.length co27,.int .i64 t483] 24 (0,0)) (by (with_reducible repeat (first|apply bN|apply bD|apply bA));exact BK485.out)) : gb485 ≠ gb520));have n13_:=mK ((by rw [hg];exact Nat.ne_of_gt (blk_lt (g:=gb485) (o:=.cells #[.slice Ao27 t480.length co27,.int .i64 t483] 24 (0,0)) (by (with_reducible repeat (first|apply bN|apply bD|apply bA));exact BK485.out)) : gb520 ≠ gb485));have n14_:=mK ((by rw [hg];exact Nat.ne_of_lt (blk_lt (g:=gb494) (o:=.cells #[.slice Ao34 t486.length co34,.int .i64 t489] 24 (0,0)) (by (with_reducible repeat (first|apply bN|apply bD|apply bA));exact BK494.out)) : gb494 ≠ gb520));have n15_:=mK ((by rw [hg];exact Nat.ne_of_gt (blk_lt (g:=gb494) (o:=.cells #[.slice Ao34 t486.length co34,.int .i64 t489] 24 (0,0)) (by (with_reducible repeat (first|apply bN|apply bD|apply bA));exact BK494.out)) : gb520 ≠ gb494));clear HO_486000;clear HO_495000;clear HO518;clear BK476;clear BK485;clear BK494;clear HB;have HO_486000:=n0_;have HO_495000:=n1_;have HO518:=n2_;have BK476:=n3_;have BK485:=n4_;have BK494:=n5_;have HB:=n6_;have BK520:=n7_;have GE520:=n9_;have NB476_520:=n10_;have NB520_476:=n11_;have NB485_520:=n12_;have NB520_485:=n13_;have NB494_520:=n14_;have NB520_494:=n15_;clear n0_ n1_ n2_ n3_ n4_ n5_ n6_ n7_ n9_ n10_ n11_ n12_ n13_ n14_ n15_;clear hb hbox hg;obtain ⟨Ao116,co116,eo116⟩:=Kd.V_slice HO518.out;subst eo116;have hnb117:=NB520_476.out;have hnc117:=NB476_520.out;have hnb118:=NB520_485.out;have hnc118:=NB485_520.out;have hnb119:=NB520_494.out;have hnc119:=NB494_520.out;have hcz120_0 : w115.cell? ⟨gb520,0,none⟩ = some (.slice none 0 0):=(blk_cell BK520.out 0).trans rfl;have hcz120_1 : w115.cell? ⟨gb520,1,none⟩ = some (.int .i64 0):=(blk_cell BK520.out 1).trans rfl;have hfz120_0:=blk_frozen BK520.out 0;have hfz120_1:=blk_frozen BK520.out 1))
         have n0_ : Aside0 (Kd.V (Kd.slice 5 (Kd.int .u8)) 25 ((w115.setCell ⟨gb520,0,none⟩ (.slice Ao116 t516.length co116)).setCell ⟨gb520,1,none⟩ (.int .i64 t519)) w.heap.size (fun k_=>k_ ≠ gb476∧k_ ≠ gb485∧k_ ≠ gb494∧k_ ≠ gb520) (.slice Ao27 t480.length co27) t480):=⟨by (with_reducible repeat (first|apply vA|apply vN|apply vD));exact Kd.V_mono (Kd.V_far (p:=⟨gb520,1,none⟩) (Kd.V_far (p:=⟨gb520,0,none⟩) (Kd.V_mono HO_486000.out (fun k_ hk=>(⟨hk,hk.2⟩ : _∧k_ ≠ gb520))) (fun _ hk=>hk.2) (.slice Ao116 t516.length co116)) (fun _ hk=>hk.2) (.int .i64 t519)) (fun _ hk=>⟨hk.1.1.1,⟨hk.1.1.2.1,⟨hk.1.1.2.2,hk.1.2⟩⟩⟩)⟩
         have n1_ : Aside0 (Kd.V (Kd.slice 5 (Kd.int .u8)) 25 ((w115.setCell ⟨gb520,0,none⟩ (.slice Ao116 t516.length co116)).setCell ⟨gb520,1,none⟩ (.int .i64 t519)) w.heap.size (fun k_=>k_ ≠ gb476∧k_ ≠ gb485∧k_ ≠ gb494∧k_ ≠ gb520) (.slice Ao34 t486.length co34) t486):=⟨by (with_reducible repeat (first|apply vA|apply vN|apply vD));exact Kd.V_mono (Kd.V_far (p:=⟨gb520,1,none⟩) (Kd.V_far (p:=⟨gb520,0,none⟩) (Kd.V_mono HO_495000.out (fun k_ hk=>(⟨hk,hk.2⟩ : _∧k_ ≠ gb520))) (fun _ hk=>hk.2) (.slice Ao116 t516.length co116)) (fun _ hk=>hk.2) (.int .i64 t519)) (fun _ hk=>⟨hk.1.1.1,⟨hk.1.1.2.1,⟨hk.1.1.2.2,hk.1.2⟩⟩⟩)⟩
         have n2_ : Aside0 (Kd.V (Kd.slice 5 (Kd.int .u8)) 25 ((w115.setCell ⟨gb520,0,none⟩ (.slice Ao116 t516.length co116)).setCell ⟨gb520,1,none⟩ (.int .i64 t519)) w.heap.size (fun k_=>k_ ≠ gb476∧k_ ≠ gb485∧k_ ≠ gb494∧k_ ≠ gb520) (.slice Ao116 t516.length co116) t516):=⟨by (with_reducible repeat (first|apply vA|apply vN|apply vD));exact Kd.V_mono (Kd.V_far (p:=⟨gb520,1,none⟩) (Kd.V_far (p:=⟨gb520,0,none⟩) (Kd.V_mono HO518.out (fun k_ hk=>(⟨hk,hk.2⟩ : _∧k_ ≠ gb520))) (fun _ hk=>hk.2) (.slice Ao116 t516.length co116)) (fun _ hk=>hk.2) (.int .i64 t519)) (fun _ hk=>⟨hk.1.1.1,⟨hk.1.1.2.1,⟨hk.1.1.2.2,hk.1.2⟩⟩⟩)⟩
         have n3_ : Aside0 (((w115.setCell ⟨gb520,0,none⟩ (.slice Ao116 t516.length co116)).setCell ⟨gb520,1,none⟩ (.int .i64 t519)).heap[gb476]? = some (.cells #[.slice A0_0 l0_0.length c0_0,.int .i64 a0_1] 24 (0,0))):=⟨by (with_reducible repeat (first|apply bN|apply bD|apply bA));refine blk_far ?_ NB476_520.out _;(with_reducible repeat (first|apply bN|apply bD|apply bA));refine blk_far ?_ NB476_520.out _;(with_reducible repeat (first|apply bN|apply bD|apply bA));exact BK476.out⟩
         have n4_ : Aside0 (((w115.setCell ⟨gb520,0,none⟩ (.slice Ao116 t516.length co116)).setCell ⟨gb520,1,none⟩ (.int .i64 t519)).heap[gb485]? = some (.cells #[.slice Ao27 t480.length co27,.int .i64 t483] 24 (0,0))):=⟨by (with_reducible repeat (first|apply bN|apply bD|apply bA));refine blk_far ?_ NB485_520.out _;(with_reducible repeat (first|apply bN|apply bD|apply bA));refine blk_far ?_ NB485_520.out _;(with_reducible repeat (first|apply bN|apply bD|apply bA));exact BK485.out⟩
         have n5_ : Aside0 (((w115.setCell ⟨gb520,0,none⟩ (.slice Ao116 t516.length co116)).setCell ⟨gb520,1,none⟩ (.int .i64 t519)).heap[gb494]? = some (.cells #[.slice Ao34 t486.length co34,.int .i64 t489] 24 (0,0))):=⟨by (with_reducible repeat (first|apply bN|apply bD|apply bA));refine blk_far ?_ NB494_520.out _;(with_reducible repeat (first|apply bN|apply bD|apply bA));refine blk_far ?_ NB494_520.out _;(with_reducible repeat (first|apply bN|apply bD|apply bA));exact BK494.out⟩
         have n6_ : Aside0 (((w115.setCell ⟨gb520,0,none⟩ (.slice Ao116 t516.length co116)).setCell ⟨gb520,1,none⟩ (.int .i64 t519)).heap[gb520]? = some (.cells #[.slice Ao116 t516.length co116,.int .i64 t519] 24 (0,0))):=⟨by (with_reducible repeat (first|apply bN|apply bD|apply bA));refine blk_put (cs:=#[.slice Ao116 t516.length co116,.int .i64 0]) ?_ 1 _ rfl;(with_reducible repeat (first|apply bN|apply bD|apply bA));refine blk_put (cs:=#[.slice none 0 0,.int .i64 0]) ?_ 0 _ rfl;(with_reducible repeat (first|apply bN|apply bD|apply bA));exact BK520.out⟩
         have n7_ : Aside0 (Below w.heap.size w ((w115.setCell ⟨gb520,0,none⟩ (.slice Ao116 t516.length co116)).setCell ⟨gb520,1,none⟩ (.int .i64 t519))):=⟨by repeat (first|(with_reducible first|exact HB.out|apply lA|apply lN|apply lD|refine lS ?_ GE476.out|refine lS ?_ GE485.out|refine lS ?_ GE494.out|refine lS ?_ GE520.out)|exact HB.out)⟩
         (try clear HO_486000)
         (try clear HO_495000)
         (try clear HO518)
         (try clear BK476)
         (try clear BK485)
         (try clear BK494)
         (try clear BK520)
         (try clear HB)
         generalize ((w115.setCell ⟨gb520,0,none⟩ (.slice Ao116 t516.length co116)).setCell ⟨gb520,1,none⟩ (.int .i64 t519)) = w121 at n0_ n1_ n2_ n3_ n4_ n5_ n6_ n7_ ⊢
         have HO_486000:=n0_
         have HO_495000:=n1_
         have HO518:=n2_
         have BK476:=n3_
         have BK485:=n4_
         have BK494:=n5_
         have BK520:=n6_
         have HB:=n7_
         clear n0_ n1_ n2_ n3_ n4_ n5_ n6_ n7_
         have n0_:=mK (Kd.V_drew HO_486000.out)
         have n1_:=mK (Kd.V_drew HO_495000.out)
         have n2_:=mK (Kd.V_drew HO518.out)
         have n3_:=mK (blk_drew BK476.out)
         have n4_:=mK (blk_drew BK485.out)
         have n5_:=mK (blk_drew BK494.out)
         have n6_:=mK (blk_drew BK520.out)
         have n7_:=mK (below_drew1 HB.out)
         clear HO_486000
         clear HO_495000
         clear HO518
         clear BK476
         clear BK485
         clear BK494
         clear BK520
         clear HB
         have HO_486000:=n0_
         have HO_495000:=n1_
         have HO518:=n2_
         have BK476:=n3_
         have BK485:=n4_
         have BK494:=n5_
         have BK520:=n6_
         have HB:=n7_
         clear n0_ n1_ n2_ n3_ n4_ n5_ n6_ n7_
         refine start_ (n:=18) (S:= fun w'=>w'.cell? ⟨gb520,0,none⟩ = some (.slice Ao116 t516.length co116)∧w'.cell? ⟨gb520,1,none⟩ = some (.int .i64 t519)∧w'.cell? ⟨gb476,0,none⟩ = some (.slice A0_0 l0_0.length c0_0)∧w'.cell? ⟨gb476,1,none⟩ = some (.int .i64 a0_1)) (ds:=[]) #[φ,φ,φ,φ,φ,φ,φ,φ,φ,φ,φ,φ,φ,φ,φ,φ,φ,φ] (by kernel_rfl) rfl rfl ⟨(blk_cell BK520.out 0).trans rfl,(blk_cell BK520.out 1).trans rfl,(blk_cell BK476.out 0).trans rfl,(blk_cell BK476.out 1).trans rfl⟩ (fun hHeld=>?_);refine with_tabW drawbridgelaw23_LinkStays.tab8 drawbridgelaw23_LinkStays.bits8 (fun HT_ HW_=>?_)
         generalize w121.drew = w122 at HO_486000 HO_495000 HO518 BK476 BK485 BK494 BK520 HB hHeld ⊢
         refine pure_ (i:=0) (N:=some 74) (v:=?_) (a':=?_) #[τ,φ,φ,φ,φ,φ,φ,φ,φ,φ,φ,φ,φ,φ,φ,φ,φ,φ] rfl rfl (any_of HT_.out (by kernel_rfl)) (fun _ _ _ h=>h) (Or.inl ⟨by rfl,?_⟩) ?_ ?_
         rotate_left
         ·intro w'
          go_simp
          with_reducible rfl
         rotate_left
         ·simp only [Act.put,sT,sZ,sS,i64_w,i32_w]
          rfl
         refine pure_ (i:=3) (N:=some 77) (v:=?_) (a':=?_) #[τ,φ,φ,τ,φ,φ,φ,φ,φ,φ,φ,φ,φ,φ,φ,φ,φ,φ] rfl rfl (any_of HT_.out (by kernel_rfl)) (fun _ _ _ h=>h) (Or.inl ⟨by rfl,?_⟩) ?_ ?_
         rotate_left
         ·intro w'
          go_simp
          with_reducible rfl
         rotate_left
         ·simp only [Act.put,sT,sZ,sS,i64_w,i32_w]
          rfl
         refine take_ (i:=1) (N:=some 75) (v:=?_) (a':=?_) #[τ,τ,φ,τ,φ,φ,φ,φ,φ,φ,φ,φ,φ,φ,φ,φ,φ,φ] rfl rfl (take_ofW HT_.out HW_.out (by kernel_rfl)) (fun _ _ _ h=>h) (Or.inl ⟨by rfl,?_⟩) hHeld ?_ ?_
         rotate_left
         ·rintro w' ⟨s0,s1,s2,s3⟩
          go_simp
          with_reducible rfl
         rotate_left
         ·simp only [Act.put,sT,sZ,sS,i64_w,i32_w]
          rfl
         refine pure_ (i:=2) (N:=some 76) (v:=?_) (a':=?_) #[τ,τ,τ,τ,φ,φ,φ,φ,φ,φ,φ,φ,φ,φ,φ,φ,φ,φ] rfl rfl (any_of HT_.out (by kernel_rfl)) (fun _ _ _ h=>h) (Or.inl ⟨by rfl,?_⟩) ?_ ?_
         rotate_left
         ·intro w'
          go_simp
          with_reducible rfl
         rotate_left
         ·simp only [Act.put,sT,sZ,sS,i64_w,i32_w]
          rfl
         refine take_ (i:=4) (N:=some 78) (v:=?_) (a':=?_) #[τ,τ,τ,τ,τ,φ,φ,φ,φ,φ,φ,φ,φ,φ,φ,φ,φ,φ] rfl rfl (take_ofW HT_.out HW_.out (by kernel_rfl)) (fun _ _ _ h=>h) (Or.inl ⟨by rfl,?_⟩) hHeld ?_ ?_
         rotate_left
         ·rintro w' ⟨s0,s1,s2,s3⟩
          go_simp
          with_reducible rfl
         rotate_left
         ·simp only [Act.put,sT,sZ,sS,i64_w,i32_w]
          rfl
         refine pure_ (i:=5) (N:=some 79) (v:=?_) (a':=?_) #[τ,τ,τ,τ,τ,τ,φ,φ,φ,φ,φ,φ,φ,φ,φ,φ,φ,φ] rfl rfl (any_of HT_.out (by kernel_rfl)) (fun _ _ _ h=>h) (Or.inl ⟨by rfl,?_⟩) ?_ ?_
         rotate_left
         ·intro w'
          go_simp
          with_reducible rfl
         rotate_left
         ·simp only [Act.put,sT,sZ,sS,i64_w,i32_w]
          rfl
         refine pure_ (i:=6) (N:=some 80) (v:=?_) (a':=?_) #[τ,τ,τ,τ,τ,τ,τ,φ,φ,φ,φ,φ,φ,φ,φ,φ,φ,φ] rfl rfl (any_of HT_.out (by kernel_rfl)) (fun _ _ _ h=>h) (Or.inl ⟨by rfl,?_⟩) ?_ ?_
         rotate_left
         ·intro w'
          go_simp
          with_reducible rfl
         rotate_left
         ·simp only [Act.put,sT,sZ,sS,i64_w,i32_w]
          rfl
         refine pure_ (i:=7) (N:=some 81) (v:=?_) (a':=?_) #[τ,τ,τ,τ,τ,τ,τ,τ,φ,φ,φ,φ,φ,φ,φ,φ,φ,φ] rfl rfl (any_of HT_.out (by kernel_rfl)) (fun _ _ _ h=>h) (Or.inl ⟨by rfl,?_⟩) ?_ ?_
         rotate_left
         ·intro w'
          go_simp
          with_reducible rfl
         rotate_left
         ·simp only [Act.put,sT,sZ,sS,i64_w,i32_w]
          rfl
         refine pure_ (i:=9) (N:=some 83) (v:=?_) (a':=?_) #[τ,τ,τ,τ,τ,τ,τ,τ,φ,τ,φ,φ,φ,φ,φ,φ,φ,φ] rfl rfl (any_of HT_.out (by kernel_rfl)) (fun _ _ _ h=>h) (Or.inl ⟨by rfl,?_⟩) ?_ ?_
         rotate_left
         ·intro w'
          go_simp
          with_reducible rfl
         rotate_left
         ·simp only [Act.put,sT,sZ,sS,i64_w,i32_w]
          rfl
         refine take_ (i:=8) (N:=some 82) (v:=?_) (a':=?_) #[τ,τ,τ,τ,τ,τ,τ,τ,τ,τ,φ,φ,φ,φ,φ,φ,φ,φ] rfl rfl (take_ofW HT_.out HW_.out (by kernel_rfl)) (fun _ _ _ h=>h) (Or.inl ⟨by rfl,?_⟩) hHeld ?_ ?_
         rotate_left
         ·rintro w' ⟨s0,s1,s2,s3⟩
          go_simp
          with_reducible rfl
         rotate_left
         ·simp only [Act.put,sT,sZ,sS,i64_w,i32_w]
          rfl
         refine take_ (i:=11) (N:=some 85) (v:=?_) (a':=?_) #[τ,τ,τ,τ,τ,τ,τ,τ,τ,τ,φ,τ,φ,φ,φ,φ,φ,φ] rfl rfl (take_ofW HT_.out HW_.out (by kernel_rfl)) (fun _ _ _ h=>h) (Or.inl ⟨by rfl,?_⟩) hHeld ?_ ?_
         rotate_left
         ·rintro w' ⟨s0,s1,s2,s3⟩
          go_simp
          with_reducible rfl
         rotate_left
         ·simp only [Act.put,sT,sZ,sS,i64_w,i32_w]
          rfl
         refine one_ (i:=10) (N:=some 84) #[τ,τ,τ,τ,τ,τ,τ,τ,τ,τ,τ,τ,φ,φ,φ,φ,φ,φ] rfl rfl (one_of HT_.out (by kernel_rfl)) (by decide) (fun K hK=>?_)
         refine goes_ Try.func14 (by kernel_rfl) rfl #[.agg #[.slice Ao116 t516.length co116,.int .i64 t519],.int .i64 a2] (by rfl) rfl rfl (by (try simp only [List.map_toArray,List.map_cons,List.map_nil]);first|done|rfl|(simp only [List.length_drop,List.length_take];rfl)) ?_
         with_reducible refine (link_Drop.calls kj22 (fun k_=>(k_ ≠ gb476∧(k_ ≠ gb485∧(k_ ≠ gb494∧k_ ≠ gb520)))) _ _ t516 t519 a2 t522 t525 _ ?side1 A107.out).mono ?_
         (case side1=>exact HO518.out)
         rintro e w123 ⟨v523,rfl,ho0,hb⟩
         refine ⟨_,rfl,?_⟩
         have n3_:=mK (Kd.V_lower (Kd.V_mono (ok':= fun k_=>k_ ≠ gb476∧k_ ≠ gb485∧k_ ≠ gb494∧k_ ≠ gb520) ho0 (fun k_ hk_=>⟨Or.elim hk_ (fun hs_=>hs_.1) (fun hn_=>(Kd.freshB (g:=gb476) (o:=.cells #[.slice A0_0 l0_0.length c0_0,.int .i64 a0_1] 24 (0,0)) (by (with_reducible repeat (first|apply bN|apply bD|apply bA));exact BK476.out) k_ hn_)),Or.elim hk_ (fun hs_=>hs_.2.1) (fun hn_=>(Kd.freshB (g:=gb485) (o:=.cells #[.slice Ao27 t480.length co27,.int .i64 t483] 24 (0,0)) (by (with_reducible repeat (first|apply bN|apply bD|apply bA));exact BK485.out) k_ hn_)),Or.elim hk_ (fun hs_=>hs_.2.2.1) (fun hn_=>(Kd.freshB (g:=gb494) (o:=.cells #[.slice Ao34 t486.length co34,.int .i64 t489] 24 (0,0)) (by (with_reducible repeat (first|apply bN|apply bD|apply bA));exact BK494.out) k_ hn_)),Or.elim hk_ (fun hs_=>hs_.2.2.2) (fun hn_=>(Kd.freshB (g:=gb520) (o:=.cells #[.slice Ao116 t516.length co116,.int .i64 t519] 24 (0,0)) (by (with_reducible repeat (first|apply bN|apply bD|apply bA));exact BK520.out) k_ hn_))⟩)) (below_size (by repeat (first|(with_reducible first|exact HB.out|apply lA|apply lN|apply lD|refine lS ?_ GE476.out|refine lS ?_ GE485.out|refine lS ?_ GE494.out|refine lS ?_ GE520.out)|exact HB.out))))
         have n4_:=mK (blk_below (g:=gb476) (o:=.cells #[.slice A0_0 l0_0.length c0_0,.int .i64 a0_1] 24 (0,0)) (by (with_reducible repeat (first|apply bN|apply bD|apply bA));exact BK476.out) hb)
         have n7_:=mK (blk_below (g:=gb520) (o:=.cells #[.slice Ao116 t516.length co116,.int .i64 t519] 24 (0,0)) (by (with_reducible repeat (first|apply bN|apply bD|apply bA));exact BK520.out) hb)
         have n8_:=mK (below_step (by repeat (first|(with_reducible first|exact HB.out|apply lA|apply lN|apply lD|refine lS ?_ GE476.out|refine lS ?_ GE485.out|refine lS ?_ GE494.out|refine lS ?_ GE520.out)|exact HB.out)) hb)
         clear BK476
         clear BK520
         clear HB
         have HO524:=n3_
         have BK476:=n4_
         have BK520:=n7_
         have HB:=n8_
         clear n3_ n4_ n7_ n8_
         (try clear hb)
         (try clear hb2)
         (try clear hk)
         (try clear hi)
         (try clear ho0)
         obtain ⟨Ao124,co124,eo124⟩:=Kd.V_slice HO524.out
         (first|subst eo124|(injection eo124 with f1_ f2_ f3_;have f4_:=f1_.symm;have f5_:=f3_.symm;clear f1_ f2_ f3_;subst f4_;subst f5_))
         refine hK.out _ _ ⟨(blk_cell BK520.out 0).trans rfl,(blk_cell BK520.out 1).trans rfl,(blk_cell BK476.out 0).trans rfl,(blk_cell BK476.out 1).trans rfl⟩ (fun hHeld=>?_)
         clear hK K
         refine norm_ (a':=?_) ?_ ?_
         rotate_left
         ·show Act.put _ (some 84) _ = _
          simp only [Act.put,sT,sZ,sS,i64_w,i32_w]
          rfl
         refine one_ (i:=12) (N:=some 86) #[τ,τ,τ,τ,τ,τ,τ,τ,τ,τ,τ,τ,τ,φ,φ,φ,φ,φ] rfl rfl (one_of HT_.out (by kernel_rfl)) (by decide) (fun K hK=>?_)
         refine goes_ Try.func12 (by kernel_rfl) rfl #[.agg #[.slice Ao124 t522.length co124,.int .i64 t525],.agg #[.slice A0_0 l0_0.length c0_0,.int .i64 a0_1]] (by rfl) rfl rfl (by (try simp only [List.map_toArray,List.map_cons,List.map_nil]);first|done|rfl|(simp only [List.length_drop,List.length_take];rfl)) ?_
         with_reducible refine (drawbridgeref23_Same.calls kj22 _ _ t522 t525 _ _ l0_0 a0_1 true _ ?side1 ?side2 ?side3 ?side4 A108.out).mono ?_
         (case side1=>repeat (first|exact (Kd.V_reads' HO524.out).2.2|(with_reducible refine Kd.C_alloc ?_ _)|(with_reducible refine Kd.C_drewN ?_ _)|(with_reducible refine Kd.C_drew ?_)))
         (case side2=>exact (Kd.V_reads' HO524.out).2.1)
         (case side3=>repeat (first|exact (Kd.C_below HR0_0.out HB.out)|(with_reducible refine Kd.C_alloc ?_ _)|(with_reducible refine Kd.C_drewN ?_ _)|(with_reducible refine Kd.C_drew ?_)))
         (case side4=>exact HC0_0.out)
         rintro e w125 ⟨rfl,hb⟩
         refine ⟨_,rfl,?_⟩
         have n4_:=mK (blk_below (g:=gb476) (o:=.cells #[.slice A0_0 l0_0.length c0_0,.int .i64 a0_1] 24 (0,0)) (by (with_reducible repeat (first|apply bN|apply bD|apply bA));exact BK476.out) hb)
         have n7_:=mK (blk_below (g:=gb520) (o:=.cells #[.slice Ao116 t516.length co116,.int .i64 t519] 24 (0,0)) (by (with_reducible repeat (first|apply bN|apply bD|apply bA));exact BK520.out) hb)
         have n8_:=mK (below_step (by repeat (first|(with_reducible first|exact HB.out|apply lA|apply lN|apply lD|refine lS ?_ GE476.out|refine lS ?_ GE485.out|refine lS ?_ GE494.out|refine lS ?_ GE520.out)|exact HB.out)) hb)
         clear BK476
         clear BK520
         clear HB
         have BK476:=n4_
         have BK520:=n7_
         have HB:=n8_
         clear n4_ n7_ n8_
         (try clear hb)
         (try clear hb2)
         (try clear hk)
         (try clear hi)
         refine hK.out _ _ ⟨(blk_cell BK520.out 0).trans rfl,(blk_cell BK520.out 1).trans rfl,(blk_cell BK476.out 0).trans rfl,(blk_cell BK476.out 1).trans rfl⟩ (fun hHeld=>?_)
         clear hK K
         refine norm_ (a':=?_) ?_ ?_
         rotate_left
         ·show Act.put _ (some 86) _ = _
          simp only [Act.put,sT,sZ,sS,i64_w,i32_w]
          rfl
         refine pure_ (i:=13) (N:=some 87) (v:=?_) (a':=?_) #[τ,τ,τ,τ,τ,τ,τ,τ,τ,τ,τ,τ,τ,τ,φ,φ,φ,φ] rfl rfl (any_of HT_.out (by kernel_rfl)) (fun _ _ _ h=>h) (Or.inl ⟨by rfl,?_⟩) ?_ ?_
         rotate_left
         ·intro w'
          go_simp
          with_reducible rfl
         rotate_left
         ·simp only [Act.put,sT,sZ,sS,i64_w,i32_w]
          rfl
         refine pure_ (i:=14) (N:=some 88) (v:=?_) (a':=?_) #[τ,τ,τ,τ,τ,τ,τ,τ,τ,τ,τ,τ,τ,τ,τ,φ,φ,φ] rfl rfl (any_of HT_.out (by kernel_rfl)) (fun _ _ _ h=>h) (Or.inl ⟨by rfl,?_⟩) ?_ ?_
         rotate_left
         ·intro w'
          go_simp
          with_reducible rfl
         rotate_left
         ·simp only [Act.put,sT,sZ,sS,i64_w,i32_w]
          rfl
         refine one_ (i:=15) (N:=some 89) #[τ,τ,τ,τ,τ,τ,τ,τ,τ,τ,τ,τ,τ,τ,τ,τ,φ,φ] rfl rfl (one_of HT_.out (by kernel_rfl)) (by decide) (fun K hK=>?_)
         refine goes_ Try.func7 (by kernel_rfl) rfl #[] (by rfl) rfl rfl (by (try simp only [List.map_toArray,List.map_cons,List.map_nil]);first|done|rfl|(simp only [List.length_drop,List.length_take];rfl)) ?_
         with_reducible refine (drawbridgelaw23_heads.calls kj22  t527 _ (by first|exact HTr_.out|assumption) A110.out).mono ?_
         rintro e w126 ⟨rfl,hb⟩
         refine ⟨_,rfl,?_⟩
         have n4_:=mK (blk_below (g:=gb476) (o:=.cells #[.slice A0_0 l0_0.length c0_0,.int .i64 a0_1] 24 (0,0)) (by (with_reducible repeat (first|apply bN|apply bD|apply bA));exact BK476.out) hb)
         have n7_:=mK (blk_below (g:=gb520) (o:=.cells #[.slice Ao116 t516.length co116,.int .i64 t519] 24 (0,0)) (by (with_reducible repeat (first|apply bN|apply bD|apply bA));exact BK520.out) hb)
         have n8_:=mK (below_step (by repeat (first|(with_reducible first|exact HB.out|apply lA|apply lN|apply lD|refine lS ?_ GE476.out|refine lS ?_ GE485.out|refine lS ?_ GE494.out|refine lS ?_ GE520.out)|exact HB.out)) hb)
         clear BK476
         clear BK520
         clear HB
         have BK476:=n4_
         have BK520:=n7_
         have HB:=n8_
         clear n4_ n7_ n8_
         (try clear hb)
         (try clear hb2)
         (try clear hk)
         (try clear hi)
         refine hK.out _ _ ⟨(blk_cell BK520.out 0).trans rfl,(blk_cell BK520.out 1).trans rfl,(blk_cell BK476.out 0).trans rfl,(blk_cell BK476.out 1).trans rfl⟩ (fun hHeld=>?_)
         clear hK K
         refine norm_ (a':=?_) ?_ ?_
         rotate_left
         ·show Act.put _ (some 89) _ = _
          simp only [Act.put,sT,sZ,sS,i64_w,i32_w]
          rfl
         refine pure_ (i:=16) (N:=some 90) (v:=?_) (a':=?_) #[τ,τ,τ,τ,τ,τ,τ,τ,τ,τ,τ,τ,τ,τ,τ,τ,τ,φ] rfl rfl (any_of HT_.out (by kernel_rfl)) (fun _ _ _ h=>h) (Or.inl ⟨by rfl,?_⟩) ?_ ?_
         rotate_left
         ·intro w'
          go_simp
          with_reducible rfl
         rotate_left
         ·simp only [Act.put,sT,sZ,sS,i64_w,i32_w]
          rfl
         refine pure_ (i:=17) (N:=some 6) (v:=?_) (a':=?_) #[τ,τ,τ,τ,τ,τ,τ,τ,τ,τ,τ,τ,τ,τ,τ,τ,τ,τ] rfl rfl (any_of HT_.out (by kernel_rfl)) (fun _ _ _ h=>h) (Or.inl ⟨by rfl,?_⟩) ?_ ?_
         rotate_left
         ·intro w'
          go_simp
          with_reducible rfl
         rotate_left
         ·simp only [Act.put,sT,sZ,sS,i64_w,i32_w]
          rfl
         refine done_ (done_of HT_.out (by kernel_rfl)) ?_
         try go_wp2
         go_ret
         exact ⟨by first|rfl|(simp [errW_none,errW_some] <;> rfl)|(simp [*,errW_none,errW_some] <;> rfl),by repeat (first|(with_reducible first|exact HB.out|apply lA|apply lN|apply lD|refine lS ?_ GE476.out|refine lS ?_ GE485.out|refine lS ?_ GE494.out|refine lS ?_ GE520.out)|exact HB.out)⟩
        ·replace c109:=Bool.eq_false_iff.mpr c109
         subst c109
         have H1 : (some false) = some r:= by rw [if_neg (show ¬ (false = true) by decide)] at H;exact H
         clear H
         have H:=H1
         clear H1
         exact absurd (H.trans (congrArg some HTr_.out)) (by simp)

end Go.Proofs.Ythfokiabneflpaa.P
