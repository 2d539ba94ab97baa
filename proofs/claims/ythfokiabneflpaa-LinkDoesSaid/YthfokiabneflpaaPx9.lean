/- Contracts of functions of the seat, written by a program of this session (with the kit's print) for the laws of this claim; no condition beside what each states. -/
import Derived.Test.YthfokiabneflpaaPx0
import Derived.Test.YthfokiabneflpaaPx6
import Derived.Test.YthfokiabneflpaaPx8
namespace Go.Proofs.Ythfokiabneflpaa.P
open Go.Proofs.Ythfokiabneflpaa.Aux Go.RowKit Go.Proofs.YthfokiabneflpaaW.PrintWords Go.Proofs.YthfokiabneflpaaW.PrintLast Go.Proofs.YthfokiabneflpaaW.PrintMore
attribute [local go_sem] max2_int min2_int max_two min_two max_three min_three max_four min_four   -- for this text's walks alone
set_option linter.unusedVariables false
set_option linter.unusedSimpArgs false

/-! ### drawbridgeref23_Twice: function 17 -/
def drawbridgeref23_Twice.j0 : Nat → Int → Bool → List (List Int) → Int → Option ((List (List Int)) × Int)
 | 0, _, _, _, _ => none
 | k + 1, x1, x15, x338000, x338001 => if x15 = true then (some (x338000, x338001)) else (if 0 ≤ (wrap64 (x1 + 1)) then (if (wrap64 (x1 + 1)) ≤ (x338000.length : Int) then ((drawbridgeref23_own.f k (x338000.take ((wrap64 (x1 + 1)) : Int).toNat)).bind fun t345 => (if 0 ≤ x1 then (if x1 ≤ (x338000.length : Int) then ((drawbridgeref23_own.f k (x338000.drop (x1 : Int).toNat)).bind fun t353 => (if t345.length + t353.length < 5864062014805 then (some ((t345 ++ t353), x338001)) else (none))) else (none)) else (none))) else (none)) else (none))
def drawbridgeref23_Twice.f (k : Nat) (l0_0 : List (List Int)) (a0_1 : Int) (a1 : Int) : Option ((List (List Int)) × Int) := (drawbridgeref23_has.f k l0_0 a0_1 a1).bind fun t339 => (if t339 = true then (drawbridgeref23_Twice.j0 k a1 ((l0_0.length : Int) == 32) l0_0 a0_1) else (drawbridgeref23_Twice.j0 k a1 true l0_0 a0_1))
theorem drawbridgeref23_Twice.mono_l : ∀ k, (∀ y0 y1 y2 y3, LeO (drawbridgeref23_Twice.j0 k y0 y1 y2 y3) (drawbridgeref23_Twice.j0 (k + 1) y0 y1 y2 y3))
 | 0 => fun _ _ _ _ r h => by simp [drawbridgeref23_Twice.j0] at h
 | k + 1 => by
  have ih0 := drawbridgeref23_Twice.mono_l k
  ·intro y0 y1 y2 y3
   unfold drawbridgeref23_Twice.j0
   repeat' first
   | (with_reducible exact ih0 _ _ _ _)
   | (with_reducible exact drawbridgeref23_has.mono _ _ _ _)
   | (with_reducible exact drawbridgeref23_own.mono _ _)
   | (with_reducible exact LeO.refl _)
   | (with_reducible exact LeO.none _)
   | (with_reducible refine LeO.ite ?_ ?_)
   | (with_reducible refine LeO.bind ?_ (fun _ => ?_))
   | exact ih0 _ _ _ _
   | exact drawbridgeref23_has.mono _ _ _ _
   | exact drawbridgeref23_own.mono _ _
   | exact LeO.none _
   | refine LeO.ite ?_ ?_
   | refine LeO.bind ?_ (fun _ => ?_)
theorem drawbridgeref23_Twice.mono : ∀ a0 a1 a2 k, LeO (drawbridgeref23_Twice.f k a0 a1 a2) (drawbridgeref23_Twice.f (k + 1) a0 a1 a2) := by
 intro a0 a1 a2 k
 have ih0 := drawbridgeref23_Twice.mono_l k
 unfold drawbridgeref23_Twice.f
 repeat' first
   | (with_reducible exact ih0 _ _ _ _)
   | (with_reducible exact drawbridgeref23_has.mono _ _ _ _)
   | (with_reducible exact drawbridgeref23_own.mono _ _)
   | (with_reducible exact LeO.refl _)
   | (with_reducible exact LeO.none _)
   | (with_reducible refine LeO.ite ?_ ?_)
   | (with_reducible refine LeO.bind ?_ (fun _ => ?_))
   | exact ih0 _ _ _ _
   | exact drawbridgeref23_has.mono _ _ _ _
   | exact drawbridgeref23_own.mono _ _
   | exact LeO.none _
   | refine LeO.ite ?_ ?_
   | refine LeO.bind ?_ (fun _ => ?_)
def drawbridgeref23_Twice.T3 : Bool × List (List Nat × List Nat) := (true, [([], []), ([0], [0]), ([], []), ([2], [2]), ([1, 3], [1, 3]), ([4], [4]), ([], []), ([6], [6]), ([], []), ([7, 8], [7, 8]), ([9, 5], [9]), ([5, 10, 10], [5, 10]), ([11, 11, 0, 1, 2, 3, 4, 5, 6, 7, 8, 9, 10, 11], [11])])
def drawbridgeref23_Twice.B3 : List Nat := [0, 1, 0, 4, 15, 31, 0, 64, 0, 448, 1023, 2047, 4095]
theorem drawbridgeref23_Twice.tab3 : rtab .any (opsOf Try.f17 3) = drawbridgeref23_Twice.T3 := by kernel_rfl
theorem drawbridgeref23_Twice.bits3 : waitsOk drawbridgeref23_Twice.T3.2 drawbridgeref23_Twice.B3 = true := by kernel_rfl
set_option maxHeartbeats 8000000 in
set_option maxRecDepth 100000 in
theorem drawbridgeref23_Twice.calls (k : Nat) (P0_0_ : Nat → Prop) (A0_0 : Option Addr) (c0_0 : Nat) (l0_0 : List (List Int)) (a0_1 : Int) (a1 : Int) (r1 : List (List Int)) (r2 : Int) (w : World) (hs0_0 : Kd.V (Kd.slice 5 (Kd.int .u8)) 25 w w.heap.size (fun k_ => P0_0_ k_) (.slice A0_0 l0_0.length c0_0) l0_0) (h : drawbridgeref23_Twice.f k l0_0 a0_1 a1 = some (r1, r2)) :
  Calls Try.prog 17 #[.agg #[.slice A0_0 l0_0.length c0_0, .int .i64 a0_1], .int .i64 a1] w fun e w' => ∃ v0_ : Value, e = .returned (.agg #[v0_, .int .i64 r2]) ∧ Kd.V (Kd.slice 5 (Kd.int .u8)) 25 w' w.heap.size (fun k_ => (P0_0_ k_ ∨ w.heap.size ≤ k_)) v0_ r1 ∧ Below w.heap.size w w' := by
 have hu24:=Try.underlying24
 have HO0_0:=mK (show Kd.V (Kd.slice 5 (Kd.int .u8)) 25 w w.heap.size (fun k_=>(P0_0_ k_ ∨ w.heap.size ≤ k_)) (.slice A0_0 l0_0.length c0_0) l0_0 from Kd.V_mono hs0_0 (fun k_ hk=>.inl hk))
 have HB:=mK (Below.refl w.heap.size w)
 have H : ((drawbridgeref23_has.f k l0_0 a0_1 a1).bind fun t339=>(if t339 = true then (drawbridgeref23_Twice.j0 k a1 ((l0_0.length : Int) == 32) l0_0 a0_1) else (drawbridgeref23_Twice.j0 k a1 true l0_0 a0_1))) = some (r1,r2):=h
 clear h
 have HC3:=mK H
 clear H
 go_enter Try.func17,Try.ntmps17
 go_upto_region 1 with (first|((with_reducible refine gate_dst (N:=2) rfl ?_);(try (refine gate_guard (by rfl) ?_;dsimp only));refine box_event ?hg (N:=2) ?hd (cs:=#[.slice A0_0 l0_0.length c0_0,.int .i64 a0_1]) (t:=24) ?hr ?_;(case hd=>rfl);(case hg=>rfl);(case hr=>first|(go_simp;done)|(go_simp;rfl));intro gb337 hg w4 hbox hb;have n0_:=mK (Kd.V_below (Kd.V_elderB (by (with_reducible repeat (first|apply vA|apply vN|apply vD));exact HO0_0.out) gb337 (Nat.le_of_eq hg.symm)) hb);have n1_:=mK (below_step (by repeat (first|(with_reducible first|exact HB.out|apply lA|apply lN|apply lD)|exact HB.out)) hb);have n2_:=mK (hbox);have n4_:=mK ((by rw [hg];exact (below_size (by repeat (first|(with_reducible first|exact HB.out|apply lA|apply lN|apply lD)|exact HB.out))) : w.heap.size ≤ gb337));clear HO0_0;clear HB;have HO0_0:=n0_;have HB:=n1_;have BK337:=n2_;have GE337:=n4_;clear n0_ n1_ n2_ n4_;clear hb hbox hg)|((with_reducible refine gate_dst (N:=4) rfl ?_);(try (refine gate_guard (by rfl) ?_;dsimp only));refine box_event ?hg (N:=4) ?hd (cs:=#[.slice none 0 0,.int .i64 0]) (t:=24) ?hr ?_;(case hd=>rfl);(case hg=>rfl);(case hr=>first|(go_simp;done)|(go_simp;rfl));intro gb338 hg w5 hbox hb;have n0_:=mK (Kd.V_below (Kd.V_elderB (by (with_reducible repeat (first|apply vA|apply vN|apply vD));exact HO0_0.out) gb338 (Nat.le_of_eq hg.symm)) hb);have n1_:=mK (blk_below (g:=gb337) (o:=.cells #[.slice A0_0 l0_0.length c0_0,.int .i64 a0_1] 24 (0,0)) (by (with_reducible repeat (first|apply bN|apply bD|apply bA));exact BK337.out) hb);have n2_:=mK (below_step (by repeat (first|(with_reducible first|exact HB.out|apply lA|apply lN|apply lD|refine lS ?_ GE337.out)|exact HB.out)) hb);have n3_:=mK (hbox);have n5_:=mK ((by rw [hg];exact (below_size (by repeat (first|(with_reducible first|exact HB.out|apply lA|apply lN|apply lD|refine lS ?_ GE337.out)|exact HB.out))) : w.heap.size ≤ gb338));have n6_:=mK ((by rw [hg];exact Nat.ne_of_lt (blk_lt (g:=gb337) (o:=.cells #[.slice A0_0 l0_0.length c0_0,.int .i64 a0_1] 24 (0,0)) (by (with_reducible repeat (first|apply bN|apply bD|apply bA));exact BK337.out)) : gb337 ≠ gb338));have n7_:=mK ((by rw [hg];exact Nat.ne_of_gt (blk_lt (g:=gb337) (o:=.cells #[.slice A0_0 l0_0.length c0_0,.int .i64 a0_1] 24 (0,0)) (by (with_reducible repeat (first|apply bN|apply bD|apply bA));exact BK337.out)) : gb338 ≠ gb337));clear HO0_0;clear BK337;clear HB;have HO0_0:=n0_;have BK337:=n1_;have HB:=n2_;have BK338:=n3_;have GE338:=n5_;have NB337_338:=n6_;have NB338_337:=n7_;clear n0_ n1_ n2_ n3_ n5_ n6_ n7_;clear hb hbox hg))
 (try simp only [Act.put,sT,sZ,sS])
 go_cut [15] (fun v15 wc=>∃ (kq : Nat) (x15_2 : Bool),v15 = .bool x15_2∧Aside0 (drawbridgeref23_Twice.j0 kq a1 x15_2 l0_0 a0_1 = some (r1,r2))∧Aside0 (kq ≤ k)∧Aside0 (Kd.V (Kd.slice 5 (Kd.int .u8)) 25 wc w.heap.size (fun k_=>(P0_0_ k_ ∨ w.heap.size ≤ k_)∧k_ ≠ gb337∧k_ ≠ gb338) (.slice A0_0 l0_0.length c0_0) l0_0)∧Aside0 (wc.heap[gb337]? = some (.cells #[(.slice A0_0 l0_0.length c0_0),.int .i64 a0_1] 24 (0,0)))∧Aside0 (wc.heap[gb338]? = some (.cells #[(.slice none 0 0),.int .i64 0] 24 (0,0)))∧Aside0 (Below w.heap.size w wc))
 case first =>
  have H:=HC3.out
  clear HC3
  replace H:=Option.bind_eq_some_iff.mp H
  obtain ⟨t339,A60,H⟩:=H
  replace H : (if t339 = true then (drawbridgeref23_Twice.j0 k a1 ((l0_0.length : Int) == 32) l0_0 a0_1) else (drawbridgeref23_Twice.j0 k a1 true l0_0 a0_1)) = some (r1,r2):=H
  have A6:=mK A60
  clear A60
  by_cases c7 : t339 = true
  ·subst c7
   have H1 : (drawbridgeref23_Twice.j0 k a1 ((l0_0.length : Int) == 32) l0_0 a0_1) = some (r1,r2):= by rw [if_pos rfl] at H;exact H
   clear H
   have H:=H1
   clear H1
   have H':=mK H
   clear H
   have hnb8:=NB337_338.out
   have hnc8:=NB338_337.out
   have hcz9_0 : w5.cell? ⟨gb337,0,none⟩ = some (.slice A0_0 l0_0.length c0_0):=(blk_cell BK337.out 0).trans rfl
   have hcz9_1 : w5.cell? ⟨gb337,1,none⟩ = some (.int .i64 a0_1):=(blk_cell BK337.out 1).trans rfl
   have hfz9_0:=blk_frozen BK337.out 0
   have hfz9_1:=blk_frozen BK337.out 1
   go_wp2_with (first|((with_reducible refine gate_callee (f:=31) rfl ?_);refine goesL_ (some 8) rfl rfl Try.func31 (by kernel_rfl) rfl #[.agg #[.slice A0_0 l0_0.length c0_0,.int .i64 a0_1],.int .i64 a1] rfl (by (try simp only [List.map_toArray,List.map_cons,List.map_nil]);first|done|rfl|(simp only [List.length_drop,List.length_take];rfl)) ?_;(with_reducible refine (drawbridgeref23_has.calls k _ _ l0_0 a0_1 a1 true _ ?side1 ?side2 A6.out).mono ?_);(case side1=>repeat (first|exact (Kd.V_reads' HO0_0.out).2.2|(with_reducible refine Kd.C_alloc ?_ _)|(with_reducible refine Kd.C_drewN ?_ _)|(with_reducible refine Kd.C_drew ?_)));(case side2=>exact (Kd.V_reads' HO0_0.out).2.1);rintro e w10 ⟨rfl,hb⟩;refine ⟨_,rfl,?_⟩;have n0_:=mK (Kd.V_below (by (with_reducible repeat (first|apply vA|apply vN|apply vD));exact HO0_0.out) hb);have n1_:=mK (blk_below (g:=gb337) (o:=.cells #[.slice A0_0 l0_0.length c0_0,.int .i64 a0_1] 24 (0,0)) (by (with_reducible repeat (first|apply bN|apply bD|apply bA));exact BK337.out) hb);have n2_:=mK (blk_below (g:=gb338) (o:=.cells #[.slice none 0 0,.int .i64 0] 24 (0,0)) (by (with_reducible repeat (first|apply bN|apply bD|apply bA));exact BK338.out) hb);have n3_:=mK (below_step (by repeat (first|(with_reducible first|exact HB.out|apply lA|apply lN|apply lD|refine lS ?_ GE337.out|refine lS ?_ GE338.out)|exact HB.out)) hb);clear HO0_0;clear BK337;clear BK338;clear HB;have HO0_0:=n0_;have BK337:=n1_;have BK338:=n2_;have HB:=n3_;clear n0_ n1_ n2_ n3_;(try clear hb);(try clear hb2);(try clear hk);(try clear hi);have hcz11_0 : w10.cell? ⟨gb337,0,none⟩ = some (.slice A0_0 l0_0.length c0_0):=(blk_cell BK337.out 0).trans rfl;have hcz11_1 : w10.cell? ⟨gb337,1,none⟩ = some (.int .i64 a0_1):=(blk_cell BK337.out 1).trans rfl;have hfz11_0:=blk_frozen BK337.out 0;have hfz11_1:=blk_frozen BK337.out 1))
   go_meet
   case rel=>exact ⟨_,(((l0_0.length : Int) == 32)),(by first|rfl|(simp;done)|(simp [*];done)),H',⟨by first|omega|exact Nat.le_refl _⟩,⟨by (with_reducible repeat (first|apply vA|apply vN|apply vD));exact Kd.V_mono HO0_0.out (fun _ hk=>⟨hk.1.1,⟨hk.1.2,hk.2⟩⟩)⟩,⟨by (with_reducible repeat (first|apply bN|apply bD|apply bA));exact BK337.out⟩,⟨by (with_reducible repeat (first|apply bN|apply bD|apply bA));exact BK338.out⟩,⟨by repeat (first|(with_reducible first|exact HB.out|apply lA|apply lN|apply lD|refine lS ?_ GE337.out|refine lS ?_ GE338.out)|exact HB.out)⟩⟩
  ·replace c7:=Bool.eq_false_iff.mpr c7
   subst c7
   have H1 : (drawbridgeref23_Twice.j0 k a1 true l0_0 a0_1) = some (r1,r2):= by rw [if_neg (show ¬ (false = true) by decide)] at H;exact H
   clear H
   have H:=H1
   clear H1
   have H':=mK H
   clear H
   have hnb12:=NB337_338.out
   have hnc12:=NB338_337.out
   have hcz13_0 : w5.cell? ⟨gb337,0,none⟩ = some (.slice A0_0 l0_0.length c0_0):=(blk_cell BK337.out 0).trans rfl
   have hcz13_1 : w5.cell? ⟨gb337,1,none⟩ = some (.int .i64 a0_1):=(blk_cell BK337.out 1).trans rfl
   have hfz13_0:=blk_frozen BK337.out 0
   have hfz13_1:=blk_frozen BK337.out 1
   go_wp2_with (first|((with_reducible refine gate_callee (f:=31) rfl ?_);refine goesL_ (some 8) rfl rfl Try.func31 (by kernel_rfl) rfl #[.agg #[.slice A0_0 l0_0.length c0_0,.int .i64 a0_1],.int .i64 a1] rfl (by (try simp only [List.map_toArray,List.map_cons,List.map_nil]);first|done|rfl|(simp only [List.length_drop,List.length_take];rfl)) ?_;(with_reducible refine (drawbridgeref23_has.calls k _ _ l0_0 a0_1 a1 false _ ?side1 ?side2 A6.out).mono ?_);(case side1=>repeat (first|exact (Kd.V_reads' HO0_0.out).2.2|(with_reducible refine Kd.C_alloc ?_ _)|(with_reducible refine Kd.C_drewN ?_ _)|(with_reducible refine Kd.C_drew ?_)));(case side2=>exact (Kd.V_reads' HO0_0.out).2.1);rintro e w14 ⟨rfl,hb⟩;refine ⟨_,rfl,?_⟩;have n0_:=mK (Kd.V_below (by (with_reducible repeat (first|apply vA|apply vN|apply vD));exact HO0_0.out) hb);have n1_:=mK (blk_below (g:=gb337) (o:=.cells #[.slice A0_0 l0_0.length c0_0,.int .i64 a0_1] 24 (0,0)) (by (with_reducible repeat (first|apply bN|apply bD|apply bA));exact BK337.out) hb);have n2_:=mK (blk_below (g:=gb338) (o:=.cells #[.slice none 0 0,.int .i64 0] 24 (0,0)) (by (with_reducible repeat (first|apply bN|apply bD|apply bA));exact BK338.out) hb);have n3_:=mK (below_step (by repeat (first|(with_reducible first|exact HB.out|apply lA|apply lN|apply lD|refine lS ?_ GE337.out|refine lS ?_ GE338.out)|exact HB.out)) hb);clear HO0_0;clear BK337;clear BK338;clear HB;have HO0_0:=n0_;have BK337:=n1_;have BK338:=n2_;have HB:=n3_;clear n0_ n1_ n2_ n3_;(try clear hb);(try clear hb2);(try clear hk);(try clear hi)))
   go_meet
   case rel=>exact ⟨_,(true),(by first|rfl|(simp;done)|(simp [*];done)),H',⟨by first|omega|exact Nat.le_refl _⟩,⟨by (with_reducible repeat (first|apply vA|apply vN|apply vD));exact Kd.V_mono HO0_0.out (fun _ hk=>⟨hk.1.1,⟨hk.1.2,hk.2⟩⟩)⟩,⟨by (with_reducible repeat (first|apply bN|apply bD|apply bA));exact BK337.out⟩,⟨by (with_reducible repeat (first|apply bN|apply bD|apply bA));exact BK338.out⟩,⟨by repeat (first|(with_reducible first|exact HB.out|apply lA|apply lN|apply lD|refine lS ?_ GE337.out|refine lS ?_ GE338.out)|exact HB.out)⟩⟩
 case rest =>
  clear HC3
  try clear c1
  try clear p2
  try clear c3
  try clear c7
  try clear c8
  try clear c12
  try clear hcz11_0
  try clear hcz11_1
  try clear hcz13_0
  try clear hcz13_1
  try clear hcz9_0
  try clear hcz9_1
  try clear hfz11_0
  try clear hfz11_1
  try clear hfz13_0
  try clear hfz13_1
  try clear hfz9_0
  try clear hfz9_1
  obtain ⟨kq,x15_2,rfl,HA,HJ2,HO_338000,BK337,BK338,HB⟩:=hcut
  cases kq with
  |zero=>exact absurd HA.out (by simp [drawbridgeref23_Twice.j0])
  |succ kj2 =>
   have H:=HA.out
   clear HA
   simp only [drawbridgeref23_Twice.j0] at H
   by_cases c15 : x15_2 = true
   ·subst c15
    have H1 : (some (l0_0,a0_1)) = some (r1,r2):= by rw [if_pos rfl] at H;exact H
    clear H
    have H:=H1
    clear H1
    simp only [Option.some.injEq,Prod.mk.injEq] at H
    obtain ⟨rfl,rfl⟩:=H
    have hnb16:=NB337_338.out
    have hnc16:=NB338_337.out
    have hcz17_0 : wc.cell? ⟨gb337,0,none⟩ = some (.slice A0_0 l0_0.length c0_0):=(blk_cell BK337.out 0).trans rfl
    have hcz17_1 : wc.cell? ⟨gb337,1,none⟩ = some (.int .i64 a0_1):=(blk_cell BK337.out 1).trans rfl
    have hfz17_0:=blk_frozen BK337.out 0
    have hfz17_1:=blk_frozen BK337.out 1
    have hcz18_0 : wc.cell? ⟨gb338,0,none⟩ = some (.slice none 0 0):=(blk_cell BK338.out 0).trans rfl
    have hcz18_1 : wc.cell? ⟨gb338,1,none⟩ = some (.int .i64 0):=(blk_cell BK338.out 1).trans rfl
    have hfz18_0:=blk_frozen BK338.out 0
    have hfz18_1:=blk_frozen BK338.out 1
    go_wp2
    refine bodyPost_ret (results_cell_row rfl _ _ gb338 24 #[.slice A0_0 l0_0.length c0_0,.int .i64 a0_1] (0,0) _ rfl (by (with_reducible repeat (first|apply bN|apply bD|apply bA));refine blk_put (cs:=#[.slice A0_0 l0_0.length c0_0,.int .i64 0]) ?_ 1 _ rfl;(with_reducible repeat (first|apply bN|apply bD|apply bA));refine blk_put (cs:=#[.slice none 0 0,.int .i64 0]) ?_ 0 _ rfl;(with_reducible repeat (first|apply bN|apply bD|apply bA));exact BK338.out) Try.underlying24 rfl (by kernel_rfl)) rfl ?_
    exact ⟨_,by first|rfl|(simp [errW_none,errW_some] <;> rfl)|(simp [*,errW_none,errW_some] <;> rfl),by (with_reducible repeat (first|apply vA|apply vN|apply vD));exact Kd.V_mono (Kd.V_far (p:=⟨gb338,1,none⟩) (Kd.V_far (p:=⟨gb338,0,none⟩) (Kd.V_mono HO_338000.out (fun k_ hk=>(⟨hk,hk.2.2⟩ : _∧k_ ≠ gb338))) (fun _ hk=>hk.2) (.slice A0_0 l0_0.length c0_0)) (fun _ hk=>hk.2) (.int .i64 a0_1)) (fun _ hk=>hk.1.1),by repeat (first|(with_reducible first|exact HB.out|apply lA|apply lN|apply lD|refine lS ?_ GE337.out|refine lS ?_ GE338.out)|exact HB.out)⟩
   ·replace c15:=Bool.eq_false_iff.mpr c15
    subst c15
    have H1 : (if 0 ≤ (wrap64 (a1 + 1)) then (if (wrap64 (a1 + 1)) ≤ (l0_0.length : Int) then ((drawbridgeref23_own.f kj2 (l0_0.take ((wrap64 (a1 + 1)) : Int).toNat)).bind fun t345=>(if 0 ≤ a1 then (if a1 ≤ (l0_0.length : Int) then ((drawbridgeref23_own.f kj2 (l0_0.drop (a1 : Int).toNat)).bind fun t353=>(if t345.length + t353.length < 5864062014805 then (some ((t345 ++ t353),a0_1)) else (none))) else (none)) else (none))) else (none)) else (none)) = some (r1,r2):= by rw [if_neg (show ¬ (false = true) by decide)] at H;exact H
    clear H
    have H:=H1
    clear H1
    obtain ⟨ji19,hji19⟩ : ∃ j_ : Int,(wrap64 (a1 + 1)) = j_:=⟨_,rfl⟩
    replace H : (if 0 ≤ (ji19) then (if (ji19) ≤ (l0_0.length : Int) then ((drawbridgeref23_own.f kj2 (l0_0.take ((ji19) : Int).toNat)).bind fun t345=>(if 0 ≤ a1 then (if a1 ≤ (l0_0.length : Int) then ((drawbridgeref23_own.f kj2 (l0_0.drop (a1 : Int).toNat)).bind fun t353=>(if t345.length + t353.length < 5864062014805 then (some ((t345 ++ t353),a0_1)) else (none))) else (none)) else (none))) else (none)) else (none)) = some (r1,r2):= by first|(rw [hji19] at H;exact H)|(simp only [hji19] at H ⊢; exact H)
    have hji19w : (IntKind.i64.wrap (a1 + 1)) = ji19:=(i64_w _).trans hji19
    by_cases c20 : 0 ≤ (ji19)
    ·rw [if_pos c20] at H
     have c20b0:=eq_true c20
     have c20b1 : decide (0 ≤ (ji19)) = true:=decide_eq_true c20
     clear c20
     by_cases c21 : (ji19) ≤ (l0_0.length : Int)
     ·rw [if_pos c21] at H
      have c21b0:=eq_true c21
      have c21b1 : decide ((ji19) ≤ (l0_0.length : Int)) = true:=decide_eq_true c21
      clear c21
      obtain ⟨y340,hy340⟩ : ∃ y_ : List (List Int),y_ = (l0_0.take ((ji19) : Int).toNat):=⟨_,rfl⟩
      replace H : ((drawbridgeref23_own.f kj2 y340).bind fun t345=>(if 0 ≤ a1 then (if a1 ≤ (l0_0.length : Int) then ((drawbridgeref23_own.f kj2 (l0_0.drop (a1 : Int).toNat)).bind fun t353=>(if t345.length + t353.length < 5864062014805 then (some ((t345 ++ t353),a0_1)) else (none))) else (none)) else (none))) = some (r1,r2):= by first|(rw [hy340];with_reducible exact H)|(have H2_:=(Option.bind_some _ _).symm.trans H;rw [hy340];with_reducible exact H2_)|(have H2_:=(Option.bind_some _ _).symm.trans H;with_reducible exact H2_)|with_reducible exact H|(rw [hy340];exact H)|exact H
      have Ny340:=mK hy340
      clear hy340
      replace H:=Option.bind_eq_some_iff.mp H
      obtain ⟨t345,A220,H⟩:=H
      replace H : (if 0 ≤ a1 then (if a1 ≤ (l0_0.length : Int) then ((drawbridgeref23_own.f kj2 (l0_0.drop (a1 : Int).toNat)).bind fun t353=>(if t345.length + t353.length < 5864062014805 then (some ((t345 ++ t353),a0_1)) else (none))) else (none)) else (none)) = some (r1,r2):=H
      have A22:=mK A220
      clear A220
      by_cases c23 : 0 ≤ a1
      ·rw [if_pos c23] at H
       have c23b0:=eq_true c23
       have c23b1 : decide (0 ≤ a1) = true:=decide_eq_true c23
       clear c23
       by_cases c24 : a1 ≤ (l0_0.length : Int)
       ·rw [if_pos c24] at H
        have c24b0:=eq_true c24
        have c24b1 : decide (a1 ≤ (l0_0.length : Int)) = true:=decide_eq_true c24
        clear c24
        obtain ⟨y348,hy348⟩ : ∃ y_ : List (List Int),y_ = (l0_0.drop (a1 : Int).toNat):=⟨_,rfl⟩
        replace H : ((drawbridgeref23_own.f kj2 y348).bind fun t353=>(if t345.length + t353.length < 5864062014805 then (some ((t345 ++ t353),a0_1)) else (none))) = some (r1,r2):= by first|(rw [hy348];with_reducible exact H)|(have H2_:=(Option.bind_some _ _).symm.trans H;rw [hy348];with_reducible exact H2_)|(have H2_:=(Option.bind_some _ _).symm.trans H;with_reducible exact H2_)|with_reducible exact H|(rw [hy348];exact H)|exact H
        have Ny348:=mK hy348
        clear hy348
        replace H:=Option.bind_eq_some_iff.mp H
        obtain ⟨t353,A250,H⟩:=H
        replace H : (if t345.length + t353.length < 5864062014805 then (some ((t345 ++ t353),a0_1)) else (none)) = some (r1,r2):=H
        have A25:=mK A250
        clear A250
        by_cases c26 : t345.length + t353.length < 5864062014805
        ·rw [if_pos c26] at H
         have LMc26:=mK c26
         clear c26
         obtain ⟨y356,hy356⟩ : ∃ y_ : List (List Int),y_ = (t345 ++ t353):=⟨_,rfl⟩
         replace H : (some (y356,a0_1)) = some (r1,r2):= by first|(rw [hy356];with_reducible exact H)|(have H2_:=(Option.bind_some _ _).symm.trans H;rw [hy356];with_reducible exact H2_)|(have H2_:=(Option.bind_some _ _).symm.trans H;with_reducible exact H2_)|with_reducible exact H|(rw [hy356];exact H)|exact H
         have Ny356:=mK hy356
         clear hy356
         simp only [Option.some.injEq,Prod.mk.injEq] at H
         obtain ⟨rfl,rfl⟩:=H
         try go_wp2
         have n0_:=mK (Kd.V_drew HO_338000.out)
         have n1_:=mK (blk_drew BK337.out)
         have n2_:=mK (blk_drew BK338.out)
         have n3_:=mK (below_drew1 HB.out)
         clear HO_338000
         clear BK337
         clear BK338
         clear HB
         have HO_338000:=n0_
         have BK337:=n1_
         have BK338:=n2_
         have HB:=n3_
         clear n0_ n1_ n2_ n3_
         have q28 : ((ji19) : Int) ≤ ((l0_0.length : Int) : Int):=of_decide_eq_true (by first|(with_reducible assumption)|assumption)
         obtain ⟨i028,hi028,_,hsz28,_⟩:=info_parts info25
         have hroom28 : l0_0.length ≤ c0_0:=(Kd.V_reads' HO_338000.out).2.1
         have hC28 : Kd.F (Kd.slice 5 (Kd.int .u8)) _ _ A0_0 l0_0.length l0_0:=(Kd.V_at (base:=w.heap.size) HO_338000.out).2.2
         have hcut28:=cut_to (P:=Try.prog) 22 25 .i64 Try.underlying22 hi028 A0_0 l0_0.length c0_0 (ji19) (of_decide_eq_true (by first|(with_reducible assumption)|assumption)) q28 hroom28
         have hr28:=Kd.F_take (m:=((ji19) : Int).toNat) hC28 (by omega)
         have hy28 : y340.length = ((ji19) : Int).toNat:=(by rw [Ny340.out,List.length_take];omega)
         rw [← Ny340.out] at hr28
         rw [← hy28] at hcut28
         have HO344:=mK (show Kd.V (Kd.slice 5 (Kd.int .u8)) 25 _ w.heap.size _ (.slice A0_0 y340.length c0_0) y340 from Kd.V_mk (by omega) hr28)
         have HC344:=mK (show y340.length ≤ c0_0 from by omega)
         clear hr28 hC28 hroom28 hi028 hsz28
         have KY28:=mK hy28
         clear hy28
         replace q28:=eq_true q28
         have q29 : (a1 : Int) ≤ ((l0_0.length : Int) : Int):=of_decide_eq_true (by first|(with_reducible assumption)|assumption)
         obtain ⟨i029,hi029,_,hsz29,_⟩:=info_parts info25
         have hroom29 : l0_0.length ≤ c0_0:=(Kd.V_reads' HO_338000.out).2.1
         have hC29 : Kd.F (Kd.slice 5 (Kd.int .u8)) _ _ A0_0 l0_0.length l0_0:=(Kd.V_at (base:=w.heap.size) HO_338000.out).2.2
         have q029 : (0 : Int) ≤ (a1 : Int):=of_decide_eq_true (by first|(with_reducible assumption)|assumption)
         have hcut29:=cut_from (P:=Try.prog) 22 25 .i64 Try.underlying22 hi029 1 hsz29 A0_0 l0_0.length c0_0 a1 q029 q29
         have hr29:=Kd.F_cut (m:=(a1 : Int).toNat) (c:=c0_0) hC29 (by omega) hroom29
         obtain ⟨A29,hA29⟩ : ∃ A1,A1 = (if c0_0 = (a1 : Int).toNat then A0_0 else (A0_0 : Option Addr).map (·.add ((a1 : Int).toNat * 1))):=⟨_,rfl⟩
         obtain ⟨c29,hc29⟩ : ∃ c1,c1 = c0_0 - (a1 : Int).toNat:=⟨_,rfl⟩
         have hy29 : y348.length = l0_0.length - (a1 : Int).toNat:=(by rw [Ny348.out,List.length_drop] <;> omega)
         rw [show (l0_0).drop (a1 : Int).toNat = y348 from Ny348.out.symm] at hr29
         replace hr29 : Kd.F (Kd.slice 5 (Kd.int .u8)) _ _ A29 y348.length y348:=(by rw [hA29];exact hr29)
         rw [← hy29,← hA29,← hc29] at hcut29
         have HO352:=mK (show Kd.V (Kd.slice 5 (Kd.int .u8)) 25 _ w.heap.size _ (.slice A29 y348.length c29) y348 from Kd.V_mk (by rw [hy29,hc29];exact Nat.sub_le_sub_right hroom29 _) hr29)
         have HC352:=mK (show y348.length ≤ c29 from by rw [hy29,hc29];exact Nat.sub_le_sub_right hroom29 _)
         clear hr29 hC29 hroom29 hi029 hsz29 hc29
         have KY29:=mK hy29
         have KA29:=mK hA29
         clear hy29 hA29
         replace q29:=eq_true q29
         refine start_ (n:=13) (S:= fun w'=>w'.cell? ⟨gb337,0,none⟩ = some (.slice A0_0 l0_0.length c0_0)∧w'.cell? ⟨gb337,1,none⟩ = some (.int .i64 a0_1)) (ds:=[]) #[φ,φ,φ,φ,φ,φ,φ,φ,φ,φ,φ,φ,φ] (by kernel_rfl) rfl rfl ⟨(blk_cell BK337.out 0).trans rfl,(blk_cell BK337.out 1).trans rfl⟩ (fun hHeld=>?_);refine with_tabW drawbridgeref23_Twice.tab3 drawbridgeref23_Twice.bits3 (fun HT_ HW_=>?_)
         generalize wc.drew = w27 at HO_338000 BK337 BK338 HB HO344 HO352 hHeld ⊢
         refine pure_ (i:=0) (N:=some 17) (v:=?_) (a':=?_) #[τ,φ,φ,φ,φ,φ,φ,φ,φ,φ,φ,φ,φ] rfl rfl (any_of HT_.out (by kernel_rfl)) (fun _ _ _ h=>h) (Or.inl ⟨by rfl,?_⟩) ?_ ?_
         rotate_left
         ·intro w'
          go_simp
          with_reducible rfl
         rotate_left
         ·simp only [Act.put,sT,sZ,sS,i64_w,i32_w]
          rfl
         refine pure_ (i:=2) (N:=some 19) (v:=?_) (a':=?_) #[τ,φ,τ,φ,φ,φ,φ,φ,φ,φ,φ,φ,φ] rfl rfl (any_of HT_.out (by kernel_rfl)) (fun _ _ _ h=>h) (Or.inl ⟨by rfl,?_⟩) ?_ ?_
         rotate_left
         ·intro w'
          go_simp
          with_reducible rfl
         rotate_left
         ·simp only [Act.put,sT,sZ,sS,i64_w,i32_w]
          rfl
         refine pure_ (i:=3) (N:=some 20) (v:=?_) (a':=?_) #[τ,φ,τ,τ,φ,φ,φ,φ,φ,φ,φ,φ,φ] rfl rfl (any_of HT_.out (by kernel_rfl)) (fun _ _ _ h=>h) (Or.inl ⟨by rfl,?_⟩) ?_ ?_
         rotate_left
         ·intro w'
          go_simp
          with_reducible rfl
         rotate_left
         ·simp only [Act.put,sT,sZ,sS,i64_w,i32_w]
          rfl
         refine pure_ (i:=6) (N:=some 23) (v:=?_) (a':=?_) #[τ,φ,τ,τ,φ,φ,τ,φ,φ,φ,φ,φ,φ] rfl rfl (any_of HT_.out (by kernel_rfl)) (fun _ _ _ h=>h) (Or.inl ⟨by rfl,?_⟩) ?_ ?_
         rotate_left
         ·intro w'
          go_simp
          with_reducible rfl
         rotate_left
         ·simp only [Act.put,sT,sZ,sS,i64_w,i32_w]
          rfl
         refine pure_ (i:=8) (N:=some 25) (v:=?_) (a':=?_) #[τ,φ,τ,τ,φ,φ,τ,φ,τ,φ,φ,φ,φ] rfl rfl (any_of HT_.out (by kernel_rfl)) (fun _ _ _ h=>h) (Or.inl ⟨by rfl,?_⟩) ?_ ?_
         rotate_left
         ·intro w'
          go_simp
          with_reducible rfl
         rotate_left
         ·simp only [Act.put,sT,sZ,sS,i64_w,i32_w]
          rfl
         refine take_ (i:=1) (N:=some 18) (v:=?_) (a':=?_) #[τ,τ,τ,τ,φ,φ,τ,φ,τ,φ,φ,φ,φ] rfl rfl (take_ofW HT_.out HW_.out (by kernel_rfl)) (fun _ _ _ h=>h) (Or.inl ⟨by rfl,?_⟩) hHeld ?_ ?_
         rotate_left
         ·rintro w' ⟨s0,s1⟩
          go_simp
          with_reducible rfl
         rotate_left
         ·simp only [Act.put,sT,sZ,sS,i64_w,i32_w]
          rfl
         refine pure_ (i:=4) (N:=some 21) (v:=?_) (a':=?_) #[τ,τ,τ,τ,τ,φ,τ,φ,τ,φ,φ,φ,φ] rfl rfl (any_of HT_.out (by kernel_rfl)) (fun _ _ _ h=>h) (Or.inl ⟨by rfl,?_⟩) ?_ ?_
         rotate_left
         ·intro w'
          go_simp
          with_reducible rfl
         rotate_left
         ·simp only [Act.put,sT,sZ,sS,i64_w,i32_w]
          rfl
         refine take_ (i:=7) (N:=some 24) (v:=?_) (a':=?_) #[τ,τ,τ,τ,τ,φ,τ,τ,τ,φ,φ,φ,φ] rfl rfl (take_ofW HT_.out HW_.out (by kernel_rfl)) (fun _ _ _ h=>h) (Or.inl ⟨by rfl,?_⟩) hHeld ?_ ?_
         rotate_left
         ·rintro w' ⟨s0,s1⟩
          go_simp
          with_reducible rfl
         rotate_left
         ·simp only [Act.put,sT,sZ,sS,i64_w,i32_w]
          rfl
         refine pure_ (i:=9) (N:=some 26) (v:=?_) (a':=?_) #[τ,τ,τ,τ,τ,φ,τ,τ,τ,τ,φ,φ,φ] rfl rfl (any_of HT_.out (by kernel_rfl)) (fun _ _ _ h=>h) (Or.inl ⟨by rfl,?_⟩) ?_ ?_
         rotate_left
         ·intro w'
          go_simp
          with_reducible rfl
         rotate_left
         ·simp only [Act.put,sT,sZ,sS,i64_w,i32_w]
          rfl
         refine one_ (i:=5) (N:=some 22) #[τ,τ,τ,τ,τ,τ,τ,τ,τ,τ,φ,φ,φ] rfl rfl (one_of HT_.out (by kernel_rfl)) (by decide) (fun K hK=>?_)
         refine goes_ Try.func27 (by kernel_rfl) rfl #[.slice A0_0 y340.length c0_0] (by rfl) rfl rfl (by (try simp only [List.map_toArray,List.map_cons,List.map_nil]);first|done|rfl|(simp only [List.length_drop,List.length_take];rfl)) ?_
         with_reducible refine (drawbridgeref23_own.calls kj2 _ _ y340 t345 _ ?side1 ?side2 A22.out).mono ?_
         (case side1=>repeat (first|exact (Kd.V_reads' HO344.out).2.2|(with_reducible refine Kd.C_alloc ?_ _)|(with_reducible refine Kd.C_drewN ?_ _)|(with_reducible refine Kd.C_drew ?_)))
         (case side2=>exact (Kd.V_reads' HO344.out).2.1)
         rintro e w30 ⟨v346,rfl,ho0,hb⟩
         refine ⟨_,rfl,?_⟩
         have n2_:=mK (Kd.V_elder' (by (with_reducible repeat (first|apply vA|apply vN|apply vD));exact HO352.out) (by first|exact Kd.N_base ho0|exact Kd.R_base (Kd.S_R ho0)) hb)
         have n3_:=mK (Kd.N_lower (Kd.N_mono (ok':= fun k_=>(P0_0_ k_ ∨ w.heap.size ≤ k_)∧k_ ≠ gb337∧k_ ≠ gb338) (Kd.S_N (Kd.S_bound ho0)) (fun k_ hk_=>⟨(.inr (Nat.le_trans (below_size (by repeat (first|(with_reducible first|exact HB.out|apply lA|apply lN|apply lD|refine lS ?_ GE337.out|refine lS ?_ GE338.out)|exact HB.out))) hk_.2.1)),(Kd.freshB (g:=gb337) (o:=.cells #[.slice A0_0 l0_0.length c0_0,.int .i64 a0_1] 24 (0,0)) (by (with_reducible repeat (first|apply bN|apply bD|apply bA));exact BK337.out) k_ hk_.2.1),(Kd.freshB (g:=gb338) (o:=.cells #[.slice none 0 0,.int .i64 0] 24 (0,0)) (by (with_reducible repeat (first|apply bN|apply bD|apply bA));exact BK338.out) k_ hk_.2.1)⟩)) (below_size (by repeat (first|(with_reducible first|exact HB.out|apply lA|apply lN|apply lD|refine lS ?_ GE337.out|refine lS ?_ GE338.out)|exact HB.out))))
         have n4_:=mK (blk_below (g:=gb337) (o:=.cells #[.slice A0_0 l0_0.length c0_0,.int .i64 a0_1] 24 (0,0)) (by (with_reducible repeat (first|apply bN|apply bD|apply bA));exact BK337.out) hb)
         have n5_:=mK (blk_below (g:=gb338) (o:=.cells #[.slice none 0 0,.int .i64 0] 24 (0,0)) (by (with_reducible repeat (first|apply bN|apply bD|apply bA));exact BK338.out) hb)
         have n6_:=mK (below_step (by repeat (first|(with_reducible first|exact HB.out|apply lA|apply lN|apply lD|refine lS ?_ GE337.out|refine lS ?_ GE338.out)|exact HB.out)) hb)
         clear HO352
         clear BK337
         clear BK338
         clear HB
         have HO352:=n2_
         have HO347:=n3_
         have BK337:=n4_
         have BK338:=n5_
         have HB:=n6_
         clear n2_ n3_ n4_ n5_ n6_
         (try clear hb)
         (try clear hb2)
         (try clear hk)
         (try clear hi)
         (try clear ho0)
         refine hK.out _ _ ⟨(blk_cell BK337.out 0).trans rfl,(blk_cell BK337.out 1).trans rfl⟩ (fun hHeld=>?_)
         clear hK K
         refine norm_ (a':=?_) ?_ ?_
         rotate_left
         ·show Act.put _ (some 22) _ = _
          simp only [Act.put,sT,sZ,sS,i64_w,i32_w]
          rfl
         refine one_ (i:=10) (N:=some 27) #[τ,τ,τ,τ,τ,τ,τ,τ,τ,τ,τ,φ,φ] rfl rfl (one_of HT_.out (by kernel_rfl)) (by decide) (fun K hK=>?_)
         refine goes_ Try.func27 (by kernel_rfl) rfl #[.slice A29 y348.length c29] (by rfl) rfl rfl (by (try simp only [List.map_toArray,List.map_cons,List.map_nil]);first|done|rfl|(simp only [List.length_drop,List.length_take];rfl)) ?_
         with_reducible refine (drawbridgeref23_own.calls kj2 _ _ y348 t353 _ ?side1 ?side2 A25.out).mono ?_
         (case side1=>repeat (first|exact (Kd.V_reads' HO352.out).2.2|(with_reducible refine Kd.C_alloc ?_ _)|(with_reducible refine Kd.C_drewN ?_ _)|(with_reducible refine Kd.C_drew ?_)))
         (case side2=>exact (Kd.V_reads' HO352.out).2.1)
         rintro e w31 ⟨v354,rfl,ho0,hb⟩
         refine ⟨_,rfl,?_⟩
         have n3_:=mK (Kd.N_elder' (by (with_reducible repeat (first|apply Kd.N_alloc|apply Kd.N_drewN|apply Kd.N_drew));exact HO347.out) (by first|exact Kd.N_base ho0|exact Kd.R_base (Kd.S_R ho0)) hb)
         have n4_:=mK (Kd.N_lower (Kd.N_mono (ok':= fun k_=>(P0_0_ k_ ∨ w.heap.size ≤ k_)∧some k_ ≠ (v346 : Value).ownBlock∧k_ ≠ gb337∧k_ ≠ gb338) (Kd.S_N (Kd.S_bound ho0)) (fun k_ hk_=>⟨(.inr (Nat.le_trans (below_size (by repeat (first|(with_reducible first|exact HB.out|apply lA|apply lN|apply lD|refine lS ?_ GE337.out|refine lS ?_ GE338.out)|exact HB.out))) hk_.2.1)),(Kd.fresh' (Kd.N_lt (by (with_reducible repeat (first|apply Kd.N_alloc|apply Kd.N_drewN|apply Kd.N_drew));exact HO347.out)) k_ hk_.2.1),(Kd.freshB (g:=gb337) (o:=.cells #[.slice A0_0 l0_0.length c0_0,.int .i64 a0_1] 24 (0,0)) (by (with_reducible repeat (first|apply bN|apply bD|apply bA));exact BK337.out) k_ hk_.2.1),(Kd.freshB (g:=gb338) (o:=.cells #[.slice none 0 0,.int .i64 0] 24 (0,0)) (by (with_reducible repeat (first|apply bN|apply bD|apply bA));exact BK338.out) k_ hk_.2.1)⟩)) (below_size (by repeat (first|(with_reducible first|exact HB.out|apply lA|apply lN|apply lD|refine lS ?_ GE337.out|refine lS ?_ GE338.out)|exact HB.out))))
         have n5_:=mK (blk_below (g:=gb337) (o:=.cells #[.slice A0_0 l0_0.length c0_0,.int .i64 a0_1] 24 (0,0)) (by (with_reducible repeat (first|apply bN|apply bD|apply bA));exact BK337.out) hb)
         have n6_:=mK (blk_below (g:=gb338) (o:=.cells #[.slice none 0 0,.int .i64 0] 24 (0,0)) (by (with_reducible repeat (first|apply bN|apply bD|apply bA));exact BK338.out) hb)
         have n7_:=mK (below_step (by repeat (first|(with_reducible first|exact HB.out|apply lA|apply lN|apply lD|refine lS ?_ GE337.out|refine lS ?_ GE338.out)|exact HB.out)) hb)
         clear HO347
         clear BK337
         clear BK338
         clear HB
         have HO347:=n3_
         have HO355:=n4_
         have BK337:=n5_
         have BK338:=n6_
         have HB:=n7_
         clear n3_ n4_ n5_ n6_ n7_
         (try clear hb)
         (try clear hb2)
         (try clear hk)
         (try clear hi)
         (try clear ho0)
         obtain ⟨Ao33,co33,eo33⟩:=Kd.N_slice HO355.out
         (first|subst eo33|(injection eo33 with f1_ f2_ f3_;have f4_:=f1_.symm;have f5_:=f3_.symm;clear f1_ f2_ f3_;subst f4_;subst f5_))
         refine hK.out _ _ ⟨(blk_cell BK337.out 0).trans rfl,(blk_cell BK337.out 1).trans rfl⟩ (fun hHeld=>?_)
         clear hK K
         refine norm_ (a':=?_) ?_ ?_
         rotate_left
         ·show Act.put _ (some 27) _ = _
          simp only [Act.put,sT,sZ,sS,i64_w,i32_w]
          rfl
         refine one_ (i:=11) (N:=some 28) #[τ,τ,τ,τ,τ,τ,τ,τ,τ,τ,τ,τ,φ] rfl rfl (one_of HT_.out (by kernel_rfl)) (by decide) (fun K hK=>?_)
         refine Kd.N_append_rows_step (Kd.slice 5 (Kd.int .u8)) (w0:=w) w.heap.size (by rfl) (.tmp 22) (.tmp 27) 22 25 (.slice none 0 0) 24 rfl Try.underlying22 info25 rfl (by decide) (by omega) v346 t345 t353 _ _ _ (fun k_=>(P0_0_ k_ ∨ w.heap.size ≤ k_)∧k_ ≠ gb337∧k_ ≠ gb338) (fun k_=>((fun k_=>(P0_0_ k_ ∨ w.heap.size ≤ k_)∧k_ ≠ gb337∧k_ ≠ gb338)) k_∧some k_ ≠ (v346 : Value).ownBlock) rfl rfl ?aO ?aR (fun _ hk=>hk) ?aF ?aB ?aS ?aL ?_
         (case aR=>exact (by skip;exact Kd.N_F (Kd.N_mono (ok':=(fun k_=>((fun k_=>(P0_0_ k_ ∨ w.heap.size ≤ k_)∧k_ ≠ gb337∧k_ ≠ gb338)) k_∧some k_ ≠ (v346 : Value).ownBlock)) (HO355.out) (fun k_ hk=>⟨⟨hk.1,⟨hk.2.2.1,hk.2.2.2⟩⟩,hk.2.1⟩))))
         (case aB=>exact (by repeat (first|(with_reducible first|exact HB.out|apply lA|apply lN|apply lD|refine lS ?_ GE337.out|refine lS ?_ GE338.out)|exact HB.out)))
         (case aF=>exact (fun k_ hk=>⟨(.inr (Nat.le_trans (below_size (by repeat (first|(with_reducible first|exact HB.out|apply lA|apply lN|apply lD|refine lS ?_ GE337.out|refine lS ?_ GE338.out)|exact HB.out))) hk)),Kd.freshB (g:=gb337) (o:=.cells #[.slice A0_0 l0_0.length c0_0,.int .i64 a0_1] 24 (0,0)) (by (with_reducible repeat (first|apply bN|apply bD|apply bA));exact BK337.out) k_ hk,Kd.freshB (g:=gb338) (o:=.cells #[.slice none 0 0,.int .i64 0] 24 (0,0)) (by (with_reducible repeat (first|apply bN|apply bD|apply bA));exact BK338.out) k_ hk⟩))
         (case aO=>exact (by (with_reducible repeat (first|apply Kd.N_alloc|apply Kd.N_drewN|apply Kd.N_drew));exact Kd.N_mono HO347.out (fun _ hk=>⟨hk.1.1,⟨hk.1.2.1,hk.1.2.2⟩⟩)))
         (case aS=>exact (below_size (by repeat (first|(with_reducible first|exact HB.out|apply lA|apply lN|apply lD|refine lS ?_ GE337.out|refine lS ?_ GE338.out)|exact HB.out))))
         (case aL=>have:=LMc26.out;omega)
         intro v357 w32 ho hb hg hat
         rw [← Ny356.out] at ho
         have n1_:=mK (blk_grown (g:=gb337) (o:=.cells #[.slice A0_0 l0_0.length c0_0,.int .i64 a0_1] 24 (0,0)) (by (with_reducible repeat (first|apply bN|apply bD|apply bA));exact BK337.out) hg (Kd.N_ne HO347.out BK337.out (by decide)))
         have n2_:=mK (blk_grown (g:=gb338) (o:=.cells #[.slice none 0 0,.int .i64 0] 24 (0,0)) (by (with_reducible repeat (first|apply bN|apply bD|apply bA));exact BK338.out) hg (Kd.N_ne HO347.out BK338.out (by decide)))
         have n6_:=mK (hb)
         have n7_:=mK (ho)
         clear BK337
         clear BK338
         clear HB
         clear HO347
         have BK337:=n1_
         have BK338:=n2_
         have HB:=n6_
         have HO358:=n7_
         clear n1_ n2_ n6_ n7_
         clear ho hb hg hat
         refine hK.out _ _ ⟨(blk_cell BK337.out 0).trans rfl,(blk_cell BK337.out 1).trans rfl⟩ (fun hHeld=>?_)
         clear hK K
         refine norm_ (a':=?_) ?_ ?_
         rotate_left
         ·show Act.put _ (some 28) _ = _
          simp only [Act.put,sT,sZ,sS,i64_w,i32_w]
          rfl
         refine pure_ (i:=12) (N:=some 5) (v:=?_) (a':=?_) #[τ,τ,τ,τ,τ,τ,τ,τ,τ,τ,τ,τ,τ] rfl rfl (any_of HT_.out (by kernel_rfl)) (fun _ _ _ h=>h) (Or.inl ⟨by rfl,?_⟩) ?_ ?_
         rotate_left
         ·intro w'
          go_simp
          with_reducible rfl
         rotate_left
         ·simp only [Act.put,sT,sZ,sS,i64_w,i32_w]
          rfl
         refine done_ (done_of HT_.out (by kernel_rfl)) ?_
         have hnb34:=NB337_338.out
         have hnc34:=NB338_337.out
         have hcz35_0 : w32.cell? ⟨gb337,0,none⟩ = some (.slice A0_0 l0_0.length c0_0):=(blk_cell BK337.out 0).trans rfl
         have hcz35_1 : w32.cell? ⟨gb337,1,none⟩ = some (.int .i64 a0_1):=(blk_cell BK337.out 1).trans rfl
         have hfz35_0:=blk_frozen BK337.out 0
         have hfz35_1:=blk_frozen BK337.out 1
         obtain ⟨Ao36,co36,eo36⟩:=Kd.N_slice HO358.out
         subst eo36
         have hcz37_0 : w32.cell? ⟨gb338,0,none⟩ = some (.slice none 0 0):=(blk_cell BK338.out 0).trans rfl
         have hcz37_1 : w32.cell? ⟨gb338,1,none⟩ = some (.int .i64 0):=(blk_cell BK338.out 1).trans rfl
         have hfz37_0:=blk_frozen BK338.out 0
         have hfz37_1:=blk_frozen BK338.out 1
         try go_wp2
         refine bodyPost_ret (results_cell_row rfl _ _ gb338 24 #[.slice Ao36 y356.length co36,.int .i64 a0_1] (0,0) _ rfl (by (with_reducible repeat (first|apply bN|apply bD|apply bA));refine blk_put (cs:=#[.slice Ao36 y356.length co36,.int .i64 0]) ?_ 1 _ rfl;(with_reducible repeat (first|apply bN|apply bD|apply bA));refine blk_put (cs:=#[.slice none 0 0,.int .i64 0]) ?_ 0 _ rfl;(with_reducible repeat (first|apply bN|apply bD|apply bA));exact BK338.out) Try.underlying24 rfl (by kernel_rfl)) rfl ?_
         exact ⟨_,by first|rfl|(simp [errW_none,errW_some] <;> rfl)|(simp only [← hji19];first|rfl|(simp [errW_none,errW_some] <;> rfl))|(simp [*,errW_none,errW_some] <;> rfl),Kd.N_V (by (with_reducible repeat (first|apply Kd.N_alloc|apply Kd.N_drewN|apply Kd.N_drew));exact Kd.N_mono (Kd.N_far (p:=⟨gb338,1,none⟩) (Kd.N_far (p:=⟨gb338,0,none⟩) (Kd.N_mono HO358.out (fun k_ hk=>(⟨hk,hk.2.2⟩ : _∧k_ ≠ gb338))) (fun _ hk=>hk.2) (.slice Ao36 y356.length co36)) (fun _ hk=>hk.2) (.int .i64 a0_1)) (fun _ hk=>hk.1.1)),by repeat (first|(with_reducible first|exact HB.out|apply lA|apply lN|apply lD|refine lS ?_ GE337.out|refine lS ?_ GE338.out)|exact HB.out)⟩
        ·rw [if_neg c26] at H
         exact absurd H (by simp)
       ·rw [if_neg c24] at H
        exact absurd H (by simp)
      ·rw [if_neg c23] at H
       exact absurd H (by simp)
     ·rw [if_neg c21] at H
      exact absurd H (by simp)
    ·rw [if_neg c20] at H
     exact absurd H (by simp)

/-! ### drawbridgeref23_Swap: function 19 -/
def drawbridgeref23_Swap.f (k : Nat) (l0_0 : List (List Int)) (a0_1 : Int) (a1 : Int) : Option ((List (List Int)) × Int) := (drawbridgeref23_has.f k l0_0 a0_1 a1).bind fun t361 => (if t361 = true then (if a1 = (wrap64 ((l0_0.length : Int) - 1)) then (some (l0_0, a0_1)) else ((drawbridgeref23_own.f k l0_0).bind fun t362 => (if 0 ≤ a1 then (if a1 < (t362.length : Int) then (if 0 ≤ (wrap64 (a1 + 1)) then (if (wrap64 (a1 + 1)) < (t362.length : Int) then (some (((t362.set (a1 : Int).toNat (rd_L1 t362 (wrap64 (a1 + 1)))).set ((wrap64 (a1 + 1)) : Int).toNat (rd_L1 t362 a1)), a0_1)) else (none)) else (none)) else (none)) else (none)))) else (some (l0_0, a0_1)))
theorem drawbridgeref23_Swap.mono : ∀ a0 a1 a2 k, LeO (drawbridgeref23_Swap.f k a0 a1 a2) (drawbridgeref23_Swap.f (k + 1) a0 a1 a2) := by
 intro a0 a1 a2 k
 unfold drawbridgeref23_Swap.f
 repeat' first
   | (with_reducible exact drawbridgeref23_has.mono _ _ _ _)
   | (with_reducible exact drawbridgeref23_own.mono _ _)
   | (with_reducible exact LeO.refl _)
   | (with_reducible exact LeO.none _)
   | (with_reducible refine LeO.ite ?_ ?_)
   | (with_reducible refine LeO.bind ?_ (fun _ => ?_))
   | exact drawbridgeref23_has.mono _ _ _ _
   | exact drawbridgeref23_own.mono _ _
   | exact LeO.none _
   | refine LeO.ite ?_ ?_
   | refine LeO.bind ?_ (fun _ => ?_)
set_option maxHeartbeats 8000000 in
set_option maxRecDepth 100000 in
theorem drawbridgeref23_Swap.calls (k : Nat) (P0_0_ : Nat → Prop) (A0_0 : Option Addr) (c0_0 : Nat) (l0_0 : List (List Int)) (a0_1 : Int) (a1 : Int) (r1 : List (List Int)) (r2 : Int) (w : World) (hs0_0 : Kd.V (Kd.slice 5 (Kd.int .u8)) 25 w w.heap.size (fun k_ => P0_0_ k_) (.slice A0_0 l0_0.length c0_0) l0_0) (h : drawbridgeref23_Swap.f k l0_0 a0_1 a1 = some (r1, r2)) :
  Calls Try.prog 19 #[.agg #[.slice A0_0 l0_0.length c0_0, .int .i64 a0_1], .int .i64 a1] w fun e w' => ∃ v0_ : Value, e = .returned (.agg #[v0_, .int .i64 r2]) ∧ Kd.V (Kd.slice 5 (Kd.int .u8)) 25 w' w.heap.size (fun k_ => (P0_0_ k_ ∨ w.heap.size ≤ k_)) v0_ r1 ∧ Below w.heap.size w w' := by
 have hu24:=Try.underlying24
 have HO0_0:=mK (show Kd.V (Kd.slice 5 (Kd.int .u8)) 25 w w.heap.size (fun k_=>(P0_0_ k_ ∨ w.heap.size ≤ k_)) (.slice A0_0 l0_0.length c0_0) l0_0 from Kd.V_mono hs0_0 (fun k_ hk=>.inl hk))
 have HB:=mK (Below.refl w.heap.size w)
 have H : ((drawbridgeref23_has.f k l0_0 a0_1 a1).bind fun t361=>(if t361 = true then (if a1 = (wrap64 ((l0_0.length : Int) - 1)) then (some (l0_0,a0_1)) else ((drawbridgeref23_own.f k l0_0).bind fun t362=>(if 0 ≤ a1 then (if a1 < (t362.length : Int) then (if 0 ≤ (wrap64 (a1 + 1)) then (if (wrap64 (a1 + 1)) < (t362.length : Int) then (some (((t362.set (a1 : Int).toNat (rd_L1 t362 (wrap64 (a1 + 1)))).set ((wrap64 (a1 + 1)) : Int).toNat (rd_L1 t362 a1)),a0_1)) else (none)) else (none)) else (none)) else (none)))) else (some (l0_0,a0_1)))) = some (r1,r2):=h
 clear h
 replace H:=Option.bind_eq_some_iff.mp H
 obtain ⟨t361,A30,H⟩:=H
 replace H : (if t361 = true then (if a1 = (wrap64 ((l0_0.length : Int) - 1)) then (some (l0_0,a0_1)) else ((drawbridgeref23_own.f k l0_0).bind fun t362=>(if 0 ≤ a1 then (if a1 < (t362.length : Int) then (if 0 ≤ (wrap64 (a1 + 1)) then (if (wrap64 (a1 + 1)) < (t362.length : Int) then (some (((t362.set (a1 : Int).toNat (rd_L1 t362 (wrap64 (a1 + 1)))).set ((wrap64 (a1 + 1)) : Int).toNat (rd_L1 t362 a1)),a0_1)) else (none)) else (none)) else (none)) else (none)))) else (some (l0_0,a0_1))) = some (r1,r2):=H
 have A3:=mK A30
 clear A30
 by_cases c4 : t361 = true
 ·subst c4
  have H1 : (if a1 = (wrap64 ((l0_0.length : Int) - 1)) then (some (l0_0,a0_1)) else ((drawbridgeref23_own.f k l0_0).bind fun t362=>(if 0 ≤ a1 then (if a1 < (t362.length : Int) then (if 0 ≤ (wrap64 (a1 + 1)) then (if (wrap64 (a1 + 1)) < (t362.length : Int) then (some (((t362.set (a1 : Int).toNat (rd_L1 t362 (wrap64 (a1 + 1)))).set ((wrap64 (a1 + 1)) : Int).toNat (rd_L1 t362 a1)),a0_1)) else (none)) else (none)) else (none)) else (none)))) = some (r1,r2):= by rw [if_pos rfl] at H;exact H
  clear H
  have H:=H1
  clear H1
  by_cases c5 : a1 = (wrap64 ((l0_0.length : Int) - 1))
  ·rw [if_pos c5] at H
   have c5b0 : (a1 == (wrap64 ((l0_0.length : Int) - 1))) = true:=beq_iff_eq.mpr c5
   have c5b1 : (a1 != (wrap64 ((l0_0.length : Int) - 1))) = false:=bne_eq_false_iff_eq.mpr c5
   clear c5
   simp only [Option.some.injEq,Prod.mk.injEq] at H
   obtain ⟨rfl,rfl⟩:=H
   go_enter Try.func19,Try.ntmps19
   go_wp2_with (first|((with_reducible refine gate_dst (N:=2) rfl ?_);(try (refine gate_guard (by rfl) ?_;dsimp only));refine box_event ?hg (N:=2) ?hd (cs:=#[.slice A0_0 l0_0.length c0_0,.int .i64 a0_1]) (t:=24) ?hr ?_;(case hd=>rfl);(case hg=>rfl);(case hr=>first|(go_simp;done)|(go_simp;rfl));intro gb359 hg w6 hbox hb;have n0_:=mK (Kd.V_below (Kd.V_elderB (by (with_reducible repeat (first|apply vA|apply vN|apply vD));exact HO0_0.out) gb359 (Nat.le_of_eq hg.symm)) hb);have n1_:=mK (below_step (by repeat (first|(with_reducible first|exact HB.out|apply lA|apply lN|apply lD)|exact HB.out)) hb);have n2_:=mK (hbox);have n4_:=mK ((by rw [hg];exact (below_size (by repeat (first|(with_reducible first|exact HB.out|apply lA|apply lN|apply lD)|exact HB.out))) : w.heap.size ≤ gb359));clear HO0_0;clear HB;have HO0_0:=n0_;have HB:=n1_;have BK359:=n2_;have GE359:=n4_;clear n0_ n1_ n2_ n4_;clear hb hbox hg)|((with_reducible refine gate_dst (N:=4) rfl ?_);(try (refine gate_guard (by rfl) ?_;dsimp only));refine box_event ?hg (N:=4) ?hd (cs:=#[.slice none 0 0,.int .i64 0]) (t:=24) ?hr ?_;(case hd=>rfl);(case hg=>rfl);(case hr=>first|(go_simp;done)|(go_simp;rfl));intro gb360 hg w7 hbox hb;have n0_:=mK (Kd.V_below (Kd.V_elderB (by (with_reducible repeat (first|apply vA|apply vN|apply vD));exact HO0_0.out) gb360 (Nat.le_of_eq hg.symm)) hb);have n1_:=mK (blk_below (g:=gb359) (o:=.cells #[.slice A0_0 l0_0.length c0_0,.int .i64 a0_1] 24 (0,0)) (by (with_reducible repeat (first|apply bN|apply bD|apply bA));exact BK359.out) hb);have n2_:=mK (below_step (by repeat (first|(with_reducible first|exact HB.out|apply lA|apply lN|apply lD|refine lS ?_ GE359.out)|exact HB.out)) hb);have n3_:=mK (hbox);have n5_:=mK ((by rw [hg];exact (below_size (by repeat (first|(with_reducible first|exact HB.out|apply lA|apply lN|apply lD|refine lS ?_ GE359.out)|exact HB.out))) : w.heap.size ≤ gb360));have n6_:=mK ((by rw [hg];exact Nat.ne_of_lt (blk_lt (g:=gb359) (o:=.cells #[.slice A0_0 l0_0.length c0_0,.int .i64 a0_1] 24 (0,0)) (by (with_reducible repeat (first|apply bN|apply bD|apply bA));exact BK359.out)) : gb359 ≠ gb360));have n7_:=mK ((by rw [hg];exact Nat.ne_of_gt (blk_lt (g:=gb359) (o:=.cells #[.slice A0_0 l0_0.length c0_0,.int .i64 a0_1] 24 (0,0)) (by (with_reducible repeat (first|apply bN|apply bD|apply bA));exact BK359.out)) : gb360 ≠ gb359));clear HO0_0;clear BK359;clear HB;have HO0_0:=n0_;have BK359:=n1_;have HB:=n2_;have BK360:=n3_;have GE360:=n5_;have NB359_360:=n6_;have NB360_359:=n7_;clear n0_ n1_ n2_ n3_ n5_ n6_ n7_;clear hb hbox hg;have hnb8:=NB359_360.out;have hnc8:=NB360_359.out;have hcz9_0 : w7.cell? ⟨gb359,0,none⟩ = some (.slice A0_0 l0_0.length c0_0):=(blk_cell BK359.out 0).trans rfl;have hcz9_1 : w7.cell? ⟨gb359,1,none⟩ = some (.int .i64 a0_1):=(blk_cell BK359.out 1).trans rfl;have hfz9_0:=blk_frozen BK359.out 0;have hfz9_1:=blk_frozen BK359.out 1)|((with_reducible refine gate_callee (f:=31) rfl ?_);refine goesL_ (some 9) rfl rfl Try.func31 (by kernel_rfl) rfl #[.agg #[.slice A0_0 l0_0.length c0_0,.int .i64 a0_1],.int .i64 a1] rfl (by (try simp only [List.map_toArray,List.map_cons,List.map_nil]);first|done|rfl|(simp only [List.length_drop,List.length_take];rfl)) ?_;(with_reducible refine (drawbridgeref23_has.calls k _ _ l0_0 a0_1 a1 true _ ?side1 ?side2 A3.out).mono ?_);(case side1=>repeat (first|exact (Kd.V_reads' HO0_0.out).2.2|(with_reducible refine Kd.C_alloc ?_ _)|(with_reducible refine Kd.C_drewN ?_ _)|(with_reducible refine Kd.C_drew ?_)));(case side2=>exact (Kd.V_reads' HO0_0.out).2.1);rintro e w10 ⟨rfl,hb⟩;refine ⟨_,rfl,?_⟩;have n0_:=mK (Kd.V_below (by (with_reducible repeat (first|apply vA|apply vN|apply vD));exact HO0_0.out) hb);have n1_:=mK (blk_below (g:=gb359) (o:=.cells #[.slice A0_0 l0_0.length c0_0,.int .i64 a0_1] 24 (0,0)) (by (with_reducible repeat (first|apply bN|apply bD|apply bA));exact BK359.out) hb);have n2_:=mK (blk_below (g:=gb360) (o:=.cells #[.slice none 0 0,.int .i64 0] 24 (0,0)) (by (with_reducible repeat (first|apply bN|apply bD|apply bA));exact BK360.out) hb);have n3_:=mK (below_step (by repeat (first|(with_reducible first|exact HB.out|apply lA|apply lN|apply lD|refine lS ?_ GE359.out|refine lS ?_ GE360.out)|exact HB.out)) hb);clear HO0_0;clear BK359;clear BK360;clear HB;have HO0_0:=n0_;have BK359:=n1_;have BK360:=n2_;have HB:=n3_;clear n0_ n1_ n2_ n3_;(try clear hb);(try clear hb2);(try clear hk);(try clear hi);have hcz11_0 : w10.cell? ⟨gb359,0,none⟩ = some (.slice A0_0 l0_0.length c0_0):=(blk_cell BK359.out 0).trans rfl;have hcz11_1 : w10.cell? ⟨gb359,1,none⟩ = some (.int .i64 a0_1):=(blk_cell BK359.out 1).trans rfl;have hfz11_0:=blk_frozen BK359.out 0;have hfz11_1:=blk_frozen BK359.out 1;have hcz12_0 : w10.cell? ⟨gb360,0,none⟩ = some (.slice none 0 0):=(blk_cell BK360.out 0).trans rfl;have hcz12_1 : w10.cell? ⟨gb360,1,none⟩ = some (.int .i64 0):=(blk_cell BK360.out 1).trans rfl;have hfz12_0:=blk_frozen BK360.out 0;have hfz12_1:=blk_frozen BK360.out 1))
   refine bodyPost_ret (results_cell_row rfl _ _ gb360 24 #[.slice A0_0 l0_0.length c0_0,.int .i64 a0_1] (0,0) _ rfl (by (with_reducible repeat (first|apply bN|apply bD|apply bA));refine blk_put (cs:=#[.slice A0_0 l0_0.length c0_0,.int .i64 0]) ?_ 1 _ rfl;(with_reducible repeat (first|apply bN|apply bD|apply bA));refine blk_put (cs:=#[.slice none 0 0,.int .i64 0]) ?_ 0 _ rfl;(with_reducible repeat (first|apply bN|apply bD|apply bA));exact BK360.out) Try.underlying24 rfl (by kernel_rfl)) rfl ?_
   exact ⟨_,by first|rfl|(simp [errW_none,errW_some] <;> rfl)|(simp [*,errW_none,errW_some] <;> rfl),by (with_reducible repeat (first|apply vA|apply vN|apply vD));exact Kd.V_mono (Kd.V_far (p:=⟨gb360,1,none⟩) (Kd.V_far (p:=⟨gb360,0,none⟩) (Kd.V_mono HO0_0.out (fun k_ hk=>(⟨hk,hk.2⟩ : _∧k_ ≠ gb360))) (fun _ hk=>hk.2) (.slice A0_0 l0_0.length c0_0)) (fun _ hk=>hk.2) (.int .i64 a0_1)) (fun _ hk=>hk.1.1.1),by repeat (first|(with_reducible first|exact HB.out|apply lA|apply lN|apply lD|refine lS ?_ GE359.out|refine lS ?_ GE360.out)|exact HB.out)⟩
  ·rw [if_neg c5] at H
   have c5b0 : (a1 == (wrap64 ((l0_0.length : Int) - 1))) = false:=beq_eq_false_iff_ne.mpr c5
   have c5b1 : (a1 != (wrap64 ((l0_0.length : Int) - 1))) = true:=bne_iff_ne.mpr c5
   replace H:=Option.bind_eq_some_iff.mp H
   obtain ⟨t362,A130,H⟩:=H
   replace H : (if 0 ≤ a1 then (if a1 < (t362.length : Int) then (if 0 ≤ (wrap64 (a1 + 1)) then (if (wrap64 (a1 + 1)) < (t362.length : Int) then (some (((t362.set (a1 : Int).toNat (rd_L1 t362 (wrap64 (a1 + 1)))).set ((wrap64 (a1 + 1)) : Int).toNat (rd_L1 t362 a1)),a0_1)) else (none)) else (none)) else (none)) else (none)) = some (r1,r2):=H
   have A13:=mK A130
   clear A130
   by_cases c14 : 0 ≤ a1
   ·rw [if_pos c14] at H
    have c14b0 : decide (0 ≤ a1) = true:=decide_eq_true c14
    clear c14
    by_cases c15 : a1 < (t362.length : Int)
    ·rw [if_pos c15] at H
     have c15b0 : decide (a1 < (t362.length : Int)) = true:=decide_eq_true c15
     clear c15
     obtain ⟨ji16,hji16⟩ : ∃ j_ : Int,(wrap64 (a1 + 1)) = j_:=⟨_,rfl⟩
     replace H : (if 0 ≤ (ji16) then (if (ji16) < (t362.length : Int) then (some (((t362.set (a1 : Int).toNat (rd_L1 t362 (ji16))).set ((ji16) : Int).toNat (rd_L1 t362 a1)),a0_1)) else (none)) else (none)) = some (r1,r2):= by first|(rw [hji16] at H;exact H)|(simp only [hji16] at H ⊢; exact H)
     (try rw [hji16] at A3)
     (try rw [hji16] at A13)
     have hji16w : (IntKind.i64.wrap (a1 + 1)) = ji16:=(i64_w _).trans hji16
     by_cases c17 : 0 ≤ (ji16)
     ·rw [if_pos c17] at H
      have c17b0 : decide (0 ≤ (ji16)) = true:=decide_eq_true c17
      clear c17
      by_cases c18 : (ji16) < (t362.length : Int)
      ·rw [if_pos c18] at H
       have c18b0 : decide ((ji16) < (t362.length : Int)) = true:=decide_eq_true c18
       clear c18
       obtain ⟨y367,hy367⟩ : ∃ y_ : List (List Int),y_ = (t362.set (a1 : Int).toNat (rd_L1 t362 (ji16))):=⟨_,rfl⟩
       replace H : (some ((y367.set ((ji16) : Int).toNat (rd_L1 t362 a1)),a0_1)) = some (r1,r2):= by first|(rw [hy367];with_reducible exact H)|(have H2_:=(Option.bind_some _ _).symm.trans H;rw [hy367];with_reducible exact H2_)|(have H2_:=(Option.bind_some _ _).symm.trans H;with_reducible exact H2_)|with_reducible exact H|(rw [hy367];exact H)|exact H
       have Ny367:=mK hy367
       clear hy367
       obtain ⟨y368,hy368⟩ : ∃ y_ : List (List Int),y_ = (y367.set ((ji16) : Int).toNat (rd_L1 t362 a1)):=⟨_,rfl⟩
       replace H : (some (y368,a0_1)) = some (r1,r2):= by first|(rw [hy368];with_reducible exact H)|(have H2_:=(Option.bind_some _ _).symm.trans H;rw [hy368];with_reducible exact H2_)|(have H2_:=(Option.bind_some _ _).symm.trans H;with_reducible exact H2_)|with_reducible exact H|(rw [hy368];exact H)|exact H
       have Ny368:=mK hy368
       clear hy368
       simp only [Option.some.injEq,Prod.mk.injEq] at H
       obtain ⟨rfl,rfl⟩:=H
       go_enter Try.func19,Try.ntmps19
       go_wp2_with (first|((with_reducible refine gate_dst (N:=2) rfl ?_);(try (refine gate_guard (by rfl) ?_;dsimp only));refine box_event ?hg (N:=2) ?hd (cs:=#[.slice A0_0 l0_0.length c0_0,.int .i64 a0_1]) (t:=24) ?hr ?_;(case hd=>rfl);(case hg=>rfl);(case hr=>first|(go_simp;done)|(go_simp;rfl));intro gb359 hg w21 hbox hb;have n0_:=mK (Kd.V_below (Kd.V_elderB (by (with_reducible repeat (first|apply vA|apply vN|apply vD));exact HO0_0.out) gb359 (Nat.le_of_eq hg.symm)) hb);have n1_:=mK (below_step (by repeat (first|(with_reducible first|exact HB.out|apply lA|apply lN|apply lD)|exact HB.out)) hb);have n2_:=mK (hbox);have n4_:=mK ((by rw [hg];exact (below_size (by repeat (first|(with_reducible first|exact HB.out|apply lA|apply lN|apply lD)|exact HB.out))) : w.heap.size ≤ gb359));clear HO0_0;clear HB;have HO0_0:=n0_;have HB:=n1_;have BK359:=n2_;have GE359:=n4_;clear n0_ n1_ n2_ n4_;clear hb hbox hg)|((with_reducible refine gate_dst (N:=4) rfl ?_);(try (refine gate_guard (by rfl) ?_;dsimp only));refine box_event ?hg (N:=4) ?hd (cs:=#[.slice none 0 0,.int .i64 0]) (t:=24) ?hr ?_;(case hd=>rfl);(case hg=>rfl);(case hr=>first|(go_simp;done)|(go_simp;rfl));intro gb360 hg w22 hbox hb;have n0_:=mK (Kd.V_below (Kd.V_elderB (by (with_reducible repeat (first|apply vA|apply vN|apply vD));exact HO0_0.out) gb360 (Nat.le_of_eq hg.symm)) hb);have n1_:=mK (blk_below (g:=gb359) (o:=.cells #[.slice A0_0 l0_0.length c0_0,.int .i64 a0_1] 24 (0,0)) (by (with_reducible repeat (first|apply bN|apply bD|apply bA));exact BK359.out) hb);have n2_:=mK (below_step (by repeat (first|(with_reducible first|exact HB.out|apply lA|apply lN|apply lD|refine lS ?_ GE359.out)|exact HB.out)) hb);have n3_:=mK (hbox);have n5_:=mK ((by rw [hg];exact (below_size (by repeat (first|(with_reducible first|exact HB.out|apply lA|apply lN|apply lD|refine lS ?_ GE359.out)|exact HB.out))) : w.heap.size ≤ gb360));have n6_:=mK ((by rw [hg];exact Nat.ne_of_lt (blk_lt (g:=gb359) (o:=.cells #[.slice A0_0 l0_0.length c0_0,.int .i64 a0_1] 24 (0,0)) (by (with_reducible repeat (first|apply bN|apply bD|apply bA));exact BK359.out)) : gb359 ≠ gb360));have n7_:=mK ((by rw [hg];exact Nat.ne_of_gt (blk_lt (g:=gb359) (o:=.cells #[.slice A0_0 l0_0.length c0_0,.int .i64 a0_1] 24 (0,0)) (by (with_reducible repeat (first|apply bN|apply bD|apply bA));exact BK359.out)) : gb360 ≠ gb359));clear HO0_0;clear BK359;clear HB;have HO0_0:=n0_;have BK359:=n1_;have HB:=n2_;have BK360:=n3_;have GE360:=n5_;have NB359_360:=n6_;have NB360_359:=n7_;clear n0_ n1_ n2_ n3_ n5_ n6_ n7_;clear hb hbox hg;have hnb23:=NB359_360.out;have hnc23:=NB360_359.out;have hcz24_0 : w22.cell? ⟨gb359,0,none⟩ = some (.slice A0_0 l0_0.length c0_0):=(blk_cell BK359.out 0).trans rfl;have hcz24_1 : w22.cell? ⟨gb359,1,none⟩ = some (.int .i64 a0_1):=(blk_cell BK359.out 1).trans rfl;have hfz24_0:=blk_frozen BK359.out 0;have hfz24_1:=blk_frozen BK359.out 1)|((with_reducible refine gate_callee (f:=31) rfl ?_);refine goesL_ (some 9) rfl rfl Try.func31 (by kernel_rfl) rfl #[.agg #[.slice A0_0 l0_0.length c0_0,.int .i64 a0_1],.int .i64 a1] rfl (by (try simp only [List.map_toArray,List.map_cons,List.map_nil]);first|done|rfl|(simp only [List.length_drop,List.length_take];rfl)) ?_;(with_reducible refine (drawbridgeref23_has.calls k _ _ l0_0 a0_1 a1 true _ ?side1 ?side2 A3.out).mono ?_);(case side1=>repeat (first|exact (Kd.V_reads' HO0_0.out).2.2|(with_reducible refine Kd.C_alloc ?_ _)|(with_reducible refine Kd.C_drewN ?_ _)|(with_reducible refine Kd.C_drew ?_)));(case side2=>exact (Kd.V_reads' HO0_0.out).2.1);rintro e w25 ⟨rfl,hb⟩;refine ⟨_,rfl,?_⟩;have n0_:=mK (Kd.V_below (by (with_reducible repeat (first|apply vA|apply vN|apply vD));exact HO0_0.out) hb);have n1_:=mK (blk_below (g:=gb359) (o:=.cells #[.slice A0_0 l0_0.length c0_0,.int .i64 a0_1] 24 (0,0)) (by (with_reducible repeat (first|apply bN|apply bD|apply bA));exact BK359.out) hb);have n2_:=mK (blk_below (g:=gb360) (o:=.cells #[.slice none 0 0,.int .i64 0] 24 (0,0)) (by (with_reducible repeat (first|apply bN|apply bD|apply bA));exact BK360.out) hb);have n3_:=mK (below_step (by repeat (first|(with_reducible first|exact HB.out|apply lA|apply lN|apply lD|refine lS ?_ GE359.out|refine lS ?_ GE360.out)|exact HB.out)) hb);clear HO0_0;clear BK359;clear BK360;clear HB;have HO0_0:=n0_;have BK359:=n1_;have BK360:=n2_;have HB:=n3_;clear n0_ n1_ n2_ n3_;(try clear hb);(try clear hb2);(try clear hk);(try clear hi);have hcz26_0 : w25.cell? ⟨gb359,0,none⟩ = some (.slice A0_0 l0_0.length c0_0):=(blk_cell BK359.out 0).trans rfl;have hcz26_1 : w25.cell? ⟨gb359,1,none⟩ = some (.int .i64 a0_1):=(blk_cell BK359.out 1).trans rfl;have hfz26_0:=blk_frozen BK359.out 0;have hfz26_1:=blk_frozen BK359.out 1)|((with_reducible refine gate_callee (f:=27) rfl ?_);refine goesL_ (some 22) rfl rfl Try.func27 (by kernel_rfl) rfl #[.slice A0_0 l0_0.length c0_0] rfl (by (try simp only [List.map_toArray,List.map_cons,List.map_nil]);first|done|rfl|(simp only [List.length_drop,List.length_take];rfl)) ?_;(with_reducible refine (drawbridgeref23_own.calls k _ _ l0_0 t362 _ ?side1 ?side2 A13.out).mono ?_);(case side1=>repeat (first|exact (Kd.V_reads' HO0_0.out).2.2|(with_reducible refine Kd.C_alloc ?_ _)|(with_reducible refine Kd.C_drewN ?_ _)|(with_reducible refine Kd.C_drew ?_)));(case side2=>exact (Kd.V_reads' HO0_0.out).2.1);rintro e w27 ⟨v363,rfl,ho0,hb⟩;refine ⟨_,rfl,?_⟩;have n1_:=mK (Kd.N_lower (Kd.N_mono (ok':= fun k_=>(P0_0_ k_ ∨ w.heap.size ≤ k_)∧k_ ≠ gb359∧k_ ≠ gb360) (Kd.S_N (Kd.S_bound ho0)) (fun k_ hk_=>⟨(.inr (Nat.le_trans (below_size (by repeat (first|(with_reducible first|exact HB.out|apply lA|apply lN|apply lD|refine lS ?_ GE359.out|refine lS ?_ GE360.out)|exact HB.out))) hk_.2.1)),(Kd.freshB (g:=gb359) (o:=.cells #[.slice A0_0 l0_0.length c0_0,.int .i64 a0_1] 24 (0,0)) (by (with_reducible repeat (first|apply bN|apply bD|apply bA));exact BK359.out) k_ hk_.2.1),(Kd.freshB (g:=gb360) (o:=.cells #[.slice none 0 0,.int .i64 0] 24 (0,0)) (by (with_reducible repeat (first|apply bN|apply bD|apply bA));exact BK360.out) k_ hk_.2.1)⟩)) (below_size (by repeat (first|(with_reducible first|exact HB.out|apply lA|apply lN|apply lD|refine lS ?_ GE359.out|refine lS ?_ GE360.out)|exact HB.out))));have n2_:=mK (blk_below (g:=gb359) (o:=.cells #[.slice A0_0 l0_0.length c0_0,.int .i64 a0_1] 24 (0,0)) (by (with_reducible repeat (first|apply bN|apply bD|apply bA));exact BK359.out) hb);have n3_:=mK (blk_below (g:=gb360) (o:=.cells #[.slice none 0 0,.int .i64 0] 24 (0,0)) (by (with_reducible repeat (first|apply bN|apply bD|apply bA));exact BK360.out) hb);have n4_:=mK (below_step (by repeat (first|(with_reducible first|exact HB.out|apply lA|apply lN|apply lD|refine lS ?_ GE359.out|refine lS ?_ GE360.out)|exact HB.out)) hb);clear BK359;clear BK360;clear HB;have HO364:=n1_;have BK359:=n2_;have BK360:=n3_;have HB:=n4_;clear n1_ n2_ n3_ n4_;(try clear hb);(try clear hb2);(try clear hk);(try clear hi);(try clear ho0);obtain ⟨Ao28,co28,eo28⟩:=Kd.N_slice HO364.out;subst eo28;have p365 : 0 ≤ (a1 : Int):=of_decide_eq_true (by first|(with_reducible assumption)|assumption);have q365 : a1 < (t362.length : Int):=of_decide_eq_true (by first|(with_reducible assumption)|assumption);obtain ⟨ad365,A365_0,c365_0,e365,hx365_0,hl365_0,hi365_0⟩:=at_L1 (Kd.N_reads' HO364.out).2.2 a1 p365 q365;cases e365;obtain ⟨ce365,hce365,hMe365,hcc365⟩:=Kd.N_get HO364.out [] a1 p365 (by first|exact q365|exact of_decide_eq_true (by first|(with_reducible assumption)|assumption)|(have e_:=(Kd.N_reads' HO364.out).1;omega));obtain ⟨ua365_0,uc365_0,rfl,ul365_0,ge365_0⟩:=Kd.FK_slice_open hMe365;have hv365_0:=hcc365 0 _ rfl;rw [Nat.add_zero,show ((Kd.slice 5 (Kd.int .u8))).sz = 1 from rfl,Nat.mul_one] at hv365_0;replace hv365_0:=Option.some.inj (hv365_0.symm.trans hx365_0);injection hv365_0 with hva_ hvn_ hvc_;rw [hva_] at ge365_0;rw [hvc_] at ul365_0;have HL365_0:=mK (show Kd.V (Kd.int .u8) 5 _ w.heap.size _ _ (rd_L1 t362 a1) from Kd.V_mk ul365_0 ge365_0);clear hva_ hvn_ hvc_ ge365_0 ul365_0;clear hcc365 hce365;have HR365_0:=mK hi365_0;have HC365_0:=mK hl365_0;clear hi365_0 hl365_0;replace p365:=eq_true p365;replace q365:=eq_true q365;have p366 : 0 ≤ ((ji16) : Int):=of_decide_eq_true (by first|(with_reducible assumption)|assumption);have q366 : (ji16) < (t362.length : Int):=of_decide_eq_true (by first|(with_reducible assumption)|assumption);obtain ⟨ad366,A366_0,c366_0,e366,hx366_0,hl366_0,hi366_0⟩:=at_L1 (Kd.N_reads' HO364.out).2.2 (ji16) p366 q366;obtain rfl : ad365 = ad366:=(by injection e366);obtain ⟨ce366,hce366,hMe366,hcc366⟩:=Kd.N_get HO364.out [] (ji16) p366 (by first|exact q366|exact of_decide_eq_true (by first|(with_reducible assumption)|assumption)|(have e_:=(Kd.N_reads' HO364.out).1;omega));obtain ⟨ua366_0,uc366_0,rfl,ul366_0,ge366_0⟩:=Kd.FK_slice_open hMe366;have hv366_0:=hcc366 0 _ rfl;rw [Nat.add_zero,show ((Kd.slice 5 (Kd.int .u8))).sz = 1 from rfl,Nat.mul_one] at hv366_0;replace hv366_0:=Option.some.inj (hv366_0.symm.trans hx366_0);injection hv366_0 with hva_ hvn_ hvc_;rw [hva_] at ge366_0;rw [hvc_] at ul366_0;have HL366_0:=mK (show Kd.V (Kd.int .u8) 5 _ w.heap.size _ _ (rd_L1 t362 (ji16)) from Kd.V_mk ul366_0 ge366_0);clear hva_ hvn_ hvc_ ge366_0 ul366_0;clear hcc366 hce366;have HR366_0:=mK hi366_0;have HC366_0:=mK hl366_0;clear hi366_0 hl366_0;replace p366:=eq_true p366;replace q366:=eq_true q366;have p19 : 0 ≤ (a1 : Int):=of_decide_eq_true (by first|(with_reducible assumption)|assumption);have q19 : (a1 : Int) < ((t362.length : Int) : Int):=of_decide_eq_true (by first|(with_reducible assumption)|assumption);obtain ⟨go19,co19,eo19,gb19,gl19,cl19,HG19⟩:=Kd.N_form HO364.out (by omega);(first|cases eo19|(injection eo19 with ea_ en_ ec_;(first|subst ea_|(injection ea_ with ea_;subst ea_));subst ec_;clear en_));have GB19:=mK gb19;have GG19:=mK HG19;clear gb19 gl19 HG19;(first|simp only [add_plain] at hx365_0|skip);(first|simp only [add_plain] at hx366_0|skip);obtain ⟨ce19,hcl19,hM19,hcc19,hfr19⟩:=Kd.N_elem HO364.out [] (a1 : Int) p19 q19;obtain ⟨ua19_0,uc19_0,rfl,ul19_0,ge19_0⟩:=Kd.FK_slice_open hM19;have hx19_0:=hcc19 0 _ rfl;have hf19_0:=hfr19 0;(try simp only [show ((Kd.slice 5 (Kd.int .u8))).sz = 1 from rfl,Nat.mul_one,Nat.add_zero] at hx19_0);(try simp only [show ((Kd.slice 5 (Kd.int .u8))).sz = 1 from rfl,Nat.mul_one,Nat.add_zero] at hf19_0);clear hcl19 hcc19 hfr19 hM19;replace p19:=eq_true p19;replace q19:=eq_true q19;have HX29:=mK (show Kd.N (Kd.slice 5 (Kd.int .u8)) 25 w27 w.heap.size (fun k_=>(P0_0_ k_ ∨ w.heap.size ≤ k_)∧k_ ≠ gb359∧k_ ≠ gb360) (.slice (some ⟨go19,0,none⟩) t362.length co28) t362 from (by (with_reducible repeat (first|apply Kd.N_alloc|apply Kd.N_drewN|apply Kd.N_drew));exact HO364.out));obtain ⟨ce29,hcl29,hM29,hcc29,hfr29⟩:=Kd.N_elem HX29.out [] (a1 : Int) (of_decide_eq_true (by first|(with_reducible assumption)|assumption)) (by have h_ : (a1 : Int) < ((t362.length : Int) : Int):=of_decide_eq_true (by first|(with_reducible assumption)|assumption);first|exact h_|(have e_:=(Kd.N_reads' HO364.out).1;omega)|simpa using h_);obtain ⟨ua29_0,uc29_0,rfl,ul29_0,ge29_0⟩:=Kd.FK_slice_open hM29;have HP29:=Kd.N_seg HX29.out (a1 : Int) (of_decide_eq_true (by first|(with_reducible assumption)|assumption)) (by have h_ : (a1 : Int) < ((t362.length : Int) : Int):=of_decide_eq_true (by first|(with_reducible assumption)|assumption);first|exact h_|(have e_:=(Kd.N_reads' HO364.out).1;omega)|simpa using h_) (seg:=[.slice A366_0 (rd_L1 t362 (ji16)).length c366_0]) (j:=0) hcl29 hcc29 (show 1 ≤ 1 from by decide) (x':=rd_L1 t362 (ji16)) (Kd.FK_slice_mk (Kd.V_reads' (Kd.V_mono (ok':=(fun k_=>((fun k_=>(P0_0_ k_ ∨ w.heap.size ≤ k_)∧k_ ≠ gb359∧k_ ≠ gb360)) k_∧k_ ≠ go19)) (HL366_0.out) (fun k_ hk=>⟨⟨hk.1.1,⟨hk.1.2.1,hk.1.2.2⟩⟩,fun e_=>(hk.2) (by rw [e_];rfl)⟩))).2.1 (Kd.V_F (Kd.V_mono (ok':=(fun k_=>((fun k_=>(P0_0_ k_ ∨ w.heap.size ≤ k_)∧k_ ≠ gb359∧k_ ≠ gb360)) k_∧k_ ≠ go19)) (HL366_0.out) (fun k_ hk=>⟨⟨hk.1.1,⟨hk.1.2.1,hk.1.2.2⟩⟩,fun e_=>(hk.2) (by rw [e_];rfl)⟩)))) (fun _ hk=>hk);have hx29_0:=hcc29 0 _ rfl;(try simp only [show ((Kd.slice 5 (Kd.int .u8))).sz = 1 from rfl,Nat.mul_one,Nat.add_zero] at hx29_0);have hf29_0:=hfr29 0;(try simp only [show ((Kd.slice 5 (Kd.int .u8))).sz = 1 from rfl,Nat.mul_one,Nat.add_zero] at hf29_0);clear hcl29 hcc29 hfr29 hM29;(try simp only [show ((Kd.slice 5 (Kd.int .u8))).sz = 1 from rfl,Nat.mul_one,Nat.add_zero] at HP29);(try simp only [show ((Kd.slice 5 (Kd.int .u8))).sz = 1 from rfl,Nat.mul_one,Nat.add_zero] at HP29))|((with_reducible refine gate_store (t:=25) (p:=34) rfl ?_);refine store_event (t:=25) (p:=34) (v:=?vo_w30) (w1:=(w27.setCell ⟨go19,(a1 : Int).toNat,none⟩ (.slice A366_0 (rd_L1 t362 (ji16)).length c366_0))) ?hg ?ho ?hn ?hr ?_;(case ho=>rfl);(case hg=>rfl);(case hn=>rfl);(case hr=>first|(go_simp;done)|(go_simp;rfl));intro w30 hw;have hg : w27.grownBy w30 (some go19):=(by rw [hw];exact HP29.2);have hp_ : Kd.N (Kd.slice 5 (Kd.int .u8)) 25 w30 w.heap.size (fun k_=>(P0_0_ k_ ∨ w.heap.size ≤ k_)∧k_ ≠ gb359∧k_ ≠ gb360) (.slice (some ⟨go19,0,none⟩) t362.length co28) y367:=(by rw [hw,Ny367.out];exact HP29.1);clear HP29;have n1_:=mK (blk_grown (g:=gb359) (o:=.cells #[.slice A0_0 l0_0.length c0_0,.int .i64 a0_1] 24 (0,0)) (by (with_reducible repeat (first|apply bN|apply bD|apply bA));exact BK359.out) hg (Kd.N_ne HO364.out BK359.out (by decide)));have n2_:=mK (blk_grown (g:=gb360) (o:=.cells #[.slice none 0 0,.int .i64 0] 24 (0,0)) (by (with_reducible repeat (first|apply bN|apply bD|apply bA));exact BK360.out) hg (Kd.N_ne HO364.out BK360.out (by decide)));have n3_:=mK (hp_);have n4_:=mK (Kd.V_afterv (v:=(.slice (some ⟨go19,0,none⟩) t362.length co28)) (v1:=(.slice (some ⟨go19,0,none⟩) t362.length co28)) (ok:=(fun k_=>(P0_0_ k_ ∨ w.heap.size ≤ k_)∧k_ ≠ gb359∧k_ ≠ gb360)) (by (with_reducible repeat (first|apply vA|apply vN|apply vD));exact HL365_0.out) hg (.inl rfl));have n6_:=mK ((by rw [hw];exact below_set (HB.out) GB19.out : Below w.heap.size w w30));clear BK359;clear BK360;clear HO364;clear HL365_0;clear HB;have BK359:=n1_;have BK360:=n2_;have HO364:=n3_;have HL365_0:=n4_;have HB:=n6_;clear n1_ n2_ n3_ n4_ n6_;clear hg hw hp_;have p20 : 0 ≤ ((ji16) : Int):=of_decide_eq_true (by first|(with_reducible assumption)|assumption);have q20 : ((ji16) : Int) < ((t362.length : Int) : Int):=of_decide_eq_true (by first|(with_reducible assumption)|assumption);obtain ⟨ce20,hcl20,hM20,hcc20,hfr20⟩:=Kd.N_elem HO364.out [] ((ji16) : Int) p20 q20;obtain ⟨ua20_0,uc20_0,rfl,ul20_0,ge20_0⟩:=Kd.FK_slice_open hM20;have hx20_0:=hcc20 0 _ rfl;have hf20_0:=hfr20 0;(try simp only [show ((Kd.slice 5 (Kd.int .u8))).sz = 1 from rfl,Nat.mul_one,Nat.add_zero] at hx20_0);(try simp only [show ((Kd.slice 5 (Kd.int .u8))).sz = 1 from rfl,Nat.mul_one,Nat.add_zero] at hf20_0);clear hcl20 hcc20 hfr20 hM20;replace p20:=eq_true p20;replace q20:=eq_true q20;have HX31:=mK (show Kd.N (Kd.slice 5 (Kd.int .u8)) 25 w30 w.heap.size (fun k_=>(P0_0_ k_ ∨ w.heap.size ≤ k_)∧k_ ≠ gb359∧k_ ≠ gb360) (.slice (some ⟨go19,0,none⟩) t362.length co28) y367 from (by (with_reducible repeat (first|apply Kd.N_alloc|apply Kd.N_drewN|apply Kd.N_drew));exact HO364.out));obtain ⟨ce31,hcl31,hM31,hcc31,hfr31⟩:=Kd.N_elem HX31.out [] ((ji16) : Int) (of_decide_eq_true (by first|(with_reducible assumption)|assumption)) (by have h_ : ((ji16) : Int) < ((t362.length : Int) : Int):=of_decide_eq_true (by first|(with_reducible assumption)|assumption);first|exact h_|(have e_:=(Kd.N_reads' HO364.out).1;omega)|simpa using h_);obtain ⟨ua31_0,uc31_0,rfl,ul31_0,ge31_0⟩:=Kd.FK_slice_open hM31;have HP31:=Kd.N_seg HX31.out ((ji16) : Int) (of_decide_eq_true (by first|(with_reducible assumption)|assumption)) (by have h_ : ((ji16) : Int) < ((t362.length : Int) : Int):=of_decide_eq_true (by first|(with_reducible assumption)|assumption);first|exact h_|(have e_:=(Kd.N_reads' HO364.out).1;omega)|simpa using h_) (seg:=[.slice A365_0 (rd_L1 t362 a1).length c365_0]) (j:=0) hcl31 hcc31 (show 1 ≤ 1 from by decide) (x':=rd_L1 t362 a1) (Kd.FK_slice_mk (Kd.V_reads' (Kd.V_mono (ok':=(fun k_=>((fun k_=>(P0_0_ k_ ∨ w.heap.size ≤ k_)∧k_ ≠ gb359∧k_ ≠ gb360)) k_∧k_ ≠ go19)) (HL365_0.out) (fun k_ hk=>⟨⟨hk.1.1,⟨hk.1.2.1,hk.1.2.2⟩⟩,fun e_=>(hk.2) (by rw [e_];rfl)⟩))).2.1 (Kd.V_F (Kd.V_mono (ok':=(fun k_=>((fun k_=>(P0_0_ k_ ∨ w.heap.size ≤ k_)∧k_ ≠ gb359∧k_ ≠ gb360)) k_∧k_ ≠ go19)) (HL365_0.out) (fun k_ hk=>⟨⟨hk.1.1,⟨hk.1.2.1,hk.1.2.2⟩⟩,fun e_=>(hk.2) (by rw [e_];rfl)⟩)))) (fun _ hk=>hk);have hx31_0:=hcc31 0 _ rfl;(try simp only [show ((Kd.slice 5 (Kd.int .u8))).sz = 1 from rfl,Nat.mul_one,Nat.add_zero] at hx31_0);have hf31_0:=hfr31 0;(try simp only [show ((Kd.slice 5 (Kd.int .u8))).sz = 1 from rfl,Nat.mul_one,Nat.add_zero] at hf31_0);clear hcl31 hcc31 hfr31 hM31;(try simp only [show ((Kd.slice 5 (Kd.int .u8))).sz = 1 from rfl,Nat.mul_one,Nat.add_zero] at HP31);(try simp only [show ((Kd.slice 5 (Kd.int .u8))).sz = 1 from rfl,Nat.mul_one,Nat.add_zero] at HP31))|((with_reducible refine gate_store (t:=25) (p:=39) rfl ?_);refine store_event (t:=25) (p:=39) (v:=?vo_w32) (w1:=(w30.setCell ⟨go19,((ji16) : Int).toNat,none⟩ (.slice A365_0 (rd_L1 t362 a1).length c365_0))) ?hg ?ho ?hn ?hr ?_;(case ho=>rfl);(case hg=>rfl);(case hn=>rfl);(case hr=>first|(go_simp;done)|(go_simp;rfl));intro w32 hw;have hg : w30.grownBy w32 (some go19):=(by rw [hw];exact HP31.2);have hp_ : Kd.N (Kd.slice 5 (Kd.int .u8)) 25 w32 w.heap.size (fun k_=>(P0_0_ k_ ∨ w.heap.size ≤ k_)∧k_ ≠ gb359∧k_ ≠ gb360) (.slice (some ⟨go19,0,none⟩) t362.length co28) y368:=(by rw [hw,Ny368.out];exact HP31.1);clear HP31;have n1_:=mK (blk_grown (g:=gb359) (o:=.cells #[.slice A0_0 l0_0.length c0_0,.int .i64 a0_1] 24 (0,0)) (by (with_reducible repeat (first|apply bN|apply bD|apply bA));exact BK359.out) hg (Kd.N_ne HO364.out BK359.out (by decide)));have n2_:=mK (blk_grown (g:=gb360) (o:=.cells #[.slice none 0 0,.int .i64 0] 24 (0,0)) (by (with_reducible repeat (first|apply bN|apply bD|apply bA));exact BK360.out) hg (Kd.N_ne HO364.out BK360.out (by decide)));have n3_:=mK (hp_);have n6_:=mK ((by rw [hw];exact below_set (HB.out) GB19.out : Below w.heap.size w w32));clear BK359;clear BK360;clear HO364;clear HB;have BK359:=n1_;have BK360:=n2_;have HO364:=n3_;have HB:=n6_;clear n1_ n2_ n3_ n6_;clear hg hw hp_;have hcz33_0 : w32.cell? ⟨gb359,0,none⟩ = some (.slice A0_0 l0_0.length c0_0):=(blk_cell BK359.out 0).trans rfl;have hcz33_1 : w32.cell? ⟨gb359,1,none⟩ = some (.int .i64 a0_1):=(blk_cell BK359.out 1).trans rfl;have hfz33_0:=blk_frozen BK359.out 0;have hfz33_1:=blk_frozen BK359.out 1;have hcz34_0 : w32.cell? ⟨gb360,0,none⟩ = some (.slice none 0 0):=(blk_cell BK360.out 0).trans rfl;have hcz34_1 : w32.cell? ⟨gb360,1,none⟩ = some (.int .i64 0):=(blk_cell BK360.out 1).trans rfl;have hfz34_0:=blk_frozen BK360.out 0;have hfz34_1:=blk_frozen BK360.out 1))
       refine bodyPost_ret (results_cell_row rfl _ _ gb360 24 #[.slice (some ⟨go19,0,none⟩) t362.length co28,.int .i64 a0_1] (0,0) _ rfl (by (with_reducible repeat (first|apply bN|apply bD|apply bA));refine blk_put (cs:=#[.slice (some ⟨go19,0,none⟩) t362.length co28,.int .i64 0]) ?_ 1 _ rfl;(with_reducible repeat (first|apply bN|apply bD|apply bA));refine blk_put (cs:=#[.slice none 0 0,.int .i64 0]) ?_ 0 _ rfl;(with_reducible repeat (first|apply bN|apply bD|apply bA));exact BK360.out) Try.underlying24 rfl (by kernel_rfl)) rfl ?_
       exact ⟨_,by first|rfl|(simp [errW_none,errW_some] <;> rfl)|(simp only [← hji16];first|rfl|(simp [errW_none,errW_some] <;> rfl))|(simp [*,errW_none,errW_some] <;> rfl),Kd.N_V (by (with_reducible repeat (first|apply Kd.N_alloc|apply Kd.N_drewN|apply Kd.N_drew));exact Kd.N_mono (Kd.N_far (p:=⟨gb360,1,none⟩) (Kd.N_far (p:=⟨gb360,0,none⟩) (Kd.N_mono HO364.out (fun k_ hk=>(⟨hk,hk.2.2⟩ : _∧k_ ≠ gb360))) (fun _ hk=>hk.2) (.slice (some ⟨go19,0,none⟩) t362.length co28)) (fun _ hk=>hk.2) (.int .i64 a0_1)) (fun _ hk=>hk.1.1)),by repeat (first|(with_reducible first|exact HB.out|apply lA|apply lN|apply lD|refine lS ?_ GE359.out|refine lS ?_ GE360.out)|exact HB.out)⟩
      ·rw [if_neg c18] at H
       exact absurd H (by simp)
     ·rw [if_neg c17] at H
      exact absurd H (by simp)
    ·rw [if_neg c15] at H
     exact absurd H (by simp)
   ·rw [if_neg c14] at H
    exact absurd H (by simp)
 ·replace c4:=Bool.eq_false_iff.mpr c4
  subst c4
  have H1 : (some (l0_0,a0_1)) = some (r1,r2):= by rw [if_neg (show ¬ (false = true) by decide)] at H;exact H
  clear H
  have H:=H1
  clear H1
  simp only [Option.some.injEq,Prod.mk.injEq] at H
  obtain ⟨rfl,rfl⟩:=H
  go_enter Try.func19,Try.ntmps19
  go_wp2_with (first|((with_reducible refine gate_dst (N:=2) rfl ?_);(try (refine gate_guard (by rfl) ?_;dsimp only));refine box_event ?hg (N:=2) ?hd (cs:=#[.slice A0_0 l0_0.length c0_0,.int .i64 a0_1]) (t:=24) ?hr ?_;(case hd=>rfl);(case hg=>rfl);(case hr=>first|(go_simp;done)|(go_simp;rfl));intro gb359 hg w35 hbox hb;have n0_:=mK (Kd.V_below (Kd.V_elderB (by (with_reducible repeat (first|apply vA|apply vN|apply vD));exact HO0_0.out) gb359 (Nat.le_of_eq hg.symm)) hb);have n1_:=mK (below_step (by repeat (first|(with_reducible first|exact HB.out|apply lA|apply lN|apply lD)|exact HB.out)) hb);have n2_:=mK (hbox);have n4_:=mK ((by rw [hg];exact (below_size (by repeat (first|(with_reducible first|exact HB.out|apply lA|apply lN|apply lD)|exact HB.out))) : w.heap.size ≤ gb359));clear HO0_0;clear HB;have HO0_0:=n0_;have HB:=n1_;have BK359:=n2_;have GE359:=n4_;clear n0_ n1_ n2_ n4_;clear hb hbox hg)|((with_reducible refine gate_dst (N:=4) rfl ?_);(try (refine gate_guard (by rfl) ?_;dsimp only));refine box_event ?hg (N:=4) ?hd (cs:=#[.slice none 0 0,.int .i64 0]) (t:=24) ?hr ?_;(case hd=>rfl);(case hg=>rfl);(case hr=>first|(go_simp;done)|(go_simp;rfl));intro gb360 hg w36 hbox hb;have n0_:=mK (Kd.V_below (Kd.V_elderB (by (with_reducible repeat (first|apply vA|apply vN|apply vD));exact HO0_0.out) gb360 (Nat.le_of_eq hg.symm)) hb);have n1_:=mK (blk_below (g:=gb359) (o:=.cells #[.slice A0_0 l0_0.length c0_0,.int .i64 a0_1] 24 (0,0)) (by (with_reducible repeat (first|apply bN|apply bD|apply bA));exact BK359.out) hb);have n2_:=mK (below_step (by repeat (first|(with_reducible first|exact HB.out|apply lA|apply lN|apply lD|refine lS ?_ GE359.out)|exact HB.out)) hb);have n3_:=mK (hbox);have n5_:=mK ((by rw [hg];exact (below_size (by repeat (first|(with_reducible first|exact HB.out|apply lA|apply lN|apply lD|refine lS ?_ GE359.out)|exact HB.out))) : w.heap.size ≤ gb360));have n6_:=mK ((by rw [hg];exact Nat.ne_of_lt (blk_lt (g:=gb359) (o:=.cells #[.slice A0_0 l0_0.length c0_0,.int .i64 a0_1] 24 (0,0)) (by (with_reducible repeat (first|apply bN|apply bD|apply bA));exact BK359.out)) : gb359 ≠ gb360));have n7_:=mK ((by rw [hg];exact Nat.ne_of_gt (blk_lt (g:=gb359) (o:=.cells #[.slice A0_0 l0_0.length c0_0,.int .i64 a0_1] 24 (0,0)) (by (with_reducible repeat (first|apply bN|apply bD|apply bA));exact BK359.out)) : gb360 ≠ gb359));clear HO0_0;clear BK359;clear HB;have HO0_0:=n0_;have BK359:=n1_;have HB:=n2_;have BK360:=n3_;have GE360:=n5_;have NB359_360:=n6_;have NB360_359:=n7_;clear n0_ n1_ n2_ n3_ n5_ n6_ n7_;clear hb hbox hg;have hnb37:=NB359_360.out;have hnc37:=NB360_359.out;have hcz38_0 : w36.cell? ⟨gb359,0,none⟩ = some (.slice A0_0 l0_0.length c0_0):=(blk_cell BK359.out 0).trans rfl;have hcz38_1 : w36.cell? ⟨gb359,1,none⟩ = some (.int .i64 a0_1):=(blk_cell BK359.out 1).trans rfl;have hfz38_0:=blk_frozen BK359.out 0;have hfz38_1:=blk_frozen BK359.out 1)|((with_reducible refine gate_callee (f:=31) rfl ?_);refine goesL_ (some 9) rfl rfl Try.func31 (by kernel_rfl) rfl #[.agg #[.slice A0_0 l0_0.length c0_0,.int .i64 a0_1],.int .i64 a1] rfl (by (try simp only [List.map_toArray,List.map_cons,List.map_nil]);first|done|rfl|(simp only [List.length_drop,List.length_take];rfl)) ?_;(with_reducible refine (drawbridgeref23_has.calls k _ _ l0_0 a0_1 a1 false _ ?side1 ?side2 A3.out).mono ?_);(case side1=>repeat (first|exact (Kd.V_reads' HO0_0.out).2.2|(with_reducible refine Kd.C_alloc ?_ _)|(with_reducible refine Kd.C_drewN ?_ _)|(with_reducible refine Kd.C_drew ?_)));(case side2=>exact (Kd.V_reads' HO0_0.out).2.1);rintro e w39 ⟨rfl,hb⟩;refine ⟨_,rfl,?_⟩;have n0_:=mK (Kd.V_below (by (with_reducible repeat (first|apply vA|apply vN|apply vD));exact HO0_0.out) hb);have n1_:=mK (blk_below (g:=gb359) (o:=.cells #[.slice A0_0 l0_0.length c0_0,.int .i64 a0_1] 24 (0,0)) (by (with_reducible repeat (first|apply bN|apply bD|apply bA));exact BK359.out) hb);have n2_:=mK (blk_below (g:=gb360) (o:=.cells #[.slice none 0 0,.int .i64 0] 24 (0,0)) (by (with_reducible repeat (first|apply bN|apply bD|apply bA));exact BK360.out) hb);have n3_:=mK (below_step (by repeat (first|(with_reducible first|exact HB.out|apply lA|apply lN|apply lD|refine lS ?_ GE359.out|refine lS ?_ GE360.out)|exact HB.out)) hb);clear HO0_0;clear BK359;clear BK360;clear HB;have HO0_0:=n0_;have BK359:=n1_;have BK360:=n2_;have HB:=n3_;clear n0_ n1_ n2_ n3_;(try clear hb);(try clear hb2);(try clear hk);(try clear hi);have hcz40_0 : w39.cell? ⟨gb359,0,none⟩ = some (.slice A0_0 l0_0.length c0_0):=(blk_cell BK359.out 0).trans rfl;have hcz40_1 : w39.cell? ⟨gb359,1,none⟩ = some (.int .i64 a0_1):=(blk_cell BK359.out 1).trans rfl;have hfz40_0:=blk_frozen BK359.out 0;have hfz40_1:=blk_frozen BK359.out 1;have hcz41_0 : w39.cell? ⟨gb360,0,none⟩ = some (.slice none 0 0):=(blk_cell BK360.out 0).trans rfl;have hcz41_1 : w39.cell? ⟨gb360,1,none⟩ = some (.int .i64 0):=(blk_cell BK360.out 1).trans rfl;have hfz41_0:=blk_frozen BK360.out 0;have hfz41_1:=blk_frozen BK360.out 1))
  refine bodyPost_ret (results_cell_row rfl _ _ gb360 24 #[.slice A0_0 l0_0.length c0_0,.int .i64 a0_1] (0,0) _ rfl (by (with_reducible repeat (first|apply bN|apply bD|apply bA));refine blk_put (cs:=#[.slice A0_0 l0_0.length c0_0,.int .i64 0]) ?_ 1 _ rfl;(with_reducible repeat (first|apply bN|apply bD|apply bA));refine blk_put (cs:=#[.slice none 0 0,.int .i64 0]) ?_ 0 _ rfl;(with_reducible repeat (first|apply bN|apply bD|apply bA));exact BK360.out) Try.underlying24 rfl (by kernel_rfl)) rfl ?_
  exact ⟨_,by first|rfl|(simp [errW_none,errW_some] <;> rfl)|(simp [*,errW_none,errW_some] <;> rfl),by (with_reducible repeat (first|apply vA|apply vN|apply vD));exact Kd.V_mono (Kd.V_far (p:=⟨gb360,1,none⟩) (Kd.V_far (p:=⟨gb360,0,none⟩) (Kd.V_mono HO0_0.out (fun k_ hk=>(⟨hk,hk.2⟩ : _∧k_ ≠ gb360))) (fun _ hk=>hk.2) (.slice A0_0 l0_0.length c0_0)) (fun _ hk=>hk.2) (.int .i64 a0_1)) (fun _ hk=>hk.1.1.1),by repeat (first|(with_reducible first|exact HB.out|apply lA|apply lN|apply lD|refine lS ?_ GE359.out|refine lS ?_ GE360.out)|exact HB.out)⟩

end Go.Proofs.Ythfokiabneflpaa.P
