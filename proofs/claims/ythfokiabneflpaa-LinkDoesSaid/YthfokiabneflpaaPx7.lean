/- Contracts of functions of the seat, written by a program of this session (with the kit's print) for the laws of this claim; no condition beside what each states. -/
import Derived.Test.YthfokiabneflpaaPx0
import Derived.Test.YthfokiabneflpaaPx6
namespace Go.Proofs.Ythfokiabneflpaa.P
open Go.Proofs.Ythfokiabneflpaa.Aux Go.RowKit Go.Proofs.YthfokiabneflpaaW.PrintWords Go.Proofs.YthfokiabneflpaaW.PrintLast Go.Proofs.YthfokiabneflpaaW.PrintMore
attribute [local go_sem] max2_int min2_int max_two min_two max_three min_three max_four min_four   -- for this text's walks alone
set_option linter.unusedVariables false
set_option linter.unusedSimpArgs false

/-! ### drawbridgeref23_Push: function 9 -/
def drawbridgeref23_Push.j0 : Nat → List Int → Bool → List (List Int) → Int → Option ((List (List Int)) × Int × Bool)
 | 0, _, _, _, _ => none
 | k + 1, x1, x13, x287000, x287001 => if x13 = true then (some (x287000, x287001, false)) else (if (x287000.length : Int) = 32 then (some (x287000, mn (wrap64 (x287001 + 1)) 2147483648, false)) else ((drawbridgeref23_own.f k x287000).bind fun t290 => ((some (([] : List Int) : List Int)).bind fun y293 => (if y293.length + x1.length < 140737488355328 then (if t290.length < 5864062014805 then (some ((t290 ++ [(y293 ++ x1)]), x287001, true)) else (none)) else (none)))))
def drawbridgeref23_Push.f (k : Nat) (l0_0 : List (List Int)) (a0_1 : Int) (l1 : List Int) : Option ((List (List Int)) × Int × Bool) := (drawbridgeref23_Check.f k l0_0 a0_1).bind fun t288 => (if t288 = true then ((drawbridgeref23_fits.f l1).bind fun t289 => (drawbridgeref23_Push.j0 k l1 (!t289) l0_0 a0_1)) else (drawbridgeref23_Push.j0 k l1 true l0_0 a0_1))
theorem drawbridgeref23_Push.mono_l : ∀ k, (∀ y0 y1 y2 y3, LeO (drawbridgeref23_Push.j0 k y0 y1 y2 y3) (drawbridgeref23_Push.j0 (k + 1) y0 y1 y2 y3))
 | 0 => fun _ _ _ _ r h => by simp [drawbridgeref23_Push.j0] at h
 | k + 1 => by
  have ih0 := drawbridgeref23_Push.mono_l k
  ·intro y0 y1 y2 y3
   unfold drawbridgeref23_Push.j0
   repeat' first
   | (with_reducible exact ih0 _ _ _ _)
   | (with_reducible exact drawbridgeref23_Check.mono _ _ _)
   | (with_reducible exact drawbridgeref23_own.mono _ _)
   | (with_reducible exact LeO.refl _)
   | (with_reducible exact LeO.none _)
   | (with_reducible refine LeO.ite ?_ ?_)
   | (with_reducible refine LeO.bind ?_ (fun _ => ?_))
   | exact ih0 _ _ _ _
   | exact drawbridgeref23_Check.mono _ _ _
   | exact drawbridgeref23_own.mono _ _
   | exact LeO.none _
   | refine LeO.ite ?_ ?_
   | refine LeO.bind ?_ (fun _ => ?_)
theorem drawbridgeref23_Push.mono : ∀ a0 a1 a2 k, LeO (drawbridgeref23_Push.f k a0 a1 a2) (drawbridgeref23_Push.f (k + 1) a0 a1 a2) := by
 intro a0 a1 a2 k
 have ih0 := drawbridgeref23_Push.mono_l k
 unfold drawbridgeref23_Push.f
 repeat' first
   | (with_reducible exact ih0 _ _ _ _)
   | (with_reducible exact drawbridgeref23_Check.mono _ _ _)
   | (with_reducible exact drawbridgeref23_own.mono _ _)
   | (with_reducible exact LeO.refl _)
   | (with_reducible exact LeO.none _)
   | (with_reducible refine LeO.ite ?_ ?_)
   | (with_reducible refine LeO.bind ?_ (fun _ => ?_))
   | exact ih0 _ _ _ _
   | exact drawbridgeref23_Check.mono _ _ _
   | exact drawbridgeref23_own.mono _ _
   | exact LeO.none _
   | refine LeO.ite ?_ ?_
   | refine LeO.bind ?_ (fun _ => ?_)
def drawbridgeref23_Push.T5 : Bool × List (List Nat × List Nat) := (true, [([], []), ([0], [0]), ([1], [1]), ([], []), ([], []), ([3, 4, 2], [3, 4]), ([5], [5]), ([2, 6, 5], [2, 6]), ([], []), ([8], [8]), ([7, 9], [7, 9]), ([10, 7, 0, 1, 2, 3, 4, 5, 6, 7, 8, 9, 10], [10]), ([11, 0, 1, 2, 3, 4, 5, 6, 7, 8, 9, 10, 11], [])])
def drawbridgeref23_Push.B5 : List Nat := [0, 1, 3, 0, 0, 31, 63, 127, 0, 256, 1023, 2047, 4095]
theorem drawbridgeref23_Push.tab5 : rtab .any (opsOf Try.f9 5) = drawbridgeref23_Push.T5 := by kernel_rfl
theorem drawbridgeref23_Push.bits5 : waitsOk drawbridgeref23_Push.T5.2 drawbridgeref23_Push.B5 = true := by kernel_rfl
set_option maxHeartbeats 8000000 in
set_option maxRecDepth 100000 in
theorem drawbridgeref23_Push.calls (k : Nat) (P0_0_ : Nat → Prop) (A0_0 : Option Addr) (c0_0 : Nat) (l0_0 : List (List Int)) (a0_1 : Int) (A1 : Option Addr) (c1 : Nat) (l1 : List Int) (r1 : List (List Int)) (r2 : Int) (r3 : Bool) (w : World) (hs0_0 : Kd.V (Kd.slice 5 (Kd.int .u8)) 25 w w.heap.size (fun k_ => P0_0_ k_) (.slice A0_0 l0_0.length c0_0) l0_0) (hr1 : Kd.C (Kd.int .u8) w A1 l1.length l1) (hc1 : l1.length ≤ c1) (h : drawbridgeref23_Push.f k l0_0 a0_1 l1 = some (r1, r2, r3)) :
  Calls Try.prog 9 #[.agg #[.slice A0_0 l0_0.length c0_0, .int .i64 a0_1], .slice A1 l1.length c1] w fun e w' => ∃ v0_ : Value, e = .returned (.tuple #[.agg #[v0_, .int .i64 r2], .bool r3]) ∧ Kd.V (Kd.slice 5 (Kd.int .u8)) 25 w' w.heap.size (fun k_ => (P0_0_ k_ ∨ w.heap.size ≤ k_)) v0_ r1 ∧ Below w.heap.size w w' := by
 have hu24:=Try.underlying24
 have HO0_0:=mK (show Kd.V (Kd.slice 5 (Kd.int .u8)) 25 w w.heap.size (fun k_=>(P0_0_ k_ ∨ w.heap.size ≤ k_)) (.slice A0_0 l0_0.length c0_0) l0_0 from Kd.V_mono hs0_0 (fun k_ hk=>.inl hk))
 have HR1:=mK hr1
 have HC1:=mK hc1
 clear hr1 hc1
 have HB:=mK (Below.refl w.heap.size w)
 have H : ((drawbridgeref23_Check.f k l0_0 a0_1).bind fun t288=>(if t288 = true then ((drawbridgeref23_fits.f l1).bind fun t289=>(drawbridgeref23_Push.j0 k l1 (!t289) l0_0 a0_1)) else (drawbridgeref23_Push.j0 k l1 true l0_0 a0_1))) = some (r1,r2,r3):=h
 clear h
 have HC3:=mK H
 clear H
 go_enter Try.func9,Try.ntmps9
 go_upto_region 1 with (first|((with_reducible refine gate_dst (N:=2) rfl ?_);refine box_event ?hg (N:=2) ?hd (cs:=#[.slice A0_0 l0_0.length c0_0,.int .i64 a0_1]) (t:=24) ?hr ?_;(case hd=>rfl);(case hg=>rfl);(case hr=>first|(go_simp;done)|(go_simp;rfl));intro gb286 hg w4 hbox hb;have n0_:=mK (Kd.V_below (Kd.V_elderB (by (with_reducible repeat (first|apply vA|apply vN|apply vD));exact HO0_0.out) gb286 (Nat.le_of_eq hg.symm)) hb);have n1_:=mK (below_step (by repeat (first|(with_reducible first|exact HB.out|apply lA|apply lN|apply lD)|exact HB.out)) hb);have n2_:=mK (hbox);have n4_:=mK ((by rw [hg];exact (below_size (by repeat (first|(with_reducible first|exact HB.out|apply lA|apply lN|apply lD)|exact HB.out))) : w.heap.size ≤ gb286));clear HO0_0;clear HB;have HO0_0:=n0_;have HB:=n1_;have BK286:=n2_;have GE286:=n4_;clear n0_ n1_ n2_ n4_;clear hb hbox hg)|((with_reducible refine gate_dst (N:=4) rfl ?_);refine box_event ?hg (N:=4) ?hd (cs:=#[.slice none 0 0,.int .i64 0]) (t:=24) ?hr ?_;(case hd=>rfl);(case hg=>rfl);(case hr=>first|(go_simp;done)|(go_simp;rfl));intro gb287 hg w5 hbox hb;have n0_:=mK (Kd.V_below (Kd.V_elderB (by (with_reducible repeat (first|apply vA|apply vN|apply vD));exact HO0_0.out) gb287 (Nat.le_of_eq hg.symm)) hb);have n1_:=mK (blk_below (g:=gb286) (o:=.cells #[.slice A0_0 l0_0.length c0_0,.int .i64 a0_1] 24 (0,0)) (by (with_reducible repeat (first|apply bN|apply bD|apply bA));exact BK286.out) hb);have n2_:=mK (below_step (by repeat (first|(with_reducible first|exact HB.out|apply lA|apply lN|apply lD|refine lS ?_ GE286.out)|exact HB.out)) hb);have n3_:=mK (hbox);have n5_:=mK ((by rw [hg];exact (below_size (by repeat (first|(with_reducible first|exact HB.out|apply lA|apply lN|apply lD|refine lS ?_ GE286.out)|exact HB.out))) : w.heap.size ≤ gb287));have n6_:=mK ((by rw [hg];exact Nat.ne_of_lt (blk_lt (g:=gb286) (o:=.cells #[.slice A0_0 l0_0.length c0_0,.int .i64 a0_1] 24 (0,0)) (by (with_reducible repeat (first|apply bN|apply bD|apply bA));exact BK286.out)) : gb286 ≠ gb287));have n7_:=mK ((by rw [hg];exact Nat.ne_of_gt (blk_lt (g:=gb286) (o:=.cells #[.slice A0_0 l0_0.length c0_0,.int .i64 a0_1] 24 (0,0)) (by (with_reducible repeat (first|apply bN|apply bD|apply bA));exact BK286.out)) : gb287 ≠ gb286));clear HO0_0;clear BK286;clear HB;have HO0_0:=n0_;have BK286:=n1_;have HB:=n2_;have BK287:=n3_;have GE287:=n5_;have NB286_287:=n6_;have NB287_286:=n7_;clear n0_ n1_ n2_ n3_ n5_ n6_ n7_;clear hb hbox hg))
 (try simp only [Act.put,sT,sZ,sS])
 go_cut [13] (fun v13 wc=>∃ (kq : Nat) (x13_2 : Bool),v13 = .bool x13_2∧Aside0 (drawbridgeref23_Push.j0 kq l1 x13_2 l0_0 a0_1 = some (r1,r2,r3))∧Aside0 (kq ≤ k)∧Aside0 (Kd.V (Kd.slice 5 (Kd.int .u8)) 25 wc w.heap.size (fun k_=>(P0_0_ k_ ∨ w.heap.size ≤ k_)∧k_ ≠ gb286∧k_ ≠ gb287) (.slice A0_0 l0_0.length c0_0) l0_0)∧Aside0 (wc.heap[gb286]? = some (.cells #[(.slice A0_0 l0_0.length c0_0),.int .i64 a0_1] 24 (0,0)))∧Aside0 (wc.heap[gb287]? = some (.cells #[(.slice none 0 0),.int .i64 0] 24 (0,0)))∧Aside0 (Below w.heap.size w wc))
 case first =>
  have H:=HC3.out
  clear HC3
  replace H:=Option.bind_eq_some_iff.mp H
  obtain ⟨t288,A60,H⟩:=H
  replace H : (if t288 = true then ((drawbridgeref23_fits.f l1).bind fun t289=>(drawbridgeref23_Push.j0 k l1 (!t289) l0_0 a0_1)) else (drawbridgeref23_Push.j0 k l1 true l0_0 a0_1)) = some (r1,r2,r3):=H
  have A6:=mK A60
  clear A60
  by_cases c7 : t288 = true
  ·subst c7
   have H1 : ((drawbridgeref23_fits.f l1).bind fun t289=>(drawbridgeref23_Push.j0 k l1 (!t289) l0_0 a0_1)) = some (r1,r2,r3):= by rw [if_pos rfl] at H;exact H
   clear H
   have H:=H1
   clear H1
   replace H:=Option.bind_eq_some_iff.mp H
   obtain ⟨t289,A80,H⟩:=H
   replace H : (drawbridgeref23_Push.j0 k l1 (!t289) l0_0 a0_1) = some (r1,r2,r3):=H
   have A8:=mK A80
   clear A80
   have H':=mK H
   clear H
   have hnb9:=NB286_287.out
   have hnc9:=NB287_286.out
   have hcz10_0 : w5.cell? ⟨gb286,0,none⟩ = some (.slice A0_0 l0_0.length c0_0):=(blk_cell BK286.out 0).trans rfl
   have hcz10_1 : w5.cell? ⟨gb286,1,none⟩ = some (.int .i64 a0_1):=(blk_cell BK286.out 1).trans rfl
   have hfz10_0:=blk_frozen BK286.out 0
   have hfz10_1:=blk_frozen BK286.out 1
   go_wp2_with (first|((with_reducible refine gate_callee (f:=21) rfl ?_);refine goesL_ (some 7) rfl rfl Try.func21 (by kernel_rfl) rfl #[.agg #[.slice A0_0 l0_0.length c0_0,.int .i64 a0_1]] rfl (by (try simp only [List.map_toArray,List.map_cons,List.map_nil]);first|done|rfl|(simp only [List.length_drop,List.length_take];rfl)) ?_;(with_reducible refine (drawbridgeref23_Check.calls k _ _ l0_0 a0_1 true _ ?side1 ?side2 A6.out).mono ?_);(case side1=>repeat (first|exact (Kd.V_reads' HO0_0.out).2.2|(with_reducible refine Kd.C_alloc ?_ _)|(with_reducible refine Kd.C_drewN ?_ _)|(with_reducible refine Kd.C_drew ?_)));(case side2=>exact (Kd.V_reads' HO0_0.out).2.1);rintro e w11 ⟨rfl,hb⟩;refine ⟨_,rfl,?_⟩;have n0_:=mK (Kd.V_below (by (with_reducible repeat (first|apply vA|apply vN|apply vD));exact HO0_0.out) hb);have n1_:=mK (blk_below (g:=gb286) (o:=.cells #[.slice A0_0 l0_0.length c0_0,.int .i64 a0_1] 24 (0,0)) (by (with_reducible repeat (first|apply bN|apply bD|apply bA));exact BK286.out) hb);have n2_:=mK (blk_below (g:=gb287) (o:=.cells #[.slice none 0 0,.int .i64 0] 24 (0,0)) (by (with_reducible repeat (first|apply bN|apply bD|apply bA));exact BK287.out) hb);have n3_:=mK (below_step (by repeat (first|(with_reducible first|exact HB.out|apply lA|apply lN|apply lD|refine lS ?_ GE286.out|refine lS ?_ GE287.out)|exact HB.out)) hb);clear HO0_0;clear BK286;clear BK287;clear HB;have HO0_0:=n0_;have BK286:=n1_;have BK287:=n2_;have HB:=n3_;clear n0_ n1_ n2_ n3_;(try clear hb);(try clear hb2);(try clear hk);(try clear hi))|(go_at_call 26;(with_reducible refine (drawbridgeref23_fits.calls _ _ l1 t289 _ ?side1 ?side2 A8.out).mono ?_);(case side1=>repeat (first|exact (Kd.C_below HR1.out HB.out)|(with_reducible refine Kd.C_alloc ?_ _)|(with_reducible refine Kd.C_drewN ?_ _)|(with_reducible refine Kd.C_drew ?_)));(case side2=>exact HC1.out);rintro e w' ⟨rfl,⟨nd,rfl⟩⟩))
   go_meet
   case rel=>exact ⟨_,(!t289),(by first|rfl|(simp;done)|(simp [*];done)),H',⟨by first|omega|exact Nat.le_refl _⟩,⟨by (with_reducible repeat (first|apply vA|apply vN|apply vD));exact Kd.V_mono HO0_0.out (fun _ hk=>⟨hk.1.1,⟨hk.1.2,hk.2⟩⟩)⟩,⟨by (with_reducible repeat (first|apply bN|apply bD|apply bA));exact BK286.out⟩,⟨by (with_reducible repeat (first|apply bN|apply bD|apply bA));exact BK287.out⟩,⟨by repeat (first|(with_reducible first|exact HB.out|apply lA|apply lN|apply lD|refine lS ?_ GE286.out|refine lS ?_ GE287.out)|exact HB.out)⟩⟩
  ·replace c7:=Bool.eq_false_iff.mpr c7
   subst c7
   have H1 : (drawbridgeref23_Push.j0 k l1 true l0_0 a0_1) = some (r1,r2,r3):= by rw [if_neg (show ¬ (false = true) by decide)] at H;exact H
   clear H
   have H:=H1
   clear H1
   have H':=mK H
   clear H
   have hnb12:=NB286_287.out
   have hnc12:=NB287_286.out
   have hcz13_0 : w5.cell? ⟨gb286,0,none⟩ = some (.slice A0_0 l0_0.length c0_0):=(blk_cell BK286.out 0).trans rfl
   have hcz13_1 : w5.cell? ⟨gb286,1,none⟩ = some (.int .i64 a0_1):=(blk_cell BK286.out 1).trans rfl
   have hfz13_0:=blk_frozen BK286.out 0
   have hfz13_1:=blk_frozen BK286.out 1
   go_wp2_with (first|((with_reducible refine gate_callee (f:=21) rfl ?_);refine goesL_ (some 7) rfl rfl Try.func21 (by kernel_rfl) rfl #[.agg #[.slice A0_0 l0_0.length c0_0,.int .i64 a0_1]] rfl (by (try simp only [List.map_toArray,List.map_cons,List.map_nil]);first|done|rfl|(simp only [List.length_drop,List.length_take];rfl)) ?_;(with_reducible refine (drawbridgeref23_Check.calls k _ _ l0_0 a0_1 false _ ?side1 ?side2 A6.out).mono ?_);(case side1=>repeat (first|exact (Kd.V_reads' HO0_0.out).2.2|(with_reducible refine Kd.C_alloc ?_ _)|(with_reducible refine Kd.C_drewN ?_ _)|(with_reducible refine Kd.C_drew ?_)));(case side2=>exact (Kd.V_reads' HO0_0.out).2.1);rintro e w14 ⟨rfl,hb⟩;refine ⟨_,rfl,?_⟩;have n0_:=mK (Kd.V_below (by (with_reducible repeat (first|apply vA|apply vN|apply vD));exact HO0_0.out) hb);have n1_:=mK (blk_below (g:=gb286) (o:=.cells #[.slice A0_0 l0_0.length c0_0,.int .i64 a0_1] 24 (0,0)) (by (with_reducible repeat (first|apply bN|apply bD|apply bA));exact BK286.out) hb);have n2_:=mK (blk_below (g:=gb287) (o:=.cells #[.slice none 0 0,.int .i64 0] 24 (0,0)) (by (with_reducible repeat (first|apply bN|apply bD|apply bA));exact BK287.out) hb);have n3_:=mK (below_step (by repeat (first|(with_reducible first|exact HB.out|apply lA|apply lN|apply lD|refine lS ?_ GE286.out|refine lS ?_ GE287.out)|exact HB.out)) hb);clear HO0_0;clear BK286;clear BK287;clear HB;have HO0_0:=n0_;have BK286:=n1_;have BK287:=n2_;have HB:=n3_;clear n0_ n1_ n2_ n3_;(try clear hb);(try clear hb2);(try clear hk);(try clear hi)))
   go_meet
   case rel=>exact ⟨_,(true),(by first|rfl|(simp;done)|(simp [*];done)),H',⟨by first|omega|exact Nat.le_refl _⟩,⟨by (with_reducible repeat (first|apply vA|apply vN|apply vD));exact Kd.V_mono HO0_0.out (fun _ hk=>⟨hk.1.1,⟨hk.1.2,hk.2⟩⟩)⟩,⟨by (with_reducible repeat (first|apply bN|apply bD|apply bA));exact BK286.out⟩,⟨by (with_reducible repeat (first|apply bN|apply bD|apply bA));exact BK287.out⟩,⟨by repeat (first|(with_reducible first|exact HB.out|apply lA|apply lN|apply lD|refine lS ?_ GE286.out|refine lS ?_ GE287.out)|exact HB.out)⟩⟩
 case rest =>
  clear HC3
  try clear c1
  try clear c2
  try clear p2
  try clear c7
  try clear c9
  try clear c12
  try clear hcz10_0
  try clear hcz10_1
  try clear hcz13_0
  try clear hcz13_1
  try clear hfz10_0
  try clear hfz10_1
  try clear hfz13_0
  try clear hfz13_1
  obtain ⟨kq,x13_2,rfl,HA,HJ2,HO_287000,BK286,BK287,HB⟩:=hcut
  cases kq with
  |zero=>exact absurd HA.out (by simp [drawbridgeref23_Push.j0])
  |succ kj2 =>
   have H:=HA.out
   clear HA
   simp only [drawbridgeref23_Push.j0] at H
   by_cases c15 : x13_2 = true
   ·subst c15
    have H1 : (some (l0_0,a0_1,false)) = some (r1,r2,r3):= by rw [if_pos rfl] at H;exact H
    clear H
    have H:=H1
    clear H1
    simp only [Option.some.injEq,Prod.mk.injEq] at H
    obtain ⟨rfl,rfl,rfl⟩:=H
    have hnb16:=NB286_287.out
    have hnc16:=NB287_286.out
    have hcz17_0 : wc.cell? ⟨gb286,0,none⟩ = some (.slice A0_0 l0_0.length c0_0):=(blk_cell BK286.out 0).trans rfl
    have hcz17_1 : wc.cell? ⟨gb286,1,none⟩ = some (.int .i64 a0_1):=(blk_cell BK286.out 1).trans rfl
    have hfz17_0:=blk_frozen BK286.out 0
    have hfz17_1:=blk_frozen BK286.out 1
    have hcz18_0 : wc.cell? ⟨gb287,0,none⟩ = some (.slice none 0 0):=(blk_cell BK287.out 0).trans rfl
    have hcz18_1 : wc.cell? ⟨gb287,1,none⟩ = some (.int .i64 0):=(blk_cell BK287.out 1).trans rfl
    have hfz18_0:=blk_frozen BK287.out 0
    have hfz18_1:=blk_frozen BK287.out 1
    go_wp2
    refine bodyPost_ret (results_ct rfl _ _ gb287 24 #[.slice A0_0 l0_0.length c0_0,.int .i64 a0_1] (0,0) _ rfl (by (with_reducible repeat (first|apply bN|apply bD|apply bA));refine blk_put (cs:=#[.slice A0_0 l0_0.length c0_0,.int .i64 0]) ?_ 1 _ rfl;(with_reducible repeat (first|apply bN|apply bD|apply bA));refine blk_put (cs:=#[.slice none 0 0,.int .i64 0]) ?_ 0 _ rfl;(with_reducible repeat (first|apply bN|apply bD|apply bA));exact BK287.out) Try.underlying24 rfl (by kernel_rfl)) rfl ?_
    exact ⟨_,by first|rfl|(simp [errW_none,errW_some] <;> rfl)|(simp [*,errW_none,errW_some] <;> rfl),by (with_reducible repeat (first|apply vA|apply vN|apply vD));exact Kd.V_mono (Kd.V_far (p:=⟨gb287,1,none⟩) (Kd.V_far (p:=⟨gb287,0,none⟩) (Kd.V_mono HO_287000.out (fun k_ hk=>(⟨hk,hk.2.2⟩ : _∧k_ ≠ gb287))) (fun _ hk=>hk.2) (.slice A0_0 l0_0.length c0_0)) (fun _ hk=>hk.2) (.int .i64 a0_1)) (fun _ hk=>hk.1.1),by repeat (first|(with_reducible first|exact HB.out|apply lA|apply lN|apply lD|refine lS ?_ GE286.out|refine lS ?_ GE287.out)|exact HB.out)⟩
   ·replace c15:=Bool.eq_false_iff.mpr c15
    subst c15
    have H1 : (if (l0_0.length : Int) = 32 then (some (l0_0,mn (wrap64 (a0_1 + 1)) 2147483648,false)) else ((drawbridgeref23_own.f kj2 l0_0).bind fun t290=>((some (([] : List Int) : List Int)).bind fun y293=>(if y293.length + l1.length < 140737488355328 then (if t290.length < 5864062014805 then (some ((t290 ++ [(y293 ++ l1)]),a0_1,true)) else (none)) else (none))))) = some (r1,r2,r3):= by rw [if_neg (show ¬ (false = true) by decide)] at H;exact H
    clear H
    have H:=H1
    clear H1
    by_cases c19 : (l0_0.length : Int) = 32
    ·rw [if_pos c19] at H
     have c19b0 : ((l0_0.length : Int) == 32) = true:=beq_iff_eq.mpr c19
     have c19b1 : ((l0_0.length : Int) != 32) = false:=bne_eq_false_iff_eq.mpr c19
     clear c19
     obtain ⟨ji20,hji20⟩ : ∃ j_ : Int,(mn (wrap64 (a0_1 + 1)) 2147483648) = j_:=⟨_,rfl⟩
     replace H : (some (l0_0,ji20,false)) = some (r1,r2,r3):= by first|(rw [hji20] at H;exact H)|(simp only [hji20] at H ⊢; exact H)
     have hji20_ : (if 2147483648 < (wrap64 (a0_1 + 1)) then 2147483648 else (wrap64 (a0_1 + 1))) = ji20:=hji20
     simp only [Option.some.injEq,Prod.mk.injEq] at H
     obtain ⟨rfl,rfl,rfl⟩:=H
     have hnb21:=NB286_287.out
     have hnc21:=NB287_286.out
     have hcz22_0 : wc.cell? ⟨gb286,0,none⟩ = some (.slice A0_0 l0_0.length c0_0):=(blk_cell BK286.out 0).trans rfl
     have hcz22_1 : wc.cell? ⟨gb286,1,none⟩ = some (.int .i64 a0_1):=(blk_cell BK286.out 1).trans rfl
     have hfz22_0:=blk_frozen BK286.out 0
     have hfz22_1:=blk_frozen BK286.out 1
     have hcz23_0 : wc.cell? ⟨gb287,0,none⟩ = some (.slice none 0 0):=(blk_cell BK287.out 0).trans rfl
     have hcz23_1 : wc.cell? ⟨gb287,1,none⟩ = some (.int .i64 0):=(blk_cell BK287.out 1).trans rfl
     have hfz23_0:=blk_frozen BK287.out 0
     have hfz23_1:=blk_frozen BK287.out 1
     go_wp2
     refine bodyPost_ret (results_ct rfl _ _ gb287 24 #[.slice A0_0 l0_0.length c0_0,.int .i64 ji20] (0,0) _ rfl (by (with_reducible repeat (first|apply bN|apply bD|apply bA));refine blk_put (cs:=#[.slice A0_0 l0_0.length c0_0,.int .i64 0]) ?_ 1 _ rfl;(with_reducible repeat (first|apply bN|apply bD|apply bA));refine blk_put (cs:=#[.slice none 0 0,.int .i64 0]) ?_ 0 _ rfl;(with_reducible repeat (first|apply bN|apply bD|apply bA));exact BK287.out) Try.underlying24 rfl (by kernel_rfl)) rfl ?_
     exact ⟨_,by first|rfl|(simp [errW_none,errW_some] <;> rfl)|(simp only [← hji20];first|rfl|(simp [errW_none,errW_some] <;> rfl))|(simp [*,errW_none,errW_some] <;> rfl),by (with_reducible repeat (first|apply vA|apply vN|apply vD));exact Kd.V_mono (Kd.V_far (p:=⟨gb287,1,none⟩) (Kd.V_far (p:=⟨gb287,0,none⟩) (Kd.V_mono HO_287000.out (fun k_ hk=>(⟨hk,hk.2.2⟩ : _∧k_ ≠ gb287))) (fun _ hk=>hk.2) (.slice A0_0 l0_0.length c0_0)) (fun _ hk=>hk.2) (.int .i64 ji20)) (fun _ hk=>hk.1.1),by repeat (first|(with_reducible first|exact HB.out|apply lA|apply lN|apply lD|refine lS ?_ GE286.out|refine lS ?_ GE287.out)|exact HB.out)⟩
    ·rw [if_neg c19] at H
     have c19b0 : ((l0_0.length : Int) == 32) = false:=beq_eq_false_iff_ne.mpr c19
     have c19b1 : ((l0_0.length : Int) != 32) = true:=bne_iff_ne.mpr c19
     replace H:=Option.bind_eq_some_iff.mp H
     obtain ⟨t290,A240,H⟩:=H
     replace H : ((some (([] : List Int) : List Int)).bind fun y293=>(if y293.length + l1.length < 140737488355328 then (if t290.length < 5864062014805 then (some ((t290 ++ [(y293 ++ l1)]),a0_1,true)) else (none)) else (none))) = some (r1,r2,r3):=H
     have A24:=mK A240
     clear A240
     obtain ⟨y293,hy293⟩ : ∃ y_ : List Int,y_ = (([] : List Int)):=⟨_,rfl⟩
     replace H : (if y293.length + l1.length < 140737488355328 then (if t290.length < 5864062014805 then (some ((t290 ++ [(y293 ++ l1)]),a0_1,true)) else (none)) else (none)) = some (r1,r2,r3):= by first|(rw [hy293];with_reducible exact H)|(have H2_:=(Option.bind_some _ _).symm.trans H;rw [hy293];with_reducible exact H2_)|(have H2_:=(Option.bind_some _ _).symm.trans H;with_reducible exact H2_)|with_reducible exact H|(rw [hy293];exact H)|exact H
     have Ny293:=mK hy293
     clear hy293
     by_cases c25 : y293.length + l1.length < 140737488355328
     ·rw [if_pos c25] at H
      have LMc25:=mK c25
      clear c25
      obtain ⟨y296,hy296⟩ : ∃ y_ : List Int,y_ = (y293 ++ l1):=⟨_,rfl⟩
      replace H : (if t290.length < 5864062014805 then (some ((t290 ++ [y296]),a0_1,true)) else (none)) = some (r1,r2,r3):= by first|(rw [hy296];with_reducible exact H)|(have H2_:=(Option.bind_some _ _).symm.trans H;rw [hy296];with_reducible exact H2_)|(have H2_:=(Option.bind_some _ _).symm.trans H;with_reducible exact H2_)|with_reducible exact H|(rw [hy296];exact H)|exact H
      have Ny296:=mK hy296
      clear hy296
      by_cases c26 : t290.length < 5864062014805
      ·rw [if_pos c26] at H
       have LMc26:=mK c26
       clear c26
       obtain ⟨y299,hy299⟩ : ∃ y_ : List (List Int),y_ = (t290 ++ [y296]):=⟨_,rfl⟩
       replace H : (some (y299,a0_1,true)) = some (r1,r2,r3):= by first|(rw [hy299];with_reducible exact H)|(have H2_:=(Option.bind_some _ _).symm.trans H;rw [hy299];with_reducible exact H2_)|(have H2_:=(Option.bind_some _ _).symm.trans H;with_reducible exact H2_)|with_reducible exact H|(rw [hy299];exact H)|exact H
       have Ny299:=mK hy299
       clear hy299
       simp only [Option.some.injEq,Prod.mk.injEq] at H
       obtain ⟨rfl,rfl,rfl⟩:=H
       have hnb27:=NB286_287.out
       have hnc27:=NB287_286.out
       have hcz28_0 : wc.cell? ⟨gb286,0,none⟩ = some (.slice A0_0 l0_0.length c0_0):=(blk_cell BK286.out 0).trans rfl
       have hcz28_1 : wc.cell? ⟨gb286,1,none⟩ = some (.int .i64 a0_1):=(blk_cell BK286.out 1).trans rfl
       have hfz28_0:=blk_frozen BK286.out 0
       have hfz28_1:=blk_frozen BK286.out 1
       try go_wp2
       have n0_:=mK (Kd.V_drew HO_287000.out)
       have n1_:=mK (blk_drew BK286.out)
       have n2_:=mK (blk_drew BK287.out)
       have n3_:=mK (below_drew1 HB.out)
       clear HO_287000
       clear BK286
       clear BK287
       clear HB
       have HO_287000:=n0_
       have BK286:=n1_
       have BK287:=n2_
       have HB:=n3_
       clear n0_ n1_ n2_ n3_
       refine start_ (n:=13) (S:= fun w'=>w'.cell? ⟨gb286,0,none⟩ = some (.slice A0_0 l0_0.length c0_0)∧w'.cell? ⟨gb286,1,none⟩ = some (.int .i64 a0_1)) (ds:=[]) #[φ,φ,φ,φ,φ,φ,φ,φ,φ,φ,φ,φ,φ] (by kernel_rfl) rfl rfl ⟨(blk_cell BK286.out 0).trans rfl,(blk_cell BK286.out 1).trans rfl⟩ (fun hHeld=>?_);refine with_tabW drawbridgeref23_Push.tab5 drawbridgeref23_Push.bits5 (fun HT_ HW_=>?_)
       generalize wc.drew = w29 at HO_287000 BK286 BK287 HB hHeld ⊢
       refine pure_ (i:=0) (N:=some 26) (v:=?_) (a':=?_) #[τ,φ,φ,φ,φ,φ,φ,φ,φ,φ,φ,φ,φ] rfl rfl (any_of HT_.out (by kernel_rfl)) (fun _ _ _ h=>h) (Or.inl ⟨by rfl,?_⟩) ?_ ?_
       rotate_left
       ·intro w'
        go_simp
        with_reducible rfl
       rotate_left
       ·simp only [Act.put,sT,sZ,sS,i64_w,i32_w]
        rfl
       refine pure_ (i:=4) (N:=some 30) (v:=?_) (a':=?_) #[τ,φ,φ,φ,τ,φ,φ,φ,φ,φ,φ,φ,φ] rfl rfl (any_of HT_.out (by kernel_rfl)) (fun _ _ _ h=>h) (Or.inl ⟨by rfl,?_⟩) ?_ ?_
       rotate_left
       ·intro w'
        go_simp
        with_reducible rfl
       rotate_left
       ·simp only [Act.put,sT,sZ,sS,i64_w,i32_w]
        rfl
       refine pure_ (i:=8) (N:=some 34) (v:=?_) (a':=?_) #[τ,φ,φ,φ,τ,φ,φ,φ,τ,φ,φ,φ,φ] rfl rfl (any_of HT_.out (by kernel_rfl)) (fun _ _ _ h=>h) (Or.inl ⟨by rfl,?_⟩) ?_ ?_
       rotate_left
       ·intro w'
        go_simp
        with_reducible rfl
       rotate_left
       ·simp only [Act.put,sT,sZ,sS,i64_w,i32_w]
        rfl
       refine take_ (i:=1) (N:=some 27) (v:=?_) (a':=?_) #[τ,τ,φ,φ,τ,φ,φ,φ,τ,φ,φ,φ,φ] rfl rfl (take_ofW HT_.out HW_.out (by kernel_rfl)) (fun _ _ _ h=>h) (Or.inl ⟨by rfl,?_⟩) hHeld ?_ ?_
       rotate_left
       ·rintro w' ⟨s0,s1⟩
        go_simp
        with_reducible rfl
       rotate_left
       ·simp only [Act.put,sT,sZ,sS,i64_w,i32_w]
        rfl
       refine take_ (i:=9) (N:=some 35) (v:=?_) (a':=?_) #[τ,τ,φ,φ,τ,φ,φ,φ,τ,τ,φ,φ,φ] rfl rfl (take_ofW HT_.out HW_.out (by kernel_rfl)) (fun _ _ _ h=>h) (Or.inl ⟨by rfl,?_⟩) hHeld ?_ ?_
       rotate_left
       ·rintro w' ⟨s0,s1⟩
        go_simp
        with_reducible rfl
       rotate_left
       ·simp only [Act.put,sT,sZ,sS,i64_w,i32_w]
        rfl
       refine join_ (σ:=Value × Value) 6 #[τ,τ,τ,τ,τ,φ,φ,φ,τ,τ,φ,φ,φ] (fun s_=>[(28,s_.1),(29,s_.2)]) (fun s_ w'=>(w'.cell? ⟨gb286,0,none⟩ = some (.slice A0_0 l0_0.length c0_0)∧w'.cell? ⟨gb286,1,none⟩ = some (.int .i64 a0_1))∧(Kd.S (Kd.slice 5 (Kd.int .u8)) 25 w' w.heap.size (fun k_=>(w.heap.size ≤ k_)∧some k_ ≠ (s_.2 : Value).ownBlock) s_.1 t290)∧(Kd.R (Kd.int .u8) 5 w' w.heap.size (fun k_=>(w.heap.size ≤ k_)) s_.2 y293)∧(Kd.V (Kd.slice 5 (Kd.int .u8)) 25 w' w.heap.size (fun k_=>(P0_0_ k_ ∨ w.heap.size ≤ k_)∧some k_ ≠ (s_.1 : Value).ownBlock∧some k_ ≠ (s_.2 : Value).ownBlock∧k_ ≠ gb286∧k_ ≠ gb287) (.slice A0_0 l0_0.length c0_0) l0_0)∧(w'.heap[gb286]? = some (.cells #[.slice A0_0 l0_0.length c0_0,.int .i64 a0_1] 24 (0,0)))∧(w'.heap[gb287]? = some (.cells #[.slice none 0 0,.int .i64 0] 24 (0,0)))∧(Below w.heap.size w w')) ?_ ?_
       rotate_left
       ·intro hCont
        refine two_ (i:=2) (j:=3) (Ni:=some 28) (Nj:=some 29) #[τ,τ,τ,φ,τ,φ,φ,φ,τ,τ,φ,φ,φ] #[τ,τ,φ,τ,τ,φ,φ,φ,τ,τ,φ,φ,φ] rfl rfl rfl rfl (two_of HT_.out (by kernel_rfl)) (by decide) (by decide) (fun K hK=>?_) (fun K hK=>?_)
        ·skip
         refine goes_ Try.func27 (by kernel_rfl) rfl #[.slice A0_0 l0_0.length c0_0] (by rfl) rfl rfl (by (try simp only [List.map_toArray,List.map_cons,List.map_nil]);first|done|rfl|(simp only [List.length_drop,List.length_take];rfl)) ?_
         with_reducible refine (drawbridgeref23_own.calls kj2 _ _ l0_0 t290 _ ?side1 ?side2 A24.out).mono ?_
         (case side1=>repeat (first|exact (Kd.V_reads' HO_287000.out).2.2|(with_reducible refine Kd.C_alloc ?_ _)|(with_reducible refine Kd.C_drewN ?_ _)|(with_reducible refine Kd.C_drew ?_)))
         (case side2=>exact (Kd.V_reads' HO_287000.out).2.1)
         rintro e w30 ⟨v291,rfl,ho0,hb⟩
         refine ⟨_,rfl,?_⟩
         have n0_:=mK (Kd.V_elder' (by (with_reducible repeat (first|apply vA|apply vN|apply vD));exact HO_287000.out) (Kd.S_base ho0) hb)
         have n1_:=mK (Kd.S_lower (Kd.S_newM (M:= fun k_=>(w.heap.size ≤ k_)) ho0 (below_size (by repeat (first|(with_reducible first|exact HB.out|apply lA|apply lN|apply lD|refine lS ?_ GE286.out|refine lS ?_ GE287.out)|exact HB.out))) (fun k_ h_=>h_)) (below_size (by repeat (first|(with_reducible first|exact HB.out|apply lA|apply lN|apply lD|refine lS ?_ GE286.out|refine lS ?_ GE287.out)|exact HB.out))))
         have n2_:=mK (blk_below (g:=gb286) (o:=.cells #[.slice A0_0 l0_0.length c0_0,.int .i64 a0_1] 24 (0,0)) (by (with_reducible repeat (first|apply bN|apply bD|apply bA));exact BK286.out) hb)
         have n3_:=mK (blk_below (g:=gb287) (o:=.cells #[.slice none 0 0,.int .i64 0] 24 (0,0)) (by (with_reducible repeat (first|apply bN|apply bD|apply bA));exact BK287.out) hb)
         have n4_:=mK (below_step (by repeat (first|(with_reducible first|exact HB.out|apply lA|apply lN|apply lD|refine lS ?_ GE286.out|refine lS ?_ GE287.out)|exact HB.out)) hb)
         clear HO_287000
         clear BK286
         clear BK287
         clear HB
         have HO_287000:=n0_
         have HO292:=n1_
         have BK286:=n2_
         have BK287:=n3_
         have HB:=n4_
         clear n0_ n1_ n2_ n3_ n4_
         (try clear hb)
         (try clear hb2)
         (try clear hk)
         (try clear hi)
         (try clear ho0)
         refine hK.out _ _ ⟨(blk_cell BK286.out 0).trans rfl,(blk_cell BK286.out 1).trans rfl⟩ (fun hHeld=>?_)
         clear hK K
         refine norm_ (a':=?_) ?_ ?_
         rotate_left
         ·show Act.put _ (some 28) _ = _
          simp only [Act.put,sT,sZ,sS,i64_w,i32_w]
          rfl
         refine one_ (i:=3) (N:=some 29) #[τ,τ,τ,τ,τ,φ,φ,φ,τ,τ,φ,φ,φ] rfl rfl (one_of HT_.out (by kernel_rfl)) (by decide) (fun K hK=>?_)
         refine Kd.R_lit_step (Kd.int .u8) _ 5 ?hg (N:=29) ?hd (xs:=([] : List Int)) (inner:=[]) (ok:= fun _=>True) (okp:= fun _=>True) ?hr ?hp (fun _ hk=>hk) trivial (Below.refl _ _) (Nat.le_refl _) (by simp) ?_;(case hd=>rfl);(case hg=>rfl);(case hr=>first|(go_simp;done)|(go_simp;rfl));(case hp=>exact (Reps.none _ _))
         intro v294 w31 ho32 hb hg_ hnew_
         clear hg_ hnew_
         (first|rw [← Ny293.out] at ho32|(simp only [Int.reduceToNat] at ho32;rw [← Ny293.out] at ho32))
         have n0_:=mK (Kd.V_elder' (by (with_reducible repeat (first|apply vA|apply vN|apply vD));exact HO_287000.out) (Kd.R_base ho32) hb)
         have n1_:=mK (Kd.S_elder' (by (with_reducible repeat (first|apply Kd.S_alloc|apply Kd.S_drewN|apply Kd.S_drew));exact HO292.out) (Kd.R_base ho32) hb)
         have n2_:=mK (Kd.R_lower (Kd.R_newM (M:= fun k_=>(w.heap.size ≤ k_)) ho32 (below_size (by repeat (first|(with_reducible first|exact HB.out|apply lA|apply lN|apply lD|refine lS ?_ GE286.out|refine lS ?_ GE287.out)|exact HB.out))) (fun k_ h_=>h_)) (below_size (by repeat (first|(with_reducible first|exact HB.out|apply lA|apply lN|apply lD|refine lS ?_ GE286.out|refine lS ?_ GE287.out)|exact HB.out))))
         have n3_:=mK (blk_below (g:=gb286) (o:=.cells #[.slice A0_0 l0_0.length c0_0,.int .i64 a0_1] 24 (0,0)) (by (with_reducible repeat (first|apply bN|apply bD|apply bA));exact BK286.out) hb)
         have n4_:=mK (blk_below (g:=gb287) (o:=.cells #[.slice none 0 0,.int .i64 0] 24 (0,0)) (by (with_reducible repeat (first|apply bN|apply bD|apply bA));exact BK287.out) hb)
         have n5_:=mK (below_step (by repeat (first|(with_reducible first|exact HB.out|apply lA|apply lN|apply lD|refine lS ?_ GE286.out|refine lS ?_ GE287.out)|exact HB.out)) hb)
         clear HO_287000
         clear HO292
         clear BK286
         clear BK287
         clear HB
         have HO_287000:=n0_
         have HO292:=n1_
         have HO295:=n2_
         have BK286:=n3_
         have BK287:=n4_
         have HB:=n5_
         clear n0_ n1_ n2_ n3_ n4_ n5_
         clear hb ho32
         refine hK.out _ _ ⟨(blk_cell BK286.out 0).trans rfl,(blk_cell BK286.out 1).trans rfl⟩ (fun hHeld=>?_)
         clear hK K
         refine norm_ (a':=?_) ?_ ?_
         rotate_left
         ·show Act.put _ (some 29) _ = _
          simp only [Act.put,sT,sZ,sS,i64_w,i32_w]
          rfl
         exact norm_ (by simp only [putAll,Act.put,sT,sZ,sS]) (hCont (v291,v294) _ ⟨hHeld,(by (with_reducible repeat (first|apply Kd.S_alloc|apply Kd.S_drewN|apply Kd.S_drew));exact Kd.S_mono HO292.out (fun _ hk=>⟨hk.1.1,hk.2⟩)),(by (with_reducible repeat (first|apply rA|apply rN|apply rD));exact Kd.R_mono HO295.out (fun _ hk=>hk.1)),(by (with_reducible repeat (first|apply vA|apply vN|apply vD));exact Kd.V_mono HO_287000.out (fun _ hk=>⟨hk.1.1.1,⟨hk.1.2,⟨hk.2,⟨hk.1.1.2.1,hk.1.1.2.2⟩⟩⟩⟩)),(by (with_reducible repeat (first|apply bN|apply bD|apply bA));exact BK286.out),(by (with_reducible repeat (first|apply bN|apply bD|apply bA));exact BK287.out),(by repeat (first|(with_reducible first|exact HB.out|apply lA|apply lN|apply lD|refine lS ?_ GE286.out|refine lS ?_ GE287.out)|exact HB.out))⟩)
        ·skip
         refine Kd.R_lit_step (Kd.int .u8) _ 5 ?hg (N:=29) ?hd (xs:=([] : List Int)) (inner:=[]) (ok:= fun _=>True) (okp:= fun _=>True) ?hr ?hp (fun _ hk=>hk) trivial (Below.refl _ _) (Nat.le_refl _) (by simp) ?_;(case hd=>rfl);(case hg=>rfl);(case hr=>first|(go_simp;done)|(go_simp;rfl));(case hp=>exact (Reps.none _ _))
         intro v294 w30 ho31 hb hg_ hnew_
         clear hg_ hnew_
         (first|rw [← Ny293.out] at ho31|(simp only [Int.reduceToNat] at ho31;rw [← Ny293.out] at ho31))
         have n0_:=mK (Kd.V_elder' (by (with_reducible repeat (first|apply vA|apply vN|apply vD));exact HO_287000.out) (Kd.R_base ho31) hb)
         have n1_:=mK (Kd.R_lower (Kd.R_newM (M:= fun k_=>(w.heap.size ≤ k_)) ho31 (below_size (by repeat (first|(with_reducible first|exact HB.out|apply lA|apply lN|apply lD|refine lS ?_ GE286.out|refine lS ?_ GE287.out)|exact HB.out))) (fun k_ h_=>h_)) (below_size (by repeat (first|(with_reducible first|exact HB.out|apply lA|apply lN|apply lD|refine lS ?_ GE286.out|refine lS ?_ GE287.out)|exact HB.out))))
         have n2_:=mK (blk_below (g:=gb286) (o:=.cells #[.slice A0_0 l0_0.length c0_0,.int .i64 a0_1] 24 (0,0)) (by (with_reducible repeat (first|apply bN|apply bD|apply bA));exact BK286.out) hb)
         have n3_:=mK (blk_below (g:=gb287) (o:=.cells #[.slice none 0 0,.int .i64 0] 24 (0,0)) (by (with_reducible repeat (first|apply bN|apply bD|apply bA));exact BK287.out) hb)
         have n4_:=mK (below_step (by repeat (first|(with_reducible first|exact HB.out|apply lA|apply lN|apply lD|refine lS ?_ GE286.out|refine lS ?_ GE287.out)|exact HB.out)) hb)
         clear HO_287000
         clear BK286
         clear BK287
         clear HB
         have HO_287000:=n0_
         have HO295:=n1_
         have BK286:=n2_
         have BK287:=n3_
         have HB:=n4_
         clear n0_ n1_ n2_ n3_ n4_
         clear hb ho31
         refine hK.out _ _ ⟨(blk_cell BK286.out 0).trans rfl,(blk_cell BK286.out 1).trans rfl⟩ (fun hHeld=>?_)
         clear hK K
         refine norm_ (a':=?_) ?_ ?_
         rotate_left
         ·show Act.put _ (some 29) _ = _
          simp only [Act.put,sT,sZ,sS,i64_w,i32_w]
          rfl
         refine one_ (i:=2) (N:=some 28) #[τ,τ,τ,τ,τ,φ,φ,φ,τ,τ,φ,φ,φ] rfl rfl (one_of HT_.out (by kernel_rfl)) (by decide) (fun K hK=>?_)
         refine goes_ Try.func27 (by kernel_rfl) rfl #[.slice A0_0 l0_0.length c0_0] (by rfl) rfl rfl (by (try simp only [List.map_toArray,List.map_cons,List.map_nil]);first|done|rfl|(simp only [List.length_drop,List.length_take];rfl)) ?_
         with_reducible refine (drawbridgeref23_own.calls kj2 _ _ l0_0 t290 _ ?side1 ?side2 A24.out).mono ?_
         (case side1=>repeat (first|exact (Kd.V_reads' HO_287000.out).2.2|(with_reducible refine Kd.C_alloc ?_ _)|(with_reducible refine Kd.C_drewN ?_ _)|(with_reducible refine Kd.C_drew ?_)))
         (case side2=>exact (Kd.V_reads' HO_287000.out).2.1)
         rintro e w32 ⟨v291,rfl,ho0,hb⟩
         refine ⟨_,rfl,?_⟩
         have n0_:=mK (Kd.V_elder' (by (with_reducible repeat (first|apply vA|apply vN|apply vD));exact HO_287000.out) (Kd.S_base ho0) hb)
         have n1_:=mK (Kd.R_below (by (with_reducible repeat (first|apply rA|apply rN|apply rD));exact HO295.out) hb)
         have n2_:=mK (Kd.S_lower (Kd.S_new' (Kd.S_newM (M:= fun k_=>(w.heap.size ≤ k_)) ho0 (below_size (by repeat (first|(with_reducible first|exact HB.out|apply lA|apply lN|apply lD|refine lS ?_ GE286.out|refine lS ?_ GE287.out)|exact HB.out))) (fun k_ h_=>h_)) (Kd.R_lt (by (with_reducible repeat (first|apply rA|apply rN|apply rD));exact HO295.out))) (below_size (by repeat (first|(with_reducible first|exact HB.out|apply lA|apply lN|apply lD|refine lS ?_ GE286.out|refine lS ?_ GE287.out)|exact HB.out))))
         have n3_:=mK (blk_below (g:=gb286) (o:=.cells #[.slice A0_0 l0_0.length c0_0,.int .i64 a0_1] 24 (0,0)) (by (with_reducible repeat (first|apply bN|apply bD|apply bA));exact BK286.out) hb)
         have n4_:=mK (blk_below (g:=gb287) (o:=.cells #[.slice none 0 0,.int .i64 0] 24 (0,0)) (by (with_reducible repeat (first|apply bN|apply bD|apply bA));exact BK287.out) hb)
         have n5_:=mK (below_step (by repeat (first|(with_reducible first|exact HB.out|apply lA|apply lN|apply lD|refine lS ?_ GE286.out|refine lS ?_ GE287.out)|exact HB.out)) hb)
         clear HO_287000
         clear HO295
         clear BK286
         clear BK287
         clear HB
         have HO_287000:=n0_
         have HO295:=n1_
         have HO292:=n2_
         have BK286:=n3_
         have BK287:=n4_
         have HB:=n5_
         clear n0_ n1_ n2_ n3_ n4_ n5_
         (try clear hb)
         (try clear hb2)
         (try clear hk)
         (try clear hi)
         (try clear ho0)
         refine hK.out _ _ ⟨(blk_cell BK286.out 0).trans rfl,(blk_cell BK286.out 1).trans rfl⟩ (fun hHeld=>?_)
         clear hK K
         refine norm_ (a':=?_) ?_ ?_
         rotate_left
         ·show Act.put _ (some 28) _ = _
          simp only [Act.put,sT,sZ,sS,i64_w,i32_w]
          rfl
         exact norm_ (by simp only [putAll,Act.put,sT,sZ,sS]) (hCont (v291,v294) _ ⟨hHeld,(by (with_reducible repeat (first|apply Kd.S_alloc|apply Kd.S_drewN|apply Kd.S_drew));exact Kd.S_mono HO292.out (fun _ hk=>⟨hk.1.1,hk.2⟩)),(by (with_reducible repeat (first|apply rA|apply rN|apply rD));exact Kd.R_mono HO295.out (fun _ hk=>hk.1)),(by (with_reducible repeat (first|apply vA|apply vN|apply vD));exact Kd.V_mono HO_287000.out (fun _ hk=>⟨hk.1.1.1,⟨hk.2,⟨hk.1.2,⟨hk.1.1.2.1,hk.1.1.2.2⟩⟩⟩⟩)),(by (with_reducible repeat (first|apply bN|apply bD|apply bA));exact BK286.out),(by (with_reducible repeat (first|apply bN|apply bD|apply bA));exact BK287.out),(by repeat (first|(with_reducible first|exact HB.out|apply lA|apply lN|apply lD|refine lS ?_ GE286.out|refine lS ?_ GE287.out)|exact HB.out))⟩)
       rintro ⟨v291,v294⟩ w33 ⟨hS_,h0_,h1_,h2_,h3_,h4_,h5_⟩
       have n0_ : Aside0 (Kd.S (Kd.slice 5 (Kd.int .u8)) 25 w33 w.heap.size (fun k_=>(w.heap.size ≤ k_)∧some k_ ≠ (v294 : Value).ownBlock) v291 t290):=⟨h0_⟩
       have n1_ : Aside0 (Kd.R (Kd.int .u8) 5 w33 w.heap.size (fun k_=>(w.heap.size ≤ k_)) v294 y293):=⟨h1_⟩
       have n3_ : Aside0 (w33.heap[gb286]? = some (.cells #[.slice A0_0 l0_0.length c0_0,.int .i64 a0_1] 24 (0,0))):=⟨h3_⟩
       have n4_ : Aside0 (w33.heap[gb287]? = some (.cells #[.slice none 0 0,.int .i64 0] 24 (0,0))):=⟨h4_⟩
       have n5_ : Aside0 (Below w.heap.size w w33):=⟨h5_⟩
       clear BK286
       clear BK287
       clear HB
       clear h0_ h1_ h2_ h3_ h4_ h5_
       have HO292:=n0_
       have HO295:=n1_
       have BK286:=n3_
       have BK287:=n4_
       have HB:=n5_
       clear n0_ n1_ n3_ n4_ n5_
       have hHeld : w33.cell? ⟨gb286,0,none⟩ = some (.slice A0_0 l0_0.length c0_0)∧w33.cell? ⟨gb286,1,none⟩ = some (.int .i64 a0_1):=hS_
       refine norm_ (a':=?_) ?_ ?_
       rotate_left
       ·simp only [putAll,Act.put,sT,sZ,sS]
        rfl
       refine one_ (i:=5) (N:=some 31) #[τ,τ,τ,τ,τ,τ,φ,φ,τ,τ,φ,φ,φ] rfl rfl (one_of HT_.out (by kernel_rfl)) (by decide) (fun K hK=>?_)
       refine Kd.R_append_rows_step (Kd.int .u8) (w0:=w) w.heap.size (by rfl) (.tmp 29) (.tmp 30) 25 5 (.int .u8 0) 1 rfl Try.underlying25 info5 rfl (by decide) (by omega) v294 y293 l1 _ _ _ (fun k_=>(w.heap.size ≤ k_)) (fun _=>False) rfl rfl ?aO ?aR (fun _ _ h=>h) (fun _ h=>h.elim) ?aF ?aB ?aS ?aL ?_
       (case aR=>repeat (first|exact (Kd.C_below HR1.out HB.out)|(with_reducible refine Kd.C_alloc ?_ _)|(with_reducible refine Kd.C_drewN ?_ _)|(with_reducible refine Kd.C_drew ?_)))
       (case aB=>exact (by repeat (first|(with_reducible first|exact HB.out|apply lA|apply lN|apply lD|refine lS ?_ GE286.out|refine lS ?_ GE287.out)|exact HB.out)))
       (case aF=>exact (fun k_ hk=>(Nat.le_trans (below_size (by repeat (first|(with_reducible first|exact HB.out|apply lA|apply lN|apply lD|refine lS ?_ GE286.out|refine lS ?_ GE287.out)|exact HB.out))) hk)))
       (case aO=>exact (by (with_reducible repeat (first|apply rA|apply rN|apply rD));exact HO295.out))
       (case aS=>exact (below_size (by repeat (first|(with_reducible first|exact HB.out|apply lA|apply lN|apply lD|refine lS ?_ GE286.out|refine lS ?_ GE287.out)|exact HB.out))))
       (case aL=>have:=LMc25.out;omega)
       intro v297 w34 ho hb hg hat
       rw [← Ny296.out] at ho
       have n1_:=mK (blk_grown (g:=gb286) (o:=.cells #[.slice A0_0 l0_0.length c0_0,.int .i64 a0_1] 24 (0,0)) (by (with_reducible repeat (first|apply bN|apply bD|apply bA));exact BK286.out) hg (Kd.R_ne HO295.out BK286.out (by decide)))
       have n2_:=mK (blk_grown (g:=gb287) (o:=.cells #[.slice none 0 0,.int .i64 0] 24 (0,0)) (by (with_reducible repeat (first|apply bN|apply bD|apply bA));exact BK287.out) hg (Kd.R_ne HO295.out BK287.out (by decide)))
       have n3_:=mK (Kd.S_after (ok:=(fun k_=>(w.heap.size ≤ k_))) (by (with_reducible repeat (first|apply Kd.S_alloc|apply Kd.S_drewN|apply Kd.S_drew));exact HO292.out) hg hat)
       have n4_:=mK (hb)
       have n5_:=mK (ho)
       clear BK286
       clear BK287
       clear HO292
       clear HB
       clear HO295
       have BK286:=n1_
       have BK287:=n2_
       have HO292:=n3_
       have HB:=n4_
       have HO298:=n5_
       clear n1_ n2_ n3_ n4_ n5_
       clear ho hb hg hat
       obtain ⟨Ao36,co36,eo36⟩:=Kd.R_slice HO298.out
       (first|subst eo36|(injection eo36 with f1_ f2_ f3_;have f4_:=f1_.symm;have f5_:=f3_.symm;clear f1_ f2_ f3_;subst f4_;subst f5_))
       refine hK.out _ _ ⟨(blk_cell BK286.out 0).trans rfl,(blk_cell BK286.out 1).trans rfl⟩ (fun hHeld=>?_)
       clear hK K
       refine norm_ (a':=?_) ?_ ?_
       rotate_left
       ·show Act.put _ (some 31) _ = _
        simp only [Act.put,sT,sZ,sS,i64_w,i32_w]
        rfl
       refine one_ (i:=6) (N:=some 32) #[τ,τ,τ,τ,τ,τ,τ,φ,τ,τ,φ,φ,φ] rfl rfl (one_of HT_.out (by kernel_rfl)) (by decide) (fun K hK=>?_)
       refine value_ (w1:=?_) (v:=?_) (by rfl) rfl ?_ ?_
       rotate_left 2
       ·go_simp
        constructor
        ·rfl
        ·rfl
       refine hK.out _ _ ⟨(blk_cell (blk_alloc BK286.out _) 0).trans rfl,(blk_cell (blk_alloc BK286.out _) 1).trans rfl⟩ (fun hHeld=>?_)
       clear hK K
       refine norm_ (a':=?_) ?_ ?_
       rotate_left
       ·show Act.put _ (some 32) _ = _
        simp only [Act.put,sT,sZ,sS,i64_w,i32_w]
        rfl
       refine one_ (i:=7) (N:=some 33) #[τ,τ,τ,τ,τ,τ,τ,τ,τ,τ,φ,φ,φ] rfl rfl (one_of HT_.out (by kernel_rfl)) (by decide) (fun K hK=>?_)
       refine Kd.S_append_step (Kd.slice 5 (Kd.int .u8)) (w0:=w) w.heap.size (by rfl) (.tmp 28) (.tmp 32) 22 25 (.slice none 0 0) 24 rfl Try.underlying22 info25 rfl (by decide) (by omega) v291 t290 y296 [.slice Ao36 y296.length co36] (fun k_=>(w.heap.size ≤ k_)) (fun k_=>some k_ = (.slice Ao36 y296.length co36 : Value).ownBlock) rfl rfl ?aP (fun k_ hk_=>((Kd.R_mono (ok':= fun k_=>((fun k_=>(w.heap.size ≤ k_))) k_∧some k_ ≠ (v291 : Value).ownBlock) (Kd.R_apart' (HO298.out) (Kd.S_typed HO292.out) (by decide)) (fun k_ hk=>⟨hk.1,hk.2⟩))).1 k_ hk_.symm) ?aF ?aO ?aB ?aS ?aL ?_
       (case aP=>exact Kd.M_row (Kd.R_mono (Kd.R_tight rfl (Kd.R_mono (ok':= fun k_=>((fun k_=>(w.heap.size ≤ k_))) k_∧some k_ ≠ (v291 : Value).ownBlock) (Kd.R_apart' (HO298.out) (Kd.S_typed HO292.out) (by decide)) (fun k_ hk=>⟨hk.1,hk.2⟩))) (fun _ h_=>h_)))
       (case aB=>exact (by repeat (first|(with_reducible first|exact HB.out|apply lA|apply lN|apply lD|refine lS ?_ GE286.out|refine lS ?_ GE287.out)|exact HB.out)))
       (case aF=>exact (fun k_ hk=>(Nat.le_trans (below_size (by repeat (first|(with_reducible first|exact HB.out|apply lA|apply lN|apply lD|refine lS ?_ GE286.out|refine lS ?_ GE287.out)|exact HB.out))) hk)))
       (case aO=>exact (by (with_reducible repeat (first|apply Kd.S_alloc|apply Kd.S_drewN|apply Kd.S_drew));exact Kd.S_mono HO292.out (fun k_ hk=>⟨hk.1,fun e_=>hk.2 e_⟩)))
       (case aS=>exact (below_size (by repeat (first|(with_reducible first|exact HB.out|apply lA|apply lN|apply lD|refine lS ?_ GE286.out|refine lS ?_ GE287.out)|exact HB.out))))
       (case aL=>have:=LMc26.out;omega)
       intro v300 w35 ho hb hg hat
       rw [← Ny299.out] at ho
       have n1_:=mK (blk_grown (g:=gb286) (o:=.cells #[.slice A0_0 l0_0.length c0_0,.int .i64 a0_1] 24 (0,0)) (by (with_reducible repeat (first|apply bN|apply bD|apply bA));exact BK286.out) hg (Kd.S_ne HO292.out BK286.out (by decide)))
       have n2_:=mK (blk_grown (g:=gb287) (o:=.cells #[.slice none 0 0,.int .i64 0] 24 (0,0)) (by (with_reducible repeat (first|apply bN|apply bD|apply bA));exact BK287.out) hg (Kd.S_ne HO292.out BK287.out (by decide)))
       have n3_:=mK (hb)
       have n4_:=mK (ho)
       clear BK286
       clear BK287
       clear HB
       clear HO292
       clear HO298
       have BK286:=n1_
       have BK287:=n2_
       have HB:=n3_
       have HO301:=n4_
       clear n1_ n2_ n3_ n4_
       clear ho hb hg hat
       obtain ⟨Ao37,co37,eo37⟩:=Kd.S_slice HO301.out
       (first|subst eo37|(injection eo37 with f1_ f2_ f3_;have f4_:=f1_.symm;have f5_:=f3_.symm;clear f1_ f2_ f3_;subst f4_;subst f5_))
       refine hK.out _ _ ⟨(blk_cell BK286.out 0).trans rfl,(blk_cell BK286.out 1).trans rfl⟩ (fun hHeld=>?_)
       clear hK K
       refine norm_ (a':=?_) ?_ ?_
       rotate_left
       ·show Act.put _ (some 33) _ = _
        simp only [Act.put,sT,sZ,sS,i64_w,i32_w]
        rfl
       refine pure_ (i:=10) (N:=some 36) (v:=?_) (a':=?_) #[τ,τ,τ,τ,τ,τ,τ,τ,τ,τ,τ,φ,φ] rfl rfl (any_of HT_.out (by kernel_rfl)) (fun _ _ _ h=>h) (Or.inl ⟨by rfl,?_⟩) ?_ ?_
       rotate_left
       ·intro w'
        go_simp
        with_reducible rfl
       rotate_left
       ·simp only [Act.put,sT,sZ,sS,i64_w,i32_w]
        rfl
       refine one_ (i:=11) (N:=none) #[τ,τ,τ,τ,τ,τ,τ,τ,τ,τ,τ,τ,φ] rfl rfl (one_of HT_.out (by kernel_rfl)) (by decide) (fun K hK=>?_)
       have hs38 : w35.cell? ⟨gb287,0,none⟩ = some (.slice none 0 0):=(blk_cell BK287.out 0).trans rfl
       have hfs38:=blk_frozen BK287.out 0
       have hns38_0:=NB286_287.out
       have hms38_0:=NB287_286.out
       have hs39 : w35.cell? ⟨gb287,1,none⟩ = some (.int .i64 0):=(blk_cell BK287.out 1).trans rfl
       have hfs39:=blk_frozen BK287.out 1
       have hns39_0:=NB286_287.out
       have hms39_0:=NB287_286.out
       refine skip_ (w1:=?_) (by rfl) rfl ?_ ?_
       rotate_left
       ·go_simp
        rfl
       refine hK.out _ _ ⟨((cell_far (p:=⟨gb287,_,none⟩) NB286_287.out _).trans (((cell_far (p:=⟨gb287,_,none⟩) NB286_287.out _).trans (hHeld.1)))),((cell_far (p:=⟨gb287,_,none⟩) NB286_287.out _).trans (((cell_far (p:=⟨gb287,_,none⟩) NB286_287.out _).trans (hHeld.2))))⟩ (fun hHeld=>?_)
       clear hK K
       refine pure_ (i:=12) (N:=some 5) (v:=?_) (a':=?_) #[τ,τ,τ,τ,τ,τ,τ,τ,τ,τ,τ,τ,τ] rfl rfl (any_of HT_.out (by kernel_rfl)) (fun _ _ _ h=>h) (Or.inl ⟨by rfl,?_⟩) ?_ ?_
       rotate_left
       ·intro w'
        go_simp
        with_reducible rfl
       rotate_left
       ·simp only [Act.put,sT,sZ,sS,i64_w,i32_w]
        rfl
       refine done_ (done_of HT_.out (by kernel_rfl)) ?_
       try go_wp2
       refine bodyPost_ret (results_ct rfl _ _ gb287 24 #[.slice Ao37 y299.length co37,.int .i64 a0_1] (0,0) _ rfl (by (with_reducible repeat (first|apply bN|apply bD|apply bA));refine blk_put (cs:=#[.slice Ao37 y299.length co37,.int .i64 0]) ?_ 1 _ rfl;(with_reducible repeat (first|apply bN|apply bD|apply bA));refine blk_put (cs:=#[.slice none 0 0,.int .i64 0]) ?_ 0 _ rfl;(with_reducible repeat (first|apply bN|apply bD|apply bA));exact BK287.out) Try.underlying24 rfl (by kernel_rfl)) rfl ?_
       exact ⟨_,by first|rfl|(simp [errW_none,errW_some] <;> rfl)|(simp [*,errW_none,errW_some] <;> rfl),Kd.V_mono (Kd.S_V (by (with_reducible repeat (first|apply Kd.S_alloc|apply Kd.S_drewN|apply Kd.S_drew));exact (Kd.S_far (p:=⟨gb287,1,none⟩) (Kd.S_far (p:=⟨gb287,0,none⟩) (Kd.S_types HO301.out BK287.out (by decide)) (fun _ hk=>hk.2) (.slice Ao37 y299.length co37)) (fun _ hk=>hk.2) (.int .i64 a0_1)))) (fun k_ hk0=>by have hk:=hk0.1;first|exact ⟨(.inr (hk.1)),hk.2⟩|exact (.inr (hk))),by repeat (first|(with_reducible first|exact HB.out|apply lA|apply lN|apply lD|refine lS ?_ GE286.out|refine lS ?_ GE287.out)|exact HB.out)⟩
      ·rw [if_neg c26] at H
       exact absurd H (by simp)
     ·rw [if_neg c25] at H
      exact absurd H (by simp)

/-! ### drawbridgeref23_Pop: function 11 -/
def drawbridgeref23_Pop.f (k : Nat) (l0_0 : List (List Int)) (a0_1 : Int) : Option ((List (List Int)) × Int × List Int × Bool) := (drawbridgeref23_Check.f k l0_0 a0_1).bind fun t304 => (if t304 = true then (if (l0_0.length : Int) = 0 then (some (l0_0, a0_1, ([] : List Int), false)) else ((drawbridgeref23_own.f k l0_0).bind fun t305 => (if 1 ≤ (t305.length : Int) then (if 0 < (t305.length : Int) then (some ((t305.drop 1), a0_1, rd_L1 t305 0, true)) else (none)) else (none)))) else (some (l0_0, a0_1, ([] : List Int), false)))
theorem drawbridgeref23_Pop.mono : ∀ a0 a1 k, LeO (drawbridgeref23_Pop.f k a0 a1) (drawbridgeref23_Pop.f (k + 1) a0 a1) := by
 intro a0 a1 k
 unfold drawbridgeref23_Pop.f
 repeat' first
   | (with_reducible exact drawbridgeref23_Check.mono _ _ _)
   | (with_reducible exact drawbridgeref23_own.mono _ _)
   | (with_reducible exact LeO.refl _)
   | (with_reducible exact LeO.none _)
   | (with_reducible refine LeO.ite ?_ ?_)
   | (with_reducible refine LeO.bind ?_ (fun _ => ?_))
   | exact drawbridgeref23_Check.mono _ _ _
   | exact drawbridgeref23_own.mono _ _
   | exact LeO.none _
   | refine LeO.ite ?_ ?_
   | refine LeO.bind ?_ (fun _ => ?_)
/-- The first element's row and the others', apart. -/
theorem S_pop {α : Type} {d : Kd α} {e : Nat} {W : World} {base n cap : Nat} {ok : Nat → Prop} {ad : Addr} {xs : List α} (h : Kd.S d e W base ok (.slice (some ad) n cap) xs) (hp : 0 < xs.length) (z : α) :
  ∃ (oki : Nat → Prop) (c : List Value), c.length = d.sz ∧ d.M W base oki (xs.getD 0 z) c ∧ (∀ j u, c[j]? = some u → W.cell? (ad.add j) = some u) ∧ (∀ k, oki k → ok k) ∧
   Kd.F d W (fun k => ok k ∧ ¬ oki k) (if cap = 1 then some ad else (some ad).map (·.add (1 * d.sz))) (xs.drop 1).length (xs.drop 1) := by
 obtain ⟨g, rfl⟩ := Kd.R_head (Kd.S_R h)
 have hr := Kd.S_reads' h
 obtain ⟨oki, c, hcl, hM, hcc, hoki, hH⟩ := Kd.S_lend h z 0 (by omega) (by omega)
 refine ⟨oki, c, hcl, hM, fun j u hu => ?_, fun k hk => (hoki k hk).1, ?_⟩
 ·have := hcc j u hu
  simpa [Addr.add_lit] using this
 obtain ⟨_, f, hR⟩ := hH
 have hn : n = xs.zipIdx.length := by rw [List.length_zipIdx]; exact hr.1
 rw [hn] at hR
 have hF := Kd.F_cut (m := 1) (c := cap) (Kd.R_F hR) (by rw [List.length_zipIdx]; omega) (by rw [← hn]; exact hr.2.1)
 refine Kd.F_imp (n' := (xs.drop 1).length) hF (fun W' hC => ?_)
 obtain ⟨h1, h2, h3⟩ := hC
 refine ⟨rfl, by simpa [List.length_drop, List.length_zipIdx] using h2, fun hp' => ?_⟩
 obtain ⟨ad', e', hall⟩ := h3 (by simpa [List.length_drop, List.length_zipIdx] using hp')
 refine ⟨ad', e', fun j p hj => ?_⟩
 have hj2 : (xs.zipIdx.drop 1)[j]? = some (p, 1 + j) := by
  rw [List.getElem?_drop] at hj ⊢
  exact Kd.zip_at hj
 obtain ⟨cc, hc1, hK, hcells⟩ := hall j _ hj2
 exact ⟨cc, hc1, hK.2 (by show 1 + j ≠ 0; omega), hcells⟩
theorem S_pop_row {α : Type} {d : Kd α} {e' e : Nat} {W : World} {base base' n cap : Nat} {ok : Nat → Prop} {ad : Addr} {xs : List (List α)} (h : Kd.S (Kd.slice e' d) e W base ok (.slice (some ad) n cap) xs) (hp : 0 < xs.length) {A0 : Option Addr} {n0 c0 : Nat} (hc : W.cell? ad = some (.slice A0 n0 c0)) :
  Kd.R d e' W base ok (.slice A0 n0 c0) (xs.getD 0 []) ∧ Kd.V (Kd.slice e' d) e W base' (fun k => ok k ∧ some k ≠ (.slice A0 n0 c0 : Value).ownBlock) (.slice (if cap = 1 then some ad else (some ad : Option Addr).map (·.add (1 * 1))) (xs.drop 1).length (cap - 1)) (xs.drop 1) := by
 obtain ⟨oki, c, hcl, hM, hcc, hoki, hF⟩ := S_pop h hp []
 obtain ⟨v, rfl, hR⟩ := hM
 have h0 := hcc 0 v rfl
 rw [Addr.add_zero', hc] at h0
 obtain rfl := Option.some.inj h0
 refine ⟨Kd.R_mono hR hoki, _, _, rfl, ?_, ?_⟩
 ·have := (Kd.S_reads' h).2.1
  have := (Kd.S_reads' h).1
  simp only [List.length_drop]; omega
 ·exact Kd.F_mono hF (fun k hk => ⟨hk.1, fun he => hk.2 (hR.1 k he.symm)⟩)
def drawbridgeref23_Pop.T4 : Bool × List (List Nat × List Nat) := (true, [([], []), ([0], [0]), ([], []), ([2], [2]), ([1, 3], [1, 3]), ([], []), ([5], [5]), ([6], [6]), ([4, 0, 1, 2, 3, 4], [4]), ([7, 8, 0, 1, 2, 3, 4, 5, 6, 7, 8], [7]), ([9, 0, 1, 2, 3, 4, 5, 6, 7, 8, 9], [])])
def drawbridgeref23_Pop.B4 : List Nat := [0, 1, 0, 4, 15, 0, 32, 96, 31, 511, 1023]
theorem drawbridgeref23_Pop.tab4 : rtab .any (opsOf Try.f11 4) = drawbridgeref23_Pop.T4 := by kernel_rfl
theorem drawbridgeref23_Pop.bits4 : waitsOk drawbridgeref23_Pop.T4.2 drawbridgeref23_Pop.B4 = true := by kernel_rfl

set_option maxHeartbeats 8000000 in
set_option maxRecDepth 100000 in
theorem drawbridgeref23_Pop.calls (k : Nat) (P0_0_ : Nat → Prop) (A0_0 : Option Addr) (c0_0 : Nat) (l0_0 : List (List Int)) (a0_1 : Int) (r1 : List (List Int)) (r2 : Int) (r3 : List Int) (r4 : Bool) (w : World) (hs0_0 : Kd.V (Kd.slice 5 (Kd.int .u8)) 25 w w.heap.size (fun k_ => P0_0_ k_) (.slice A0_0 l0_0.length c0_0) l0_0) (h : drawbridgeref23_Pop.f k l0_0 a0_1 = some (r1, r2, r3, r4)) :
  Calls Try.prog 11 #[.agg #[.slice A0_0 l0_0.length c0_0, .int .i64 a0_1]] w fun e w' => ∃ v0_ v2_ : Value, e = .returned (.tuple #[.agg #[v0_, .int .i64 r2], v2_, .bool r4]) ∧ Kd.V (Kd.slice 5 (Kd.int .u8)) 25 w' w.heap.size (fun k_ => (P0_0_ k_ ∨ w.heap.size ≤ k_) ∧ some k_ ≠ (v2_ : Value).ownBlock) v0_ r1 ∧ Kd.R (Kd.int .u8) 5 w' w.heap.size (fun k_ => (w.heap.size ≤ k_)) v2_ r3 ∧ Below w.heap.size w w' := by
 have hu24:=Try.underlying24
 have HO0_0:=mK (show Kd.V (Kd.slice 5 (Kd.int .u8)) 25 w w.heap.size (fun k_=>(P0_0_ k_ ∨ w.heap.size ≤ k_)) (.slice A0_0 l0_0.length c0_0) l0_0 from Kd.V_mono hs0_0 (fun k_ hk=>.inl hk))
 have HB:=mK (Below.refl w.heap.size w)
 have H : ((drawbridgeref23_Check.f k l0_0 a0_1).bind fun t304=>(if t304 = true then (if (l0_0.length : Int) = 0 then (some (l0_0,a0_1,([] : List Int),false)) else ((drawbridgeref23_own.f k l0_0).bind fun t305=>(if 1 ≤ (t305.length : Int) then (if 0 < (t305.length : Int) then (some ((t305.drop 1),a0_1,rd_L1 t305 0,true)) else (none)) else (none)))) else (some (l0_0,a0_1,([] : List Int),false)))) = some (r1,r2,r3,r4):=h
 clear h
 replace H:=Option.bind_eq_some_iff.mp H
 obtain ⟨t304,A20,H⟩:=H
 replace H : (if t304 = true then (if (l0_0.length : Int) = 0 then (some (l0_0,a0_1,([] : List Int),false)) else ((drawbridgeref23_own.f k l0_0).bind fun t305=>(if 1 ≤ (t305.length : Int) then (if 0 < (t305.length : Int) then (some ((t305.drop 1),a0_1,rd_L1 t305 0,true)) else (none)) else (none)))) else (some (l0_0,a0_1,([] : List Int),false))) = some (r1,r2,r3,r4):=H
 have A2:=mK A20
 clear A20
 by_cases c3 : t304 = true
 ·subst c3
  have H1 : (if (l0_0.length : Int) = 0 then (some (l0_0,a0_1,([] : List Int),false)) else ((drawbridgeref23_own.f k l0_0).bind fun t305=>(if 1 ≤ (t305.length : Int) then (if 0 < (t305.length : Int) then (some ((t305.drop 1),a0_1,rd_L1 t305 0,true)) else (none)) else (none)))) = some (r1,r2,r3,r4):= by rw [if_pos rfl] at H;exact H
  clear H
  have H:=H1
  clear H1
  by_cases c4 : (l0_0.length : Int) = 0
  ·rw [if_pos c4] at H
   have c4b0 : ((l0_0.length : Int) == 0) = true:=beq_iff_eq.mpr c4
   have c4b1 : ((l0_0.length : Int) != 0) = false:=bne_eq_false_iff_eq.mpr c4
   clear c4
   simp only [Option.some.injEq,Prod.mk.injEq] at H
   obtain ⟨rfl,rfl,rfl,rfl⟩:=H
   go_enter Try.func11,Try.ntmps11
   go_wp2_with (first|((with_reducible refine gate_dst (N:=1) rfl ?_);(try (refine gate_guard (by rfl) ?_;dsimp only));refine box_event ?hg (N:=1) ?hd (cs:=#[.slice A0_0 l0_0.length c0_0,.int .i64 a0_1]) (t:=24) ?hr ?_;(case hd=>rfl);(case hg=>rfl);(case hr=>first|(go_simp;done)|(go_simp;rfl));intro gb302 hg w5 hbox hb;have n0_:=mK (Kd.V_below (Kd.V_elderB (by (with_reducible repeat (first|apply vA|apply vN|apply vD));exact HO0_0.out) gb302 (Nat.le_of_eq hg.symm)) hb);have n1_:=mK (below_step (by repeat (first|(with_reducible first|exact HB.out|apply lA|apply lN|apply lD)|exact HB.out)) hb);have n2_:=mK (hbox);have n4_:=mK ((by rw [hg];exact (below_size (by repeat (first|(with_reducible first|exact HB.out|apply lA|apply lN|apply lD)|exact HB.out))) : w.heap.size ≤ gb302));clear HO0_0;clear HB;have HO0_0:=n0_;have HB:=n1_;have BK302:=n2_;have GE302:=n4_;clear n0_ n1_ n2_ n4_;clear hb hbox hg)|((with_reducible refine gate_dst (N:=2) rfl ?_);(try (refine gate_guard (by rfl) ?_;dsimp only));refine box_event ?hg (N:=2) ?hd (cs:=#[.slice none 0 0,.int .i64 0]) (t:=24) ?hr ?_;(case hd=>rfl);(case hg=>rfl);(case hr=>first|(go_simp;done)|(go_simp;rfl));intro gb303 hg w6 hbox hb;have n0_:=mK (Kd.V_below (Kd.V_elderB (by (with_reducible repeat (first|apply vA|apply vN|apply vD));exact HO0_0.out) gb303 (Nat.le_of_eq hg.symm)) hb);have n1_:=mK (blk_below (g:=gb302) (o:=.cells #[.slice A0_0 l0_0.length c0_0,.int .i64 a0_1] 24 (0,0)) (by (with_reducible repeat (first|apply bN|apply bD|apply bA));exact BK302.out) hb);have n2_:=mK (below_step (by repeat (first|(with_reducible first|exact HB.out|apply lA|apply lN|apply lD|refine lS ?_ GE302.out)|exact HB.out)) hb);have n3_:=mK (hbox);have n5_:=mK ((by rw [hg];exact (below_size (by repeat (first|(with_reducible first|exact HB.out|apply lA|apply lN|apply lD|refine lS ?_ GE302.out)|exact HB.out))) : w.heap.size ≤ gb303));have n6_:=mK ((by rw [hg];exact Nat.ne_of_lt (blk_lt (g:=gb302) (o:=.cells #[.slice A0_0 l0_0.length c0_0,.int .i64 a0_1] 24 (0,0)) (by (with_reducible repeat (first|apply bN|apply bD|apply bA));exact BK302.out)) : gb302 ≠ gb303));have n7_:=mK ((by rw [hg];exact Nat.ne_of_gt (blk_lt (g:=gb302) (o:=.cells #[.slice A0_0 l0_0.length c0_0,.int .i64 a0_1] 24 (0,0)) (by (with_reducible repeat (first|apply bN|apply bD|apply bA));exact BK302.out)) : gb303 ≠ gb302));clear HO0_0;clear BK302;clear HB;have HO0_0:=n0_;have BK302:=n1_;have HB:=n2_;have BK303:=n3_;have GE303:=n5_;have NB302_303:=n6_;have NB303_302:=n7_;clear n0_ n1_ n2_ n3_ n5_ n6_ n7_;clear hb hbox hg;have hnb7:=NB302_303.out;have hnc7:=NB303_302.out;have hcz8_0 : w6.cell? ⟨gb302,0,none⟩ = some (.slice A0_0 l0_0.length c0_0):=(blk_cell BK302.out 0).trans rfl;have hcz8_1 : w6.cell? ⟨gb302,1,none⟩ = some (.int .i64 a0_1):=(blk_cell BK302.out 1).trans rfl;have hfz8_0:=blk_frozen BK302.out 0;have hfz8_1:=blk_frozen BK302.out 1)|((with_reducible refine gate_callee (f:=21) rfl ?_);refine goesL_ (some 7) rfl rfl Try.func21 (by kernel_rfl) rfl #[.agg #[.slice A0_0 l0_0.length c0_0,.int .i64 a0_1]] rfl (by (try simp only [List.map_toArray,List.map_cons,List.map_nil]);first|done|rfl|(simp only [List.length_drop,List.length_take];rfl)) ?_;(with_reducible refine (drawbridgeref23_Check.calls k _ _ l0_0 a0_1 true _ ?side1 ?side2 A2.out).mono ?_);(case side1=>repeat (first|exact (Kd.V_reads' HO0_0.out).2.2|(with_reducible refine Kd.C_alloc ?_ _)|(with_reducible refine Kd.C_drewN ?_ _)|(with_reducible refine Kd.C_drew ?_)));(case side2=>exact (Kd.V_reads' HO0_0.out).2.1);rintro e w9 ⟨rfl,hb⟩;refine ⟨_,rfl,?_⟩;have n0_:=mK (Kd.V_below (by (with_reducible repeat (first|apply vA|apply vN|apply vD));exact HO0_0.out) hb);have n1_:=mK (blk_below (g:=gb302) (o:=.cells #[.slice A0_0 l0_0.length c0_0,.int .i64 a0_1] 24 (0,0)) (by (with_reducible repeat (first|apply bN|apply bD|apply bA));exact BK302.out) hb);have n2_:=mK (blk_below (g:=gb303) (o:=.cells #[.slice none 0 0,.int .i64 0] 24 (0,0)) (by (with_reducible repeat (first|apply bN|apply bD|apply bA));exact BK303.out) hb);have n3_:=mK (below_step (by repeat (first|(with_reducible first|exact HB.out|apply lA|apply lN|apply lD|refine lS ?_ GE302.out|refine lS ?_ GE303.out)|exact HB.out)) hb);clear HO0_0;clear BK302;clear BK303;clear HB;have HO0_0:=n0_;have BK302:=n1_;have BK303:=n2_;have HB:=n3_;clear n0_ n1_ n2_ n3_;(try clear hb);(try clear hb2);(try clear hk);(try clear hi);have hcz10_0 : w9.cell? ⟨gb302,0,none⟩ = some (.slice A0_0 l0_0.length c0_0):=(blk_cell BK302.out 0).trans rfl;have hcz10_1 : w9.cell? ⟨gb302,1,none⟩ = some (.int .i64 a0_1):=(blk_cell BK302.out 1).trans rfl;have hfz10_0:=blk_frozen BK302.out 0;have hfz10_1:=blk_frozen BK302.out 1;have hcz11_0 : w9.cell? ⟨gb303,0,none⟩ = some (.slice none 0 0):=(blk_cell BK303.out 0).trans rfl;have hcz11_1 : w9.cell? ⟨gb303,1,none⟩ = some (.int .i64 0):=(blk_cell BK303.out 1).trans rfl;have hfz11_0:=blk_frozen BK303.out 0;have hfz11_1:=blk_frozen BK303.out 1))
   refine bodyPost_ret (results_ctt rfl _ _ gb303 24 #[.slice A0_0 l0_0.length c0_0,.int .i64 a0_1] (0,0) _ rfl (by (with_reducible repeat (first|apply bN|apply bD|apply bA));refine blk_put (cs:=#[.slice A0_0 l0_0.length c0_0,.int .i64 0]) ?_ 1 _ rfl;(with_reducible repeat (first|apply bN|apply bD|apply bA));refine blk_put (cs:=#[.slice none 0 0,.int .i64 0]) ?_ 0 _ rfl;(with_reducible repeat (first|apply bN|apply bD|apply bA));exact BK303.out) Try.underlying24 rfl (by kernel_rfl)) rfl ?_
   exact ⟨_,_,by first|rfl|(simp [errW_none,errW_some] <;> rfl)|(simp [*,errW_none,errW_some] <;> rfl),by (with_reducible repeat (first|apply vA|apply vN|apply vD));exact Kd.V_mono (Kd.V_far (p:=⟨gb303,1,none⟩) (Kd.V_far (p:=⟨gb303,0,none⟩) (Kd.V_mono HO0_0.out (fun k_ hk=>(⟨hk,hk.2⟩ : _∧k_ ≠ gb303))) (fun _ hk=>hk.2) (.slice A0_0 l0_0.length c0_0)) (fun _ hk=>hk.2) (.int .i64 a0_1)) (fun _ hk=>⟨hk.1.1.1,(by simp [Value.ownBlock])⟩),by first|exact Kd.R_nil _ _ _ _ _|exact Kd.N_nil _ _ _ _ _|exact Kd.V_nil _ _ _ _ _|exact Kd.Q_nil _ _ _ _ _|exact Kd.S_nil _ _ _ _ _,by repeat (first|(with_reducible first|exact HB.out|apply lA|apply lN|apply lD|refine lS ?_ GE302.out|refine lS ?_ GE303.out)|exact HB.out)⟩
  ·rw [if_neg c4] at H
   have c4b0 : ((l0_0.length : Int) == 0) = false:=beq_eq_false_iff_ne.mpr c4
   have c4b1 : ((l0_0.length : Int) != 0) = true:=bne_iff_ne.mpr c4
   have c4b2 : ¬ (l0_0 = []):= fun h_=>c4 (by rw [h_];rfl)
   replace H:=Option.bind_eq_some_iff.mp H
   obtain ⟨t305,A120,H⟩:=H
   replace H : (if 1 ≤ (t305.length : Int) then (if 0 < (t305.length : Int) then (some ((t305.drop 1),a0_1,rd_L1 t305 0,true)) else (none)) else (none)) = some (r1,r2,r3,r4):=H
   have A12:=mK A120
   clear A120
   by_cases c13 : 1 ≤ (t305.length : Int)
   ·rw [if_pos c13] at H
    have c13b0:=eq_true c13
    have c13b1 : decide (1 ≤ (t305.length : Int)) = true:=decide_eq_true c13
    clear c13
    obtain ⟨y308,hy308⟩ : ∃ y_ : List (List Int),y_ = (t305.drop 1):=⟨_,rfl⟩
    replace H : (if 0 < (t305.length : Int) then (some (y308,a0_1,rd_L1 t305 0,true)) else (none)) = some (r1,r2,r3,r4):= by first|(rw [hy308];with_reducible exact H)|(have H2_:=(Option.bind_some _ _).symm.trans H;rw [hy308];with_reducible exact H2_)|(have H2_:=(Option.bind_some _ _).symm.trans H;with_reducible exact H2_)|with_reducible exact H|(rw [hy308];exact H)|exact H
    have Ny308:=mK hy308
    clear hy308
    by_cases c14 : 0 < (t305.length : Int)
    ·rw [if_pos c14] at H
     have c14b0 : decide (0 < (t305.length : Int)) = true:=decide_eq_true c14
     have c14b1 : decide (0 < t305.length) = true:=decide_eq_true (by omega)
     clear c14
     simp only [Option.some.injEq,Prod.mk.injEq] at H
     obtain ⟨rfl,rfl,rfl,rfl⟩:=H
     go_enter Try.func11,Try.ntmps11
     try go_wp2_with (first|((with_reducible refine gate_dst (N:=1) rfl ?_);(try (refine gate_guard (by rfl) ?_;dsimp only));refine box_event ?hg (N:=1) ?hd (cs:=#[.slice A0_0 l0_0.length c0_0,.int .i64 a0_1]) (t:=24) ?hr ?_;(case hd=>rfl);(case hg=>rfl);(case hr=>first|(go_simp;done)|(go_simp;rfl));intro gb302 hg w15 hbox hb;have n0_:=mK (Kd.V_below (Kd.V_elderB (by (with_reducible repeat (first|apply vA|apply vN|apply vD));exact HO0_0.out) gb302 (Nat.le_of_eq hg.symm)) hb);have n1_:=mK (below_step (by repeat (first|(with_reducible first|exact HB.out|apply lA|apply lN|apply lD)|exact HB.out)) hb);have n2_:=mK (hbox);have n4_:=mK ((by rw [hg];exact (below_size (by repeat (first|(with_reducible first|exact HB.out|apply lA|apply lN|apply lD)|exact HB.out))) : w.heap.size ≤ gb302));clear HO0_0;clear HB;have HO0_0:=n0_;have HB:=n1_;have BK302:=n2_;have GE302:=n4_;clear n0_ n1_ n2_ n4_;clear hb hbox hg)|((with_reducible refine gate_dst (N:=2) rfl ?_);(try (refine gate_guard (by rfl) ?_;dsimp only));refine box_event ?hg (N:=2) ?hd (cs:=#[.slice none 0 0,.int .i64 0]) (t:=24) ?hr ?_;(case hd=>rfl);(case hg=>rfl);(case hr=>first|(go_simp;done)|(go_simp;rfl));intro gb303 hg w16 hbox hb;have n0_:=mK (Kd.V_below (Kd.V_elderB (by (with_reducible repeat (first|apply vA|apply vN|apply vD));exact HO0_0.out) gb303 (Nat.le_of_eq hg.symm)) hb);have n1_:=mK (blk_below (g:=gb302) (o:=.cells #[.slice A0_0 l0_0.length c0_0,.int .i64 a0_1] 24 (0,0)) (by (with_reducible repeat (first|apply bN|apply bD|apply bA));exact BK302.out) hb);have n2_:=mK (below_step (by repeat (first|(with_reducible first|exact HB.out|apply lA|apply lN|apply lD|refine lS ?_ GE302.out)|exact HB.out)) hb);have n3_:=mK (hbox);have n5_:=mK ((by rw [hg];exact (below_size (by repeat (first|(with_reducible first|exact HB.out|apply lA|apply lN|apply lD|refine lS ?_ GE302.out)|exact HB.out))) : w.heap.size ≤ gb303));have n6_:=mK ((by rw [hg];exact Nat.ne_of_lt (blk_lt (g:=gb302) (o:=.cells #[.slice A0_0 l0_0.length c0_0,.int .i64 a0_1] 24 (0,0)) (by (with_reducible repeat (first|apply bN|apply bD|apply bA));exact BK302.out)) : gb302 ≠ gb303));have n7_:=mK ((by rw [hg];exact Nat.ne_of_gt (blk_lt (g:=gb302) (o:=.cells #[.slice A0_0 l0_0.length c0_0,.int .i64 a0_1] 24 (0,0)) (by (with_reducible repeat (first|apply bN|apply bD|apply bA));exact BK302.out)) : gb303 ≠ gb302));clear HO0_0;clear BK302;clear HB;have HO0_0:=n0_;have BK302:=n1_;have HB:=n2_;have BK303:=n3_;have GE303:=n5_;have NB302_303:=n6_;have NB303_302:=n7_;clear n0_ n1_ n2_ n3_ n5_ n6_ n7_;clear hb hbox hg;have hnb17:=NB302_303.out;have hnc17:=NB303_302.out;have hcz18_0 : w16.cell? ⟨gb302,0,none⟩ = some (.slice A0_0 l0_0.length c0_0):=(blk_cell BK302.out 0).trans rfl;have hcz18_1 : w16.cell? ⟨gb302,1,none⟩ = some (.int .i64 a0_1):=(blk_cell BK302.out 1).trans rfl;have hfz18_0:=blk_frozen BK302.out 0;have hfz18_1:=blk_frozen BK302.out 1)|((with_reducible refine gate_callee (f:=21) rfl ?_);refine goesL_ (some 7) rfl rfl Try.func21 (by kernel_rfl) rfl #[.agg #[.slice A0_0 l0_0.length c0_0,.int .i64 a0_1]] rfl (by (try simp only [List.map_toArray,List.map_cons,List.map_nil]);first|done|rfl|(simp only [List.length_drop,List.length_take];rfl)) ?_;(with_reducible refine (drawbridgeref23_Check.calls k _ _ l0_0 a0_1 true _ ?side1 ?side2 A2.out).mono ?_);(case side1=>repeat (first|exact (Kd.V_reads' HO0_0.out).2.2|(with_reducible refine Kd.C_alloc ?_ _)|(with_reducible refine Kd.C_drewN ?_ _)|(with_reducible refine Kd.C_drew ?_)));(case side2=>exact (Kd.V_reads' HO0_0.out).2.1);rintro e w19 ⟨rfl,hb⟩;refine ⟨_,rfl,?_⟩;have n0_:=mK (Kd.V_below (by (with_reducible repeat (first|apply vA|apply vN|apply vD));exact HO0_0.out) hb);have n1_:=mK (blk_below (g:=gb302) (o:=.cells #[.slice A0_0 l0_0.length c0_0,.int .i64 a0_1] 24 (0,0)) (by (with_reducible repeat (first|apply bN|apply bD|apply bA));exact BK302.out) hb);have n2_:=mK (blk_below (g:=gb303) (o:=.cells #[.slice none 0 0,.int .i64 0] 24 (0,0)) (by (with_reducible repeat (first|apply bN|apply bD|apply bA));exact BK303.out) hb);have n3_:=mK (below_step (by repeat (first|(with_reducible first|exact HB.out|apply lA|apply lN|apply lD|refine lS ?_ GE302.out|refine lS ?_ GE303.out)|exact HB.out)) hb);clear HO0_0;clear BK302;clear BK303;clear HB;have HO0_0:=n0_;have BK302:=n1_;have BK303:=n2_;have HB:=n3_;clear n0_ n1_ n2_ n3_;(try clear hb);(try clear hb2);(try clear hk);(try clear hi);have hcz20_0 : w19.cell? ⟨gb302,0,none⟩ = some (.slice A0_0 l0_0.length c0_0):=(blk_cell BK302.out 0).trans rfl;have hcz20_1 : w19.cell? ⟨gb302,1,none⟩ = some (.int .i64 a0_1):=(blk_cell BK302.out 1).trans rfl;have hfz20_0:=blk_frozen BK302.out 0;have hfz20_1:=blk_frozen BK302.out 1)|((with_reducible refine gate_callee (f:=27) rfl ?_);refine goesL_ (some 18) rfl rfl Try.func27 (by kernel_rfl) rfl #[.slice A0_0 l0_0.length c0_0] rfl (by (try simp only [List.map_toArray,List.map_cons,List.map_nil]);first|done|rfl|(simp only [List.length_drop,List.length_take];rfl)) ?_;(with_reducible refine (drawbridgeref23_own.calls k _ _ l0_0 t305 _ ?side1 ?side2 A12.out).mono ?_);(case side1=>repeat (first|exact (Kd.V_reads' HO0_0.out).2.2|(with_reducible refine Kd.C_alloc ?_ _)|(with_reducible refine Kd.C_drewN ?_ _)|(with_reducible refine Kd.C_drew ?_)));(case side2=>exact (Kd.V_reads' HO0_0.out).2.1);rintro e w21 ⟨v306,rfl,ho0,hb⟩;refine ⟨_,rfl,?_⟩;have n0_:=mK (Kd.V_elder' (by (with_reducible repeat (first|apply vA|apply vN|apply vD));exact HO0_0.out) (Kd.S_base ho0) hb);have n1_:=mK (Kd.S_lower (Kd.S_newM (M:= fun k_=>(w.heap.size ≤ k_)) ho0 (below_size (by repeat (first|(with_reducible first|exact HB.out|apply lA|apply lN|apply lD|refine lS ?_ GE302.out|refine lS ?_ GE303.out)|exact HB.out))) (fun k_ h_=>h_)) (below_size (by repeat (first|(with_reducible first|exact HB.out|apply lA|apply lN|apply lD|refine lS ?_ GE302.out|refine lS ?_ GE303.out)|exact HB.out))));have n2_:=mK (blk_below (g:=gb302) (o:=.cells #[.slice A0_0 l0_0.length c0_0,.int .i64 a0_1] 24 (0,0)) (by (with_reducible repeat (first|apply bN|apply bD|apply bA));exact BK302.out) hb);have n3_:=mK (blk_below (g:=gb303) (o:=.cells #[.slice none 0 0,.int .i64 0] 24 (0,0)) (by (with_reducible repeat (first|apply bN|apply bD|apply bA));exact BK303.out) hb);have n4_:=mK (below_step (by repeat (first|(with_reducible first|exact HB.out|apply lA|apply lN|apply lD|refine lS ?_ GE302.out|refine lS ?_ GE303.out)|exact HB.out)) hb);clear HO0_0;clear BK302;clear BK303;clear HB;have HO0_0:=n0_;have HO307:=n1_;have BK302:=n2_;have BK303:=n3_;have HB:=n4_;clear n0_ n1_ n2_ n3_ n4_;(try clear hb);(try clear hb2);(try clear hk);(try clear hi);(try clear ho0)))
     have n0_:=mK (Kd.V_drew HO0_0.out)
     have n1_:=mK (Kd.S_drew HO307.out)
     have n2_:=mK (blk_drew BK302.out)
     have n3_:=mK (blk_drew BK303.out)
     have n4_:=mK (below_drew1 HB.out)
     clear HO0_0
     clear HO307
     clear BK302
     clear BK303
     clear HB
     have HO0_0:=n0_
     have HO307:=n1_
     have BK302:=n2_
     have BK303:=n3_
     have HB:=n4_
     clear n0_ n1_ n2_ n3_ n4_
     obtain ⟨Ao24,co24,eo24⟩:=Kd.S_slice HO307.out
     (first|subst eo24|(injection eo24 with f1_ f2_ f3_;have f4_:=f1_.symm;have f5_:=f3_.symm;clear f1_ f2_ f3_;subst f4_;subst f5_))
     have q23 : (1 : Int) ≤ ((t305.length : Int) : Int):=of_decide_eq_true (by first|(with_reducible assumption)|assumption)
     obtain ⟨i023,hi023,_,hsz23,_⟩:=info_parts info25
     have hroom23 : t305.length ≤ co24:=(Kd.S_reads' HO307.out).2.1
     have hC23 : Kd.C (Kd.slice 5 (Kd.int .u8)) _ Ao24 t305.length t305:=(Kd.S_reads' HO307.out).2.2
     have hcut23:=cut_from (P:=Try.prog) 22 25 .i64 Try.underlying22 hi023 1 hsz23 Ao24 t305.length co24 1 (by omega) q23
     have hr23:=Kd.C_drop (m:=(1 : Int).toNat) (c:=co24) hC23 (by omega) hroom23
     obtain ⟨A23,hA23⟩ : ∃ A1,A1 = (if co24 = (1 : Int).toNat then Ao24 else (Ao24 : Option Addr).map (·.add ((1 : Int).toNat * 1))):=⟨_,rfl⟩
     obtain ⟨c23,hc23⟩ : ∃ c1,c1 = co24 - (1 : Int).toNat:=⟨_,rfl⟩
     have hy23 : y308.length = t305.length - (1 : Int).toNat:=(by rw [Ny308.out,List.length_drop] <;> omega)
     rw [show (t305).drop (1 : Int).toNat = y308 from Ny308.out.symm] at hr23
     replace hr23 : Kd.C (Kd.slice 5 (Kd.int .u8)) _ A23 y308.length y308:=(by rw [hA23];exact hr23)
     rw [← hy23,← hA23,← hc23] at hcut23
     have HR311:=mK hr23
     have HC311:=mK (show y308.length ≤ c23 from by rw [hy23,hc23];exact Nat.sub_le_sub_right hroom23 _)
     clear hr23 hC23 hroom23 hi023 hsz23 hc23
     have KY23:=mK hy23
     have KA23:=mK hA23
     clear hy23 hA23
     have KL23:=mK (show 1 ≤ t305.length from by omega)
     replace q23:=eq_true q23
     have p312 : 0 ≤ (0 : Int):=(by omega)
     have q312 : 0 < (t305.length : Int):=of_decide_eq_true (by first|(with_reducible assumption)|assumption)
     obtain ⟨ad312,A312_0,c312_0,e312,hx312_0,hl312_0,hi312_0⟩:=at_L1 (Kd.S_reads' HO307.out).2.2 0 p312 q312
     cases e312
     obtain ⟨ce312,hce312,hMe312,hcc312⟩:=Kd.S_get HO307.out [] 0 p312 (by first|exact q312|exact of_decide_eq_true (by first|(with_reducible assumption)|assumption)|(have e_:=(Kd.S_reads' HO307.out).1;omega))
     obtain ⟨ve312_0,rfl,ge312_0⟩:=hMe312
     have hv312_0:=hcc312 0 _ rfl
     rw [Nat.add_zero,show ((Kd.slice 5 (Kd.int .u8))).sz = 1 from rfl,Nat.mul_one] at hv312_0
     replace hv312_0:=Option.some.inj (hv312_0.symm.trans hx312_0)
     rw [hv312_0] at ge312_0
     have HL312_0:=mK (show Kd.R (Kd.int .u8) 5 _ _ _ _ (rd_L1 t305 0) from ge312_0)
     have HPP:=S_pop_row (base':=w.heap.size) (Kd.S_types HO307.out BK303.out (by decide)) (by omega) hx312_0
     have HPR:=mK HPP.1
     have HPV:=mK HPP.2
     clear HPP
     clear hv312_0 ge312_0
     clear hcc312 hce312
     have qi312 : (0 < t305.length) = True:=eq_true (by omega)
     (try rw [show ((0 : Int)).toNat = 0 from rfl] at hx312_0)
     (try rw [Addr.add_zero'] at hx312_0)
     have HR312_0:=mK hi312_0
     have HC312_0:=mK hl312_0
     clear hi312_0 hl312_0
     replace p312:=eq_true p312
     replace q312:=eq_true q312
     refine start_ (n:=11) (S:= fun w'=>w'.cell? ⟨gb302,0,none⟩ = some (.slice A0_0 l0_0.length c0_0)∧w'.cell? ⟨gb302,1,none⟩ = some (.int .i64 a0_1)∧w'.cell? ad312 = some (.slice A312_0 (rd_L1 t305 0).length c312_0)) (ds:=[]) #[φ,φ,φ,φ,φ,φ,φ,φ,φ,φ,φ] (by kernel_rfl) rfl rfl ⟨(blk_cell BK302.out 0).trans rfl,(blk_cell BK302.out 1).trans rfl,hx312_0⟩ (fun hHeld=>?_);refine with_tabW drawbridgeref23_Pop.tab4 drawbridgeref23_Pop.bits4 (fun HT_ HW_=>?_)
     generalize w21.drew = w22 at HPR HPV HO0_0 HO307 BK302 BK303 HB HL312_0 HR311 HR312_0 hx312_0 hHeld ⊢
     refine pure_ (i:=0) (N:=some 19) (v:=?_) (a':=?_) #[τ,φ,φ,φ,φ,φ,φ,φ,φ,φ,φ] rfl rfl (any_of HT_.out (by kernel_rfl)) (fun _ _ _ h=>h) (Or.inl ⟨by rfl,?_⟩) ?_ ?_
     rotate_left
     ·intro w'
      go_simp
      with_reducible rfl
     rotate_left
     ·simp only [Act.put,sT,sZ,sS,i64_w,i32_w]
      rfl
     refine pure_ (i:=1) (N:=some 20) (v:=?_) (a':=?_) #[τ,τ,φ,φ,φ,φ,φ,φ,φ,φ,φ] rfl rfl (any_of HT_.out (by kernel_rfl)) (fun _ _ _ h=>h) (Or.inl ⟨by rfl,?_⟩) ?_ ?_
     rotate_left
     ·intro w'
      go_simp
      with_reducible rfl
     rotate_left
     ·simp only [Act.put,sT,sZ,sS,i64_w,i32_w]
      rfl
     refine pure_ (i:=2) (N:=some 21) (v:=?_) (a':=?_) #[τ,τ,τ,φ,φ,φ,φ,φ,φ,φ,φ] rfl rfl (any_of HT_.out (by kernel_rfl)) (fun _ _ _ h=>h) (Or.inl ⟨by rfl,?_⟩) ?_ ?_
     rotate_left
     ·intro w'
      go_simp
      with_reducible rfl
     rotate_left
     ·simp only [Act.put,sT,sZ,sS,i64_w,i32_w]
      rfl
     refine pure_ (i:=5) (N:=some 24) (v:=?_) (a':=?_) #[τ,τ,τ,φ,φ,τ,φ,φ,φ,φ,φ] rfl rfl (any_of HT_.out (by kernel_rfl)) (fun _ _ _ h=>h) (Or.inl ⟨by rfl,?_⟩) ?_ ?_
     rotate_left
     ·intro w'
      go_simp
      with_reducible rfl
     rotate_left
     ·simp only [Act.put,sT,sZ,sS,i64_w,i32_w]
      rfl
     refine pure_ (i:=6) (N:=some 25) (v:=?_) (a':=?_) #[τ,τ,τ,φ,φ,τ,τ,φ,φ,φ,φ] rfl rfl (any_of HT_.out (by kernel_rfl)) (fun _ _ _ h=>h) (Or.inl ⟨by rfl,?_⟩) ?_ ?_
     rotate_left
     ·intro w'
      go_simp
      with_reducible rfl
     rotate_left
     ·simp only [Act.put,sT,sZ,sS,i64_w,i32_w]
      rfl
     refine take_ (i:=3) (N:=some 22) (v:=?_) (a':=?_) #[τ,τ,τ,τ,φ,τ,τ,φ,φ,φ,φ] rfl rfl (take_ofW HT_.out HW_.out (by kernel_rfl)) (fun _ _ _ h=>h) (Or.inl ⟨by rfl,?_⟩) hHeld ?_ ?_
     rotate_left
     ·rintro w' ⟨s0,s1,s2⟩
      go_simp
      with_reducible rfl
     rotate_left
     ·simp only [Act.put,sT,sZ,sS,i64_w,i32_w]
      rfl
     refine pure_ (i:=4) (N:=some 23) (v:=?_) (a':=?_) #[τ,τ,τ,τ,τ,τ,τ,φ,φ,φ,φ] rfl rfl (any_of HT_.out (by kernel_rfl)) (fun _ _ _ h=>h) (Or.inl ⟨by rfl,?_⟩) ?_ ?_
     rotate_left
     ·intro w'
      go_simp
      with_reducible rfl
     rotate_left
     ·simp only [Act.put,sT,sZ,sS,i64_w,i32_w]
      rfl
     refine take_ (i:=7) (N:=some 26) (v:=?_) (a':=?_) #[τ,τ,τ,τ,τ,τ,τ,τ,φ,φ,φ] rfl rfl (take_ofW HT_.out HW_.out (by kernel_rfl)) (fun _ _ _ h=>h) (Or.inl ⟨by rfl,?_⟩) hHeld ?_ ?_
     rotate_left
     ·rintro w' ⟨s0,s1,s2⟩
      go_simp
      with_reducible rfl
     rotate_left
     ·simp only [Act.put,sT,sZ,sS,i64_w,i32_w]
      rfl
     refine one_ (i:=8) (N:=none) #[τ,τ,τ,τ,τ,τ,τ,τ,τ,φ,φ] rfl rfl (one_of HT_.out (by kernel_rfl)) (by decide) (fun K hK=>?_)
     have hs25 : w22.cell? ⟨gb303,0,none⟩ = some (.slice none 0 0):=(blk_cell BK303.out 0).trans rfl
     have hfs25:=blk_frozen BK303.out 0
     have hns25_0:=NB302_303.out
     have hms25_0:=NB303_302.out
     have hs26 : w22.cell? ⟨gb303,1,none⟩ = some (.int .i64 0):=(blk_cell BK303.out 1).trans rfl
     have hfs26:=blk_frozen BK303.out 1
     have hns26_0:=NB302_303.out
     have hms26_0:=NB303_302.out
     refine skip_ (w1:=?_) (by rfl) rfl ?_ ?_
     rotate_left
     ·go_simp
      rfl
     refine hK.out _ _ ⟨((cell_far (p:=⟨gb303,_,none⟩) NB302_303.out _).trans (((cell_far (p:=⟨gb303,_,none⟩) NB302_303.out _).trans (hHeld.1)))),((cell_far (p:=⟨gb303,_,none⟩) NB302_303.out _).trans (((cell_far (p:=⟨gb303,_,none⟩) NB302_303.out _).trans (hHeld.2.1)))),((cell_far (p:=⟨gb303,_,none⟩) (by first|exact Kd.own_blk (Kd.S_ne HO307.out BK303.out (by decide))|(rw [add_block];exact Kd.own_blk (Kd.S_ne HO307.out BK303.out (by decide)))|(show (Addr.add _ _).block ≠ _;rw [add_block];exact Kd.own_blk (Kd.S_ne HO307.out BK303.out (by decide)))|(dsimp only;exact Kd.own_blk (Kd.S_ne HO307.out BK303.out (by decide)))) _).trans (((cell_far (p:=⟨gb303,_,none⟩) (by first|exact Kd.own_blk (Kd.S_ne HO307.out BK303.out (by decide))|(rw [add_block];exact Kd.own_blk (Kd.S_ne HO307.out BK303.out (by decide)))|(show (Addr.add _ _).block ≠ _;rw [add_block];exact Kd.own_blk (Kd.S_ne HO307.out BK303.out (by decide)))|(dsimp only;exact Kd.own_blk (Kd.S_ne HO307.out BK303.out (by decide)))) _).trans (hHeld.2.2))))⟩ (fun hHeld=>?_)
     clear hK K
     refine pure_ (i:=9) (N:=some 3) (v:=?_) (a':=?_) #[τ,τ,τ,τ,τ,τ,τ,τ,τ,τ,φ] rfl rfl (any_of HT_.out (by kernel_rfl)) (fun _ _ _ h=>h) (Or.inl ⟨by rfl,?_⟩) ?_ ?_
     rotate_left
     ·intro w'
      go_simp
      with_reducible rfl
     rotate_left
     ·simp only [Act.put,sT,sZ,sS,i64_w,i32_w]
      rfl
     refine pure_ (i:=10) (N:=some 4) (v:=?_) (a':=?_) #[τ,τ,τ,τ,τ,τ,τ,τ,τ,τ,τ] rfl rfl (any_of HT_.out (by kernel_rfl)) (fun _ _ _ h=>h) (Or.inl ⟨by rfl,?_⟩) ?_ ?_
     rotate_left
     ·intro w'
      go_simp
      with_reducible rfl
     rotate_left
     ·simp only [Act.put,sT,sZ,sS,i64_w,i32_w]
      rfl
     refine done_ (done_of HT_.out (by kernel_rfl)) ?_
     try go_wp2
     refine bodyPost_ret (results_ctt rfl _ _ gb303 24 #[.slice A23 y308.length c23,.int .i64 a0_1] (0,0) _ rfl (by (with_reducible repeat (first|apply bN|apply bD|apply bA));refine blk_put (cs:=#[.slice A23 y308.length c23,.int .i64 0]) ?_ 1 _ rfl;(with_reducible repeat (first|apply bN|apply bD|apply bA));refine blk_put (cs:=#[.slice none 0 0,.int .i64 0]) ?_ 0 _ rfl;(with_reducible repeat (first|apply bN|apply bD|apply bA));exact BK303.out) Try.underlying24 rfl (by kernel_rfl)) rfl ?_
     refine ⟨_,_,by first|rfl|(simp [errW_none,errW_some] <;> rfl),?_,?_,?_⟩
     ·have HZ:=Kd.V_far (p:=⟨gb303,1,none⟩) (Kd.V_far (p:=⟨gb303,0,none⟩) HPV.out (fun _ hk=>hk.1.2) (.slice A23 y308.length c23)) (fun _ hk=>hk.1.2) (.int .i64 a0_1)
      obtain ⟨A_,c_,hv_,hl_,hF_⟩:=HZ
      injection hv_ with f1_ f2_ f3_
      have ey:=Ny308.out
      have eA : A23 = (if co24 = 1 then some ad312 else (some ad312 : Option Addr).map (·.add (1 * 1))):=KA23.out
      rw [← eA] at f1_
      subst f1_
      rw [← ey] at hF_
      exact Kd.V_mono (ok:=_) ⟨A23,c23,rfl,HC311.out,hF_⟩ (fun k hk=>⟨.inr hk.1.1.1,hk.2⟩)
     ·exact Kd.R_mono (Kd.R_far (p:=⟨gb303,1,none⟩) (Kd.R_far (p:=⟨gb303,0,none⟩) HPR.out (fun _ hk=>hk.2) (.slice A23 y308.length c23)) (fun _ hk=>hk.2) (.int .i64 a0_1)) (fun _ hk=>by have:=hk.1;first|exact this|exact this.1)
     ·refine lS ?_ GE303.out
      refine lS ?_ GE303.out
      exact HB.out
    ·rw [if_neg c14] at H
     exact absurd H (by simp)
   ·rw [if_neg c13] at H
    exact absurd H (by simp)
 ·replace c3:=Bool.eq_false_iff.mpr c3
  subst c3
  have H1 : (some (l0_0,a0_1,([] : List Int),false)) = some (r1,r2,r3,r4):= by rw [if_neg (show ¬ (false = true) by decide)] at H;exact H
  clear H
  have H:=H1
  clear H1
  simp only [Option.some.injEq,Prod.mk.injEq] at H
  obtain ⟨rfl,rfl,rfl,rfl⟩:=H
  go_enter Try.func11,Try.ntmps11
  go_wp2_with (first|((with_reducible refine gate_dst (N:=1) rfl ?_);(try (refine gate_guard (by rfl) ?_;dsimp only));refine box_event ?hg (N:=1) ?hd (cs:=#[.slice A0_0 l0_0.length c0_0,.int .i64 a0_1]) (t:=24) ?hr ?_;(case hd=>rfl);(case hg=>rfl);(case hr=>first|(go_simp;done)|(go_simp;rfl));intro gb302 hg w27 hbox hb;have n0_:=mK (Kd.V_below (Kd.V_elderB (by (with_reducible repeat (first|apply vA|apply vN|apply vD));exact HO0_0.out) gb302 (Nat.le_of_eq hg.symm)) hb);have n1_:=mK (below_step (by repeat (first|(with_reducible first|exact HB.out|apply lA|apply lN|apply lD)|exact HB.out)) hb);have n2_:=mK (hbox);have n4_:=mK ((by rw [hg];exact (below_size (by repeat (first|(with_reducible first|exact HB.out|apply lA|apply lN|apply lD)|exact HB.out))) : w.heap.size ≤ gb302));clear HO0_0;clear HB;have HO0_0:=n0_;have HB:=n1_;have BK302:=n2_;have GE302:=n4_;clear n0_ n1_ n2_ n4_;clear hb hbox hg)|((with_reducible refine gate_dst (N:=2) rfl ?_);(try (refine gate_guard (by rfl) ?_;dsimp only));refine box_event ?hg (N:=2) ?hd (cs:=#[.slice none 0 0,.int .i64 0]) (t:=24) ?hr ?_;(case hd=>rfl);(case hg=>rfl);(case hr=>first|(go_simp;done)|(go_simp;rfl));intro gb303 hg w28 hbox hb;have n0_:=mK (Kd.V_below (Kd.V_elderB (by (with_reducible repeat (first|apply vA|apply vN|apply vD));exact HO0_0.out) gb303 (Nat.le_of_eq hg.symm)) hb);have n1_:=mK (blk_below (g:=gb302) (o:=.cells #[.slice A0_0 l0_0.length c0_0,.int .i64 a0_1] 24 (0,0)) (by (with_reducible repeat (first|apply bN|apply bD|apply bA));exact BK302.out) hb);have n2_:=mK (below_step (by repeat (first|(with_reducible first|exact HB.out|apply lA|apply lN|apply lD|refine lS ?_ GE302.out)|exact HB.out)) hb);have n3_:=mK (hbox);have n5_:=mK ((by rw [hg];exact (below_size (by repeat (first|(with_reducible first|exact HB.out|apply lA|apply lN|apply lD|refine lS ?_ GE302.out)|exact HB.out))) : w.heap.size ≤ gb303));have n6_:=mK ((by rw [hg];exact Nat.ne_of_lt (blk_lt (g:=gb302) (o:=.cells #[.slice A0_0 l0_0.length c0_0,.int .i64 a0_1] 24 (0,0)) (by (with_reducible repeat (first|apply bN|apply bD|apply bA));exact BK302.out)) : gb302 ≠ gb303));have n7_:=mK ((by rw [hg];exact Nat.ne_of_gt (blk_lt (g:=gb302) (o:=.cells #[.slice A0_0 l0_0.length c0_0,.int .i64 a0_1] 24 (0,0)) (by (with_reducible repeat (first|apply bN|apply bD|apply bA));exact BK302.out)) : gb303 ≠ gb302));clear HO0_0;clear BK302;clear HB;have HO0_0:=n0_;have BK302:=n1_;have HB:=n2_;have BK303:=n3_;have GE303:=n5_;have NB302_303:=n6_;have NB303_302:=n7_;clear n0_ n1_ n2_ n3_ n5_ n6_ n7_;clear hb hbox hg;have hnb29:=NB302_303.out;have hnc29:=NB303_302.out;have hcz30_0 : w28.cell? ⟨gb302,0,none⟩ = some (.slice A0_0 l0_0.length c0_0):=(blk_cell BK302.out 0).trans rfl;have hcz30_1 : w28.cell? ⟨gb302,1,none⟩ = some (.int .i64 a0_1):=(blk_cell BK302.out 1).trans rfl;have hfz30_0:=blk_frozen BK302.out 0;have hfz30_1:=blk_frozen BK302.out 1)|((with_reducible refine gate_callee (f:=21) rfl ?_);refine goesL_ (some 7) rfl rfl Try.func21 (by kernel_rfl) rfl #[.agg #[.slice A0_0 l0_0.length c0_0,.int .i64 a0_1]] rfl (by (try simp only [List.map_toArray,List.map_cons,List.map_nil]);first|done|rfl|(simp only [List.length_drop,List.length_take];rfl)) ?_;(with_reducible refine (drawbridgeref23_Check.calls k _ _ l0_0 a0_1 false _ ?side1 ?side2 A2.out).mono ?_);(case side1=>repeat (first|exact (Kd.V_reads' HO0_0.out).2.2|(with_reducible refine Kd.C_alloc ?_ _)|(with_reducible refine Kd.C_drewN ?_ _)|(with_reducible refine Kd.C_drew ?_)));(case side2=>exact (Kd.V_reads' HO0_0.out).2.1);rintro e w31 ⟨rfl,hb⟩;refine ⟨_,rfl,?_⟩;have n0_:=mK (Kd.V_below (by (with_reducible repeat (first|apply vA|apply vN|apply vD));exact HO0_0.out) hb);have n1_:=mK (blk_below (g:=gb302) (o:=.cells #[.slice A0_0 l0_0.length c0_0,.int .i64 a0_1] 24 (0,0)) (by (with_reducible repeat (first|apply bN|apply bD|apply bA));exact BK302.out) hb);have n2_:=mK (blk_below (g:=gb303) (o:=.cells #[.slice none 0 0,.int .i64 0] 24 (0,0)) (by (with_reducible repeat (first|apply bN|apply bD|apply bA));exact BK303.out) hb);have n3_:=mK (below_step (by repeat (first|(with_reducible first|exact HB.out|apply lA|apply lN|apply lD|refine lS ?_ GE302.out|refine lS ?_ GE303.out)|exact HB.out)) hb);clear HO0_0;clear BK302;clear BK303;clear HB;have HO0_0:=n0_;have BK302:=n1_;have BK303:=n2_;have HB:=n3_;clear n0_ n1_ n2_ n3_;(try clear hb);(try clear hb2);(try clear hk);(try clear hi);have hcz32_0 : w31.cell? ⟨gb302,0,none⟩ = some (.slice A0_0 l0_0.length c0_0):=(blk_cell BK302.out 0).trans rfl;have hcz32_1 : w31.cell? ⟨gb302,1,none⟩ = some (.int .i64 a0_1):=(blk_cell BK302.out 1).trans rfl;have hfz32_0:=blk_frozen BK302.out 0;have hfz32_1:=blk_frozen BK302.out 1;have hcz33_0 : w31.cell? ⟨gb303,0,none⟩ = some (.slice none 0 0):=(blk_cell BK303.out 0).trans rfl;have hcz33_1 : w31.cell? ⟨gb303,1,none⟩ = some (.int .i64 0):=(blk_cell BK303.out 1).trans rfl;have hfz33_0:=blk_frozen BK303.out 0;have hfz33_1:=blk_frozen BK303.out 1))
  refine bodyPost_ret (results_ctt rfl _ _ gb303 24 #[.slice A0_0 l0_0.length c0_0,.int .i64 a0_1] (0,0) _ rfl (by (with_reducible repeat (first|apply bN|apply bD|apply bA));refine blk_put (cs:=#[.slice A0_0 l0_0.length c0_0,.int .i64 0]) ?_ 1 _ rfl;(with_reducible repeat (first|apply bN|apply bD|apply bA));refine blk_put (cs:=#[.slice none 0 0,.int .i64 0]) ?_ 0 _ rfl;(with_reducible repeat (first|apply bN|apply bD|apply bA));exact BK303.out) Try.underlying24 rfl (by kernel_rfl)) rfl ?_
  exact ⟨_,_,by first|rfl|(simp [errW_none,errW_some] <;> rfl)|(simp [*,errW_none,errW_some] <;> rfl),by (with_reducible repeat (first|apply vA|apply vN|apply vD));exact Kd.V_mono (Kd.V_far (p:=⟨gb303,1,none⟩) (Kd.V_far (p:=⟨gb303,0,none⟩) (Kd.V_mono HO0_0.out (fun k_ hk=>(⟨hk,hk.2⟩ : _∧k_ ≠ gb303))) (fun _ hk=>hk.2) (.slice A0_0 l0_0.length c0_0)) (fun _ hk=>hk.2) (.int .i64 a0_1)) (fun _ hk=>⟨hk.1.1.1,(by simp [Value.ownBlock])⟩),by first|exact Kd.R_nil _ _ _ _ _|exact Kd.N_nil _ _ _ _ _|exact Kd.V_nil _ _ _ _ _|exact Kd.Q_nil _ _ _ _ _|exact Kd.S_nil _ _ _ _ _,by repeat (first|(with_reducible first|exact HB.out|apply lA|apply lN|apply lD|refine lS ?_ GE302.out|refine lS ?_ GE303.out)|exact HB.out)⟩

end Go.Proofs.Ythfokiabneflpaa.P
