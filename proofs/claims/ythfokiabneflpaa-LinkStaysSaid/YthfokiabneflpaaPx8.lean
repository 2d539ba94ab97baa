/- Contracts of functions of the seat, written by a program of this session (with the kit's print) for the laws of this claim; no condition beside what each states. -/
import Derived.Test.YthfokiabneflpaaPx0
import Derived.Test.YthfokiabneflpaaPx6
namespace Go.Proofs.Ythfokiabneflpaa.P
open Go.Proofs.Ythfokiabneflpaa.Aux Go.RowKit Go.Proofs.YthfokiabneflpaaW.PrintWords Go.Proofs.YthfokiabneflpaaW.PrintLast Go.Proofs.YthfokiabneflpaaW.PrintMore
attribute [local go_sem] max2_int min2_int max_two min_two max_three min_three max_four min_four   -- for this text's walks alone
set_option linter.unusedVariables false
set_option linter.unusedSimpArgs false

/-! ### drawbridgeref23_Lists: function 22 -/
def drawbridgeref23_Lists.l0 : Nat → List (List Int) → List (List Int) → Int → Option (Bool)
 | 0, _, _, _ => none
 | k + 1, x0, x1, x5 => if x5 < (x0.length : Int) then (if 0 ≤ x5 then (if x5 < (x1.length : Int) then (if (strOfNums (rd_L1 x0 x5)).toList = (strOfNums (rd_L1 x1 x5)).toList then (drawbridgeref23_Lists.l0 k x0 x1 (wrap64 (x5 + 1))) else (some false)) else (none)) else (none)) else (some true)
def drawbridgeref23_Lists.f (k : Nat) (l0 : List (List Int)) (l1 : List (List Int)) : Option (Bool) := if (l0.length : Int) = (l1.length : Int) then (drawbridgeref23_Lists.l0 k l0 l1 0) else (some false)
theorem drawbridgeref23_Lists.mono_l : ∀ k, (∀ y0 y1 y2, LeO (drawbridgeref23_Lists.l0 k y0 y1 y2) (drawbridgeref23_Lists.l0 (k + 1) y0 y1 y2))
 | 0 => fun _ _ _ r h => by simp [drawbridgeref23_Lists.l0] at h
 | k + 1 => by
  have ih0 := drawbridgeref23_Lists.mono_l k
  ·intro y0 y1 y2
   unfold drawbridgeref23_Lists.l0
   repeat' first
   | (with_reducible exact ih0 _ _ _)
   | (with_reducible exact LeO.refl _)
   | (with_reducible exact LeO.none _)
   | (with_reducible refine LeO.ite ?_ ?_)
   | (with_reducible refine LeO.bind ?_ (fun _ => ?_))
   | exact ih0 _ _ _
   | exact LeO.none _
   | refine LeO.ite ?_ ?_
   | refine LeO.bind ?_ (fun _ => ?_)
theorem drawbridgeref23_Lists.mono : ∀ a0 a1 k, LeO (drawbridgeref23_Lists.f k a0 a1) (drawbridgeref23_Lists.f (k + 1) a0 a1) := by
 intro a0 a1 k
 have ih0 := drawbridgeref23_Lists.mono_l k
 unfold drawbridgeref23_Lists.f
 repeat' first
   | (with_reducible exact ih0 _ _ _)
   | (with_reducible exact LeO.refl _)
   | (with_reducible exact LeO.none _)
   | (with_reducible refine LeO.ite ?_ ?_)
   | (with_reducible refine LeO.bind ?_ (fun _ => ?_))
   | exact ih0 _ _ _
   | exact LeO.none _
   | refine LeO.ite ?_ ?_
   | refine LeO.bind ?_ (fun _ => ?_)
set_option maxHeartbeats 8000000 in
set_option maxRecDepth 100000 in
theorem drawbridgeref23_Lists.calls (k : Nat) (A0 : Option Addr) (c0 : Nat) (l0 : List (List Int)) (A1 : Option Addr) (c1 : Nat) (l1 : List (List Int)) (r : Bool) (w : World) (hr0 : Kd.C (Kd.slice 5 (Kd.int .u8)) w A0 l0.length l0) (hc0 : l0.length ≤ c0) (hr1 : Kd.C (Kd.slice 5 (Kd.int .u8)) w A1 l1.length l1) (hc1 : l1.length ≤ c1) (h : drawbridgeref23_Lists.f k l0 l1 = some r) :
  Calls Try.prog 22 #[.slice A0 l0.length c0, .slice A1 l1.length c1] w fun e w' => e = .returned (.bool r) ∧ Drawn0 w w' := by
 have HR0:=mK hr0
 have HC0:=mK hc0
 clear hr0 hc0
 have HR1:=mK hr1
 have HC1:=mK hc1
 clear hr1 hc1
 have H : (if (l0.length : Int) = (l1.length : Int) then (drawbridgeref23_Lists.l0 k l0 l1 0) else (some false)) = some r:=h
 clear h
 by_cases c3 : (l0.length : Int) = (l1.length : Int)
 ·rw [if_pos c3] at H
  have c3b0 : ((l0.length : Int) == (l1.length : Int)) = true:=beq_iff_eq.mpr c3
  have c3b1 : ((l0.length : Int) != (l1.length : Int)) = false:=bne_eq_false_iff_eq.mpr c3
  have c3b2 : (l0.length == l1.length) = true:= by first|simpa using c3|(simp at c3 ⊢; omega)
  clear c3
  have H':=mK H
  clear H
  go_enter Try.func22,Try.ntmps22
  go_wp2
  repeat (go_quiet (fail);try go_wp2)
  go_loopg [5] k (fun kq v5 w'=>∃ (x5_1 : Int),v5 = .int .i64 x5_1∧Aside0 (drawbridgeref23_Lists.l0 kq l0 l1 x5_1 = some r)∧Aside0 (kq ≤ k)∧Drawn0 w w')
  case atStart=>exact ⟨(0),(by first|rfl|(simp;done)|(simp [*];done)),H',⟨Nat.le_refl _⟩,by repeat (first|exact Drawn0.refl _|apply Drawn0.step)⟩
  case round =>
   clear H'
   try clear c1
   try clear c2
   try clear p2
   try clear c3
   try clear c3b0
   try clear c3b1
   try clear c3b2
   obtain ⟨x5_1,rfl,HA,HK1,⟨m1,rfl⟩⟩:=hrel
   cases gk with
   |zero=>exact absurd HA.out (by simp [drawbridgeref23_Lists.l0])
   |succ k1 =>
    have H:=HA.out
    clear HA
    simp only [drawbridgeref23_Lists.l0] at H
    by_cases c4 : x5_1 < (l0.length : Int)
    ·rw [if_pos c4] at H
     have c4b0 : decide (x5_1 < (l0.length : Int)) = true:=decide_eq_true c4
     clear c4
     by_cases c5 : 0 ≤ x5_1
     ·rw [if_pos c5] at H
      have c5b0 : decide (0 ≤ x5_1) = true:=decide_eq_true c5
      clear c5
      by_cases c6 : x5_1 < (l1.length : Int)
      ·rw [if_pos c6] at H
       have c6b0 : decide (x5_1 < (l1.length : Int)) = true:=decide_eq_true c6
       clear c6
       by_cases c7 : (strOfNums (rd_L1 l0 x5_1)).toList = (strOfNums (rd_L1 l1 x5_1)).toList
       ·rw [if_pos c7] at H
        have c7b0 : ((strOfNums (rd_L1 l0 x5_1)).toList == (strOfNums (rd_L1 l1 x5_1)).toList) = true:=beq_iff_eq.mpr c7
        have c7b1 : ((strOfNums (rd_L1 l0 x5_1)).toList != (strOfNums (rd_L1 l1 x5_1)).toList) = false:=bne_eq_false_iff_eq.mpr c7
        clear c7
        have H':=mK H
        clear H
        have p313 : 0 ≤ (x5_1 : Int):=of_decide_eq_true (by first|(with_reducible assumption)|assumption)
        have q313 : x5_1 < (l0.length : Int):=of_decide_eq_true (by first|(with_reducible assumption)|assumption)
        obtain ⟨ad313,A313_0,c313_0,e313,hx313_0,hl313_0,hi313_0⟩:=at_L1 HR0.out x5_1 p313 q313
        cases e313
        have HR313_0:=mK hi313_0
        have HC313_0:=mK hl313_0
        clear hi313_0 hl313_0
        replace p313:=eq_true p313
        replace q313:=eq_true q313
        have hcv8:=Kd.C_string (P:=Try.prog) (A:=A313_0) (c:=c313_0) Try.underlying25 Try.underlying5 Try.underlying9 HR313_0.out
        have hcv8q:= fun (n_ : Nat)=>Kd.C_string (P:=Try.prog) (A:=A313_0) (c:=c313_0) Try.underlying25 Try.underlying5 Try.underlying9 (Kd.C_drewN HR313_0.out n_)
        have p314 : 0 ≤ (x5_1 : Int):=of_decide_eq_true (by first|(with_reducible assumption)|assumption)
        have q314 : x5_1 < (l1.length : Int):=of_decide_eq_true (by first|(with_reducible assumption)|assumption)
        obtain ⟨ad314,A314_0,c314_0,e314,hx314_0,hl314_0,hi314_0⟩:=at_L1 HR1.out x5_1 p314 q314
        cases e314
        have HR314_0:=mK hi314_0
        have HC314_0:=mK hl314_0
        clear hi314_0 hl314_0
        replace p314:=eq_true p314
        replace q314:=eq_true q314
        have hcv9:=Kd.C_string (P:=Try.prog) (A:=A314_0) (c:=c314_0) Try.underlying25 Try.underlying5 Try.underlying9 HR314_0.out
        have hcv9q:= fun (n_ : Nat)=>Kd.C_string (P:=Try.prog) (A:=A314_0) (c:=c314_0) Try.underlying25 Try.underlying5 Try.underlying9 (Kd.C_drewN HR314_0.out n_)
        go_wp2
        repeat (go_quiet (fail);try go_wp2)
        go_roundg k1
        case measure=>have:=HK1.out;omega
        case rel=>exact ⟨(wrap64 (x5_1 + 1)),(by first|rfl|(simp;done)|(simp [*];done)),H',⟨by have:=HK1.out;omega⟩,by repeat (first|exact Drawn0.refl _|apply Drawn0.step)⟩
       ·rw [if_neg c7] at H
        have c7b0 : ((strOfNums (rd_L1 l0 x5_1)).toList == (strOfNums (rd_L1 l1 x5_1)).toList) = false:=beq_eq_false_iff_ne.mpr c7
        have c7b1 : ((strOfNums (rd_L1 l0 x5_1)).toList != (strOfNums (rd_L1 l1 x5_1)).toList) = true:=bne_iff_ne.mpr c7
        obtain rfl:=Option.some.inj H
        have p313 : 0 ≤ (x5_1 : Int):=of_decide_eq_true (by first|(with_reducible assumption)|assumption)
        have q313 : x5_1 < (l0.length : Int):=of_decide_eq_true (by first|(with_reducible assumption)|assumption)
        obtain ⟨ad313,A313_0,c313_0,e313,hx313_0,hl313_0,hi313_0⟩:=at_L1 HR0.out x5_1 p313 q313
        cases e313
        have HR313_0:=mK hi313_0
        have HC313_0:=mK hl313_0
        clear hi313_0 hl313_0
        replace p313:=eq_true p313
        replace q313:=eq_true q313
        have hcv10:=Kd.C_string (P:=Try.prog) (A:=A313_0) (c:=c313_0) Try.underlying25 Try.underlying5 Try.underlying9 HR313_0.out
        have hcv10q:= fun (n_ : Nat)=>Kd.C_string (P:=Try.prog) (A:=A313_0) (c:=c313_0) Try.underlying25 Try.underlying5 Try.underlying9 (Kd.C_drewN HR313_0.out n_)
        have p314 : 0 ≤ (x5_1 : Int):=of_decide_eq_true (by first|(with_reducible assumption)|assumption)
        have q314 : x5_1 < (l1.length : Int):=of_decide_eq_true (by first|(with_reducible assumption)|assumption)
        obtain ⟨ad314,A314_0,c314_0,e314,hx314_0,hl314_0,hi314_0⟩:=at_L1 HR1.out x5_1 p314 q314
        cases e314
        have HR314_0:=mK hi314_0
        have HC314_0:=mK hl314_0
        clear hi314_0 hl314_0
        replace p314:=eq_true p314
        replace q314:=eq_true q314
        have hcv11:=Kd.C_string (P:=Try.prog) (A:=A314_0) (c:=c314_0) Try.underlying25 Try.underlying5 Try.underlying9 HR314_0.out
        have hcv11q:= fun (n_ : Nat)=>Kd.C_string (P:=Try.prog) (A:=A314_0) (c:=c314_0) Try.underlying25 Try.underlying5 Try.underlying9 (Kd.C_drewN HR314_0.out n_)
        go_wp2
        repeat (go_quiet (fail);try go_wp2)
        go_ret
        exact ⟨by first|rfl|(simp;done)|(simp [*];done),by repeat (first|exact Drawn0.refl _|apply Drawn0.step)⟩
      ·rw [if_neg c6] at H
       exact absurd H (by simp)
     ·rw [if_neg c5] at H
      exact absurd H (by simp)
    ·rw [if_neg c4] at H
     have c4b0 : decide (x5_1 < (l0.length : Int)) = false:=decide_eq_false c4
     clear c4
     obtain rfl:=Option.some.inj H
     go_wp2
     repeat (go_quiet (fail);try go_wp2)
     go_ret
     exact ⟨by first|rfl|(simp;done)|(simp [*];done),by repeat (first|exact Drawn0.refl _|apply Drawn0.step)⟩
 ·rw [if_neg c3] at H
  have c3b0 : ((l0.length : Int) == (l1.length : Int)) = false:=beq_eq_false_iff_ne.mpr c3
  have c3b1 : ((l0.length : Int) != (l1.length : Int)) = true:=bne_iff_ne.mpr c3
  have c3b2 : (l0.length == l1.length) = false:= by first|simpa using c3|(simp at c3 ⊢; omega)
  obtain rfl:=Option.some.inj H
  go_enter Try.func22,Try.ntmps22
  go_wp2
  repeat (go_quiet (fail);try go_wp2)
  go_ret
  exact ⟨by first|rfl|(simp;done)|(simp [*];done),by repeat (first|exact Drawn0.refl _|apply Drawn0.step)⟩

/-! ### drawbridgeref23_Same: function 12 -/
def drawbridgeref23_Same.f (k : Nat) (l0_0 : List (List Int)) (a0_1 : Int) (l1_0 : List (List Int)) (a1_1 : Int) : Option (Bool) := (drawbridgeref23_Lists.f k l0_0 l1_0).bind fun t317 => (if t317 = true then (some (a0_1 == a1_1)) else (some false))
theorem drawbridgeref23_Same.mono : ∀ a0 a1 a2 a3 k, LeO (drawbridgeref23_Same.f k a0 a1 a2 a3) (drawbridgeref23_Same.f (k + 1) a0 a1 a2 a3) := by
 intro a0 a1 a2 a3 k
 unfold drawbridgeref23_Same.f
 repeat' first
   | (with_reducible exact drawbridgeref23_Lists.mono _ _ _)
   | (with_reducible exact LeO.refl _)
   | (with_reducible exact LeO.none _)
   | (with_reducible refine LeO.ite ?_ ?_)
   | (with_reducible refine LeO.bind ?_ (fun _ => ?_))
   | exact drawbridgeref23_Lists.mono _ _ _
   | exact LeO.none _
   | refine LeO.ite ?_ ?_
   | refine LeO.bind ?_ (fun _ => ?_)
set_option maxHeartbeats 8000000 in
set_option maxRecDepth 100000 in
theorem drawbridgeref23_Same.calls (k : Nat) (A0_0 : Option Addr) (c0_0 : Nat) (l0_0 : List (List Int)) (a0_1 : Int) (A1_0 : Option Addr) (c1_0 : Nat) (l1_0 : List (List Int)) (a1_1 : Int) (r : Bool) (w : World) (hr0_0 : Kd.C (Kd.slice 5 (Kd.int .u8)) w A0_0 l0_0.length l0_0) (hc0_0 : l0_0.length ≤ c0_0) (hr1_0 : Kd.C (Kd.slice 5 (Kd.int .u8)) w A1_0 l1_0.length l1_0) (hc1_0 : l1_0.length ≤ c1_0) (h : drawbridgeref23_Same.f k l0_0 a0_1 l1_0 a1_1 = some r) :
  Calls Try.prog 12 #[.agg #[.slice A0_0 l0_0.length c0_0, .int .i64 a0_1], .agg #[.slice A1_0 l1_0.length c1_0, .int .i64 a1_1]] w fun e w' => e = .returned (.bool r) ∧ Below w.heap.size w w' := by
 have hu24:=Try.underlying24
 have HR0_0:=mK hr0_0
 have HC0_0:=mK hc0_0
 clear hr0_0 hc0_0
 have HR1_0:=mK hr1_0
 have HC1_0:=mK hc1_0
 clear hr1_0 hc1_0
 have HB:=mK (Below.refl w.heap.size w)
 have H : ((drawbridgeref23_Lists.f k l0_0 l1_0).bind fun t317=>(if t317 = true then (some (a0_1 == a1_1)) else (some false))) = some r:=h
 clear h
 replace H:=Option.bind_eq_some_iff.mp H
 obtain ⟨t317,A30,H⟩:=H
 replace H : (if t317 = true then (some (a0_1 == a1_1)) else (some false)) = some r:=H
 have A3:=mK A30
 clear A30
 by_cases c4 : t317 = true
 ·subst c4
  have H1 : (some (a0_1 == a1_1)) = some r:= by rw [if_pos rfl] at H;exact H
  clear H
  have H:=H1
  clear H1
  obtain rfl:=Option.some.inj H
  go_enter Try.func12,Try.ntmps12
  go_wp2_with (first|((with_reducible refine gate_dst (N:=2) rfl ?_);refine box_event ?hg (N:=2) ?hd (cs:=#[.slice A0_0 l0_0.length c0_0,.int .i64 a0_1]) (t:=24) ?hr ?_;(case hd=>rfl);(case hg=>rfl);(case hr=>first|(go_simp;done)|(go_simp;rfl));intro gb315 hg w5 hbox hb;have n0_:=mK (below_step (by repeat (first|(with_reducible first|exact HB.out|apply lA|apply lN|apply lD)|exact HB.out)) hb);have n1_:=mK (hbox);have n3_:=mK ((by rw [hg];exact (below_size (by repeat (first|(with_reducible first|exact HB.out|apply lA|apply lN|apply lD)|exact HB.out))) : w.heap.size ≤ gb315));clear HB;have HB:=n0_;have BK315:=n1_;have GE315:=n3_;clear n0_ n1_ n3_;clear hb hbox hg)|((with_reducible refine gate_dst (N:=3) rfl ?_);refine box_event ?hg (N:=3) ?hd (cs:=#[.slice A1_0 l1_0.length c1_0,.int .i64 a1_1]) (t:=24) ?hr ?_;(case hd=>rfl);(case hg=>rfl);(case hr=>first|(go_simp;done)|(go_simp;rfl));intro gb316 hg w6 hbox hb;have n0_:=mK (blk_below (g:=gb315) (o:=.cells #[.slice A0_0 l0_0.length c0_0,.int .i64 a0_1] 24 (0,0)) (by (with_reducible repeat (first|apply bN|apply bD|apply bA));exact BK315.out) hb);have n1_:=mK (below_step (by repeat (first|(with_reducible first|exact HB.out|apply lA|apply lN|apply lD|refine lS ?_ GE315.out)|exact HB.out)) hb);have n2_:=mK (hbox);have n4_:=mK ((by rw [hg];exact (below_size (by repeat (first|(with_reducible first|exact HB.out|apply lA|apply lN|apply lD|refine lS ?_ GE315.out)|exact HB.out))) : w.heap.size ≤ gb316));have n5_:=mK ((by rw [hg];exact Nat.ne_of_lt (blk_lt (g:=gb315) (o:=.cells #[.slice A0_0 l0_0.length c0_0,.int .i64 a0_1] 24 (0,0)) (by (with_reducible repeat (first|apply bN|apply bD|apply bA));exact BK315.out)) : gb315 ≠ gb316));have n6_:=mK ((by rw [hg];exact Nat.ne_of_gt (blk_lt (g:=gb315) (o:=.cells #[.slice A0_0 l0_0.length c0_0,.int .i64 a0_1] 24 (0,0)) (by (with_reducible repeat (first|apply bN|apply bD|apply bA));exact BK315.out)) : gb316 ≠ gb315));clear BK315;clear HB;have BK315:=n0_;have HB:=n1_;have BK316:=n2_;have GE316:=n4_;have NB315_316:=n5_;have NB316_315:=n6_;clear n0_ n1_ n2_ n4_ n5_ n6_;clear hb hbox hg;have hnb7:=NB315_316.out;have hnc7:=NB316_315.out;have hcz8_0 : w6.cell? ⟨gb315,0,none⟩ = some (.slice A0_0 l0_0.length c0_0):=(blk_cell BK315.out 0).trans rfl;have hcz8_1 : w6.cell? ⟨gb315,1,none⟩ = some (.int .i64 a0_1):=(blk_cell BK315.out 1).trans rfl;have hfz8_0:=blk_frozen BK315.out 0;have hfz8_1:=blk_frozen BK315.out 1;have hcz9_0 : w6.cell? ⟨gb316,0,none⟩ = some (.slice A1_0 l1_0.length c1_0):=(blk_cell BK316.out 0).trans rfl;have hcz9_1 : w6.cell? ⟨gb316,1,none⟩ = some (.int .i64 a1_1):=(blk_cell BK316.out 1).trans rfl;have hfz9_0:=blk_frozen BK316.out 0;have hfz9_1:=blk_frozen BK316.out 1)|((with_reducible refine gate_callee (f:=22) rfl ?_);refine goesL_ (some 9) rfl rfl Try.func22 (by kernel_rfl) rfl #[.slice A0_0 l0_0.length c0_0,.slice A1_0 l1_0.length c1_0] rfl (by (try simp only [List.map_toArray,List.map_cons,List.map_nil]);first|done|rfl|(simp only [List.length_drop,List.length_take];rfl)) ?_;(with_reducible refine (drawbridgeref23_Lists.calls k _ _ l0_0 _ _ l1_0 true _ ?side1 ?side2 ?side3 ?side4 A3.out).mono ?_);(case side1=>repeat (first|exact (Kd.C_below HR0_0.out HB.out)|(with_reducible refine Kd.C_alloc ?_ _)|(with_reducible refine Kd.C_drewN ?_ _)|(with_reducible refine Kd.C_drew ?_)));(case side2=>exact HC0_0.out);(case side3=>repeat (first|exact (Kd.C_below HR1_0.out HB.out)|(with_reducible refine Kd.C_alloc ?_ _)|(with_reducible refine Kd.C_drewN ?_ _)|(with_reducible refine Kd.C_drew ?_)));(case side4=>exact HC1_0.out);rintro e w' ⟨rfl,⟨nd,rfl⟩⟩;refine ⟨_,rfl,?_⟩))
  go_ret
  exact ⟨by first|rfl|(simp [errW_none,errW_some] <;> rfl)|(simp [*,errW_none,errW_some] <;> rfl),by repeat (first|(with_reducible first|exact HB.out|apply lA|apply lN|apply lD|refine lS ?_ GE315.out|refine lS ?_ GE316.out)|exact HB.out)⟩
 ·replace c4:=Bool.eq_false_iff.mpr c4
  subst c4
  have H1 : (some false) = some r:= by rw [if_neg (show ¬ (false = true) by decide)] at H;exact H
  clear H
  have H:=H1
  clear H1
  obtain rfl:=Option.some.inj H
  go_enter Try.func12,Try.ntmps12
  go_wp2_with (first|((with_reducible refine gate_dst (N:=2) rfl ?_);refine box_event ?hg (N:=2) ?hd (cs:=#[.slice A0_0 l0_0.length c0_0,.int .i64 a0_1]) (t:=24) ?hr ?_;(case hd=>rfl);(case hg=>rfl);(case hr=>first|(go_simp;done)|(go_simp;rfl));intro gb315 hg w10 hbox hb;have n0_:=mK (below_step (by repeat (first|(with_reducible first|exact HB.out|apply lA|apply lN|apply lD)|exact HB.out)) hb);have n1_:=mK (hbox);have n3_:=mK ((by rw [hg];exact (below_size (by repeat (first|(with_reducible first|exact HB.out|apply lA|apply lN|apply lD)|exact HB.out))) : w.heap.size ≤ gb315));clear HB;have HB:=n0_;have BK315:=n1_;have GE315:=n3_;clear n0_ n1_ n3_;clear hb hbox hg)|((with_reducible refine gate_dst (N:=3) rfl ?_);refine box_event ?hg (N:=3) ?hd (cs:=#[.slice A1_0 l1_0.length c1_0,.int .i64 a1_1]) (t:=24) ?hr ?_;(case hd=>rfl);(case hg=>rfl);(case hr=>first|(go_simp;done)|(go_simp;rfl));intro gb316 hg w11 hbox hb;have n0_:=mK (blk_below (g:=gb315) (o:=.cells #[.slice A0_0 l0_0.length c0_0,.int .i64 a0_1] 24 (0,0)) (by (with_reducible repeat (first|apply bN|apply bD|apply bA));exact BK315.out) hb);have n1_:=mK (below_step (by repeat (first|(with_reducible first|exact HB.out|apply lA|apply lN|apply lD|refine lS ?_ GE315.out)|exact HB.out)) hb);have n2_:=mK (hbox);have n4_:=mK ((by rw [hg];exact (below_size (by repeat (first|(with_reducible first|exact HB.out|apply lA|apply lN|apply lD|refine lS ?_ GE315.out)|exact HB.out))) : w.heap.size ≤ gb316));have n5_:=mK ((by rw [hg];exact Nat.ne_of_lt (blk_lt (g:=gb315) (o:=.cells #[.slice A0_0 l0_0.length c0_0,.int .i64 a0_1] 24 (0,0)) (by (with_reducible repeat (first|apply bN|apply bD|apply bA));exact BK315.out)) : gb315 ≠ gb316));have n6_:=mK ((by rw [hg];exact Nat.ne_of_gt (blk_lt (g:=gb315) (o:=.cells #[.slice A0_0 l0_0.length c0_0,.int .i64 a0_1] 24 (0,0)) (by (with_reducible repeat (first|apply bN|apply bD|apply bA));exact BK315.out)) : gb316 ≠ gb315));clear BK315;clear HB;have BK315:=n0_;have HB:=n1_;have BK316:=n2_;have GE316:=n4_;have NB315_316:=n5_;have NB316_315:=n6_;clear n0_ n1_ n2_ n4_ n5_ n6_;clear hb hbox hg;have hnb12:=NB315_316.out;have hnc12:=NB316_315.out;have hcz13_0 : w11.cell? ⟨gb315,0,none⟩ = some (.slice A0_0 l0_0.length c0_0):=(blk_cell BK315.out 0).trans rfl;have hcz13_1 : w11.cell? ⟨gb315,1,none⟩ = some (.int .i64 a0_1):=(blk_cell BK315.out 1).trans rfl;have hfz13_0:=blk_frozen BK315.out 0;have hfz13_1:=blk_frozen BK315.out 1;have hcz14_0 : w11.cell? ⟨gb316,0,none⟩ = some (.slice A1_0 l1_0.length c1_0):=(blk_cell BK316.out 0).trans rfl;have hcz14_1 : w11.cell? ⟨gb316,1,none⟩ = some (.int .i64 a1_1):=(blk_cell BK316.out 1).trans rfl;have hfz14_0:=blk_frozen BK316.out 0;have hfz14_1:=blk_frozen BK316.out 1)|((with_reducible refine gate_callee (f:=22) rfl ?_);refine goesL_ (some 9) rfl rfl Try.func22 (by kernel_rfl) rfl #[.slice A0_0 l0_0.length c0_0,.slice A1_0 l1_0.length c1_0] rfl (by (try simp only [List.map_toArray,List.map_cons,List.map_nil]);first|done|rfl|(simp only [List.length_drop,List.length_take];rfl)) ?_;(with_reducible refine (drawbridgeref23_Lists.calls k _ _ l0_0 _ _ l1_0 false _ ?side1 ?side2 ?side3 ?side4 A3.out).mono ?_);(case side1=>repeat (first|exact (Kd.C_below HR0_0.out HB.out)|(with_reducible refine Kd.C_alloc ?_ _)|(with_reducible refine Kd.C_drewN ?_ _)|(with_reducible refine Kd.C_drew ?_)));(case side2=>exact HC0_0.out);(case side3=>repeat (first|exact (Kd.C_below HR1_0.out HB.out)|(with_reducible refine Kd.C_alloc ?_ _)|(with_reducible refine Kd.C_drewN ?_ _)|(with_reducible refine Kd.C_drew ?_)));(case side4=>exact HC1_0.out);rintro e w' ⟨rfl,⟨nd,rfl⟩⟩;refine ⟨_,rfl,?_⟩))
  go_ret
  exact ⟨by first|rfl|(simp [errW_none,errW_some] <;> rfl)|(simp [*,errW_none,errW_some] <;> rfl),by repeat (first|(with_reducible first|exact HB.out|apply lA|apply lN|apply lD|refine lS ?_ GE315.out|refine lS ?_ GE316.out)|exact HB.out)⟩

/-! ### drawbridgeref01_Same: function 13 -/
def drawbridgeref01_Same.f (l0 : List Int) (l1 : List Int) : Option (Bool) := some ((strOfNums l0).toList == (strOfNums l1).toList)
set_option maxHeartbeats 8000000 in
set_option maxRecDepth 100000 in
theorem drawbridgeref01_Same.calls (A0 : Option Addr) (c0 : Nat) (l0 : List Int) (A1 : Option Addr) (c1 : Nat) (l1 : List Int) (r : Bool) (w : World) (hr0 : Kd.C (Kd.int .u8) w A0 l0.length l0) (hc0 : l0.length ≤ c0) (hr1 : Kd.C (Kd.int .u8) w A1 l1.length l1) (hc1 : l1.length ≤ c1) (h : drawbridgeref01_Same.f l0 l1 = some r) :
  Calls Try.prog 13 #[.slice A0 l0.length c0, .slice A1 l1.length c1] w fun e w' => e = .returned (.bool r) ∧ Drawn0 w w' := by
 have HR0:=mK hr0
 have HC0:=mK hc0
 clear hr0 hc0
 have HR1:=mK hr1
 have HC1:=mK hc1
 clear hr1 hc1
 have H : (some ((strOfNums l0).toList == (strOfNums l1).toList)) = some r:=h
 clear h
 obtain rfl:=Option.some.inj H
 have hcv3:=Kd.C_string (P:=Try.prog) (A:=A0) (c:=c0) Try.underlying25 Try.underlying5 Try.underlying9 HR0.out
 have hcv3q:= fun (n_ : Nat)=>Kd.C_string (P:=Try.prog) (A:=A0) (c:=c0) Try.underlying25 Try.underlying5 Try.underlying9 (Kd.C_drewN HR0.out n_)
 have hcv4:=Kd.C_string (P:=Try.prog) (A:=A1) (c:=c1) Try.underlying25 Try.underlying5 Try.underlying9 HR1.out
 have hcv4q:= fun (n_ : Nat)=>Kd.C_string (P:=Try.prog) (A:=A1) (c:=c1) Try.underlying25 Try.underlying5 Try.underlying9 (Kd.C_drewN HR1.out n_)
 go_enter Try.func13,Try.ntmps13
 go_wp2
 go_ret
 exact ⟨by first|rfl|(simp;done)|(simp [*];done),by repeat (first|exact Drawn0.refl _|apply Drawn0.step)⟩

/-! ### drawbridgeref23_has: function 31 -/
def drawbridgeref23_has.f (k : Nat) (l0_0 : List (List Int)) (a0_1 : Int) (a1 : Int) : Option (Bool) := (drawbridgeref23_Check.f k l0_0 a0_1).bind fun t319 => (if t319 = true then (if a1 ≥ 0 then (some (decide (a1 < (l0_0.length : Int)))) else (some false)) else (some false))
theorem drawbridgeref23_has.mono : ∀ a0 a1 a2 k, LeO (drawbridgeref23_has.f k a0 a1 a2) (drawbridgeref23_has.f (k + 1) a0 a1 a2) := by
 intro a0 a1 a2 k
 unfold drawbridgeref23_has.f
 repeat' first
   | (with_reducible exact drawbridgeref23_Check.mono _ _ _)
   | (with_reducible exact LeO.refl _)
   | (with_reducible exact LeO.none _)
   | (with_reducible refine LeO.ite ?_ ?_)
   | (with_reducible refine LeO.bind ?_ (fun _ => ?_))
   | exact drawbridgeref23_Check.mono _ _ _
   | exact LeO.none _
   | refine LeO.ite ?_ ?_
   | refine LeO.bind ?_ (fun _ => ?_)
set_option maxHeartbeats 8000000 in
set_option maxRecDepth 100000 in
theorem drawbridgeref23_has.calls (k : Nat) (A0_0 : Option Addr) (c0_0 : Nat) (l0_0 : List (List Int)) (a0_1 : Int) (a1 : Int) (r : Bool) (w : World) (hr0_0 : Kd.C (Kd.slice 5 (Kd.int .u8)) w A0_0 l0_0.length l0_0) (hc0_0 : l0_0.length ≤ c0_0) (h : drawbridgeref23_has.f k l0_0 a0_1 a1 = some r) :
  Calls Try.prog 31 #[.agg #[.slice A0_0 l0_0.length c0_0, .int .i64 a0_1], .int .i64 a1] w fun e w' => e = .returned (.bool r) ∧ Below w.heap.size w w' := by
 have hu24:=Try.underlying24
 have HR0_0:=mK hr0_0
 have HC0_0:=mK hc0_0
 clear hr0_0 hc0_0
 have HB:=mK (Below.refl w.heap.size w)
 have H : ((drawbridgeref23_Check.f k l0_0 a0_1).bind fun t319=>(if t319 = true then (if a1 ≥ 0 then (some (decide (a1 < (l0_0.length : Int)))) else (some false)) else (some false))) = some r:=h
 clear h
 replace H:=Option.bind_eq_some_iff.mp H
 obtain ⟨t319,A30,H⟩:=H
 replace H : (if t319 = true then (if a1 ≥ 0 then (some (decide (a1 < (l0_0.length : Int)))) else (some false)) else (some false)) = some r:=H
 have A3:=mK A30
 clear A30
 by_cases c4 : t319 = true
 ·subst c4
  have H1 : (if a1 ≥ 0 then (some (decide (a1 < (l0_0.length : Int)))) else (some false)) = some r:= by rw [if_pos rfl] at H;exact H
  clear H
  have H:=H1
  clear H1
  by_cases c5 : a1 ≥ 0
  ·rw [if_pos c5] at H
   have c5b0 : decide (0 ≤ a1) = true:=decide_eq_true c5
   clear c5
   obtain rfl:=Option.some.inj H
   go_enter Try.func31,Try.ntmps31
   go_wp2_with (first|((with_reducible refine gate_dst (N:=2) rfl ?_);(try (refine gate_guard (by rfl) ?_;dsimp only));refine box_event ?hg (N:=2) ?hd (cs:=#[.slice A0_0 l0_0.length c0_0,.int .i64 a0_1]) (t:=24) ?hr ?_;(case hd=>rfl);(case hg=>rfl);(case hr=>first|(go_simp;done)|(go_simp;rfl));intro gb318 hg w6 hbox hb;have n0_:=mK (below_step (by repeat (first|(with_reducible first|exact HB.out|apply lA|apply lN|apply lD)|exact HB.out)) hb);have n1_:=mK (hbox);have n3_:=mK ((by rw [hg];exact (below_size (by repeat (first|(with_reducible first|exact HB.out|apply lA|apply lN|apply lD)|exact HB.out))) : w.heap.size ≤ gb318));clear HB;have HB:=n0_;have BK318:=n1_;have GE318:=n3_;clear n0_ n1_ n3_;clear hb hbox hg;have hcz7_0 : w6.cell? ⟨gb318,0,none⟩ = some (.slice A0_0 l0_0.length c0_0):=(blk_cell BK318.out 0).trans rfl;have hcz7_1 : w6.cell? ⟨gb318,1,none⟩ = some (.int .i64 a0_1):=(blk_cell BK318.out 1).trans rfl;have hfz7_0:=blk_frozen BK318.out 0;have hfz7_1:=blk_frozen BK318.out 1)|((with_reducible refine gate_callee (f:=21) rfl ?_);refine goesL_ (some 6) rfl rfl Try.func21 (by kernel_rfl) rfl #[.agg #[.slice A0_0 l0_0.length c0_0,.int .i64 a0_1]] rfl (by (try simp only [List.map_toArray,List.map_cons,List.map_nil]);first|done|rfl|(simp only [List.length_drop,List.length_take];rfl)) ?_;(with_reducible refine (drawbridgeref23_Check.calls k _ _ l0_0 a0_1 true _ ?side1 ?side2 A3.out).mono ?_);(case side1=>repeat (first|exact (Kd.C_below HR0_0.out HB.out)|(with_reducible refine Kd.C_alloc ?_ _)|(with_reducible refine Kd.C_drewN ?_ _)|(with_reducible refine Kd.C_drew ?_)));(case side2=>exact HC0_0.out);rintro e w8 ⟨rfl,hb⟩;refine ⟨_,rfl,?_⟩;have n0_:=mK (blk_below (g:=gb318) (o:=.cells #[.slice A0_0 l0_0.length c0_0,.int .i64 a0_1] 24 (0,0)) (by (with_reducible repeat (first|apply bN|apply bD|apply bA));exact BK318.out) hb);have n1_:=mK (below_step (by repeat (first|(with_reducible first|exact HB.out|apply lA|apply lN|apply lD|refine lS ?_ GE318.out)|exact HB.out)) hb);clear BK318;clear HB;have BK318:=n0_;have HB:=n1_;clear n0_ n1_;(try clear hb);(try clear hb2);(try clear hk);(try clear hi);have hcz9_0 : w8.cell? ⟨gb318,0,none⟩ = some (.slice A0_0 l0_0.length c0_0):=(blk_cell BK318.out 0).trans rfl;have hcz9_1 : w8.cell? ⟨gb318,1,none⟩ = some (.int .i64 a0_1):=(blk_cell BK318.out 1).trans rfl;have hfz9_0:=blk_frozen BK318.out 0;have hfz9_1:=blk_frozen BK318.out 1))
   go_ret
   exact ⟨by first|rfl|(simp [errW_none,errW_some] <;> rfl)|(simp [*,errW_none,errW_some] <;> rfl),by repeat (first|(with_reducible first|exact HB.out|apply lA|apply lN|apply lD|refine lS ?_ GE318.out)|exact HB.out)⟩
  ·rw [if_neg c5] at H
   have c5b0 : decide (0 ≤ a1) = false:=decide_eq_false c5
   clear c5
   obtain rfl:=Option.some.inj H
   go_enter Try.func31,Try.ntmps31
   go_wp2_with (first|((with_reducible refine gate_dst (N:=2) rfl ?_);(try (refine gate_guard (by rfl) ?_;dsimp only));refine box_event ?hg (N:=2) ?hd (cs:=#[.slice A0_0 l0_0.length c0_0,.int .i64 a0_1]) (t:=24) ?hr ?_;(case hd=>rfl);(case hg=>rfl);(case hr=>first|(go_simp;done)|(go_simp;rfl));intro gb318 hg w10 hbox hb;have n0_:=mK (below_step (by repeat (first|(with_reducible first|exact HB.out|apply lA|apply lN|apply lD)|exact HB.out)) hb);have n1_:=mK (hbox);have n3_:=mK ((by rw [hg];exact (below_size (by repeat (first|(with_reducible first|exact HB.out|apply lA|apply lN|apply lD)|exact HB.out))) : w.heap.size ≤ gb318));clear HB;have HB:=n0_;have BK318:=n1_;have GE318:=n3_;clear n0_ n1_ n3_;clear hb hbox hg;have hcz11_0 : w10.cell? ⟨gb318,0,none⟩ = some (.slice A0_0 l0_0.length c0_0):=(blk_cell BK318.out 0).trans rfl;have hcz11_1 : w10.cell? ⟨gb318,1,none⟩ = some (.int .i64 a0_1):=(blk_cell BK318.out 1).trans rfl;have hfz11_0:=blk_frozen BK318.out 0;have hfz11_1:=blk_frozen BK318.out 1)|((with_reducible refine gate_callee (f:=21) rfl ?_);refine goesL_ (some 6) rfl rfl Try.func21 (by kernel_rfl) rfl #[.agg #[.slice A0_0 l0_0.length c0_0,.int .i64 a0_1]] rfl (by (try simp only [List.map_toArray,List.map_cons,List.map_nil]);first|done|rfl|(simp only [List.length_drop,List.length_take];rfl)) ?_;(with_reducible refine (drawbridgeref23_Check.calls k _ _ l0_0 a0_1 true _ ?side1 ?side2 A3.out).mono ?_);(case side1=>repeat (first|exact (Kd.C_below HR0_0.out HB.out)|(with_reducible refine Kd.C_alloc ?_ _)|(with_reducible refine Kd.C_drewN ?_ _)|(with_reducible refine Kd.C_drew ?_)));(case side2=>exact HC0_0.out);rintro e w12 ⟨rfl,hb⟩;refine ⟨_,rfl,?_⟩;have n1_:=mK (below_step (by repeat (first|(with_reducible first|exact HB.out|apply lA|apply lN|apply lD|refine lS ?_ GE318.out)|exact HB.out)) hb);clear HB;have HB:=n1_;clear n1_;(try clear hb);(try clear hb2);(try clear hk);(try clear hi)))
   go_ret
   exact ⟨by first|rfl|(simp [errW_none,errW_some] <;> rfl)|(simp [*,errW_none,errW_some] <;> rfl),by repeat (first|(with_reducible first|exact HB.out|apply lA|apply lN|apply lD|refine lS ?_ GE318.out)|exact HB.out)⟩
 ·replace c4:=Bool.eq_false_iff.mpr c4
  subst c4
  have H1 : (some false) = some r:= by rw [if_neg (show ¬ (false = true) by decide)] at H;exact H
  clear H
  have H:=H1
  clear H1
  obtain rfl:=Option.some.inj H
  go_enter Try.func31,Try.ntmps31
  go_wp2_with (first|((with_reducible refine gate_dst (N:=2) rfl ?_);(try (refine gate_guard (by rfl) ?_;dsimp only));refine box_event ?hg (N:=2) ?hd (cs:=#[.slice A0_0 l0_0.length c0_0,.int .i64 a0_1]) (t:=24) ?hr ?_;(case hd=>rfl);(case hg=>rfl);(case hr=>first|(go_simp;done)|(go_simp;rfl));intro gb318 hg w13 hbox hb;have n0_:=mK (below_step (by repeat (first|(with_reducible first|exact HB.out|apply lA|apply lN|apply lD)|exact HB.out)) hb);have n1_:=mK (hbox);have n3_:=mK ((by rw [hg];exact (below_size (by repeat (first|(with_reducible first|exact HB.out|apply lA|apply lN|apply lD)|exact HB.out))) : w.heap.size ≤ gb318));clear HB;have HB:=n0_;have BK318:=n1_;have GE318:=n3_;clear n0_ n1_ n3_;clear hb hbox hg;have hcz14_0 : w13.cell? ⟨gb318,0,none⟩ = some (.slice A0_0 l0_0.length c0_0):=(blk_cell BK318.out 0).trans rfl;have hcz14_1 : w13.cell? ⟨gb318,1,none⟩ = some (.int .i64 a0_1):=(blk_cell BK318.out 1).trans rfl;have hfz14_0:=blk_frozen BK318.out 0;have hfz14_1:=blk_frozen BK318.out 1)|((with_reducible refine gate_callee (f:=21) rfl ?_);refine goesL_ (some 6) rfl rfl Try.func21 (by kernel_rfl) rfl #[.agg #[.slice A0_0 l0_0.length c0_0,.int .i64 a0_1]] rfl (by (try simp only [List.map_toArray,List.map_cons,List.map_nil]);first|done|rfl|(simp only [List.length_drop,List.length_take];rfl)) ?_;(with_reducible refine (drawbridgeref23_Check.calls k _ _ l0_0 a0_1 false _ ?side1 ?side2 A3.out).mono ?_);(case side1=>repeat (first|exact (Kd.C_below HR0_0.out HB.out)|(with_reducible refine Kd.C_alloc ?_ _)|(with_reducible refine Kd.C_drewN ?_ _)|(with_reducible refine Kd.C_drew ?_)));(case side2=>exact HC0_0.out);rintro e w15 ⟨rfl,hb⟩;refine ⟨_,rfl,?_⟩;have n1_:=mK (below_step (by repeat (first|(with_reducible first|exact HB.out|apply lA|apply lN|apply lD|refine lS ?_ GE318.out)|exact HB.out)) hb);clear HB;have HB:=n1_;clear n1_;(try clear hb);(try clear hb2);(try clear hk);(try clear hi)))
  go_ret
  exact ⟨by first|rfl|(simp [errW_none,errW_some] <;> rfl)|(simp [*,errW_none,errW_some] <;> rfl),by repeat (first|(with_reducible first|exact HB.out|apply lA|apply lN|apply lD|refine lS ?_ GE318.out)|exact HB.out)⟩

/-! ### drawbridgeref23_Drop: function 15 -/
def drawbridgeref23_Drop.f (k : Nat) (l0_0 : List (List Int)) (a0_1 : Int) (a1 : Int) : Option ((List (List Int)) × Int) := (drawbridgeref23_has.f k l0_0 a0_1 a1).bind fun t322 => (if t322 = true then ((drawbridgeref23_own.f k l0_0).bind fun t323 => (if 0 ≤ a1 then (if a1 ≤ (t323.length : Int) then (if 0 ≤ (wrap64 (a1 + 1)) then (if (wrap64 (a1 + 1)) ≤ (t323.length : Int) then (some ((t323.eraseIdx (a1 : Int).toNat), a0_1)) else (none)) else (none)) else (none)) else (none))) else (some (l0_0, a0_1)))
theorem drawbridgeref23_Drop.mono : ∀ a0 a1 a2 k, LeO (drawbridgeref23_Drop.f k a0 a1 a2) (drawbridgeref23_Drop.f (k + 1) a0 a1 a2) := by
 intro a0 a1 a2 k
 unfold drawbridgeref23_Drop.f
 repeat' first
   | (with_reducible exact drawbridgeref23_has.mono _ _ _ _)
   | (with_reducible exact drawbridgeref23_own.mono _ _)
   | (with_reducible exact LeO.refl _)
   | (with_reducible exact LeO.none _)
   | (with_reducible refine LeO.ite ?_ ?_)
   | (with_reducible refine LeO.bind ?_ (fun _ => ?_))
   | exact drawbridgeref23_has.mono _ _ _ _
   | exact drawbridgeref23_own.mono _ _
   | exact LeO.none _
   | refine LeO.ite ?_ ?_
   | refine LeO.bind ?_ (fun _ => ?_)
def drawbridgeref23_Drop.T4 : Bool × List (List Nat × List Nat) := (true, [([], []), ([], []), ([0, 1], [0, 1]), ([], []), ([], []), ([4], [4]), ([3, 5], [3, 5]), ([2, 6], [2, 6]), ([], []), ([8], [8]), ([7, 9], [7, 9]), ([10, 7, 0, 1, 2, 3, 4, 5, 6, 7, 8, 9, 10], [10])])
def drawbridgeref23_Drop.B4 : List Nat := [0, 0, 3, 0, 0, 16, 56, 127, 0, 256, 1023, 2047]
theorem drawbridgeref23_Drop.tab4 : rtab .any (opsOf Try.f15 4) = drawbridgeref23_Drop.T4 := by kernel_rfl
theorem drawbridgeref23_Drop.bits4 : waitsOk drawbridgeref23_Drop.T4.2 drawbridgeref23_Drop.B4 = true := by kernel_rfl
set_option maxHeartbeats 8000000 in
set_option maxRecDepth 100000 in
theorem drawbridgeref23_Drop.calls (k : Nat) (P0_0_ : Nat → Prop) (A0_0 : Option Addr) (c0_0 : Nat) (l0_0 : List (List Int)) (a0_1 : Int) (a1 : Int) (r1 : List (List Int)) (r2 : Int) (w : World) (hs0_0 : Kd.V (Kd.slice 5 (Kd.int .u8)) 25 w w.heap.size (fun k_ => P0_0_ k_) (.slice A0_0 l0_0.length c0_0) l0_0) (h : drawbridgeref23_Drop.f k l0_0 a0_1 a1 = some (r1, r2)) :
  Calls Try.prog 15 #[.agg #[.slice A0_0 l0_0.length c0_0, .int .i64 a0_1], .int .i64 a1] w fun e w' => ∃ v0_ : Value, e = .returned (.agg #[v0_, .int .i64 r2]) ∧ Kd.V (Kd.slice 5 (Kd.int .u8)) 25 w' w.heap.size (fun k_ => (P0_0_ k_ ∨ w.heap.size ≤ k_)) v0_ r1 ∧ Below w.heap.size w w' := by
 have hu24:=Try.underlying24
 have HO0_0:=mK (show Kd.V (Kd.slice 5 (Kd.int .u8)) 25 w w.heap.size (fun k_=>(P0_0_ k_ ∨ w.heap.size ≤ k_)) (.slice A0_0 l0_0.length c0_0) l0_0 from Kd.V_mono hs0_0 (fun k_ hk=>.inl hk))
 have HB:=mK (Below.refl w.heap.size w)
 have H : ((drawbridgeref23_has.f k l0_0 a0_1 a1).bind fun t322=>(if t322 = true then ((drawbridgeref23_own.f k l0_0).bind fun t323=>(if 0 ≤ a1 then (if a1 ≤ (t323.length : Int) then (if 0 ≤ (wrap64 (a1 + 1)) then (if (wrap64 (a1 + 1)) ≤ (t323.length : Int) then (some ((t323.eraseIdx (a1 : Int).toNat),a0_1)) else (none)) else (none)) else (none)) else (none))) else (some (l0_0,a0_1)))) = some (r1,r2):=h
 clear h
 replace H:=Option.bind_eq_some_iff.mp H
 obtain ⟨t322,A30,H⟩:=H
 replace H : (if t322 = true then ((drawbridgeref23_own.f k l0_0).bind fun t323=>(if 0 ≤ a1 then (if a1 ≤ (t323.length : Int) then (if 0 ≤ (wrap64 (a1 + 1)) then (if (wrap64 (a1 + 1)) ≤ (t323.length : Int) then (some ((t323.eraseIdx (a1 : Int).toNat),a0_1)) else (none)) else (none)) else (none)) else (none))) else (some (l0_0,a0_1))) = some (r1,r2):=H
 have A3:=mK A30
 clear A30
 by_cases c4 : t322 = true
 ·subst c4
  have H1 : ((drawbridgeref23_own.f k l0_0).bind fun t323=>(if 0 ≤ a1 then (if a1 ≤ (t323.length : Int) then (if 0 ≤ (wrap64 (a1 + 1)) then (if (wrap64 (a1 + 1)) ≤ (t323.length : Int) then (some ((t323.eraseIdx (a1 : Int).toNat),a0_1)) else (none)) else (none)) else (none)) else (none))) = some (r1,r2):= by rw [if_pos rfl] at H;exact H
  clear H
  have H:=H1
  clear H1
  replace H:=Option.bind_eq_some_iff.mp H
  obtain ⟨t323,A50,H⟩:=H
  replace H : (if 0 ≤ a1 then (if a1 ≤ (t323.length : Int) then (if 0 ≤ (wrap64 (a1 + 1)) then (if (wrap64 (a1 + 1)) ≤ (t323.length : Int) then (some ((t323.eraseIdx (a1 : Int).toNat),a0_1)) else (none)) else (none)) else (none)) else (none)) = some (r1,r2):=H
  have A5:=mK A50
  clear A50
  by_cases c6 : 0 ≤ a1
  ·rw [if_pos c6] at H
   have c6b0:=eq_true c6
   have c6b1 : decide (0 ≤ a1) = true:=decide_eq_true c6
   clear c6
   by_cases c7 : a1 ≤ (t323.length : Int)
   ·rw [if_pos c7] at H
    have c7b0:=eq_true c7
    have c7b1 : decide (a1 ≤ (t323.length : Int)) = true:=decide_eq_true c7
    clear c7
    obtain ⟨y326,hy326⟩ : ∃ y_ : List (List Int),y_ = (t323.take (a1 : Int).toNat):=⟨_,rfl⟩
    replace H : (if 0 ≤ (wrap64 (a1 + 1)) then (if (wrap64 (a1 + 1)) ≤ (t323.length : Int) then (some ((t323.eraseIdx (a1 : Int).toNat),a0_1)) else (none)) else (none)) = some (r1,r2):= by first|(rw [hy326];with_reducible exact H)|(have H2_:=(Option.bind_some _ _).symm.trans H;rw [hy326];with_reducible exact H2_)|(have H2_:=(Option.bind_some _ _).symm.trans H;with_reducible exact H2_)|with_reducible exact H|(rw [hy326];exact H)|exact H
    have Ny326:=mK hy326
    clear hy326
    obtain ⟨ji8,hji8⟩ : ∃ j_ : Int,(wrap64 (a1 + 1)) = j_:=⟨_,rfl⟩
    replace H : (if 0 ≤ (ji8) then (if (ji8) ≤ (t323.length : Int) then (some ((t323.eraseIdx (a1 : Int).toNat),a0_1)) else (none)) else (none)) = some (r1,r2):= by first|(rw [hji8] at H;exact H)|(simp only [hji8] at H ⊢; exact H)
    (try rw [hji8] at A3)
    (try rw [hji8] at A5)
    have hji8w : (IntKind.i64.wrap (a1 + 1)) = ji8:=(i64_w _).trans hji8
    by_cases c9 : 0 ≤ (ji8)
    ·rw [if_pos c9] at H
     have c9b0:=eq_true c9
     have c9b1 : decide (0 ≤ (ji8)) = true:=decide_eq_true c9
     clear c9
     by_cases c10 : (ji8) ≤ (t323.length : Int)
     ·rw [if_pos c10] at H
      have c10b0:=eq_true c10
      have c10b1 : decide ((ji8) ≤ (t323.length : Int)) = true:=decide_eq_true c10
      clear c10
      obtain ⟨y330,hy330⟩ : ∃ y_ : List (List Int),y_ = (t323.drop ((ji8) : Int).toNat):=⟨_,rfl⟩
      replace H : (some ((t323.eraseIdx (a1 : Int).toNat),a0_1)) = some (r1,r2):= by first|(rw [hy330];with_reducible exact H)|(have H2_:=(Option.bind_some _ _).symm.trans H;rw [hy330];with_reducible exact H2_)|(have H2_:=(Option.bind_some _ _).symm.trans H;with_reducible exact H2_)|with_reducible exact H|(rw [hy330];exact H)|exact H
      have Ny330:=mK hy330
      clear hy330
      obtain ⟨y334,hy334⟩ : ∃ y_ : List (List Int),y_ = (t323.eraseIdx (a1 : Int).toNat):=⟨_,rfl⟩
      replace H : (some (y334,a0_1)) = some (r1,r2):= by first|(rw [hy334];with_reducible exact H)|(have H2_:=(Option.bind_some _ _).symm.trans H;rw [hy334];with_reducible exact H2_)|(have H2_:=(Option.bind_some _ _).symm.trans H;with_reducible exact H2_)|with_reducible exact H|(rw [hy334];exact H)|exact H
      have Ny334:=mK hy334
      clear hy334
      simp only [Option.some.injEq,Prod.mk.injEq] at H
      obtain ⟨rfl,rfl⟩:=H
      go_enter Try.func15,Try.ntmps15
      try go_wp2_with (first|((with_reducible refine gate_dst (N:=2) rfl ?_);refine box_event ?hg (N:=2) ?hd (cs:=#[.slice A0_0 l0_0.length c0_0,.int .i64 a0_1]) (t:=24) ?hr ?_;(case hd=>rfl);(case hg=>rfl);(case hr=>first|(go_simp;done)|(go_simp;rfl));intro gb320 hg w11 hbox hb;have n0_:=mK (Kd.V_below (Kd.V_elderB (by (with_reducible repeat (first|apply vA|apply vN|apply vD));exact HO0_0.out) gb320 (Nat.le_of_eq hg.symm)) hb);have n1_:=mK (below_step (by repeat (first|(with_reducible first|exact HB.out|apply lA|apply lN|apply lD)|exact HB.out)) hb);have n2_:=mK (hbox);have n4_:=mK ((by rw [hg];exact (below_size (by repeat (first|(with_reducible first|exact HB.out|apply lA|apply lN|apply lD)|exact HB.out))) : w.heap.size ≤ gb320));clear HO0_0;clear HB;have HO0_0:=n0_;have HB:=n1_;have BK320:=n2_;have GE320:=n4_;clear n0_ n1_ n2_ n4_;clear hb hbox hg)|((with_reducible refine gate_dst (N:=4) rfl ?_);refine box_event ?hg (N:=4) ?hd (cs:=#[.slice none 0 0,.int .i64 0]) (t:=24) ?hr ?_;(case hd=>rfl);(case hg=>rfl);(case hr=>first|(go_simp;done)|(go_simp;rfl));intro gb321 hg w12 hbox hb;have n0_:=mK (Kd.V_below (Kd.V_elderB (by (with_reducible repeat (first|apply vA|apply vN|apply vD));exact HO0_0.out) gb321 (Nat.le_of_eq hg.symm)) hb);have n1_:=mK (blk_below (g:=gb320) (o:=.cells #[.slice A0_0 l0_0.length c0_0,.int .i64 a0_1] 24 (0,0)) (by (with_reducible repeat (first|apply bN|apply bD|apply bA));exact BK320.out) hb);have n2_:=mK (below_step (by repeat (first|(with_reducible first|exact HB.out|apply lA|apply lN|apply lD|refine lS ?_ GE320.out)|exact HB.out)) hb);have n3_:=mK (hbox);have n5_:=mK ((by rw [hg];exact (below_size (by repeat (first|(with_reducible first|exact HB.out|apply lA|apply lN|apply lD|refine lS ?_ GE320.out)|exact HB.out))) : w.heap.size ≤ gb321));have n6_:=mK ((by rw [hg];exact Nat.ne_of_lt (blk_lt (g:=gb320) (o:=.cells #[.slice A0_0 l0_0.length c0_0,.int .i64 a0_1] 24 (0,0)) (by (with_reducible repeat (first|apply bN|apply bD|apply bA));exact BK320.out)) : gb320 ≠ gb321));have n7_:=mK ((by rw [hg];exact Nat.ne_of_gt (blk_lt (g:=gb320) (o:=.cells #[.slice A0_0 l0_0.length c0_0,.int .i64 a0_1] 24 (0,0)) (by (with_reducible repeat (first|apply bN|apply bD|apply bA));exact BK320.out)) : gb321 ≠ gb320));clear HO0_0;clear BK320;clear HB;have HO0_0:=n0_;have BK320:=n1_;have HB:=n2_;have BK321:=n3_;have GE321:=n5_;have NB320_321:=n6_;have NB321_320:=n7_;clear n0_ n1_ n2_ n3_ n5_ n6_ n7_;clear hb hbox hg;have hnb13:=NB320_321.out;have hnc13:=NB321_320.out;have hcz14_0 : w12.cell? ⟨gb320,0,none⟩ = some (.slice A0_0 l0_0.length c0_0):=(blk_cell BK320.out 0).trans rfl;have hcz14_1 : w12.cell? ⟨gb320,1,none⟩ = some (.int .i64 a0_1):=(blk_cell BK320.out 1).trans rfl;have hfz14_0:=blk_frozen BK320.out 0;have hfz14_1:=blk_frozen BK320.out 1)|((with_reducible refine gate_callee (f:=31) rfl ?_);refine goesL_ (some 8) rfl rfl Try.func31 (by kernel_rfl) rfl #[.agg #[.slice A0_0 l0_0.length c0_0,.int .i64 a0_1],.int .i64 a1] rfl (by (try simp only [List.map_toArray,List.map_cons,List.map_nil]);first|done|rfl|(simp only [List.length_drop,List.length_take];rfl)) ?_;(with_reducible refine (drawbridgeref23_has.calls k _ _ l0_0 a0_1 a1 true _ ?side1 ?side2 A3.out).mono ?_);(case side1=>repeat (first|exact (Kd.V_reads' HO0_0.out).2.2|(with_reducible refine Kd.C_alloc ?_ _)|(with_reducible refine Kd.C_drewN ?_ _)|(with_reducible refine Kd.C_drew ?_)));(case side2=>exact (Kd.V_reads' HO0_0.out).2.1);rintro e w15 ⟨rfl,hb⟩;refine ⟨_,rfl,?_⟩;have n0_:=mK (Kd.V_below (by (with_reducible repeat (first|apply vA|apply vN|apply vD));exact HO0_0.out) hb);have n1_:=mK (blk_below (g:=gb320) (o:=.cells #[.slice A0_0 l0_0.length c0_0,.int .i64 a0_1] 24 (0,0)) (by (with_reducible repeat (first|apply bN|apply bD|apply bA));exact BK320.out) hb);have n2_:=mK (blk_below (g:=gb321) (o:=.cells #[.slice none 0 0,.int .i64 0] 24 (0,0)) (by (with_reducible repeat (first|apply bN|apply bD|apply bA));exact BK321.out) hb);have n3_:=mK (below_step (by repeat (first|(with_reducible first|exact HB.out|apply lA|apply lN|apply lD|refine lS ?_ GE320.out|refine lS ?_ GE321.out)|exact HB.out)) hb);clear HO0_0;clear BK320;clear BK321;clear HB;have HO0_0:=n0_;have BK320:=n1_;have BK321:=n2_;have HB:=n3_;clear n0_ n1_ n2_ n3_;(try clear hb);(try clear hb2);(try clear hk);(try clear hi);have hcz16_0 : w15.cell? ⟨gb320,0,none⟩ = some (.slice A0_0 l0_0.length c0_0):=(blk_cell BK320.out 0).trans rfl;have hcz16_1 : w15.cell? ⟨gb320,1,none⟩ = some (.int .i64 a0_1):=(blk_cell BK320.out 1).trans rfl;have hfz16_0:=blk_frozen BK320.out 0;have hfz16_1:=blk_frozen BK320.out 1)|((with_reducible refine gate_callee (f:=27) rfl ?_);refine goesL_ (some 13) rfl rfl Try.func27 (by kernel_rfl) rfl #[.slice A0_0 l0_0.length c0_0] rfl (by (try simp only [List.map_toArray,List.map_cons,List.map_nil]);first|done|rfl|(simp only [List.length_drop,List.length_take];rfl)) ?_;(with_reducible refine (drawbridgeref23_own.calls k _ _ l0_0 t323 _ ?side1 ?side2 A5.out).mono ?_);(case side1=>repeat (first|exact (Kd.V_reads' HO0_0.out).2.2|(with_reducible refine Kd.C_alloc ?_ _)|(with_reducible refine Kd.C_drewN ?_ _)|(with_reducible refine Kd.C_drew ?_)));(case side2=>exact (Kd.V_reads' HO0_0.out).2.1);rintro e w17 ⟨v324,rfl,ho0,hb⟩;refine ⟨_,rfl,?_⟩;have n0_:=mK (Kd.V_elder' (by (with_reducible repeat (first|apply vA|apply vN|apply vD));exact HO0_0.out) (Kd.S_base ho0) hb);have n1_:=mK (Kd.S_lower (Kd.S_newM (M:= fun k_=>(w.heap.size ≤ k_)) ho0 (below_size (by repeat (first|(with_reducible first|exact HB.out|apply lA|apply lN|apply lD|refine lS ?_ GE320.out|refine lS ?_ GE321.out)|exact HB.out))) (fun k_ h_=>h_)) (below_size (by repeat (first|(with_reducible first|exact HB.out|apply lA|apply lN|apply lD|refine lS ?_ GE320.out|refine lS ?_ GE321.out)|exact HB.out))));have n2_:=mK (blk_below (g:=gb320) (o:=.cells #[.slice A0_0 l0_0.length c0_0,.int .i64 a0_1] 24 (0,0)) (by (with_reducible repeat (first|apply bN|apply bD|apply bA));exact BK320.out) hb);have n3_:=mK (blk_below (g:=gb321) (o:=.cells #[.slice none 0 0,.int .i64 0] 24 (0,0)) (by (with_reducible repeat (first|apply bN|apply bD|apply bA));exact BK321.out) hb);have n4_:=mK (below_step (by repeat (first|(with_reducible first|exact HB.out|apply lA|apply lN|apply lD|refine lS ?_ GE320.out|refine lS ?_ GE321.out)|exact HB.out)) hb);clear HO0_0;clear BK320;clear BK321;clear HB;have HO0_0:=n0_;have HO325:=n1_;have BK320:=n2_;have BK321:=n3_;have HB:=n4_;clear n0_ n1_ n2_ n3_ n4_;(try clear hb);(try clear hb2);(try clear hk);(try clear hi);(try clear ho0)))
      have n0_:=mK (Kd.V_drew HO0_0.out)
      have n1_:=mK (Kd.S_drew HO325.out)
      have n2_:=mK (blk_drew BK320.out)
      have n3_:=mK (blk_drew BK321.out)
      have n4_:=mK (below_drew1 HB.out)
      clear HO0_0
      clear HO325
      clear BK320
      clear BK321
      clear HB
      have HO0_0:=n0_
      have HO325:=n1_
      have BK320:=n2_
      have BK321:=n3_
      have HB:=n4_
      clear n0_ n1_ n2_ n3_ n4_
      obtain ⟨Ao20,co20,eo20⟩:=Kd.S_slice HO325.out
      (first|subst eo20|(injection eo20 with f1_ f2_ f3_;have f4_:=f1_.symm;have f5_:=f3_.symm;clear f1_ f2_ f3_;subst f4_;subst f5_))
      have q19 : (a1 : Int) ≤ ((t323.length : Int) : Int):=of_decide_eq_true (by first|(with_reducible assumption)|assumption)
      obtain ⟨i019,hi019,_,hsz19,_⟩:=info_parts info25
      have hroom19 : t323.length ≤ co20:=(Kd.S_reads' HO325.out).2.1
      have hC19 : Kd.C (Kd.slice 5 (Kd.int .u8)) _ Ao20 t323.length t323:=(Kd.S_reads' HO325.out).2.2
      have hcut19:=cut_to (P:=Try.prog) 22 25 .i64 Try.underlying22 hi019 Ao20 t323.length co20 a1 (of_decide_eq_true (by first|(with_reducible assumption)|assumption)) q19 hroom19
      have hr19:=Kd.C_take (m:=(a1 : Int).toNat) hC19 (by omega)
      have hy19 : y326.length = (a1 : Int).toNat:=(by rw [Ny326.out,List.length_take];omega)
      rw [← Ny326.out] at hr19
      rw [← hy19] at hcut19
      have HR329:=mK hr19
      have HC329:=mK (show y326.length ≤ co20 from by omega)
      clear hr19 hC19 hroom19 hi019 hsz19
      have KY19:=mK hy19
      clear hy19
      have KL19:=mK (show (a1 : Int).toNat ≤ t323.length from by omega)
      replace q19:=eq_true q19
      have q21 : ((ji8) : Int) ≤ ((t323.length : Int) : Int):=of_decide_eq_true (by first|(with_reducible assumption)|assumption)
      obtain ⟨i021,hi021,_,hsz21,_⟩:=info_parts info25
      have hroom21 : t323.length ≤ co20:=(Kd.S_reads' HO325.out).2.1
      have hC21 : Kd.C (Kd.slice 5 (Kd.int .u8)) _ Ao20 t323.length t323:=(Kd.S_reads' HO325.out).2.2
      have q021 : (0 : Int) ≤ ((ji8) : Int):=of_decide_eq_true (by first|(with_reducible assumption)|assumption)
      have hcut21:=cut_from (P:=Try.prog) 22 25 .i64 Try.underlying22 hi021 1 hsz21 Ao20 t323.length co20 (ji8) q021 q21
      have hr21:=Kd.C_drop (m:=((ji8) : Int).toNat) (c:=co20) hC21 (by omega) hroom21
      obtain ⟨A21,hA21⟩ : ∃ A1,A1 = (if co20 = ((ji8) : Int).toNat then Ao20 else (Ao20 : Option Addr).map (·.add (((ji8) : Int).toNat * 1))):=⟨_,rfl⟩
      obtain ⟨c21,hc21⟩ : ∃ c1,c1 = co20 - ((ji8) : Int).toNat:=⟨_,rfl⟩
      have hy21 : y330.length = t323.length - ((ji8) : Int).toNat:=(by rw [Ny330.out,List.length_drop] <;> omega)
      rw [show (t323).drop ((ji8) : Int).toNat = y330 from Ny330.out.symm] at hr21
      replace hr21 : Kd.C (Kd.slice 5 (Kd.int .u8)) _ A21 y330.length y330:=(by rw [hA21];exact hr21)
      rw [← hy21,← hA21,← hc21] at hcut21
      have HR333:=mK hr21
      have HC333:=mK (show y330.length ≤ c21 from by rw [hy21,hc21];exact Nat.sub_le_sub_right hroom21 _)
      clear hr21 hC21 hroom21 hi021 hsz21 hc21
      have KY21:=mK hy21
      have KA21:=mK hA21
      clear hy21 hA21
      have KL21:=mK (show ((ji8) : Int).toNat ≤ t323.length from by omega)
      replace q21:=eq_true q21
      have n_:=mK (Kd.S_mono (ok':=(fun k_=>(w.heap.size ≤ k_))) HO325.out (fun k_ hk=>hk.1))
      clear HO325
      have HO325:=n_
      clear n_
      obtain ⟨go23,co23,eo23,gb23,gl23,cl23,HG23⟩:=Kd.S_form HO325.out (by have hj_ : 0 ≤ (a1 : Int):=of_decide_eq_true (by first|(with_reducible assumption)|assumption);have hl_ : (ji8 : Int) ≤ (t323.length : Int):=of_decide_eq_true (by first|(with_reducible assumption)|assumption);have hh_ : (a1 : Int) ≤ (t323.length : Int):=of_decide_eq_true (by first|(with_reducible assumption)|assumption);rw [← hji8] at hl_;unfold wrap64 at hl_;omega)
      (first|cases eo23|(injection eo23 with ea_ en_ ec_;(first|subst ea_|(injection ea_ with ea_;subst ea_));subst ec_;clear en_))
      have GB23:=mK gb23
      have GG23:=mK HG23
      clear gb23 gl23 HG23
      refine start_ (n:=12) (S:= fun w'=>w'.cell? ⟨gb320,0,none⟩ = some (.slice A0_0 l0_0.length c0_0)∧w'.cell? ⟨gb320,1,none⟩ = some (.int .i64 a0_1)) (ds:=[]) #[φ,φ,φ,φ,φ,φ,φ,φ,φ,φ,φ,φ] (by kernel_rfl) rfl rfl ⟨(blk_cell BK320.out 0).trans rfl,(blk_cell BK320.out 1).trans rfl⟩ (fun hHeld=>?_);refine with_tabW drawbridgeref23_Drop.tab4 drawbridgeref23_Drop.bits4 (fun HT_ HW_=>?_)
      generalize w17.drew = w18 at HO0_0 HO325 BK320 BK321 HB GG23 HR329 HR333 hHeld ⊢
      refine pure_ (i:=0) (N:=some 14) (v:=?_) (a':=?_) #[τ,φ,φ,φ,φ,φ,φ,φ,φ,φ,φ,φ] rfl rfl (any_of HT_.out (by kernel_rfl)) (fun _ _ _ h=>h) (Or.inl ⟨by rfl,?_⟩) ?_ ?_
      rotate_left
      ·intro w'
       go_simp
       with_reducible rfl
      rotate_left
      ·simp only [Act.put,sT,sZ,sS,i64_w,i32_w]
       rfl
      refine pure_ (i:=1) (N:=some 15) (v:=?_) (a':=?_) #[τ,τ,φ,φ,φ,φ,φ,φ,φ,φ,φ,φ] rfl rfl (any_of HT_.out (by kernel_rfl)) (fun _ _ _ h=>h) (Or.inl ⟨by rfl,?_⟩) ?_ ?_
      rotate_left
      ·intro w'
       go_simp
       with_reducible rfl
      rotate_left
      ·simp only [Act.put,sT,sZ,sS,i64_w,i32_w]
       rfl
      refine pure_ (i:=2) (N:=some 16) (v:=?_) (a':=?_) #[τ,τ,τ,φ,φ,φ,φ,φ,φ,φ,φ,φ] rfl rfl (any_of HT_.out (by kernel_rfl)) (fun _ _ _ h=>h) (Or.inl ⟨by rfl,?_⟩) ?_ ?_
      rotate_left
      ·intro w'
       go_simp
       with_reducible rfl
      rotate_left
      ·simp only [Act.put,sT,sZ,sS,i64_w,i32_w]
       rfl
      refine pure_ (i:=3) (N:=some 17) (v:=?_) (a':=?_) #[τ,τ,τ,τ,φ,φ,φ,φ,φ,φ,φ,φ] rfl rfl (any_of HT_.out (by kernel_rfl)) (fun _ _ _ h=>h) (Or.inl ⟨by rfl,?_⟩) ?_ ?_
      rotate_left
      ·intro w'
       go_simp
       with_reducible rfl
      rotate_left
      ·simp only [Act.put,sT,sZ,sS,i64_w,i32_w]
       rfl
      refine pure_ (i:=4) (N:=some 18) (v:=?_) (a':=?_) #[τ,τ,τ,τ,τ,φ,φ,φ,φ,φ,φ,φ] rfl rfl (any_of HT_.out (by kernel_rfl)) (fun _ _ _ h=>h) (Or.inl ⟨by rfl,?_⟩) ?_ ?_
      rotate_left
      ·intro w'
       go_simp
       with_reducible rfl
      rotate_left
      ·simp only [Act.put,sT,sZ,sS,i64_w,i32_w]
       rfl
      refine pure_ (i:=5) (N:=some 19) (v:=?_) (a':=?_) #[τ,τ,τ,τ,τ,τ,φ,φ,φ,φ,φ,φ] rfl rfl (any_of HT_.out (by kernel_rfl)) (fun _ _ _ h=>h) (Or.inl ⟨by rfl,?_⟩) ?_ ?_
      rotate_left
      ·intro w'
       go_simp
       with_reducible rfl
      rotate_left
      ·simp only [Act.put,sT,sZ,sS,i64_w,i32_w]
       rfl
      refine pure_ (i:=6) (N:=some 20) (v:=?_) (a':=?_) #[τ,τ,τ,τ,τ,τ,τ,φ,φ,φ,φ,φ] rfl rfl (any_of HT_.out (by kernel_rfl)) (fun _ _ _ h=>h) (Or.inl ⟨by rfl,?_⟩) ?_ ?_
      rotate_left
      ·intro w'
       go_simp
       with_reducible rfl
      rotate_left
      ·simp only [Act.put,sT,sZ,sS,i64_w,i32_w]
       rfl
      refine pure_ (i:=8) (N:=some 22) (v:=?_) (a':=?_) #[τ,τ,τ,τ,τ,τ,τ,φ,τ,φ,φ,φ] rfl rfl (any_of HT_.out (by kernel_rfl)) (fun _ _ _ h=>h) (Or.inl ⟨by rfl,?_⟩) ?_ ?_
      rotate_left
      ·intro w'
       go_simp
       with_reducible rfl
      rotate_left
      ·simp only [Act.put,sT,sZ,sS,i64_w,i32_w]
       rfl
      refine take_ (i:=9) (N:=some 23) (v:=?_) (a':=?_) #[τ,τ,τ,τ,τ,τ,τ,φ,τ,τ,φ,φ] rfl rfl (take_ofW HT_.out HW_.out (by kernel_rfl)) (fun _ _ _ h=>h) (Or.inl ⟨by rfl,?_⟩) hHeld ?_ ?_
      rotate_left
      ·rintro w' ⟨s0,s1⟩
       go_simp
       with_reducible rfl
      rotate_left
      ·simp only [Act.put,sT,sZ,sS,i64_w,i32_w]
       rfl
      refine one_ (i:=7) (N:=some 21) #[τ,τ,τ,τ,τ,τ,τ,τ,τ,τ,φ,φ] rfl rfl (one_of HT_.out (by kernel_rfl)) (by decide) (fun K hK=>?_)
      have hj_ : 0 ≤ (a1 : Int):=of_decide_eq_true (by first|(with_reducible assumption)|assumption)
      have hl_ : (ji8 : Int) ≤ (t323.length : Int):=of_decide_eq_true (by first|(with_reducible assumption)|assumption)
      have hh_ : (a1 : Int) ≤ (t323.length : Int):=of_decide_eq_true (by first|(with_reducible assumption)|assumption)
      have hb_:=(Kd.S_reads' HO325.out).2.2.2.1
      have h0_ : (0 : Int) ≤ (ji8 : Int):=of_decide_eq_true (by first|(with_reducible assumption)|assumption)
      have hy1_:=KY19.out
      have hk_ : (ji8 : Int).toNat = y326.length + 1:=(by have hw_ : (ji8 : Int) = a1 + 1:=(by have h00_:=h0_;rw [← hji8] at h00_ ⊢; unfold wrap64 at h00_ ⊢; omega);rw [hw_];omega)
      refine Kd.S_delete_step (Kd.slice 5 (Kd.int .u8)) (w0:=w) w.heap.size (by rfl) (.tmp 16) (.tmp 20) 22 25 rfl Try.underlying22 (by kernel_rfl) (g:=go23) (n:=t323.length) (c:=co20) (k:=y326.length) rfl rfl ?hA ?hm (by (with_reducible repeat (first|apply Kd.S_alloc|apply Kd.S_drewN|apply Kd.S_drew));exact HO325.out) ?hk (by repeat (first|(with_reducible first|exact HB.out|apply lA|apply lN|apply lD|refine lS ?_ GE320.out|refine lS ?_ GE321.out)|exact HB.out)) (below_size (by repeat (first|(with_reducible first|exact HB.out|apply lA|apply lN|apply lD|refine lS ?_ GE320.out|refine lS ?_ GE321.out)|exact HB.out))) ?_
      (case hA=>have ha_:=KA21.out;rw [hk_] at ha_;exact ha_)
      (case hm=>have ha_:=KY21.out;omega)
      (case hk=>omega)
      intro w22 ho hb hg
      clear hj_ hl_ hh_ hb_ hk_ h0_
      rw [hy1_,← Ny334.out] at ho
      clear hy1_
      have hn_ : t323.length - 1 = y334.length:=(by have:=(Kd.S_reads' ho).1;omega)
      rw [hn_] at ho ⊢
      clear hn_
      have n1_:=mK (blk_grown (g:=gb320) (o:=.cells #[.slice A0_0 l0_0.length c0_0,.int .i64 a0_1] 24 (0,0)) (by (with_reducible repeat (first|apply bN|apply bD|apply bA));exact BK320.out) hg (Kd.S_ne HO325.out BK320.out (by decide)))
      have n2_:=mK (blk_grown (g:=gb321) (o:=.cells #[.slice none 0 0,.int .i64 0] 24 (0,0)) (by (with_reducible repeat (first|apply bN|apply bD|apply bA));exact BK321.out) hg (Kd.S_ne HO325.out BK321.out (by decide)))
      have n3_:=mK (ho)
      have n4_:=mK (hb)
      clear BK320
      clear BK321
      clear HO325
      clear HB
      have BK320:=n1_
      have BK321:=n2_
      have HO325:=n3_
      have HB:=n4_
      clear n1_ n2_ n3_ n4_
      clear ho hb hg
      refine hK.out _ _ ⟨(blk_cell BK320.out 0).trans rfl,(blk_cell BK320.out 1).trans rfl⟩ (fun hHeld=>?_)
      clear hK K
      refine norm_ (a':=?_) ?_ ?_
      rotate_left
      ·show Act.put _ (some 21) _ = _
       simp only [Act.put,sT,sZ,sS,i64_w,i32_w]
       rfl
      refine pure_ (i:=10) (N:=some 24) (v:=?_) (a':=?_) #[τ,τ,τ,τ,τ,τ,τ,τ,τ,τ,τ,φ] rfl rfl (any_of HT_.out (by kernel_rfl)) (fun _ _ _ h=>h) (Or.inl ⟨by rfl,?_⟩) ?_ ?_
      rotate_left
      ·intro w'
       go_simp
       with_reducible rfl
      rotate_left
      ·simp only [Act.put,sT,sZ,sS,i64_w,i32_w]
       rfl
      refine one_ (i:=11) (N:=none) #[τ,τ,τ,τ,τ,τ,τ,τ,τ,τ,τ,τ] rfl rfl (one_of HT_.out (by kernel_rfl)) (by decide) (fun K hK=>?_)
      have hs24 : w22.cell? ⟨gb321,0,none⟩ = some (.slice none 0 0):=(blk_cell BK321.out 0).trans rfl
      have hfs24:=blk_frozen BK321.out 0
      have hns24_0:=NB320_321.out
      have hms24_0:=NB321_320.out
      have hs25 : w22.cell? ⟨gb321,1,none⟩ = some (.int .i64 0):=(blk_cell BK321.out 1).trans rfl
      have hfs25:=blk_frozen BK321.out 1
      have hns25_0:=NB320_321.out
      have hms25_0:=NB321_320.out
      refine skip_ (w1:=?_) (by rfl) rfl ?_ ?_
      rotate_left
      ·go_simp
       rfl
      refine hK.out _ _ ⟨((cell_far (p:=⟨gb321,_,none⟩) NB320_321.out _).trans (((cell_far (p:=⟨gb321,_,none⟩) NB320_321.out _).trans (hHeld.1)))),((cell_far (p:=⟨gb321,_,none⟩) NB320_321.out _).trans (((cell_far (p:=⟨gb321,_,none⟩) NB320_321.out _).trans (hHeld.2))))⟩ (fun hHeld=>?_)
      clear hK K
      refine done_ (done_of HT_.out (by kernel_rfl)) ?_
      try go_wp2
      refine bodyPost_ret (results_cell_row rfl _ _ gb321 24 #[.slice (some ⟨go23,0,none⟩) y334.length co20,.int .i64 a0_1] (0,0) _ rfl (by (with_reducible repeat (first|apply bN|apply bD|apply bA));refine blk_put (cs:=#[.slice (some ⟨go23,0,none⟩) y334.length co20,.int .i64 0]) ?_ 1 _ rfl;(with_reducible repeat (first|apply bN|apply bD|apply bA));refine blk_put (cs:=#[.slice none 0 0,.int .i64 0]) ?_ 0 _ rfl;(with_reducible repeat (first|apply bN|apply bD|apply bA));exact BK321.out) Try.underlying24 rfl (by kernel_rfl)) rfl ?_
      exact ⟨_,by first|rfl|(simp [errW_none,errW_some] <;> rfl)|(simp only [← hji8];first|rfl|(simp [errW_none,errW_some] <;> rfl))|(simp [*,errW_none,errW_some] <;> rfl),Kd.V_mono (Kd.S_V (by (with_reducible repeat (first|apply Kd.S_alloc|apply Kd.S_drewN|apply Kd.S_drew));exact (Kd.S_far (p:=⟨gb321,1,none⟩) (Kd.S_far (p:=⟨gb321,0,none⟩) (Kd.S_types HO325.out BK321.out (by decide)) (fun _ hk=>hk.2) (.slice (some ⟨go23,0,none⟩) y334.length co20)) (fun _ hk=>hk.2) (.int .i64 a0_1)))) (fun k_ hk0=>by have hk:=hk0.1;first|exact ⟨(.inr (hk.1)),hk.2⟩|exact (.inr (hk))),by repeat (first|(with_reducible first|exact HB.out|apply lA|apply lN|apply lD|refine lS ?_ GE320.out|refine lS ?_ GE321.out)|exact HB.out)⟩
     ·rw [if_neg c10] at H
      exact absurd H (by simp)
    ·rw [if_neg c9] at H
     exact absurd H (by simp)
   ·rw [if_neg c7] at H
    exact absurd H (by simp)
  ·rw [if_neg c6] at H
   exact absurd H (by simp)
 ·replace c4:=Bool.eq_false_iff.mpr c4
  subst c4
  have H1 : (some (l0_0,a0_1)) = some (r1,r2):= by rw [if_neg (show ¬ (false = true) by decide)] at H;exact H
  clear H
  have H:=H1
  clear H1
  simp only [Option.some.injEq,Prod.mk.injEq] at H
  obtain ⟨rfl,rfl⟩:=H
  go_enter Try.func15,Try.ntmps15
  go_wp2_with (first|((with_reducible refine gate_dst (N:=2) rfl ?_);refine box_event ?hg (N:=2) ?hd (cs:=#[.slice A0_0 l0_0.length c0_0,.int .i64 a0_1]) (t:=24) ?hr ?_;(case hd=>rfl);(case hg=>rfl);(case hr=>first|(go_simp;done)|(go_simp;rfl));intro gb320 hg w26 hbox hb;have n0_:=mK (Kd.V_below (Kd.V_elderB (by (with_reducible repeat (first|apply vA|apply vN|apply vD));exact HO0_0.out) gb320 (Nat.le_of_eq hg.symm)) hb);have n1_:=mK (below_step (by repeat (first|(with_reducible first|exact HB.out|apply lA|apply lN|apply lD)|exact HB.out)) hb);have n2_:=mK (hbox);have n4_:=mK ((by rw [hg];exact (below_size (by repeat (first|(with_reducible first|exact HB.out|apply lA|apply lN|apply lD)|exact HB.out))) : w.heap.size ≤ gb320));clear HO0_0;clear HB;have HO0_0:=n0_;have HB:=n1_;have BK320:=n2_;have GE320:=n4_;clear n0_ n1_ n2_ n4_;clear hb hbox hg)|((with_reducible refine gate_dst (N:=4) rfl ?_);refine box_event ?hg (N:=4) ?hd (cs:=#[.slice none 0 0,.int .i64 0]) (t:=24) ?hr ?_;(case hd=>rfl);(case hg=>rfl);(case hr=>first|(go_simp;done)|(go_simp;rfl));intro gb321 hg w27 hbox hb;have n0_:=mK (Kd.V_below (Kd.V_elderB (by (with_reducible repeat (first|apply vA|apply vN|apply vD));exact HO0_0.out) gb321 (Nat.le_of_eq hg.symm)) hb);have n1_:=mK (blk_below (g:=gb320) (o:=.cells #[.slice A0_0 l0_0.length c0_0,.int .i64 a0_1] 24 (0,0)) (by (with_reducible repeat (first|apply bN|apply bD|apply bA));exact BK320.out) hb);have n2_:=mK (below_step (by repeat (first|(with_reducible first|exact HB.out|apply lA|apply lN|apply lD|refine lS ?_ GE320.out)|exact HB.out)) hb);have n3_:=mK (hbox);have n5_:=mK ((by rw [hg];exact (below_size (by repeat (first|(with_reducible first|exact HB.out|apply lA|apply lN|apply lD|refine lS ?_ GE320.out)|exact HB.out))) : w.heap.size ≤ gb321));have n6_:=mK ((by rw [hg];exact Nat.ne_of_lt (blk_lt (g:=gb320) (o:=.cells #[.slice A0_0 l0_0.length c0_0,.int .i64 a0_1] 24 (0,0)) (by (with_reducible repeat (first|apply bN|apply bD|apply bA));exact BK320.out)) : gb320 ≠ gb321));have n7_:=mK ((by rw [hg];exact Nat.ne_of_gt (blk_lt (g:=gb320) (o:=.cells #[.slice A0_0 l0_0.length c0_0,.int .i64 a0_1] 24 (0,0)) (by (with_reducible repeat (first|apply bN|apply bD|apply bA));exact BK320.out)) : gb321 ≠ gb320));clear HO0_0;clear BK320;clear HB;have HO0_0:=n0_;have BK320:=n1_;have HB:=n2_;have BK321:=n3_;have GE321:=n5_;have NB320_321:=n6_;have NB321_320:=n7_;clear n0_ n1_ n2_ n3_ n5_ n6_ n7_;clear hb hbox hg;have hnb28:=NB320_321.out;have hnc28:=NB321_320.out;have hcz29_0 : w27.cell? ⟨gb320,0,none⟩ = some (.slice A0_0 l0_0.length c0_0):=(blk_cell BK320.out 0).trans rfl;have hcz29_1 : w27.cell? ⟨gb320,1,none⟩ = some (.int .i64 a0_1):=(blk_cell BK320.out 1).trans rfl;have hfz29_0:=blk_frozen BK320.out 0;have hfz29_1:=blk_frozen BK320.out 1)|((with_reducible refine gate_callee (f:=31) rfl ?_);refine goesL_ (some 8) rfl rfl Try.func31 (by kernel_rfl) rfl #[.agg #[.slice A0_0 l0_0.length c0_0,.int .i64 a0_1],.int .i64 a1] rfl (by (try simp only [List.map_toArray,List.map_cons,List.map_nil]);first|done|rfl|(simp only [List.length_drop,List.length_take];rfl)) ?_;(with_reducible refine (drawbridgeref23_has.calls k _ _ l0_0 a0_1 a1 false _ ?side1 ?side2 A3.out).mono ?_);(case side1=>repeat (first|exact (Kd.V_reads' HO0_0.out).2.2|(with_reducible refine Kd.C_alloc ?_ _)|(with_reducible refine Kd.C_drewN ?_ _)|(with_reducible refine Kd.C_drew ?_)));(case side2=>exact (Kd.V_reads' HO0_0.out).2.1);rintro e w30 ⟨rfl,hb⟩;refine ⟨_,rfl,?_⟩;have n0_:=mK (Kd.V_below (by (with_reducible repeat (first|apply vA|apply vN|apply vD));exact HO0_0.out) hb);have n1_:=mK (blk_below (g:=gb320) (o:=.cells #[.slice A0_0 l0_0.length c0_0,.int .i64 a0_1] 24 (0,0)) (by (with_reducible repeat (first|apply bN|apply bD|apply bA));exact BK320.out) hb);have n2_:=mK (blk_below (g:=gb321) (o:=.cells #[.slice none 0 0,.int .i64 0] 24 (0,0)) (by (with_reducible repeat (first|apply bN|apply bD|apply bA));exact BK321.out) hb);have n3_:=mK (below_step (by repeat (first|(with_reducible first|exact HB.out|apply lA|apply lN|apply lD|refine lS ?_ GE320.out|refine lS ?_ GE321.out)|exact HB.out)) hb);clear HO0_0;clear BK320;clear BK321;clear HB;have HO0_0:=n0_;have BK320:=n1_;have BK321:=n2_;have HB:=n3_;clear n0_ n1_ n2_ n3_;(try clear hb);(try clear hb2);(try clear hk);(try clear hi);have hcz31_0 : w30.cell? ⟨gb320,0,none⟩ = some (.slice A0_0 l0_0.length c0_0):=(blk_cell BK320.out 0).trans rfl;have hcz31_1 : w30.cell? ⟨gb320,1,none⟩ = some (.int .i64 a0_1):=(blk_cell BK320.out 1).trans rfl;have hfz31_0:=blk_frozen BK320.out 0;have hfz31_1:=blk_frozen BK320.out 1;have hcz32_0 : w30.cell? ⟨gb321,0,none⟩ = some (.slice none 0 0):=(blk_cell BK321.out 0).trans rfl;have hcz32_1 : w30.cell? ⟨gb321,1,none⟩ = some (.int .i64 0):=(blk_cell BK321.out 1).trans rfl;have hfz32_0:=blk_frozen BK321.out 0;have hfz32_1:=blk_frozen BK321.out 1))
  refine bodyPost_ret (results_cell_row rfl _ _ gb321 24 #[.slice A0_0 l0_0.length c0_0,.int .i64 a0_1] (0,0) _ rfl (by (with_reducible repeat (first|apply bN|apply bD|apply bA));refine blk_put (cs:=#[.slice A0_0 l0_0.length c0_0,.int .i64 0]) ?_ 1 _ rfl;(with_reducible repeat (first|apply bN|apply bD|apply bA));refine blk_put (cs:=#[.slice none 0 0,.int .i64 0]) ?_ 0 _ rfl;(with_reducible repeat (first|apply bN|apply bD|apply bA));exact BK321.out) Try.underlying24 rfl (by kernel_rfl)) rfl ?_
  exact ⟨_,by first|rfl|(simp [errW_none,errW_some] <;> rfl)|(simp [*,errW_none,errW_some] <;> rfl),by (with_reducible repeat (first|apply vA|apply vN|apply vD));exact Kd.V_mono (Kd.V_far (p:=⟨gb321,1,none⟩) (Kd.V_far (p:=⟨gb321,0,none⟩) (Kd.V_mono HO0_0.out (fun k_ hk=>(⟨hk,hk.2⟩ : _∧k_ ≠ gb321))) (fun _ hk=>hk.2) (.slice A0_0 l0_0.length c0_0)) (fun _ hk=>hk.2) (.int .i64 a0_1)) (fun _ hk=>hk.1.1.1),by repeat (first|(with_reducible first|exact HB.out|apply lA|apply lN|apply lD|refine lS ?_ GE320.out|refine lS ?_ GE321.out)|exact HB.out)⟩

end Go.Proofs.Ythfokiabneflpaa.P
