/- Contracts of functions of the seat, written by a program of this session (with the kit's print) for the laws of this claim; no condition beside what each states. -/
import Derived.Test.YtpbofaghnfheiaaPx0
namespace Go.Proofs.Ytpbofaghnfheiaa.P
open Go.Proofs.Ytpbofaghnfheiaa.Aux Go.RowKit Go.Proofs.YtpbofaghnfheiaaW.PrintWords Go.Proofs.YtpbofaghnfheiaaW.PrintLast Go.Proofs.YtpbofaghnfheiaaW.PrintMore
attribute [local go_sem] max2_int min2_int max_two min_two max_three min_three max_four min_four   -- for this text's walks alone
set_option linter.unusedVariables false
set_option linter.unusedSimpArgs false

/-! ### drawbridgeref01_Get: function 31 -/
def drawbridgeref01_Get.l0 : Nat → List Int → Bool → Int → Int → Int → Option (Int)
 | 0, _, _, _, _, _ => none
 | k + 1, x0, x1, x5, x6, x7 => if x7 < x6 then (if x1 = true then (if 0 ≤ x7 then (if x7 < (x0.length : Int) then (drawbridgeref01_Get.l0 k x0 x1 (IntKind.u64.wrap ((IntKind.u64.wrap (x5 * 256)) + (IntKind.u64.wrap (rd x0 x7)))) x6 (wrap64 (x7 + 1))) else (none)) else (none)) else (if 0 ≤ (wrap64 ((wrap64 (x6 - 1)) - x7)) then (if (wrap64 ((wrap64 (x6 - 1)) - x7)) < (x0.length : Int) then (drawbridgeref01_Get.l0 k x0 x1 (IntKind.u64.wrap ((IntKind.u64.wrap (x5 * 256)) + (IntKind.u64.wrap (rd x0 (wrap64 ((wrap64 (x6 - 1)) - x7)))))) x6 (wrap64 (x7 + 1))) else (none)) else (none))) else (some x5)
def drawbridgeref01_Get.f (k : Nat) (l0 : List Int) (a1 : Bool) : Option (Int) := drawbridgeref01_Get.l0 k l0 a1 0 (mn (l0.length : Int) 8) 0
theorem drawbridgeref01_Get.mono_l : ∀ k, (∀ y0 y1 y2 y3 y4, LeO (drawbridgeref01_Get.l0 k y0 y1 y2 y3 y4) (drawbridgeref01_Get.l0 (k + 1) y0 y1 y2 y3 y4))
 | 0 => fun _ _ _ _ _ r h => by simp [drawbridgeref01_Get.l0] at h
 | k + 1 => by
  have ih0 := drawbridgeref01_Get.mono_l k
  ·intro y0 y1 y2 y3 y4
   unfold drawbridgeref01_Get.l0
   repeat' first
   | (with_reducible exact ih0 _ _ _ _ _)
   | (with_reducible exact LeO.refl _)
   | (with_reducible exact LeO.none _)
   | (with_reducible refine LeO.ite ?_ ?_)
   | (with_reducible refine LeO.bind ?_ (fun _ => ?_))
   | exact ih0 _ _ _ _ _
   | exact LeO.none _
   | refine LeO.ite ?_ ?_
   | refine LeO.bind ?_ (fun _ => ?_)
theorem drawbridgeref01_Get.mono : ∀ a0 a1 k, LeO (drawbridgeref01_Get.f k a0 a1) (drawbridgeref01_Get.f (k + 1) a0 a1) := by
 intro a0 a1 k
 have ih0 := drawbridgeref01_Get.mono_l k
 unfold drawbridgeref01_Get.f
 repeat' first
   | (with_reducible exact ih0 _ _ _ _ _)
   | (with_reducible exact LeO.refl _)
   | (with_reducible exact LeO.none _)
   | (with_reducible refine LeO.ite ?_ ?_)
   | (with_reducible refine LeO.bind ?_ (fun _ => ?_))
   | exact ih0 _ _ _ _ _
   | exact LeO.none _
   | refine LeO.ite ?_ ?_
   | refine LeO.bind ?_ (fun _ => ?_)
set_option maxHeartbeats 8000000 in
set_option maxRecDepth 100000 in
theorem drawbridgeref01_Get.calls (k : Nat) (A0 : Option Addr) (c0 : Nat) (l0 : List Int) (a1 : Bool) (r : Int) (w : World) (hr0 : Kd.C (Kd.int .u8) w A0 l0.length l0) (hc0 : l0.length ≤ c0) (h : drawbridgeref01_Get.f k l0 a1 = some r) :
  Calls Try.prog 31 #[.slice A0 l0.length c0, .bool a1] w fun e w' => e = .returned (.int .u64 r) ∧ Below w.heap.size w w' := by
 have HR0:=mK hr0
 have HC0:=mK hc0
 clear hr0 hc0
 have HB:=mK (Below.refl w.heap.size w)
 have H : (drawbridgeref01_Get.l0 k l0 a1 0 (mn (l0.length : Int) 8) 0) = some r:=h
 clear h
 obtain ⟨ji3,hji3⟩ : ∃ j_ : Int,(mn (l0.length : Int) 8) = j_:=⟨_,rfl⟩
 replace H : (drawbridgeref01_Get.l0 k l0 a1 0 ji3 0) = some r:= by first|(rw [hji3] at H;exact H)|(simp only [hji3] at H ⊢; exact H)
 (try (have hji3h : ji3 ≤ 8:= by (rw [← hji3];unfold mn;(repeat' split) <;> omega)))
 (try (have hji3g : ji3 ≤ 64:= by omega))
 (try (have hji3l : 0 ≤ ji3:= by (rw [← hji3];unfold mn;(repeat' split) <;> omega)))
 (try (have hji3m : 0 ≤ ji3:= by omega))
 have hji3_ : (if 8 < (l0.length : Int) then 8 else (l0.length : Int)) = ji3:=hji3
 have H':=mK H
 clear H
 go_enter Try.func31,Try.ntmps31
 go_wp2
 go_loopg [5,7] k (fun kq v5 v7 w'=>∃ (x5_1 : Int) (x7_1 : Int),v5 = .int .u64 x5_1∧v7 = .int .i64 x7_1∧Aside0 (drawbridgeref01_Get.l0 kq l0 a1 x5_1 ji3 x7_1 = some r)∧Aside0 (kq ≤ k)∧Aside0 (Below w.heap.size w w'))
 case atStart=>exact ⟨(0),(0),(by first|rfl|(simp;done)|(simp [*];done)),(by first|rfl|(simp;done)|(simp [*];done)),H',⟨Nat.le_refl _⟩,⟨by repeat (first|(with_reducible first|exact HB.out|apply lA|apply lN|apply lD)|exact HB.out)⟩⟩
 case round =>
  clear H'
  try clear p2
  try clear c3
  obtain ⟨x5_1,x7_1,rfl,rfl,HA,HK1,HB⟩:=hrel
  cases gk with
  |zero=>exact absurd HA.out (by simp [drawbridgeref01_Get.l0])
  |succ k1 =>
   have H:=HA.out
   clear HA
   simp only [drawbridgeref01_Get.l0] at H
   by_cases c4 : x7_1 < ji3
   ·rw [if_pos c4] at H
    have c4b0 : decide (x7_1 < ji3) = true:=decide_eq_true c4
    clear c4
    by_cases c5 : a1 = true
    ·subst c5
     have H1 : (if 0 ≤ x7_1 then (if x7_1 < (l0.length : Int) then (drawbridgeref01_Get.l0 k1 l0 true (IntKind.u64.wrap ((IntKind.u64.wrap (x5_1 * 256)) + (IntKind.u64.wrap (rd l0 x7_1)))) ji3 (wrap64 (x7_1 + 1))) else (none)) else (none)) = some r:= by rw [if_pos rfl] at H;exact H
     clear H
     have H:=H1
     clear H1
     by_cases c6 : 0 ≤ x7_1
     ·rw [if_pos c6] at H
      have c6b0 : decide (0 ≤ x7_1) = true:=decide_eq_true c6
      clear c6
      by_cases c7 : x7_1 < (l0.length : Int)
      ·rw [if_pos c7] at H
       have c7b0 : decide (x7_1 < (l0.length : Int)) = true:=decide_eq_true c7
       clear c7
       have H':=mK H
       clear H
       have p293 : 0 ≤ (x7_1 : Int):=of_decide_eq_true (by first|(with_reducible assumption)|assumption)
       have q293 : x7_1 < (l0.length : Int):=of_decide_eq_true (by first|(with_reducible assumption)|assumption)
       obtain ⟨ad293,e293,hx293_0⟩:=Kd.at_int HR0.out x7_1 p293 q293
       cases e293
       replace hx293_0:=(HB.out.cell (World.block_lt_of_cell? w _ hx293_0)).trans hx293_0
       replace p293:=eq_true p293
       replace q293:=eq_true q293
       go_wp2
       go_roundg k1
       case measure=>have:=HK1.out;omega
       case rel=>exact ⟨(IntKind.u64.wrap ((IntKind.u64.wrap (x5_1 * 256)) + (IntKind.u64.wrap (rd l0 x7_1)))),(wrap64 (x7_1 + 1)),(by first|rfl|(simp;done)|(simp [*];done)),(by first|rfl|(simp;done)|(simp [*];done)),H',⟨by have:=HK1.out;omega⟩,⟨by repeat (first|(with_reducible first|exact HB.out|apply lA|apply lN|apply lD)|exact HB.out)⟩⟩
      ·rw [if_neg c7] at H
       exact absurd H (by simp)
     ·rw [if_neg c6] at H
      exact absurd H (by simp)
    ·replace c5:=Bool.eq_false_iff.mpr c5
     subst c5
     have H1 : (if 0 ≤ (wrap64 ((wrap64 (ji3 - 1)) - x7_1)) then (if (wrap64 ((wrap64 (ji3 - 1)) - x7_1)) < (l0.length : Int) then (drawbridgeref01_Get.l0 k1 l0 false (IntKind.u64.wrap ((IntKind.u64.wrap (x5_1 * 256)) + (IntKind.u64.wrap (rd l0 (wrap64 ((wrap64 (ji3 - 1)) - x7_1)))))) ji3 (wrap64 (x7_1 + 1))) else (none)) else (none)) = some r:= by rw [if_neg (show ¬ (false = true) by decide)] at H;exact H
     clear H
     have H:=H1
     clear H1
     obtain ⟨ji8,hji8⟩ : ∃ j_ : Int,(wrap64 ((wrap64 (ji3 - 1)) - x7_1)) = j_:=⟨_,rfl⟩
     replace H : (if 0 ≤ (ji8) then (if (ji8) < (l0.length : Int) then (drawbridgeref01_Get.l0 k1 l0 false (IntKind.u64.wrap ((IntKind.u64.wrap (x5_1 * 256)) + (IntKind.u64.wrap (rd l0 (ji8))))) ji3 (wrap64 (x7_1 + 1))) else (none)) else (none)) = some r:= by first|(rw [hji8] at H;exact H)|(simp only [hji8] at H ⊢; exact H)
     have hji8w : (IntKind.i64.wrap ((wrap64 (ji3 - 1)) - x7_1)) = ji8:=(i64_w _).trans hji8
     have hji8u : wrap64 (ji3 - 1 - x7_1) = ji8:=(by rw [← hji8];unfold wrap64;omega)
     by_cases c9 : 0 ≤ (ji8)
     ·rw [if_pos c9] at H
      have c9b0 : decide (0 ≤ (ji8)) = true:=decide_eq_true c9
      clear c9
      by_cases c10 : (ji8) < (l0.length : Int)
      ·rw [if_pos c10] at H
       have c10b0 : decide ((ji8) < (l0.length : Int)) = true:=decide_eq_true c10
       clear c10
       have H':=mK H
       clear H
       have p294 : 0 ≤ ((ji8) : Int):=of_decide_eq_true (by first|(with_reducible assumption)|assumption)
       have q294 : (ji8) < (l0.length : Int):=of_decide_eq_true (by first|(with_reducible assumption)|assumption)
       obtain ⟨ad294,e294,hx294_0⟩:=Kd.at_int HR0.out (ji8) p294 q294
       cases e294
       replace hx294_0:=(HB.out.cell (World.block_lt_of_cell? w _ hx294_0)).trans hx294_0
       replace p294:=eq_true p294
       replace q294:=eq_true q294
       go_wp2
       go_roundg k1
       case measure=>have:=HK1.out;omega
       case rel=>exact ⟨(IntKind.u64.wrap ((IntKind.u64.wrap (x5_1 * 256)) + (IntKind.u64.wrap (rd l0 (ji8))))),(wrap64 (x7_1 + 1)),(by first|rfl|(simp;done)|(simp only [← hji8] <;> (first|rfl|simp))|(simp [*];done)),(by first|rfl|(simp;done)|(simp [*];done)),H',⟨by have:=HK1.out;omega⟩,⟨by repeat (first|(with_reducible first|exact HB.out|apply lA|apply lN|apply lD)|exact HB.out)⟩⟩
      ·rw [if_neg c10] at H
       exact absurd H (by simp)
     ·rw [if_neg c9] at H
      exact absurd H (by simp)
   ·rw [if_neg c4] at H
    have c4b0 : decide (x7_1 < ji3) = false:=decide_eq_false c4
    clear c4
    obtain rfl:=Option.some.inj H
    go_wp2
    go_ret
    exact ⟨by first|rfl|(simp [errW_none,errW_some] <;> rfl)|(simp only [← hji3];first|rfl|(simp [errW_none,errW_some] <;> rfl))|(simp [*,errW_none,errW_some] <;> rfl),by repeat (first|(with_reducible first|exact HB.out|apply lA|apply lN|apply lD)|exact HB.out)⟩

/-! ### drawbridgeref20_number: function 24 -/
def drawbridgeref20_number.f (k : Nat) (l0 : List Int) : Option (Int) := (drawbridgeref01_Get.f k l0 true).bind fun t295 => (some ((t295) % 4294967296))
theorem drawbridgeref20_number.mono : ∀ a0 k, LeO (drawbridgeref20_number.f k a0) (drawbridgeref20_number.f (k + 1) a0) := by
 intro a0 k
 unfold drawbridgeref20_number.f
 repeat' first
   | (with_reducible exact drawbridgeref01_Get.mono _ _ _)
   | (with_reducible exact LeO.refl _)
   | (with_reducible exact LeO.none _)
   | (with_reducible refine LeO.ite ?_ ?_)
   | (with_reducible refine LeO.bind ?_ (fun _ => ?_))
   | exact drawbridgeref01_Get.mono _ _ _
   | exact LeO.none _
   | refine LeO.ite ?_ ?_
   | refine LeO.bind ?_ (fun _ => ?_)
set_option maxHeartbeats 8000000 in
set_option maxRecDepth 100000 in
theorem drawbridgeref20_number.calls (k : Nat) (A0 : Option Addr) (c0 : Nat) (l0 : List Int) (r : Int) (w : World) (hr0 : Kd.C (Kd.int .u8) w A0 l0.length l0) (hc0 : l0.length ≤ c0) (h : drawbridgeref20_number.f k l0 = some r) :
  Calls Try.prog 24 #[.slice A0 l0.length c0] w fun e w' => e = .returned (.int .u32 r) ∧ Below w.heap.size w w' := by
 have HR0:=mK hr0
 have HC0:=mK hc0
 clear hr0 hc0
 have HB:=mK (Below.refl w.heap.size w)
 have H : ((drawbridgeref01_Get.f k l0 true).bind fun t295=>(some ((t295) % 4294967296))) = some r:=h
 clear h
 replace H:=Option.bind_eq_some_iff.mp H
 obtain ⟨t295,A20,H⟩:=H
 replace H : (some ((t295) % 4294967296)) = some r:=H
 have A2:=mK A20
 clear A20
 obtain rfl:=Option.some.inj H
 go_enter Try.func24,Try.ntmps24
 go_wp2_with (first|((with_reducible refine gate_callee (f:=31) rfl ?_);refine goesL_ (some 4) rfl rfl Try.func31 (by kernel_rfl) rfl #[.slice A0 l0.length c0,.bool true] rfl (by (try simp only [List.map_toArray,List.map_cons,List.map_nil]);first|done|rfl|(simp only [List.length_drop,List.length_take];rfl)) ?_;(with_reducible refine (drawbridgeref01_Get.calls k _ _ l0 true t295 _ ?side1 ?side2 A2.out).mono ?_);(case side1=>repeat (first|exact HR0.out|(with_reducible refine Kd.C_alloc ?_ _)|(with_reducible refine Kd.C_drewN ?_ _)|(with_reducible refine Kd.C_drew ?_)));(case side2=>exact HC0.out);rintro e w3 ⟨rfl,hb⟩;refine ⟨_,rfl,?_⟩;have n0_:=mK (below_step (by repeat (first|(with_reducible first|exact HB.out|apply lA|apply lN|apply lD)|exact HB.out)) hb);clear HB;have HB:=n0_;clear n0_;(try clear hb);(try clear hb2);(try clear hk);(try clear hi)))
 go_ret
 exact ⟨by first|rfl|(simp [errW_none,errW_some] <;> rfl)|(simp [*,errW_none,errW_some] <;> rfl),by repeat (first|(with_reducible first|exact HB.out|apply lA|apply lN|apply lD)|exact HB.out)⟩

/-! ### drawbridgeref20_find: function 25 -/
mutual
def drawbridgeref20_find.l0 : Nat → List Int → Int → Int → Bool → Int → Option (List Int × Bool × Bool)
 | 0, _, _, _, _, _ => none
 | k + 1, x0, x1, x2, x3, x11 => if x11 < (x0.length : Int) then (if 0 ≤ x11 then (drawbridgeref20_find.j1 k x0 x1 x2 x3 x11 ((rd x0 x11) != 255)) else (none)) else (drawbridgeref20_find.j1 k x0 x1 x2 x3 x11 false)
def drawbridgeref20_find.j1 : Nat → List Int → Int → Int → Bool → Int → Bool → Option (List Int × Bool × Bool)
 | 0, _, _, _, _, _, _ => none
 | k + 1, x0, x1, x2, x3, x11, x23 => if x23 = true then (if 0 ≤ x11 then (if x11 < (x0.length : Int) then (if (rd x0 x11) = 0 then (drawbridgeref20_find.l0 k x0 x1 x2 x3 (wrap64 (x11 + 1))) else (if (wrap64 (x11 + 1)) ≥ (x0.length : Int) then (drawbridgeref20_find.j2 k x0 x1 x2 x3 x11 true) else (if 0 ≤ (wrap64 (x11 + 1)) then (if (wrap64 (x11 + 1)) < (x0.length : Int) then (drawbridgeref20_find.j2 k x0 x1 x2 x3 x11 (decide ((wrap64 (rd x0 (wrap64 (x11 + 1)))) > (wrap64 ((wrap64 ((x0.length : Int) - x11)) - 2))))) else (none)) else (none)))) else (none)) else (none)) else (some (([] : List Int), false, true))
def drawbridgeref20_find.j2 : Nat → List Int → Int → Int → Bool → Int → Bool → Option (List Int × Bool × Bool)
 | 0, _, _, _, _, _, _ => none
 | k + 1, x0, x1, x2, x3, x11, x49 => if x49 = true then (some (([] : List Int), false, false)) else (if 0 ≤ (wrap64 (x11 + 1)) then (if (wrap64 (x11 + 1)) < (x0.length : Int) then (if 0 ≤ x11 then (if x11 < (x0.length : Int) then (if (rd x0 x11) = x1 then (if (wrap64 (rd x0 (wrap64 (x11 + 1)))) = x2 then (if 0 ≤ (wrap64 (x11 + 2)) then (if (wrap64 (x11 + 2)) ≤ (wrap64 ((wrap64 (x11 + 2)) + x2)) then (if (wrap64 ((wrap64 (x11 + 2)) + x2)) ≤ (x0.length : Int) then (some (((x0.take (wrap64 ((wrap64 (x11 + 2)) + x2)).toNat).drop (wrap64 (x11 + 2)).toNat), true, true)) else (none)) else (none)) else (none)) else (if x3 = true then (if (wrap64 (rd x0 (wrap64 (x11 + 1)))) > x2 then (if 0 ≤ (wrap64 (x11 + 2)) then (if (wrap64 (x11 + 2)) ≤ (wrap64 ((wrap64 (x11 + 2)) + x2)) then (if (wrap64 ((wrap64 (x11 + 2)) + x2)) ≤ (x0.length : Int) then (some (((x0.take (wrap64 ((wrap64 (x11 + 2)) + x2)).toNat).drop (wrap64 (x11 + 2)).toNat), true, true)) else (none)) else (none)) else (none)) else (drawbridgeref20_find.l0 k x0 x1 x2 x3 (wrap64 ((wrap64 (x11 + 2)) + (wrap64 (rd x0 (wrap64 (x11 + 1)))))))) else (drawbridgeref20_find.l0 k x0 x1 x2 x3 (wrap64 ((wrap64 (x11 + 2)) + (wrap64 (rd x0 (wrap64 (x11 + 1))))))))) else (drawbridgeref20_find.l0 k x0 x1 x2 x3 (wrap64 ((wrap64 (x11 + 2)) + (wrap64 (rd x0 (wrap64 (x11 + 1)))))))) else (none)) else (none)) else (none)) else (none))
end
def drawbridgeref20_find.f (k : Nat) (l0 : List Int) (a1 : Int) (a2 : Int) (a3 : Bool) : Option (List Int × Bool × Bool) := drawbridgeref20_find.l0 k l0 a1 a2 a3 0
theorem drawbridgeref20_find.mono_l : ∀ k, (∀ y0 y1 y2 y3 y4, LeO (drawbridgeref20_find.l0 k y0 y1 y2 y3 y4) (drawbridgeref20_find.l0 (k + 1) y0 y1 y2 y3 y4)) ∧ (∀ y0 y1 y2 y3 y4 y5, LeO (drawbridgeref20_find.j1 k y0 y1 y2 y3 y4 y5) (drawbridgeref20_find.j1 (k + 1) y0 y1 y2 y3 y4 y5)) ∧ (∀ y0 y1 y2 y3 y4 y5, LeO (drawbridgeref20_find.j2 k y0 y1 y2 y3 y4 y5) (drawbridgeref20_find.j2 (k + 1) y0 y1 y2 y3 y4 y5))
 | 0 => ⟨fun _ _ _ _ _ r h => by simp [drawbridgeref20_find.l0] at h, fun _ _ _ _ _ _ r h => by simp [drawbridgeref20_find.j1] at h, fun _ _ _ _ _ _ r h => by simp [drawbridgeref20_find.j2] at h⟩
 | k + 1 => by
  obtain ⟨ih0, ih1, ih2⟩ := drawbridgeref20_find.mono_l k
  refine ⟨?_, ?_, ?_⟩
  ·intro y0 y1 y2 y3 y4
   unfold drawbridgeref20_find.l0
   repeat' first
   | (with_reducible exact ih0 _ _ _ _ _)
   | (with_reducible exact ih1 _ _ _ _ _ _)
   | (with_reducible exact ih2 _ _ _ _ _ _)
   | (with_reducible exact LeO.refl _)
   | (with_reducible exact LeO.none _)
   | (with_reducible refine LeO.ite ?_ ?_)
   | (with_reducible refine LeO.bind ?_ (fun _ => ?_))
   | exact ih0 _ _ _ _ _
   | exact ih1 _ _ _ _ _ _
   | exact ih2 _ _ _ _ _ _
   | exact LeO.none _
   | refine LeO.ite ?_ ?_
   | refine LeO.bind ?_ (fun _ => ?_)
  ·intro y0 y1 y2 y3 y4 y5
   unfold drawbridgeref20_find.j1
   repeat' first
   | (with_reducible exact ih0 _ _ _ _ _)
   | (with_reducible exact ih1 _ _ _ _ _ _)
   | (with_reducible exact ih2 _ _ _ _ _ _)
   | (with_reducible exact LeO.refl _)
   | (with_reducible exact LeO.none _)
   | (with_reducible refine LeO.ite ?_ ?_)
   | (with_reducible refine LeO.bind ?_ (fun _ => ?_))
   | exact ih0 _ _ _ _ _
   | exact ih1 _ _ _ _ _ _
   | exact ih2 _ _ _ _ _ _
   | exact LeO.none _
   | refine LeO.ite ?_ ?_
   | refine LeO.bind ?_ (fun _ => ?_)
  ·intro y0 y1 y2 y3 y4 y5
   unfold drawbridgeref20_find.j2
   repeat' first
   | (with_reducible exact ih0 _ _ _ _ _)
   | (with_reducible exact ih1 _ _ _ _ _ _)
   | (with_reducible exact ih2 _ _ _ _ _ _)
   | (with_reducible exact LeO.refl _)
   | (with_reducible exact LeO.none _)
   | (with_reducible refine LeO.ite ?_ ?_)
   | (with_reducible refine LeO.bind ?_ (fun _ => ?_))
   | exact ih0 _ _ _ _ _
   | exact ih1 _ _ _ _ _ _
   | exact ih2 _ _ _ _ _ _
   | exact LeO.none _
   | refine LeO.ite ?_ ?_
   | refine LeO.bind ?_ (fun _ => ?_)
theorem drawbridgeref20_find.mono : ∀ a0 a1 a2 a3 k, LeO (drawbridgeref20_find.f k a0 a1 a2 a3) (drawbridgeref20_find.f (k + 1) a0 a1 a2 a3) := by
 intro a0 a1 a2 a3 k
 obtain ⟨ih0, ih1, ih2⟩ := drawbridgeref20_find.mono_l k
 unfold drawbridgeref20_find.f
 repeat' first
   | (with_reducible exact ih0 _ _ _ _ _)
   | (with_reducible exact ih1 _ _ _ _ _ _)
   | (with_reducible exact ih2 _ _ _ _ _ _)
   | (with_reducible exact LeO.refl _)
   | (with_reducible exact LeO.none _)
   | (with_reducible refine LeO.ite ?_ ?_)
   | (with_reducible refine LeO.bind ?_ (fun _ => ?_))
   | exact ih0 _ _ _ _ _
   | exact ih1 _ _ _ _ _ _
   | exact ih2 _ _ _ _ _ _
   | exact LeO.none _
   | refine LeO.ite ?_ ?_
   | refine LeO.bind ?_ (fun _ => ?_)
set_option maxHeartbeats 8000000 in
set_option maxRecDepth 100000 in
theorem drawbridgeref20_find.calls (k : Nat) (A0 : Option Addr) (c0 : Nat) (l0 : List Int) (a1 : Int) (a2 : Int) (a3 : Bool) (r1 : List Int) (r2 : Bool) (r3 : Bool) (w : World) (hr0 : Kd.C (Kd.int .u8) w A0 l0.length l0) (hc0 : l0.length ≤ c0) (h : drawbridgeref20_find.f k l0 a1 a2 a3 = some (r1, r2, r3)) :
  Calls Try.prog 25 #[.slice A0 l0.length c0, .int .u8 a1, .int .i64 a2, .bool a3] w fun e w' => ∃ (A_ : Option Addr) (c_ : Nat), e = .returned (.tuple #[.slice A_ r1.length c_, .bool r2, .bool r3]) ∧ r1.length ≤ c_ ∧ (∀ W_ : World, Kd.C (Kd.int .u8) W_ A0 l0.length l0 → Kd.C (Kd.int .u8) W_ A_ r1.length r1) ∧ Below w.heap.size w w' := by
 have HR0:=mK hr0
 have HC0:=mK hc0
 clear hr0 hc0
 have HB:=mK (Below.refl w.heap.size w)
 have H : (drawbridgeref20_find.l0 k l0 a1 a2 a3 0) = some (r1,r2,r3):=h
 clear h
 have H':=mK H
 clear H
 go_enter Try.func25,Try.ntmps25
 go_wp2
 go_loopg [11] k (fun kq v11 w'=>∃ (x11_1 : Int),v11 = .int .i64 x11_1∧Aside0 (drawbridgeref20_find.l0 kq l0 a1 a2 a3 x11_1 = some (r1,r2,r3))∧Aside0 (kq ≤ k)∧Aside0 (Below w.heap.size w w'))
 case atStart=>exact ⟨(0),(by first|rfl|(simp;done)|(simp [*];done)),H',⟨Nat.le_refl _⟩,⟨by repeat (first|(with_reducible first|exact HB.out|apply lA|apply lN|apply lD)|exact HB.out)⟩⟩
 case round =>
  clear H'
  try clear c2
  try clear p2
  obtain ⟨x11_1,rfl,HA,HK1,HB⟩:=hrel
  cases gk with
  |zero=>exact absurd HA.out (by simp [drawbridgeref20_find.l0])
  |succ k1 =>
   have H:=HA.out
   clear HA
   simp only [drawbridgeref20_find.l0] at H
   have HC5:=mK H
   clear H
   go_upto_region 2 with (fail)
   go_cut [23] (fun v23 wc=>∃ (kq : Nat) (x23_4 : Bool),v23 = .bool x23_4∧Aside0 (drawbridgeref20_find.j1 kq l0 a1 a2 a3 x11_1 x23_4 = some (r1,r2,r3))∧Aside0 (kq ≤ k1)∧Aside0 (Below w.heap.size w wc))
   case first =>
    have H:=HC5.out
    clear HC5
    by_cases c6 : x11_1 < (l0.length : Int)
    ·rw [if_pos c6] at H
     have c6b0 : decide (x11_1 < (l0.length : Int)) = true:=decide_eq_true c6
     clear c6
     (first|rw [c6b0]|(simp only [i64_w,i32_w];rw [c6b0])|skip)
     by_cases c7 : 0 ≤ x11_1
     ·rw [if_pos c7] at H
      have c7b0 : decide (0 ≤ x11_1) = true:=decide_eq_true c7
      clear c7
      have H':=mK H
      clear H
      have p214 : 0 ≤ (x11_1 : Int):=of_decide_eq_true (by first|(with_reducible assumption)|assumption)
      have q214 : x11_1 < (l0.length : Int):=of_decide_eq_true (by first|(with_reducible assumption)|assumption)
      obtain ⟨ad214,e214,hx214_0⟩:=Kd.at_int HR0.out x11_1 p214 q214
      cases e214
      replace hx214_0:=(HB.out.cell (World.block_lt_of_cell? w _ hx214_0)).trans hx214_0
      replace p214:=eq_true p214
      replace q214:=eq_true q214
      go_wp2
      go_meet
      case rel=>exact ⟨_,(((rd l0 x11_1) != 255)),(by first|rfl|(simp;done)|(simp [*];done)),H',⟨by have:=HK1.out;first|omega|exact Nat.le_refl _⟩,⟨by repeat (first|(with_reducible first|exact HB.out|apply lA|apply lN|apply lD)|exact HB.out)⟩⟩
     ·rw [if_neg c7] at H
      exact absurd H (by simp)
    ·rw [if_neg c6] at H
     have c6b0 : decide (x11_1 < (l0.length : Int)) = false:=decide_eq_false c6
     clear c6
     (first|rw [c6b0]|(simp only [i64_w,i32_w];rw [c6b0])|skip)
     have H':=mK H
     clear H
     go_wp2
     go_meet
     case rel=>exact ⟨_,(false),(by first|rfl|(simp;done)|(simp [*];done)),H',⟨by have:=HK1.out;first|omega|exact Nat.le_refl _⟩,⟨by repeat (first|(with_reducible first|exact HB.out|apply lA|apply lN|apply lD)|exact HB.out)⟩⟩
   case rest =>
    clear HC5
    try clear c2
    try clear p2
    try clear q2
    try clear hx2
    try clear c6
    try clear c6b0
    try clear c7
    try clear c7b0
    try clear hx214_0
    try clear p2
    try clear p214
    try clear q214
    obtain ⟨kq,x23_4,rfl,HA,HJ4,HB⟩:=hcut
    cases kq with
    |zero=>exact absurd HA.out (by simp [drawbridgeref20_find.j1])
    |succ kj4 =>
     have H:=HA.out
     clear HA
     simp only [drawbridgeref20_find.j1] at H
     by_cases c8 : x23_4 = true
     ·subst c8
      have H1 : (if 0 ≤ x11_1 then (if x11_1 < (l0.length : Int) then (if (rd l0 x11_1) = 0 then (drawbridgeref20_find.l0 kj4 l0 a1 a2 a3 (wrap64 (x11_1 + 1))) else (if (wrap64 (x11_1 + 1)) ≥ (l0.length : Int) then (drawbridgeref20_find.j2 kj4 l0 a1 a2 a3 x11_1 true) else (if 0 ≤ (wrap64 (x11_1 + 1)) then (if (wrap64 (x11_1 + 1)) < (l0.length : Int) then (drawbridgeref20_find.j2 kj4 l0 a1 a2 a3 x11_1 (decide ((wrap64 (rd l0 (wrap64 (x11_1 + 1)))) > (wrap64 ((wrap64 ((l0.length : Int) - x11_1)) - 2))))) else (none)) else (none)))) else (none)) else (none)) = some (r1,r2,r3):= by rw [if_pos rfl] at H;exact H
      clear H
      have H:=H1
      clear H1
      by_cases c9 : 0 ≤ x11_1
      ·rw [if_pos c9] at H
       have c9b0 : decide (0 ≤ x11_1) = true:=decide_eq_true c9
       clear c9
       by_cases c10 : x11_1 < (l0.length : Int)
       ·rw [if_pos c10] at H
        have c10b0 : decide (x11_1 < (l0.length : Int)) = true:=decide_eq_true c10
        clear c10
        by_cases c11 : (rd l0 x11_1) = 0
        ·rw [if_pos c11] at H
         have c11b0 : ((rd l0 x11_1) == 0) = true:=beq_iff_eq.mpr c11
         have c11b1 : ((rd l0 x11_1) != 0) = false:=bne_eq_false_iff_eq.mpr c11
         clear c11
         have H':=mK H
         clear H
         have p215 : 0 ≤ (x11_1 : Int):=of_decide_eq_true (by first|(with_reducible assumption)|assumption)
         have q215 : x11_1 < (l0.length : Int):=of_decide_eq_true (by first|(with_reducible assumption)|assumption)
         obtain ⟨ad215,e215,hx215_0⟩:=Kd.at_int HR0.out x11_1 p215 q215
         cases e215
         replace hx215_0:=(HB.out.cell (World.block_lt_of_cell? w _ hx215_0)).trans hx215_0
         replace p215:=eq_true p215
         replace q215:=eq_true q215
         go_wp2
         go_roundg kj4
         case measure=>have:=HK1.out;have:=HJ4.out;omega
         case rel=>exact ⟨(wrap64 (x11_1 + 1)),(by first|rfl|(simp;done)|(simp [*];done)),H',⟨by have:=HK1.out;have:=HJ4.out;omega⟩,⟨by repeat (first|(with_reducible first|exact HB.out|apply lA|apply lN|apply lD)|exact HB.out)⟩⟩
        ·rw [if_neg c11] at H
         have c11b0 : ((rd l0 x11_1) == 0) = false:=beq_eq_false_iff_ne.mpr c11
         have c11b1 : ((rd l0 x11_1) != 0) = true:=bne_iff_ne.mpr c11
         have HC12:=mK H
         clear H
         have p215 : 0 ≤ (x11_1 : Int):=of_decide_eq_true (by first|(with_reducible assumption)|assumption)
         have q215 : x11_1 < (l0.length : Int):=of_decide_eq_true (by first|(with_reducible assumption)|assumption)
         obtain ⟨ad215,e215,hx215_0⟩:=Kd.at_int HR0.out x11_1 p215 q215
         cases e215
         replace hx215_0:=(HB.out.cell (World.block_lt_of_cell? w _ hx215_0)).trans hx215_0
         replace p215:=eq_true p215
         replace q215:=eq_true q215
         go_upto_region 5 with (fail)
         go_cut [49] (fun v49 wc=>∃ (kq : Nat) (x49_11 : Bool),v49 = .bool x49_11∧Aside0 (drawbridgeref20_find.j2 kq l0 a1 a2 a3 x11_1 x49_11 = some (r1,r2,r3))∧Aside0 (kq ≤ kj4)∧Aside0 (Below w.heap.size w wc))
         case first =>
          have H:=HC12.out
          clear HC12
          by_cases c13 : (wrap64 (x11_1 + 1)) ≥ (l0.length : Int)
          ·rw [if_pos c13] at H
           have c13b0 : decide ((l0.length : Int) ≤ (wrap64 (x11_1 + 1))) = true:=decide_eq_true c13
           clear c13
           (first|rw [c13b0]|(simp only [i64_w,i32_w];rw [c13b0])|skip)
           have H':=mK H
           clear H
           go_wp2
           go_meet
           case rel=>exact ⟨_,(true),(by first|rfl|(simp;done)|(simp [*];done)),H',⟨by have:=HK1.out;have:=HJ4.out;first|omega|exact Nat.le_refl _⟩,⟨by repeat (first|(with_reducible first|exact HB.out|apply lA|apply lN|apply lD)|exact HB.out)⟩⟩
          ·rw [if_neg c13] at H
           have c13b0 : decide ((l0.length : Int) ≤ (wrap64 (x11_1 + 1))) = false:=decide_eq_false c13
           clear c13
           (first|rw [c13b0]|(simp only [i64_w,i32_w];rw [c13b0])|skip)
           obtain ⟨ji14,hji14⟩ : ∃ j_ : Int,(wrap64 (x11_1 + 1)) = j_:=⟨_,rfl⟩
           replace H : (if 0 ≤ (ji14) then (if (ji14) < (l0.length : Int) then (drawbridgeref20_find.j2 kj4 l0 a1 a2 a3 x11_1 (decide ((wrap64 (rd l0 (ji14))) > (wrap64 ((wrap64 ((l0.length : Int) - x11_1)) - 2))))) else (none)) else (none)) = some (r1,r2,r3):= by first|(rw [hji14] at H;exact H)|(simp only [hji14] at H ⊢; exact H)
           (try rw [hji14] at c13b0)
           have hji14w : (IntKind.i64.wrap (x11_1 + 1)) = ji14:=(i64_w _).trans hji14
           by_cases c15 : 0 ≤ (ji14)
           ·rw [if_pos c15] at H
            have c15b0 : decide (0 ≤ (ji14)) = true:=decide_eq_true c15
            clear c15
            by_cases c16 : (ji14) < (l0.length : Int)
            ·rw [if_pos c16] at H
             have c16b0 : decide ((ji14) < (l0.length : Int)) = true:=decide_eq_true c16
             clear c16
             have H':=mK H
             clear H
             have p216 : 0 ≤ ((ji14) : Int):=of_decide_eq_true (by first|(with_reducible assumption)|assumption)
             have q216 : (ji14) < (l0.length : Int):=of_decide_eq_true (by first|(with_reducible assumption)|assumption)
             obtain ⟨ad216,e216,hx216_0⟩:=Kd.at_int HR0.out (ji14) p216 q216
             obtain rfl : ad215 = ad216:=(by injection e216)
             replace hx216_0:=(HB.out.cell (World.block_lt_of_cell? w _ hx216_0)).trans hx216_0
             replace p216:=eq_true p216
             replace q216:=eq_true q216
             go_wp2
             go_meet
             case rel=>exact ⟨_,(decide ((wrap64 (rd l0 (ji14))) > (wrap64 ((wrap64 ((l0.length : Int) - x11_1)) - 2)))),(by first|rfl|(simp;done)|(simp only [← hji14] <;> (first|rfl|simp))|(simp [*];done)),H',⟨by have:=HK1.out;have:=HJ4.out;first|omega|exact Nat.le_refl _⟩,⟨by repeat (first|(with_reducible first|exact HB.out|apply lA|apply lN|apply lD)|exact HB.out)⟩⟩
            ·rw [if_neg c16] at H
             exact absurd H (by simp)
           ·rw [if_neg c15] at H
            exact absurd H (by simp)
         case rest =>
          clear HC12
          try clear c1
          try clear c2
          try clear p2
          try clear q2
          try clear hx2
          try clear c6
          try clear c6b0
          try clear p6
          try clear c7
          try clear c7b0
          try clear c8
          try clear c9
          try clear c9b0
          try clear c10
          try clear c10b0
          try clear c11
          try clear c11b0
          try clear c11b1
          try clear c13
          try clear c13b0
          try clear c15
          try clear c15b0
          try clear c16
          try clear c16b0
          try clear hx214_0
          try clear hx215_0
          try clear hx216_0
          try clear p2
          try clear p214
          try clear p215
          try clear p216
          try clear q2
          try clear q214
          try clear q215
          try clear q216
          obtain ⟨kq,x49_11,rfl,HA,HJ11,HB⟩:=hcut
          cases kq with
          |zero=>exact absurd HA.out (by simp [drawbridgeref20_find.j2])
          |succ kj11 =>
           have H:=HA.out
           clear HA
           simp only [drawbridgeref20_find.j2] at H
           by_cases c17 : x49_11 = true
           ·subst c17
            have H1 : (some (([] : List Int),false,false)) = some (r1,r2,r3):= by rw [if_pos rfl] at H;exact H
            clear H
            have H:=H1
            clear H1
            simp only [Option.some.injEq,Prod.mk.injEq] at H
            obtain ⟨rfl,rfl,rfl⟩:=H
            go_wp2
            go_ret3
            exact ⟨none,0,by first|rfl|(simp [errW_none,errW_some] <;> rfl)|(simp [*,errW_none,errW_some] <;> rfl),Nat.le_refl _,fun _ _=>⟨rfl,by simp,fun hp=>by simp at hp⟩,by repeat (first|(with_reducible first|exact HB.out|apply lA|apply lN|apply lD)|exact HB.out)⟩
           ·replace c17:=Bool.eq_false_iff.mpr c17
            subst c17
            have H1 : (if 0 ≤ (wrap64 (x11_1 + 1)) then (if (wrap64 (x11_1 + 1)) < (l0.length : Int) then (if 0 ≤ x11_1 then (if x11_1 < (l0.length : Int) then (if (rd l0 x11_1) = a1 then (if (wrap64 (rd l0 (wrap64 (x11_1 + 1)))) = a2 then (if 0 ≤ (wrap64 (x11_1 + 2)) then (if (wrap64 (x11_1 + 2)) ≤ (wrap64 ((wrap64 (x11_1 + 2)) + a2)) then (if (wrap64 ((wrap64 (x11_1 + 2)) + a2)) ≤ (l0.length : Int) then (some (((l0.take (wrap64 ((wrap64 (x11_1 + 2)) + a2)).toNat).drop (wrap64 (x11_1 + 2)).toNat),true,true)) else (none)) else (none)) else (none)) else (if a3 = true then (if (wrap64 (rd l0 (wrap64 (x11_1 + 1)))) > a2 then (if 0 ≤ (wrap64 (x11_1 + 2)) then (if (wrap64 (x11_1 + 2)) ≤ (wrap64 ((wrap64 (x11_1 + 2)) + a2)) then (if (wrap64 ((wrap64 (x11_1 + 2)) + a2)) ≤ (l0.length : Int) then (some (((l0.take (wrap64 ((wrap64 (x11_1 + 2)) + a2)).toNat).drop (wrap64 (x11_1 + 2)).toNat),true,true)) else (none)) else (none)) else (none)) else (drawbridgeref20_find.l0 kj11 l0 a1 a2 a3 (wrap64 ((wrap64 (x11_1 + 2)) + (wrap64 (rd l0 (wrap64 (x11_1 + 1)))))))) else (drawbridgeref20_find.l0 kj11 l0 a1 a2 a3 (wrap64 ((wrap64 (x11_1 + 2)) + (wrap64 (rd l0 (wrap64 (x11_1 + 1))))))))) else (drawbridgeref20_find.l0 kj11 l0 a1 a2 a3 (wrap64 ((wrap64 (x11_1 + 2)) + (wrap64 (rd l0 (wrap64 (x11_1 + 1)))))))) else (none)) else (none)) else (none)) else (none)) = some (r1,r2,r3):= by rw [if_neg (show ¬ (false = true) by decide)] at H;exact H
            clear H
            have H:=H1
            clear H1
            obtain ⟨ji18,hji18⟩ : ∃ j_ : Int,(wrap64 (x11_1 + 1)) = j_:=⟨_,rfl⟩
            replace H : (if 0 ≤ (ji18) then (if (ji18) < (l0.length : Int) then (if 0 ≤ x11_1 then (if x11_1 < (l0.length : Int) then (if (rd l0 x11_1) = a1 then (if (wrap64 (rd l0 (ji18))) = a2 then (if 0 ≤ (wrap64 (x11_1 + 2)) then (if (wrap64 (x11_1 + 2)) ≤ (wrap64 ((wrap64 (x11_1 + 2)) + a2)) then (if (wrap64 ((wrap64 (x11_1 + 2)) + a2)) ≤ (l0.length : Int) then (some (((l0.take (wrap64 ((wrap64 (x11_1 + 2)) + a2)).toNat).drop (wrap64 (x11_1 + 2)).toNat),true,true)) else (none)) else (none)) else (none)) else (if a3 = true then (if (wrap64 (rd l0 (ji18))) > a2 then (if 0 ≤ (wrap64 (x11_1 + 2)) then (if (wrap64 (x11_1 + 2)) ≤ (wrap64 ((wrap64 (x11_1 + 2)) + a2)) then (if (wrap64 ((wrap64 (x11_1 + 2)) + a2)) ≤ (l0.length : Int) then (some (((l0.take (wrap64 ((wrap64 (x11_1 + 2)) + a2)).toNat).drop (wrap64 (x11_1 + 2)).toNat),true,true)) else (none)) else (none)) else (none)) else (drawbridgeref20_find.l0 kj11 l0 a1 a2 a3 (wrap64 ((wrap64 (x11_1 + 2)) + (wrap64 (rd l0 (ji18))))))) else (drawbridgeref20_find.l0 kj11 l0 a1 a2 a3 (wrap64 ((wrap64 (x11_1 + 2)) + (wrap64 (rd l0 (ji18)))))))) else (drawbridgeref20_find.l0 kj11 l0 a1 a2 a3 (wrap64 ((wrap64 (x11_1 + 2)) + (wrap64 (rd l0 (ji18))))))) else (none)) else (none)) else (none)) else (none)) = some (r1,r2,r3):= by first|(rw [hji18] at H;exact H)|(simp only [hji18] at H ⊢; exact H)
            have hji18w : (IntKind.i64.wrap (x11_1 + 1)) = ji18:=(i64_w _).trans hji18
            by_cases c19 : 0 ≤ (ji18)
            ·rw [if_pos c19] at H
             have c19b0 : decide (0 ≤ (ji18)) = true:=decide_eq_true c19
             clear c19
             by_cases c20 : (ji18) < (l0.length : Int)
             ·rw [if_pos c20] at H
              have c20b0 : decide ((ji18) < (l0.length : Int)) = true:=decide_eq_true c20
              clear c20
              by_cases c21 : 0 ≤ x11_1
              ·rw [if_pos c21] at H
               have c21b0 : decide (0 ≤ x11_1) = true:=decide_eq_true c21
               clear c21
               by_cases c22 : x11_1 < (l0.length : Int)
               ·rw [if_pos c22] at H
                have c22b0 : decide (x11_1 < (l0.length : Int)) = true:=decide_eq_true c22
                clear c22
                by_cases c23 : (rd l0 x11_1) = a1
                ·rw [if_pos c23] at H
                 have c23b0 : ((rd l0 x11_1) == a1) = true:=beq_iff_eq.mpr c23
                 have c23b1 : ((rd l0 x11_1) != a1) = false:=bne_eq_false_iff_eq.mpr c23
                 clear c23
                 by_cases c24 : (wrap64 (rd l0 (ji18))) = a2
                 ·rw [if_pos c24] at H
                  have c24b0 : ((wrap64 (rd l0 (ji18))) == a2) = true:=beq_iff_eq.mpr c24
                  have c24b1 : ((wrap64 (rd l0 (ji18))) != a2) = false:=bne_eq_false_iff_eq.mpr c24
                  clear c24
                  obtain ⟨ji25,hji25⟩ : ∃ j_ : Int,(wrap64 (x11_1 + 2)) = j_:=⟨_,rfl⟩
                  replace H : (if 0 ≤ (ji25) then (if (ji25) ≤ (wrap64 ((ji25) + a2)) then (if (wrap64 ((ji25) + a2)) ≤ (l0.length : Int) then (some (((l0.take (wrap64 ((ji25) + a2)).toNat).drop (ji25).toNat),true,true)) else (none)) else (none)) else (none)) = some (r1,r2,r3):= by first|(rw [hji25] at H;exact H)|(simp only [hji25] at H ⊢; exact H)
                  have hji25w : (IntKind.i64.wrap (x11_1 + 2)) = ji25:=(i64_w _).trans hji25
                  by_cases c26 : 0 ≤ (ji25)
                  ·rw [if_pos c26] at H
                   have c26b0:=eq_true c26
                   have c26b1 : decide (0 ≤ (ji25)) = true:=decide_eq_true c26
                   clear c26
                   by_cases c27 : (ji25) ≤ (wrap64 ((ji25) + a2))
                   ·rw [if_pos c27] at H
                    have c27b0:=eq_true c27
                    have c27b1 : decide ((ji25) ≤ (wrap64 ((ji25) + a2))) = true:=decide_eq_true c27
                    by_cases c28 : (wrap64 ((ji25) + a2)) ≤ (l0.length : Int)
                    ·rw [if_pos c28] at H
                     have c28b0:=eq_true c28
                     have c28b1 : decide ((wrap64 ((ji25) + a2)) ≤ (l0.length : Int)) = true:=decide_eq_true c28
                     simp only [Option.some.injEq,Prod.mk.injEq] at H
                     obtain ⟨hr1_,rfl,rfl⟩:=H
                     have p217 : 0 ≤ ((ji18) : Int):=of_decide_eq_true (by first|(with_reducible assumption)|assumption)
                     have q217 : (ji18) < (l0.length : Int):=of_decide_eq_true (by first|(with_reducible assumption)|assumption)
                     obtain ⟨ad217,e217,hx217_0⟩:=Kd.at_int HR0.out (ji18) p217 q217
                     obtain rfl : ad215 = ad217:=(by injection e217)
                     replace hx217_0:=(HB.out.cell (World.block_lt_of_cell? w _ hx217_0)).trans hx217_0
                     replace p217:=eq_true p217
                     replace q217:=eq_true q217
                     have p218 : 0 ≤ (x11_1 : Int):=of_decide_eq_true (by first|(with_reducible assumption)|assumption)
                     have q218 : x11_1 < (l0.length : Int):=of_decide_eq_true (by first|(with_reducible assumption)|assumption)
                     obtain ⟨ad218,e218,hx218_0⟩:=Kd.at_int HR0.out x11_1 p218 q218
                     obtain rfl : ad215 = ad218:=(by injection e218)
                     replace hx218_0:=(HB.out.cell (World.block_lt_of_cell? w _ hx218_0)).trans hx218_0
                     replace p218:=eq_true p218
                     replace q218:=eq_true q218
                     obtain ⟨i029,hi029,_,hsz29,_⟩:=info_parts info5
                     obtain ⟨A29,hcut29,hA29,hC29⟩:=print_mid_of (P:=Try.prog) (Value.int .u8) 0 22 5 .i64 .i64 Try.underlying22 hi029 hsz29 (some ad215) c0 l0 (ji25) (wrap64 ((ji25) + a2)) (of_decide_eq_true (by first|(with_reducible assumption)|assumption)) (by first|omega|exact of_decide_eq_true (by first|(with_reducible assumption)|assumption)) (of_decide_eq_true (by first|(with_reducible assumption)|assumption)) HC0.out
                     have HR219:=mK (fun (W_ : World) (hW_ : Kd.C (Kd.int .u8) W_ (some ad215) l0.length l0)=>Kd.C_of_reads (h1:= fun _=>rfl) (hA29 _ (Kd.reads_of_C hW_)))
                     have HC219:=mK hC29
                     clear hA29 hC29 hi029 hsz29
                     simp only [hr1_] at hcut29 HR219 HC219
                     replace hr1_:=mK hr1_
                     go_wp2
                     go_ret3
                     exact ⟨A29,_,by first|rfl|(simp [errW_none,errW_some] <;> rfl)|(simp only [← hji18,← hji25];first|rfl|(simp [errW_none,errW_some] <;> rfl))|(simp [*,errW_none,errW_some] <;> rfl),HC219.out,HR219.out,by repeat (first|(with_reducible first|exact HB.out|apply lA|apply lN|apply lD)|exact HB.out)⟩
                    ·rw [if_neg c28] at H
                     exact absurd H (by simp)
                   ·rw [if_neg c27] at H
                    exact absurd H (by simp)
                  ·rw [if_neg c26] at H
                   exact absurd H (by simp)
                 ·rw [if_neg c24] at H
                  have c24b0 : ((wrap64 (rd l0 (ji18))) == a2) = false:=beq_eq_false_iff_ne.mpr c24
                  have c24b1 : ((wrap64 (rd l0 (ji18))) != a2) = true:=bne_iff_ne.mpr c24
                  by_cases c30 : a3 = true
                  ·subst c30
                   have H1 : (if (wrap64 (rd l0 (ji18))) > a2 then (if 0 ≤ (wrap64 (x11_1 + 2)) then (if (wrap64 (x11_1 + 2)) ≤ (wrap64 ((wrap64 (x11_1 + 2)) + a2)) then (if (wrap64 ((wrap64 (x11_1 + 2)) + a2)) ≤ (l0.length : Int) then (some (((l0.take (wrap64 ((wrap64 (x11_1 + 2)) + a2)).toNat).drop (wrap64 (x11_1 + 2)).toNat),true,true)) else (none)) else (none)) else (none)) else (drawbridgeref20_find.l0 kj11 l0 a1 a2 true (wrap64 ((wrap64 (x11_1 + 2)) + (wrap64 (rd l0 (ji18))))))) = some (r1,r2,r3):= by rw [if_pos rfl] at H;exact H
                   clear H
                   have H:=H1
                   clear H1
                   by_cases c31 : (wrap64 (rd l0 (ji18))) > a2
                   ·rw [if_pos c31] at H
                    have c31b0 : decide (a2 < (wrap64 (rd l0 (ji18)))) = true:=decide_eq_true c31
                    clear c31
                    obtain ⟨ji32,hji32⟩ : ∃ j_ : Int,(wrap64 (x11_1 + 2)) = j_:=⟨_,rfl⟩
                    replace H : (if 0 ≤ (ji32) then (if (ji32) ≤ (wrap64 ((ji32) + a2)) then (if (wrap64 ((ji32) + a2)) ≤ (l0.length : Int) then (some (((l0.take (wrap64 ((ji32) + a2)).toNat).drop (ji32).toNat),true,true)) else (none)) else (none)) else (none)) = some (r1,r2,r3):= by first|(rw [hji32] at H;exact H)|(simp only [hji32] at H ⊢; exact H)
                    have hji32w : (IntKind.i64.wrap (x11_1 + 2)) = ji32:=(i64_w _).trans hji32
                    by_cases c33 : 0 ≤ (ji32)
                    ·rw [if_pos c33] at H
                     have c33b0:=eq_true c33
                     have c33b1 : decide (0 ≤ (ji32)) = true:=decide_eq_true c33
                     clear c33
                     by_cases c34 : (ji32) ≤ (wrap64 ((ji32) + a2))
                     ·rw [if_pos c34] at H
                      have c34b0:=eq_true c34
                      have c34b1 : decide ((ji32) ≤ (wrap64 ((ji32) + a2))) = true:=decide_eq_true c34
                      by_cases c35 : (wrap64 ((ji32) + a2)) ≤ (l0.length : Int)
                      ·rw [if_pos c35] at H
                       have c35b0:=eq_true c35
                       have c35b1 : decide ((wrap64 ((ji32) + a2)) ≤ (l0.length : Int)) = true:=decide_eq_true c35
                       simp only [Option.some.injEq,Prod.mk.injEq] at H
                       obtain ⟨hr1_,rfl,rfl⟩:=H
                       have p217 : 0 ≤ ((ji18) : Int):=of_decide_eq_true (by first|(with_reducible assumption)|assumption)
                       have q217 : (ji18) < (l0.length : Int):=of_decide_eq_true (by first|(with_reducible assumption)|assumption)
                       obtain ⟨ad217,e217,hx217_0⟩:=Kd.at_int HR0.out (ji18) p217 q217
                       obtain rfl : ad215 = ad217:=(by injection e217)
                       replace hx217_0:=(HB.out.cell (World.block_lt_of_cell? w _ hx217_0)).trans hx217_0
                       replace p217:=eq_true p217
                       replace q217:=eq_true q217
                       have p218 : 0 ≤ (x11_1 : Int):=of_decide_eq_true (by first|(with_reducible assumption)|assumption)
                       have q218 : x11_1 < (l0.length : Int):=of_decide_eq_true (by first|(with_reducible assumption)|assumption)
                       obtain ⟨ad218,e218,hx218_0⟩:=Kd.at_int HR0.out x11_1 p218 q218
                       obtain rfl : ad215 = ad218:=(by injection e218)
                       replace hx218_0:=(HB.out.cell (World.block_lt_of_cell? w _ hx218_0)).trans hx218_0
                       replace p218:=eq_true p218
                       replace q218:=eq_true q218
                       obtain ⟨i036,hi036,_,hsz36,_⟩:=info_parts info5
                       obtain ⟨A36,hcut36,hA36,hC36⟩:=print_mid_of (P:=Try.prog) (Value.int .u8) 0 22 5 .i64 .i64 Try.underlying22 hi036 hsz36 (some ad215) c0 l0 (ji32) (wrap64 ((ji32) + a2)) (of_decide_eq_true (by first|(with_reducible assumption)|assumption)) (by first|omega|exact of_decide_eq_true (by first|(with_reducible assumption)|assumption)) (of_decide_eq_true (by first|(with_reducible assumption)|assumption)) HC0.out
                       have HR220:=mK (fun (W_ : World) (hW_ : Kd.C (Kd.int .u8) W_ (some ad215) l0.length l0)=>Kd.C_of_reads (h1:= fun _=>rfl) (hA36 _ (Kd.reads_of_C hW_)))
                       have HC220:=mK hC36
                       clear hA36 hC36 hi036 hsz36
                       simp only [hr1_] at hcut36 HR220 HC220
                       replace hr1_:=mK hr1_
                       go_wp2
                       go_ret3
                       exact ⟨A36,_,by first|rfl|(simp [errW_none,errW_some] <;> rfl)|(simp only [← hji18,← hji32];first|rfl|(simp [errW_none,errW_some] <;> rfl))|(simp [*,errW_none,errW_some] <;> rfl),HC220.out,HR220.out,by repeat (first|(with_reducible first|exact HB.out|apply lA|apply lN|apply lD)|exact HB.out)⟩
                      ·rw [if_neg c35] at H
                       exact absurd H (by simp)
                     ·rw [if_neg c34] at H
                      exact absurd H (by simp)
                    ·rw [if_neg c33] at H
                     exact absurd H (by simp)
                   ·rw [if_neg c31] at H
                    have c31b0 : decide (a2 < (wrap64 (rd l0 (ji18)))) = false:=decide_eq_false c31
                    clear c31
                    have H':=mK H
                    clear H
                    have p217 : 0 ≤ ((ji18) : Int):=of_decide_eq_true (by first|(with_reducible assumption)|assumption)
                    have q217 : (ji18) < (l0.length : Int):=of_decide_eq_true (by first|(with_reducible assumption)|assumption)
                    obtain ⟨ad217,e217,hx217_0⟩:=Kd.at_int HR0.out (ji18) p217 q217
                    obtain rfl : ad215 = ad217:=(by injection e217)
                    replace hx217_0:=(HB.out.cell (World.block_lt_of_cell? w _ hx217_0)).trans hx217_0
                    replace p217:=eq_true p217
                    replace q217:=eq_true q217
                    have p218 : 0 ≤ (x11_1 : Int):=of_decide_eq_true (by first|(with_reducible assumption)|assumption)
                    have q218 : x11_1 < (l0.length : Int):=of_decide_eq_true (by first|(with_reducible assumption)|assumption)
                    obtain ⟨ad218,e218,hx218_0⟩:=Kd.at_int HR0.out x11_1 p218 q218
                    obtain rfl : ad215 = ad218:=(by injection e218)
                    replace hx218_0:=(HB.out.cell (World.block_lt_of_cell? w _ hx218_0)).trans hx218_0
                    replace p218:=eq_true p218
                    replace q218:=eq_true q218
                    go_wp2
                    go_roundg kj11
                    case measure=>have:=HK1.out;have:=HJ4.out;have:=HJ11.out;omega
                    case rel=>exact ⟨(wrap64 ((wrap64 (x11_1 + 2)) + (wrap64 (rd l0 (ji18))))),(by first|rfl|(simp;done)|(simp only [← hji18] <;> (first|rfl|simp))|(simp [*];done)),H',⟨by have:=HK1.out;have:=HJ4.out;have:=HJ11.out;omega⟩,⟨by repeat (first|(with_reducible first|exact HB.out|apply lA|apply lN|apply lD)|exact HB.out)⟩⟩
                  ·replace c30:=Bool.eq_false_iff.mpr c30
                   subst c30
                   have H1 : (drawbridgeref20_find.l0 kj11 l0 a1 a2 false (wrap64 ((wrap64 (x11_1 + 2)) + (wrap64 (rd l0 (ji18)))))) = some (r1,r2,r3):= by rw [if_neg (show ¬ (false = true) by decide)] at H;exact H
                   clear H
                   have H:=H1
                   clear H1
                   have H':=mK H
                   clear H
                   have p217 : 0 ≤ ((ji18) : Int):=of_decide_eq_true (by first|(with_reducible assumption)|assumption)
                   have q217 : (ji18) < (l0.length : Int):=of_decide_eq_true (by first|(with_reducible assumption)|assumption)
                   obtain ⟨ad217,e217,hx217_0⟩:=Kd.at_int HR0.out (ji18) p217 q217
                   obtain rfl : ad215 = ad217:=(by injection e217)
                   replace hx217_0:=(HB.out.cell (World.block_lt_of_cell? w _ hx217_0)).trans hx217_0
                   replace p217:=eq_true p217
                   replace q217:=eq_true q217
                   have p218 : 0 ≤ (x11_1 : Int):=of_decide_eq_true (by first|(with_reducible assumption)|assumption)
                   have q218 : x11_1 < (l0.length : Int):=of_decide_eq_true (by first|(with_reducible assumption)|assumption)
                   obtain ⟨ad218,e218,hx218_0⟩:=Kd.at_int HR0.out x11_1 p218 q218
                   obtain rfl : ad215 = ad218:=(by injection e218)
                   replace hx218_0:=(HB.out.cell (World.block_lt_of_cell? w _ hx218_0)).trans hx218_0
                   replace p218:=eq_true p218
                   replace q218:=eq_true q218
                   go_wp2
                   go_roundg kj11
                   case measure=>have:=HK1.out;have:=HJ4.out;have:=HJ11.out;omega
                   case rel=>exact ⟨(wrap64 ((wrap64 (x11_1 + 2)) + (wrap64 (rd l0 (ji18))))),(by first|rfl|(simp;done)|(simp only [← hji18] <;> (first|rfl|simp))|(simp [*];done)),H',⟨by have:=HK1.out;have:=HJ4.out;have:=HJ11.out;omega⟩,⟨by repeat (first|(with_reducible first|exact HB.out|apply lA|apply lN|apply lD)|exact HB.out)⟩⟩
                ·rw [if_neg c23] at H
                 have c23b0 : ((rd l0 x11_1) == a1) = false:=beq_eq_false_iff_ne.mpr c23
                 have c23b1 : ((rd l0 x11_1) != a1) = true:=bne_iff_ne.mpr c23
                 have H':=mK H
                 clear H
                 have p217 : 0 ≤ ((ji18) : Int):=of_decide_eq_true (by first|(with_reducible assumption)|assumption)
                 have q217 : (ji18) < (l0.length : Int):=of_decide_eq_true (by first|(with_reducible assumption)|assumption)
                 obtain ⟨ad217,e217,hx217_0⟩:=Kd.at_int HR0.out (ji18) p217 q217
                 obtain rfl : ad215 = ad217:=(by injection e217)
                 replace hx217_0:=(HB.out.cell (World.block_lt_of_cell? w _ hx217_0)).trans hx217_0
                 replace p217:=eq_true p217
                 replace q217:=eq_true q217
                 have p218 : 0 ≤ (x11_1 : Int):=of_decide_eq_true (by first|(with_reducible assumption)|assumption)
                 have q218 : x11_1 < (l0.length : Int):=of_decide_eq_true (by first|(with_reducible assumption)|assumption)
                 obtain ⟨ad218,e218,hx218_0⟩:=Kd.at_int HR0.out x11_1 p218 q218
                 obtain rfl : ad215 = ad218:=(by injection e218)
                 replace hx218_0:=(HB.out.cell (World.block_lt_of_cell? w _ hx218_0)).trans hx218_0
                 replace p218:=eq_true p218
                 replace q218:=eq_true q218
                 go_wp2
                 go_roundg kj11
                 case measure=>have:=HK1.out;have:=HJ4.out;have:=HJ11.out;omega
                 case rel=>exact ⟨(wrap64 ((wrap64 (x11_1 + 2)) + (wrap64 (rd l0 (ji18))))),(by first|rfl|(simp;done)|(simp only [← hji18] <;> (first|rfl|simp))|(simp [*];done)),H',⟨by have:=HK1.out;have:=HJ4.out;have:=HJ11.out;omega⟩,⟨by repeat (first|(with_reducible first|exact HB.out|apply lA|apply lN|apply lD)|exact HB.out)⟩⟩
               ·rw [if_neg c22] at H
                exact absurd H (by simp)
              ·rw [if_neg c21] at H
               exact absurd H (by simp)
             ·rw [if_neg c20] at H
              exact absurd H (by simp)
            ·rw [if_neg c19] at H
             exact absurd H (by simp)
       ·rw [if_neg c10] at H
        exact absurd H (by simp)
      ·rw [if_neg c9] at H
       exact absurd H (by simp)
     ·replace c8:=Bool.eq_false_iff.mpr c8
      subst c8
      have H1 : (some (([] : List Int),false,true)) = some (r1,r2,r3):= by rw [if_neg (show ¬ (false = true) by decide)] at H;exact H
      clear H
      have H:=H1
      clear H1
      simp only [Option.some.injEq,Prod.mk.injEq] at H
      obtain ⟨rfl,rfl,rfl⟩:=H
      go_wp2
      go_ret3
      exact ⟨none,0,by first|rfl|(simp [errW_none,errW_some] <;> rfl)|(simp [*,errW_none,errW_some] <;> rfl),Nat.le_refl _,fun _ _=>⟨rfl,by simp,fun hp=>by simp at hp⟩,by repeat (first|(with_reducible first|exact HB.out|apply lA|apply lN|apply lD)|exact HB.out)⟩


/-! ### drawbridgeref20_value: function 26 -/
def drawbridgeref20_value.f (k : Nat) (l0 : List Int) (a1 : Int) (a2 : Bool) : Option Int := (drawbridgeref20_find.f k l0 a1 4 a2).bind fun t => if t.2.1 = true then drawbridgeref20_number.f k t.1 else some 0
theorem drawbridgeref20_value.mono : ∀ l0 a1 a2 k, LeO (drawbridgeref20_value.f k l0 a1 a2) (drawbridgeref20_value.f (k + 1) l0 a1 a2) := by
 intro l0 a1 a2 k
 unfold drawbridgeref20_value.f
 refine LeO.bind (drawbridgeref20_find.mono _ _ _ _ _) (fun _ => ?_)
 exact LeO.ite (drawbridgeref20_number.mono _ _) (LeO.refl _)
set_option maxHeartbeats 800000 in
set_option maxRecDepth 100000 in
theorem drawbridgeref20_value.calls (k : Nat) (A0 : Option Addr) (c0 : Nat) (l0 : List Int) (a1 : Int) (a2 : Bool) (r : Int) (w : World) (hr0 : Kd.C (Kd.int .u8) w A0 l0.length l0) (hc0 : l0.length ≤ c0) (h : drawbridgeref20_value.f k l0 a1 a2 = some r) :
  Calls Try.prog 26 #[.slice A0 l0.length c0, .int .u8 a1, .bool a2] w fun e w' => e = .returned (.int .u32 r) ∧ Below w.heap.size w w' := by
 unfold drawbridgeref20_value.f at h
 obtain ⟨⟨t1,t2,t3⟩,hf,h⟩:=Option.bind_eq_some_iff.1 h
 have HR:=mK hr0
 have HC:=mK hc0
 have HF:=mK hf
 clear hr0 hc0 hf
 cases t2 with
 |false =>
  replace h : some 0 = some r:=h
  obtain rfl:=Option.some.inj h
  go_enter Try.func26,Try.ntmps26
  go_wp2_with (go_at_call 25;go_loud (refine (drawbridgeref20_find.calls k A0 c0 l0 a1 4 a2 t1 false t3 _ HR.out HC.out HF.out).mono ?_;rintro e w1 ⟨A1,c1,rfl,hl,hr,hb⟩;have HB:=mK hb;clear hb))
  go_ret
  exact ⟨rfl,HB.out⟩
 |true =>
  replace h : drawbridgeref20_number.f k t1 = some r:=h
  have HN:=mK h
  clear h
  go_enter Try.func26,Try.ntmps26
  go_wp2_with (first|(go_at_call 25;refine (drawbridgeref20_find.calls k A0 c0 l0 a1 4 a2 t1 true t3 _ HR.out HC.out HF.out).mono ?_;rintro e w1 ⟨A1,c1,rfl,hl,hr,hb⟩;have HB:=mK hb;have HR1:=mK (hr w HR.out);have HC1:=mK hl;clear hb hr hl)|(go_at_call 24;refine (drawbridgeref20_number.calls k A1 c1 t1 r _ (Kd.C_below HR1.out HB.out) HC1.out HN.out).mono ?_;rintro e w2 ⟨rfl,hb⟩;have HB2:=mK (HB.out.trans (hb.mono HB.out.size));clear hb))
  go_ret
  exact ⟨rfl,HB2.out⟩


end Go.Proofs.Ytpbofaghnfheiaa.P
