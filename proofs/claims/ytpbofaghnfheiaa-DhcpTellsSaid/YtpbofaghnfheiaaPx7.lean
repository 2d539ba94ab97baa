/- Contracts of functions of the seat, written by a program of this session (with the kit's print) for the laws of this claim; no condition beside what each states. -/
import Derived.Test.YtpbofaghnfheiaaPx0
import Derived.Test.YtpbofaghnfheiaaPx6
namespace Go.Proofs.Ytpbofaghnfheiaa.P
open Go.Proofs.Ytpbofaghnfheiaa.Aux Go.RowKit Go.Proofs.YtpbofaghnfheiaaW.PrintWords Go.Proofs.YtpbofaghnfheiaaW.PrintLast Go.Proofs.YtpbofaghnfheiaaW.PrintMore
attribute [local go_sem] max2_int min2_int max_two min_two max_three min_three max_four min_four   -- for this text's walks alone
set_option linter.unusedVariables false
set_option linter.unusedSimpArgs false

/-! ### drawbridgeref20_Put: function 11 -/
mutual
def drawbridgeref20_Put.j0 : Nat → Bool → Int → Int → Int → Int → List Int → Int → Int → Int → Int → Int → Int → Int → Option (List Int × Int)
 | 0, _, _, _, _, _, _, _, _, _, _, _, _, _ => none
 | k + 1, x31, x234000, x234001, x234002, x234003, x234004, x234005, x234006, x234007, x234008, x234009, x234010, x234011 => if x31 = true then (some (([] : List Int), 2)) else ((some (([(x234000) % 256, 1, 6, 0] : List Int) : List Int)).bind fun y234 => ((drawbridgeref20_four.f k x234001).bind fun t237 => (if y234.length + t237.length < 140737488355328 then ((some (y234 ++ t237 : List Int)).bind fun y240 => ((some (([0, 0, 0, 0] : List Int) : List Int)).bind fun y243 => (if y240.length + y243.length < 140737488355328 then ((some (y240 ++ y243 : List Int)).bind fun y246 => ((drawbridgeref20_four.f k x234002).bind fun t249 => (if y246.length + t249.length < 140737488355328 then ((some (y246 ++ t249 : List Int)).bind fun y252 => ((drawbridgeref20_four.f k x234003).bind fun t255 => (if y252.length + t255.length < 140737488355328 then ((some (y252 ++ t255 : List Int)).bind fun y258 => (if y258.length + 8 < 140737488355328 then ((some (y258 ++ List.replicate 8 0 : List Int)).bind fun y261 => (if y261.length + x234004.length < 140737488355328 then ((some (y261 ++ x234004 : List Int)).bind fun y264 => (if y264.length + 202 < 140737488355328 then ((some (y264 ++ List.replicate 202 0 : List Int)).bind fun y267 => ((some (([99, 130, 83, 99, 53, 1, (x234005) % 256] : List Int) : List Int)).bind fun y270 => (if y267.length + y270.length < 140737488355328 then (drawbridgeref20_Put.l0 k (y267 ++ y270) (([50, 54, 51, 1, 3, 6] : List Int)) (([x234006, x234007, x234008, x234009, x234010, x234011] : List Int)) 0) else (none)))) else (none))) else (none))) else (none))) else (none)))) else (none)))) else (none)))) else (none))))
def drawbridgeref20_Put.l0 : Nat → List Int → List Int → List Int → Int → Option (List Int × Int)
 | 0, _, _, _, _ => none
 | k + 1, x4, x5, x6, x7 => if x7 < (x5.length : Int) then (if 0 ≤ x7 then (if x7 < (x6.length : Int) then ((drawbridgeref20_option.f k (rd x5 x7) (rd x6 x7)).bind fun t284 => (if x4.length + t284.length < 140737488355328 then (drawbridgeref20_Put.l0 k (x4 ++ t284) x5 x6 (wrap64 (x7 + 1))) else (none))) else (none)) else (none)) else (if x4.length < 140737488355328 then (some ((x4 ++ [255]), 0)) else (none))
end
def drawbridgeref20_Put.f (k : Nat) (a0_0 : Int) (a0_1 : Int) (a0_2 : Int) (a0_3 : Int) (l0_4 : List Int) (a0_5 : Int) (a0_6 : Int) (a0_7 : Int) (a0_8 : Int) (a0_9 : Int) (a0_10 : Int) (a0_11 : Int) : Option (List Int × Int) := if a0_0 = 1 then (if (l0_4.length : Int) = 6 then (if a0_5 < 1 then (drawbridgeref20_Put.j0 k true a0_0 a0_1 a0_2 a0_3 l0_4 a0_5 a0_6 a0_7 a0_8 a0_9 a0_10 a0_11) else (drawbridgeref20_Put.j0 k (decide (a0_5 > 8)) a0_0 a0_1 a0_2 a0_3 l0_4 a0_5 a0_6 a0_7 a0_8 a0_9 a0_10 a0_11)) else (drawbridgeref20_Put.j0 k true a0_0 a0_1 a0_2 a0_3 l0_4 a0_5 a0_6 a0_7 a0_8 a0_9 a0_10 a0_11)) else (if a0_0 = 2 then (if (l0_4.length : Int) = 6 then (if a0_5 < 1 then (drawbridgeref20_Put.j0 k true a0_0 a0_1 a0_2 a0_3 l0_4 a0_5 a0_6 a0_7 a0_8 a0_9 a0_10 a0_11) else (drawbridgeref20_Put.j0 k (decide (a0_5 > 8)) a0_0 a0_1 a0_2 a0_3 l0_4 a0_5 a0_6 a0_7 a0_8 a0_9 a0_10 a0_11)) else (drawbridgeref20_Put.j0 k true a0_0 a0_1 a0_2 a0_3 l0_4 a0_5 a0_6 a0_7 a0_8 a0_9 a0_10 a0_11)) else (drawbridgeref20_Put.j0 k true a0_0 a0_1 a0_2 a0_3 l0_4 a0_5 a0_6 a0_7 a0_8 a0_9 a0_10 a0_11))
theorem drawbridgeref20_Put.mono_l : ∀ k, (∀ y0 y1 y2 y3 y4 y5 y6 y7 y8 y9 y10 y11 y12, LeO (drawbridgeref20_Put.j0 k y0 y1 y2 y3 y4 y5 y6 y7 y8 y9 y10 y11 y12) (drawbridgeref20_Put.j0 (k + 1) y0 y1 y2 y3 y4 y5 y6 y7 y8 y9 y10 y11 y12)) ∧ (∀ y0 y1 y2 y3, LeO (drawbridgeref20_Put.l0 k y0 y1 y2 y3) (drawbridgeref20_Put.l0 (k + 1) y0 y1 y2 y3))
 | 0 => ⟨fun _ _ _ _ _ _ _ _ _ _ _ _ _ r h => by simp [drawbridgeref20_Put.j0] at h, fun _ _ _ _ r h => by simp [drawbridgeref20_Put.l0] at h⟩
 | k + 1 => by
  obtain ⟨ih0, ih1⟩ := drawbridgeref20_Put.mono_l k
  refine ⟨?_, ?_⟩
  ·intro y0 y1 y2 y3 y4 y5 y6 y7 y8 y9 y10 y11 y12
   unfold drawbridgeref20_Put.j0
   repeat' first
   | (with_reducible exact ih0 _ _ _ _ _ _ _ _ _ _ _ _ _)
   | (with_reducible exact ih1 _ _ _ _)
   | (with_reducible exact drawbridgeref20_four.mono _ _)
   | (with_reducible exact drawbridgeref20_option.mono _ _ _)
   | (with_reducible exact LeO.refl _)
   | (with_reducible exact LeO.none _)
   | (with_reducible refine LeO.ite ?_ ?_)
   | (with_reducible refine LeO.bind ?_ (fun _ => ?_))
   | exact ih0 _ _ _ _ _ _ _ _ _ _ _ _ _
   | exact ih1 _ _ _ _
   | exact drawbridgeref20_four.mono _ _
   | exact drawbridgeref20_option.mono _ _ _
   | exact LeO.none _
   | refine LeO.ite ?_ ?_
   | refine LeO.bind ?_ (fun _ => ?_)
  ·intro y0 y1 y2 y3
   unfold drawbridgeref20_Put.l0
   repeat' first
   | (with_reducible exact ih0 _ _ _ _ _ _ _ _ _ _ _ _ _)
   | (with_reducible exact ih1 _ _ _ _)
   | (with_reducible exact drawbridgeref20_four.mono _ _)
   | (with_reducible exact drawbridgeref20_option.mono _ _ _)
   | (with_reducible exact LeO.refl _)
   | (with_reducible exact LeO.none _)
   | (with_reducible refine LeO.ite ?_ ?_)
   | (with_reducible refine LeO.bind ?_ (fun _ => ?_))
   | exact ih0 _ _ _ _ _ _ _ _ _ _ _ _ _
   | exact ih1 _ _ _ _
   | exact drawbridgeref20_four.mono _ _
   | exact drawbridgeref20_option.mono _ _ _
   | exact LeO.none _
   | refine LeO.ite ?_ ?_
   | refine LeO.bind ?_ (fun _ => ?_)
theorem drawbridgeref20_Put.mono : ∀ a0 a1 a2 a3 a4 a5 a6 a7 a8 a9 a10 a11 k, LeO (drawbridgeref20_Put.f k a0 a1 a2 a3 a4 a5 a6 a7 a8 a9 a10 a11) (drawbridgeref20_Put.f (k + 1) a0 a1 a2 a3 a4 a5 a6 a7 a8 a9 a10 a11) := by
 intro a0 a1 a2 a3 a4 a5 a6 a7 a8 a9 a10 a11 k
 obtain ⟨ih0, ih1⟩ := drawbridgeref20_Put.mono_l k
 unfold drawbridgeref20_Put.f
 repeat' first
   | (with_reducible exact ih0 _ _ _ _ _ _ _ _ _ _ _ _ _)
   | (with_reducible exact ih1 _ _ _ _)
   | (with_reducible exact drawbridgeref20_four.mono _ _)
   | (with_reducible exact drawbridgeref20_option.mono _ _ _)
   | (with_reducible exact LeO.refl _)
   | (with_reducible exact LeO.none _)
   | (with_reducible refine LeO.ite ?_ ?_)
   | (with_reducible refine LeO.bind ?_ (fun _ => ?_))
   | exact ih0 _ _ _ _ _ _ _ _ _ _ _ _ _
   | exact ih1 _ _ _ _
   | exact drawbridgeref20_four.mono _ _
   | exact drawbridgeref20_option.mono _ _ _
   | exact LeO.none _
   | refine LeO.ite ?_ ?_
   | refine LeO.bind ?_ (fun _ => ?_)
def drawbridgeref20_Put.T3 : Bool × List (List Nat × List Nat) := (true, [([], []), ([0], [0]), ([1], [1]), ([2], [2]), ([], []), ([4], [4]), ([5], [5]), ([3, 6, 6], [3, 6]), ([7, 7, 0, 1, 2, 3, 4, 5, 6, 7], [7])])
def drawbridgeref20_Put.B3 : List Nat := [0, 1, 3, 7, 0, 16, 48, 127, 255]
theorem drawbridgeref20_Put.tab3 : rtab .any (opsOf Try.f11 3) = drawbridgeref20_Put.T3 := by kernel_rfl
theorem drawbridgeref20_Put.bits3 : waitsOk drawbridgeref20_Put.T3.2 drawbridgeref20_Put.B3 = true := by kernel_rfl
def drawbridgeref20_Put.T4 : Bool × List (List Nat × List Nat) := (true, [([], []), ([], []), ([0, 1], [0, 1]), ([], []), ([3], [3]), ([4, 2], [4]), ([2, 5, 5], [2, 5]), ([], []), ([7], [7]), ([8, 6], [8]), ([6, 9, 9], [6, 9]), ([10, 10, 0, 1, 2, 3, 4, 5, 6, 7, 8, 9, 10], [0, 10])])
def drawbridgeref20_Put.B4 : List Nat := [0, 0, 3, 0, 8, 31, 63, 0, 128, 511, 1023, 2047]
theorem drawbridgeref20_Put.tab4 : rtab .any (opsOf Try.f11 4) = drawbridgeref20_Put.T4 := by kernel_rfl
theorem drawbridgeref20_Put.bits4 : waitsOk drawbridgeref20_Put.T4.2 drawbridgeref20_Put.B4 = true := by kernel_rfl
def drawbridgeref20_Put.T6 : Bool × List (List Nat × List Nat) := (true, [([], []), ([0], [0]), ([], []), ([2], [2]), ([3], [3]), ([4], [4]), ([1, 5, 1], [1, 5]), ([6, 6, 0, 1, 2, 3, 4, 5, 6], [0, 6])])
def drawbridgeref20_Put.B6 : List Nat := [0, 1, 0, 4, 12, 28, 63, 127]
theorem drawbridgeref20_Put.tab6 : rtab .any (opsOf Try.f11 6) = drawbridgeref20_Put.T6 := by kernel_rfl
theorem drawbridgeref20_Put.bits6 : waitsOk drawbridgeref20_Put.T6.2 drawbridgeref20_Put.B6 = true := by kernel_rfl
def drawbridgeref20_Put.T12 : Bool × List (List Nat × List Nat) := (true, [([], []), ([], []), ([], []), ([1, 2], [1, 2]), ([3], [3]), ([], []), ([], []), ([5, 6], [5, 6]), ([7], [7]), ([4, 8], [4, 8]), ([0, 9, 9], [0, 9]), ([10, 10, 0, 1, 2, 3, 4, 5, 6, 7, 8, 9, 10], [0, 10])])
def drawbridgeref20_Put.B12 : List Nat := [0, 0, 0, 6, 14, 0, 0, 96, 224, 510, 1023, 2047]
theorem drawbridgeref20_Put.tab12 : rtab .any (opsOf Try.f11 12) = drawbridgeref20_Put.T12 := by kernel_rfl
theorem drawbridgeref20_Put.bits12 : waitsOk drawbridgeref20_Put.T12.2 drawbridgeref20_Put.B12 = true := by kernel_rfl
set_option maxHeartbeats 8000000 in
set_option maxRecDepth 100000 in
theorem drawbridgeref20_Put.calls (k : Nat) (a0_0 : Int) (a0_1 : Int) (a0_2 : Int) (a0_3 : Int) (A0_4 : Option Addr) (c0_4 : Nat) (l0_4 : List Int) (a0_5 : Int) (a0_6 : Int) (a0_7 : Int) (a0_8 : Int) (a0_9 : Int) (a0_10 : Int) (a0_11 : Int) (r1 : List Int) (r2 : Int) (w : World) (hr0_4 : Kd.C (Kd.int .u8) w A0_4 l0_4.length l0_4) (hc0_4 : l0_4.length ≤ c0_4) (h : drawbridgeref20_Put.f k a0_0 a0_1 a0_2 a0_3 l0_4 a0_5 a0_6 a0_7 a0_8 a0_9 a0_10 a0_11 = some (r1, r2)) :
  Calls Try.prog 11 #[.agg #[.int .i64 a0_0, .int .u32 a0_1, .int .u32 a0_2, .int .u32 a0_3, .slice A0_4 l0_4.length c0_4, .int .i64 a0_5, .int .u32 a0_6, .int .u32 a0_7, .int .u32 a0_8, .int .u32 a0_9, .int .u32 a0_10, .int .u32 a0_11]] w fun e w' => ∃ v0_ : Value, e = .returned (.tuple #[v0_, .int .i64 r2]) ∧ Kd.R (Kd.int .u8) 5 w' w.heap.size (fun _ => True) v0_ r1 ∧ Below w.heap.size w w' := by
 have hu26:=Try.underlying26
 have HR0_4:=mK hr0_4
 have HC0_4:=mK hc0_4
 clear hr0_4 hc0_4
 have HB:=mK (Below.refl w.heap.size w)
 have H : (if a0_0 = 1 then (if (l0_4.length : Int) = 6 then (if a0_5 < 1 then (drawbridgeref20_Put.j0 k true a0_0 a0_1 a0_2 a0_3 l0_4 a0_5 a0_6 a0_7 a0_8 a0_9 a0_10 a0_11) else (drawbridgeref20_Put.j0 k (decide (a0_5 > 8)) a0_0 a0_1 a0_2 a0_3 l0_4 a0_5 a0_6 a0_7 a0_8 a0_9 a0_10 a0_11)) else (drawbridgeref20_Put.j0 k true a0_0 a0_1 a0_2 a0_3 l0_4 a0_5 a0_6 a0_7 a0_8 a0_9 a0_10 a0_11)) else (if a0_0 = 2 then (if (l0_4.length : Int) = 6 then (if a0_5 < 1 then (drawbridgeref20_Put.j0 k true a0_0 a0_1 a0_2 a0_3 l0_4 a0_5 a0_6 a0_7 a0_8 a0_9 a0_10 a0_11) else (drawbridgeref20_Put.j0 k (decide (a0_5 > 8)) a0_0 a0_1 a0_2 a0_3 l0_4 a0_5 a0_6 a0_7 a0_8 a0_9 a0_10 a0_11)) else (drawbridgeref20_Put.j0 k true a0_0 a0_1 a0_2 a0_3 l0_4 a0_5 a0_6 a0_7 a0_8 a0_9 a0_10 a0_11)) else (drawbridgeref20_Put.j0 k true a0_0 a0_1 a0_2 a0_3 l0_4 a0_5 a0_6 a0_7 a0_8 a0_9 a0_10 a0_11))) = some (r1,r2):=h
 clear h
 have HC2:=mK H
 clear H
 go_enter Try.func11,Try.ntmps11
 go_upto_region 1 with (first|((with_reducible refine gate_dst (N:=1) rfl ?_);(try (refine gate_guard (by rfl) ?_;dsimp only));refine box_event ?hg (N:=1) ?hd (cs:=#[.int .i64 a0_0,.int .u32 a0_1,.int .u32 a0_2,.int .u32 a0_3,.slice A0_4 l0_4.length c0_4,.int .i64 a0_5,.int .u32 a0_6,.int .u32 a0_7,.int .u32 a0_8,.int .u32 a0_9,.int .u32 a0_10,.int .u32 a0_11]) (t:=26) ?hr ?_;(case hd=>rfl);(case hg=>rfl);(case hr=>first|(go_simp;done)|(go_simp;rfl));intro gb233 hg w3 hbox hb;have n0_:=mK (below_step (by repeat (first|(with_reducible first|exact HB.out|apply lA|apply lN|apply lD)|exact HB.out)) hb);have n1_:=mK (hbox);have n3_:=mK ((by rw [hg];exact (below_size (by repeat (first|(with_reducible first|exact HB.out|apply lA|apply lN|apply lD)|exact HB.out))) : w.heap.size ≤ gb233));clear HB;have HB:=n0_;have BK233:=n1_;have GE233:=n3_;clear n0_ n1_ n3_;clear hb hbox hg))
 (try simp only [Act.put,sT,sZ,sS])
 go_cut [31] (fun v31 wc=>∃ (kq : Nat) (x31_1 : Bool),v31 = .bool x31_1∧Aside0 (drawbridgeref20_Put.j0 kq x31_1 a0_0 a0_1 a0_2 a0_3 l0_4 a0_5 a0_6 a0_7 a0_8 a0_9 a0_10 a0_11 = some (r1,r2))∧Aside0 (kq ≤ k)∧Aside0 (wc.heap[gb233]? = some (.cells #[.int .i64 a0_0,.int .u32 a0_1,.int .u32 a0_2,.int .u32 a0_3,(.slice A0_4 l0_4.length c0_4),.int .i64 a0_5,.int .u32 a0_6,.int .u32 a0_7,.int .u32 a0_8,.int .u32 a0_9,.int .u32 a0_10,.int .u32 a0_11] 26 (0,0)))∧Aside0 (Below w.heap.size w wc))
 case first =>
  have H:=HC2.out
  clear HC2
  by_cases c4 : a0_0 = 1
  ·rw [if_pos c4] at H
   have c4b0 : (a0_0 == 1) = true:=beq_iff_eq.mpr c4
   have c4b1 : (a0_0 != 1) = false:=bne_eq_false_iff_eq.mpr c4
   clear c4
   (first|rw [c4b0]|(simp only [i64_w,i32_w];rw [c4b0])|skip)
   by_cases c5 : (l0_4.length : Int) = 6
   ·rw [if_pos c5] at H
    have c5b0 : ((l0_4.length : Int) == 6) = true:=beq_iff_eq.mpr c5
    have c5b1 : ((l0_4.length : Int) != 6) = false:=bne_eq_false_iff_eq.mpr c5
    clear c5
    by_cases c6 : a0_5 < 1
    ·rw [if_pos c6] at H
     have c6b0 : decide (a0_5 < 1) = true:=decide_eq_true c6
     clear c6
     have H':=mK H
     clear H
     have hcz7_0 : w3.cell? ⟨gb233,0,none⟩ = some (.int .i64 a0_0):=(blk_cell BK233.out 0).trans rfl
     have hcz7_1 : w3.cell? ⟨gb233,1,none⟩ = some (.int .u32 a0_1):=(blk_cell BK233.out 1).trans rfl
     have hcz7_2 : w3.cell? ⟨gb233,2,none⟩ = some (.int .u32 a0_2):=(blk_cell BK233.out 2).trans rfl
     have hcz7_3 : w3.cell? ⟨gb233,3,none⟩ = some (.int .u32 a0_3):=(blk_cell BK233.out 3).trans rfl
     have hcz7_4 : w3.cell? ⟨gb233,4,none⟩ = some (.slice A0_4 l0_4.length c0_4):=(blk_cell BK233.out 4).trans rfl
     have hcz7_5 : w3.cell? ⟨gb233,5,none⟩ = some (.int .i64 a0_5):=(blk_cell BK233.out 5).trans rfl
     have hcz7_6 : w3.cell? ⟨gb233,6,none⟩ = some (.int .u32 a0_6):=(blk_cell BK233.out 6).trans rfl
     have hcz7_7 : w3.cell? ⟨gb233,7,none⟩ = some (.int .u32 a0_7):=(blk_cell BK233.out 7).trans rfl
     have hcz7_8 : w3.cell? ⟨gb233,8,none⟩ = some (.int .u32 a0_8):=(blk_cell BK233.out 8).trans rfl
     have hcz7_9 : w3.cell? ⟨gb233,9,none⟩ = some (.int .u32 a0_9):=(blk_cell BK233.out 9).trans rfl
     have hcz7_10 : w3.cell? ⟨gb233,10,none⟩ = some (.int .u32 a0_10):=(blk_cell BK233.out 10).trans rfl
     have hcz7_11 : w3.cell? ⟨gb233,11,none⟩ = some (.int .u32 a0_11):=(blk_cell BK233.out 11).trans rfl
     have hfz7_0:=blk_frozen BK233.out 0
     have hfz7_1:=blk_frozen BK233.out 1
     have hfz7_2:=blk_frozen BK233.out 2
     have hfz7_3:=blk_frozen BK233.out 3
     have hfz7_4:=blk_frozen BK233.out 4
     have hfz7_5:=blk_frozen BK233.out 5
     have hfz7_6:=blk_frozen BK233.out 6
     have hfz7_7:=blk_frozen BK233.out 7
     have hfz7_8:=blk_frozen BK233.out 8
     have hfz7_9:=blk_frozen BK233.out 9
     have hfz7_10:=blk_frozen BK233.out 10
     have hfz7_11:=blk_frozen BK233.out 11
     go_wp2
     go_meet
     case rel=>exact ⟨_,(true),(by first|rfl|(simp;done)|(simp [*];done)),H',⟨by first|omega|exact Nat.le_refl _⟩,⟨by (with_reducible repeat (first|apply bN|apply bD|apply bA));exact BK233.out⟩,⟨by repeat (first|(with_reducible first|exact HB.out|apply lA|apply lN|apply lD|refine lS ?_ GE233.out)|exact HB.out)⟩⟩
    ·rw [if_neg c6] at H
     have c6b0 : decide (a0_5 < 1) = false:=decide_eq_false c6
     clear c6
     have H':=mK H
     clear H
     have hcz8_0 : w3.cell? ⟨gb233,0,none⟩ = some (.int .i64 a0_0):=(blk_cell BK233.out 0).trans rfl
     have hcz8_1 : w3.cell? ⟨gb233,1,none⟩ = some (.int .u32 a0_1):=(blk_cell BK233.out 1).trans rfl
     have hcz8_2 : w3.cell? ⟨gb233,2,none⟩ = some (.int .u32 a0_2):=(blk_cell BK233.out 2).trans rfl
     have hcz8_3 : w3.cell? ⟨gb233,3,none⟩ = some (.int .u32 a0_3):=(blk_cell BK233.out 3).trans rfl
     have hcz8_4 : w3.cell? ⟨gb233,4,none⟩ = some (.slice A0_4 l0_4.length c0_4):=(blk_cell BK233.out 4).trans rfl
     have hcz8_5 : w3.cell? ⟨gb233,5,none⟩ = some (.int .i64 a0_5):=(blk_cell BK233.out 5).trans rfl
     have hcz8_6 : w3.cell? ⟨gb233,6,none⟩ = some (.int .u32 a0_6):=(blk_cell BK233.out 6).trans rfl
     have hcz8_7 : w3.cell? ⟨gb233,7,none⟩ = some (.int .u32 a0_7):=(blk_cell BK233.out 7).trans rfl
     have hcz8_8 : w3.cell? ⟨gb233,8,none⟩ = some (.int .u32 a0_8):=(blk_cell BK233.out 8).trans rfl
     have hcz8_9 : w3.cell? ⟨gb233,9,none⟩ = some (.int .u32 a0_9):=(blk_cell BK233.out 9).trans rfl
     have hcz8_10 : w3.cell? ⟨gb233,10,none⟩ = some (.int .u32 a0_10):=(blk_cell BK233.out 10).trans rfl
     have hcz8_11 : w3.cell? ⟨gb233,11,none⟩ = some (.int .u32 a0_11):=(blk_cell BK233.out 11).trans rfl
     have hfz8_0:=blk_frozen BK233.out 0
     have hfz8_1:=blk_frozen BK233.out 1
     have hfz8_2:=blk_frozen BK233.out 2
     have hfz8_3:=blk_frozen BK233.out 3
     have hfz8_4:=blk_frozen BK233.out 4
     have hfz8_5:=blk_frozen BK233.out 5
     have hfz8_6:=blk_frozen BK233.out 6
     have hfz8_7:=blk_frozen BK233.out 7
     have hfz8_8:=blk_frozen BK233.out 8
     have hfz8_9:=blk_frozen BK233.out 9
     have hfz8_10:=blk_frozen BK233.out 10
     have hfz8_11:=blk_frozen BK233.out 11
     go_wp2
     go_meet
     case rel=>exact ⟨_,(decide (a0_5 > 8)),(by first|rfl|(simp;done)|(simp [*];done)),H',⟨by first|omega|exact Nat.le_refl _⟩,⟨by (with_reducible repeat (first|apply bN|apply bD|apply bA));exact BK233.out⟩,⟨by repeat (first|(with_reducible first|exact HB.out|apply lA|apply lN|apply lD|refine lS ?_ GE233.out)|exact HB.out)⟩⟩
   ·rw [if_neg c5] at H
    have c5b0 : ((l0_4.length : Int) == 6) = false:=beq_eq_false_iff_ne.mpr c5
    have c5b1 : ((l0_4.length : Int) != 6) = true:=bne_iff_ne.mpr c5
    have H':=mK H
    clear H
    have hcz9_0 : w3.cell? ⟨gb233,0,none⟩ = some (.int .i64 a0_0):=(blk_cell BK233.out 0).trans rfl
    have hcz9_1 : w3.cell? ⟨gb233,1,none⟩ = some (.int .u32 a0_1):=(blk_cell BK233.out 1).trans rfl
    have hcz9_2 : w3.cell? ⟨gb233,2,none⟩ = some (.int .u32 a0_2):=(blk_cell BK233.out 2).trans rfl
    have hcz9_3 : w3.cell? ⟨gb233,3,none⟩ = some (.int .u32 a0_3):=(blk_cell BK233.out 3).trans rfl
    have hcz9_4 : w3.cell? ⟨gb233,4,none⟩ = some (.slice A0_4 l0_4.length c0_4):=(blk_cell BK233.out 4).trans rfl
    have hcz9_5 : w3.cell? ⟨gb233,5,none⟩ = some (.int .i64 a0_5):=(blk_cell BK233.out 5).trans rfl
    have hcz9_6 : w3.cell? ⟨gb233,6,none⟩ = some (.int .u32 a0_6):=(blk_cell BK233.out 6).trans rfl
    have hcz9_7 : w3.cell? ⟨gb233,7,none⟩ = some (.int .u32 a0_7):=(blk_cell BK233.out 7).trans rfl
    have hcz9_8 : w3.cell? ⟨gb233,8,none⟩ = some (.int .u32 a0_8):=(blk_cell BK233.out 8).trans rfl
    have hcz9_9 : w3.cell? ⟨gb233,9,none⟩ = some (.int .u32 a0_9):=(blk_cell BK233.out 9).trans rfl
    have hcz9_10 : w3.cell? ⟨gb233,10,none⟩ = some (.int .u32 a0_10):=(blk_cell BK233.out 10).trans rfl
    have hcz9_11 : w3.cell? ⟨gb233,11,none⟩ = some (.int .u32 a0_11):=(blk_cell BK233.out 11).trans rfl
    have hfz9_0:=blk_frozen BK233.out 0
    have hfz9_1:=blk_frozen BK233.out 1
    have hfz9_2:=blk_frozen BK233.out 2
    have hfz9_3:=blk_frozen BK233.out 3
    have hfz9_4:=blk_frozen BK233.out 4
    have hfz9_5:=blk_frozen BK233.out 5
    have hfz9_6:=blk_frozen BK233.out 6
    have hfz9_7:=blk_frozen BK233.out 7
    have hfz9_8:=blk_frozen BK233.out 8
    have hfz9_9:=blk_frozen BK233.out 9
    have hfz9_10:=blk_frozen BK233.out 10
    have hfz9_11:=blk_frozen BK233.out 11
    go_wp2
    go_meet
    case rel=>exact ⟨_,(true),(by first|rfl|(simp;done)|(simp [*];done)),H',⟨by first|omega|exact Nat.le_refl _⟩,⟨by (with_reducible repeat (first|apply bN|apply bD|apply bA));exact BK233.out⟩,⟨by repeat (first|(with_reducible first|exact HB.out|apply lA|apply lN|apply lD|refine lS ?_ GE233.out)|exact HB.out)⟩⟩
  ·rw [if_neg c4] at H
   have c4b0 : (a0_0 == 1) = false:=beq_eq_false_iff_ne.mpr c4
   have c4b1 : (a0_0 != 1) = true:=bne_iff_ne.mpr c4
   (first|rw [c4b0]|(simp only [i64_w,i32_w];rw [c4b0])|skip)
   by_cases c10 : a0_0 = 2
   ·rw [if_pos c10] at H
    have c10b0 : (a0_0 == 2) = true:=beq_iff_eq.mpr c10
    have c10b1 : (a0_0 != 2) = false:=bne_eq_false_iff_eq.mpr c10
    clear c10
    by_cases c11 : (l0_4.length : Int) = 6
    ·rw [if_pos c11] at H
     have c11b0 : ((l0_4.length : Int) == 6) = true:=beq_iff_eq.mpr c11
     have c11b1 : ((l0_4.length : Int) != 6) = false:=bne_eq_false_iff_eq.mpr c11
     clear c11
     by_cases c12 : a0_5 < 1
     ·rw [if_pos c12] at H
      have c12b0 : decide (a0_5 < 1) = true:=decide_eq_true c12
      clear c12
      have H':=mK H
      clear H
      have hcz13_0 : w3.cell? ⟨gb233,0,none⟩ = some (.int .i64 a0_0):=(blk_cell BK233.out 0).trans rfl
      have hcz13_1 : w3.cell? ⟨gb233,1,none⟩ = some (.int .u32 a0_1):=(blk_cell BK233.out 1).trans rfl
      have hcz13_2 : w3.cell? ⟨gb233,2,none⟩ = some (.int .u32 a0_2):=(blk_cell BK233.out 2).trans rfl
      have hcz13_3 : w3.cell? ⟨gb233,3,none⟩ = some (.int .u32 a0_3):=(blk_cell BK233.out 3).trans rfl
      have hcz13_4 : w3.cell? ⟨gb233,4,none⟩ = some (.slice A0_4 l0_4.length c0_4):=(blk_cell BK233.out 4).trans rfl
      have hcz13_5 : w3.cell? ⟨gb233,5,none⟩ = some (.int .i64 a0_5):=(blk_cell BK233.out 5).trans rfl
      have hcz13_6 : w3.cell? ⟨gb233,6,none⟩ = some (.int .u32 a0_6):=(blk_cell BK233.out 6).trans rfl
      have hcz13_7 : w3.cell? ⟨gb233,7,none⟩ = some (.int .u32 a0_7):=(blk_cell BK233.out 7).trans rfl
      have hcz13_8 : w3.cell? ⟨gb233,8,none⟩ = some (.int .u32 a0_8):=(blk_cell BK233.out 8).trans rfl
      have hcz13_9 : w3.cell? ⟨gb233,9,none⟩ = some (.int .u32 a0_9):=(blk_cell BK233.out 9).trans rfl
      have hcz13_10 : w3.cell? ⟨gb233,10,none⟩ = some (.int .u32 a0_10):=(blk_cell BK233.out 10).trans rfl
      have hcz13_11 : w3.cell? ⟨gb233,11,none⟩ = some (.int .u32 a0_11):=(blk_cell BK233.out 11).trans rfl
      have hfz13_0:=blk_frozen BK233.out 0
      have hfz13_1:=blk_frozen BK233.out 1
      have hfz13_2:=blk_frozen BK233.out 2
      have hfz13_3:=blk_frozen BK233.out 3
      have hfz13_4:=blk_frozen BK233.out 4
      have hfz13_5:=blk_frozen BK233.out 5
      have hfz13_6:=blk_frozen BK233.out 6
      have hfz13_7:=blk_frozen BK233.out 7
      have hfz13_8:=blk_frozen BK233.out 8
      have hfz13_9:=blk_frozen BK233.out 9
      have hfz13_10:=blk_frozen BK233.out 10
      have hfz13_11:=blk_frozen BK233.out 11
      go_wp2
      go_meet
      case rel=>exact ⟨_,(true),(by first|rfl|(simp;done)|(simp [*];done)),H',⟨by first|omega|exact Nat.le_refl _⟩,⟨by (with_reducible repeat (first|apply bN|apply bD|apply bA));exact BK233.out⟩,⟨by repeat (first|(with_reducible first|exact HB.out|apply lA|apply lN|apply lD|refine lS ?_ GE233.out)|exact HB.out)⟩⟩
     ·rw [if_neg c12] at H
      have c12b0 : decide (a0_5 < 1) = false:=decide_eq_false c12
      clear c12
      have H':=mK H
      clear H
      have hcz14_0 : w3.cell? ⟨gb233,0,none⟩ = some (.int .i64 a0_0):=(blk_cell BK233.out 0).trans rfl
      have hcz14_1 : w3.cell? ⟨gb233,1,none⟩ = some (.int .u32 a0_1):=(blk_cell BK233.out 1).trans rfl
      have hcz14_2 : w3.cell? ⟨gb233,2,none⟩ = some (.int .u32 a0_2):=(blk_cell BK233.out 2).trans rfl
      have hcz14_3 : w3.cell? ⟨gb233,3,none⟩ = some (.int .u32 a0_3):=(blk_cell BK233.out 3).trans rfl
      have hcz14_4 : w3.cell? ⟨gb233,4,none⟩ = some (.slice A0_4 l0_4.length c0_4):=(blk_cell BK233.out 4).trans rfl
      have hcz14_5 : w3.cell? ⟨gb233,5,none⟩ = some (.int .i64 a0_5):=(blk_cell BK233.out 5).trans rfl
      have hcz14_6 : w3.cell? ⟨gb233,6,none⟩ = some (.int .u32 a0_6):=(blk_cell BK233.out 6).trans rfl
      have hcz14_7 : w3.cell? ⟨gb233,7,none⟩ = some (.int .u32 a0_7):=(blk_cell BK233.out 7).trans rfl
      have hcz14_8 : w3.cell? ⟨gb233,8,none⟩ = some (.int .u32 a0_8):=(blk_cell BK233.out 8).trans rfl
      have hcz14_9 : w3.cell? ⟨gb233,9,none⟩ = some (.int .u32 a0_9):=(blk_cell BK233.out 9).trans rfl
      have hcz14_10 : w3.cell? ⟨gb233,10,none⟩ = some (.int .u32 a0_10):=(blk_cell BK233.out 10).trans rfl
      have hcz14_11 : w3.cell? ⟨gb233,11,none⟩ = some (.int .u32 a0_11):=(blk_cell BK233.out 11).trans rfl
      have hfz14_0:=blk_frozen BK233.out 0
      have hfz14_1:=blk_frozen BK233.out 1
      have hfz14_2:=blk_frozen BK233.out 2
      have hfz14_3:=blk_frozen BK233.out 3
      have hfz14_4:=blk_frozen BK233.out 4
      have hfz14_5:=blk_frozen BK233.out 5
      have hfz14_6:=blk_frozen BK233.out 6
      have hfz14_7:=blk_frozen BK233.out 7
      have hfz14_8:=blk_frozen BK233.out 8
      have hfz14_9:=blk_frozen BK233.out 9
      have hfz14_10:=blk_frozen BK233.out 10
      have hfz14_11:=blk_frozen BK233.out 11
      go_wp2
      go_meet
      case rel=>exact ⟨_,(decide (a0_5 > 8)),(by first|rfl|(simp;done)|(simp [*];done)),H',⟨by first|omega|exact Nat.le_refl _⟩,⟨by (with_reducible repeat (first|apply bN|apply bD|apply bA));exact BK233.out⟩,⟨by repeat (first|(with_reducible first|exact HB.out|apply lA|apply lN|apply lD|refine lS ?_ GE233.out)|exact HB.out)⟩⟩
    ·rw [if_neg c11] at H
     have c11b0 : ((l0_4.length : Int) == 6) = false:=beq_eq_false_iff_ne.mpr c11
     have c11b1 : ((l0_4.length : Int) != 6) = true:=bne_iff_ne.mpr c11
     have H':=mK H
     clear H
     have hcz15_0 : w3.cell? ⟨gb233,0,none⟩ = some (.int .i64 a0_0):=(blk_cell BK233.out 0).trans rfl
     have hcz15_1 : w3.cell? ⟨gb233,1,none⟩ = some (.int .u32 a0_1):=(blk_cell BK233.out 1).trans rfl
     have hcz15_2 : w3.cell? ⟨gb233,2,none⟩ = some (.int .u32 a0_2):=(blk_cell BK233.out 2).trans rfl
     have hcz15_3 : w3.cell? ⟨gb233,3,none⟩ = some (.int .u32 a0_3):=(blk_cell BK233.out 3).trans rfl
     have hcz15_4 : w3.cell? ⟨gb233,4,none⟩ = some (.slice A0_4 l0_4.length c0_4):=(blk_cell BK233.out 4).trans rfl
     have hcz15_5 : w3.cell? ⟨gb233,5,none⟩ = some (.int .i64 a0_5):=(blk_cell BK233.out 5).trans rfl
     have hcz15_6 : w3.cell? ⟨gb233,6,none⟩ = some (.int .u32 a0_6):=(blk_cell BK233.out 6).trans rfl
     have hcz15_7 : w3.cell? ⟨gb233,7,none⟩ = some (.int .u32 a0_7):=(blk_cell BK233.out 7).trans rfl
     have hcz15_8 : w3.cell? ⟨gb233,8,none⟩ = some (.int .u32 a0_8):=(blk_cell BK233.out 8).trans rfl
     have hcz15_9 : w3.cell? ⟨gb233,9,none⟩ = some (.int .u32 a0_9):=(blk_cell BK233.out 9).trans rfl
     have hcz15_10 : w3.cell? ⟨gb233,10,none⟩ = some (.int .u32 a0_10):=(blk_cell BK233.out 10).trans rfl
     have hcz15_11 : w3.cell? ⟨gb233,11,none⟩ = some (.int .u32 a0_11):=(blk_cell BK233.out 11).trans rfl
     have hfz15_0:=blk_frozen BK233.out 0
     have hfz15_1:=blk_frozen BK233.out 1
     have hfz15_2:=blk_frozen BK233.out 2
     have hfz15_3:=blk_frozen BK233.out 3
     have hfz15_4:=blk_frozen BK233.out 4
     have hfz15_5:=blk_frozen BK233.out 5
     have hfz15_6:=blk_frozen BK233.out 6
     have hfz15_7:=blk_frozen BK233.out 7
     have hfz15_8:=blk_frozen BK233.out 8
     have hfz15_9:=blk_frozen BK233.out 9
     have hfz15_10:=blk_frozen BK233.out 10
     have hfz15_11:=blk_frozen BK233.out 11
     go_wp2
     go_meet
     case rel=>exact ⟨_,(true),(by first|rfl|(simp;done)|(simp [*];done)),H',⟨by first|omega|exact Nat.le_refl _⟩,⟨by (with_reducible repeat (first|apply bN|apply bD|apply bA));exact BK233.out⟩,⟨by repeat (first|(with_reducible first|exact HB.out|apply lA|apply lN|apply lD|refine lS ?_ GE233.out)|exact HB.out)⟩⟩
   ·rw [if_neg c10] at H
    have c10b0 : (a0_0 == 2) = false:=beq_eq_false_iff_ne.mpr c10
    have c10b1 : (a0_0 != 2) = true:=bne_iff_ne.mpr c10
    have H':=mK H
    clear H
    have hcz16_0 : w3.cell? ⟨gb233,0,none⟩ = some (.int .i64 a0_0):=(blk_cell BK233.out 0).trans rfl
    have hcz16_1 : w3.cell? ⟨gb233,1,none⟩ = some (.int .u32 a0_1):=(blk_cell BK233.out 1).trans rfl
    have hcz16_2 : w3.cell? ⟨gb233,2,none⟩ = some (.int .u32 a0_2):=(blk_cell BK233.out 2).trans rfl
    have hcz16_3 : w3.cell? ⟨gb233,3,none⟩ = some (.int .u32 a0_3):=(blk_cell BK233.out 3).trans rfl
    have hcz16_4 : w3.cell? ⟨gb233,4,none⟩ = some (.slice A0_4 l0_4.length c0_4):=(blk_cell BK233.out 4).trans rfl
    have hcz16_5 : w3.cell? ⟨gb233,5,none⟩ = some (.int .i64 a0_5):=(blk_cell BK233.out 5).trans rfl
    have hcz16_6 : w3.cell? ⟨gb233,6,none⟩ = some (.int .u32 a0_6):=(blk_cell BK233.out 6).trans rfl
    have hcz16_7 : w3.cell? ⟨gb233,7,none⟩ = some (.int .u32 a0_7):=(blk_cell BK233.out 7).trans rfl
    have hcz16_8 : w3.cell? ⟨gb233,8,none⟩ = some (.int .u32 a0_8):=(blk_cell BK233.out 8).trans rfl
    have hcz16_9 : w3.cell? ⟨gb233,9,none⟩ = some (.int .u32 a0_9):=(blk_cell BK233.out 9).trans rfl
    have hcz16_10 : w3.cell? ⟨gb233,10,none⟩ = some (.int .u32 a0_10):=(blk_cell BK233.out 10).trans rfl
    have hcz16_11 : w3.cell? ⟨gb233,11,none⟩ = some (.int .u32 a0_11):=(blk_cell BK233.out 11).trans rfl
    have hfz16_0:=blk_frozen BK233.out 0
    have hfz16_1:=blk_frozen BK233.out 1
    have hfz16_2:=blk_frozen BK233.out 2
    have hfz16_3:=blk_frozen BK233.out 3
    have hfz16_4:=blk_frozen BK233.out 4
    have hfz16_5:=blk_frozen BK233.out 5
    have hfz16_6:=blk_frozen BK233.out 6
    have hfz16_7:=blk_frozen BK233.out 7
    have hfz16_8:=blk_frozen BK233.out 8
    have hfz16_9:=blk_frozen BK233.out 9
    have hfz16_10:=blk_frozen BK233.out 10
    have hfz16_11:=blk_frozen BK233.out 11
    go_wp2
    go_meet
    case rel=>exact ⟨_,(true),(by first|rfl|(simp;done)|(simp [*];done)),H',⟨by first|omega|exact Nat.le_refl _⟩,⟨by (with_reducible repeat (first|apply bN|apply bD|apply bA));exact BK233.out⟩,⟨by repeat (first|(with_reducible first|exact HB.out|apply lA|apply lN|apply lD|refine lS ?_ GE233.out)|exact HB.out)⟩⟩
 case rest =>
  clear HC2
  try clear c1
  try clear p2
  try clear c4
  try clear c4b0
  try clear c4b1
  try clear c5
  try clear c5b0
  try clear c5b1
  try clear c6
  try clear c6b0
  try clear c10
  try clear c10b0
  try clear c10b1
  try clear c11
  try clear c11b0
  try clear c11b1
  try clear c12
  try clear c12b0
  try clear hcz13_0
  try clear hcz13_1
  try clear hcz13_10
  try clear hcz13_11
  try clear hcz13_2
  try clear hcz13_3
  try clear hcz13_4
  try clear hcz13_5
  try clear hcz13_6
  try clear hcz13_7
  try clear hcz13_8
  try clear hcz13_9
  try clear hcz14_0
  try clear hcz14_1
  try clear hcz14_10
  try clear hcz14_11
  try clear hcz14_2
  try clear hcz14_3
  try clear hcz14_4
  try clear hcz14_5
  try clear hcz14_6
  try clear hcz14_7
  try clear hcz14_8
  try clear hcz14_9
  try clear hcz15_0
  try clear hcz15_1
  try clear hcz15_10
  try clear hcz15_11
  try clear hcz15_2
  try clear hcz15_3
  try clear hcz15_4
  try clear hcz15_5
  try clear hcz15_6
  try clear hcz15_7
  try clear hcz15_8
  try clear hcz15_9
  try clear hcz16_0
  try clear hcz16_1
  try clear hcz16_10
  try clear hcz16_11
  try clear hcz16_2
  try clear hcz16_3
  try clear hcz16_4
  try clear hcz16_5
  try clear hcz16_6
  try clear hcz16_7
  try clear hcz16_8
  try clear hcz16_9
  try clear hcz7_0
  try clear hcz7_1
  try clear hcz7_10
  try clear hcz7_11
  try clear hcz7_2
  try clear hcz7_3
  try clear hcz7_4
  try clear hcz7_5
  try clear hcz7_6
  try clear hcz7_7
  try clear hcz7_8
  try clear hcz7_9
  try clear hcz8_0
  try clear hcz8_1
  try clear hcz8_10
  try clear hcz8_11
  try clear hcz8_2
  try clear hcz8_3
  try clear hcz8_4
  try clear hcz8_5
  try clear hcz8_6
  try clear hcz8_7
  try clear hcz8_8
  try clear hcz8_9
  try clear hcz9_0
  try clear hcz9_1
  try clear hcz9_10
  try clear hcz9_11
  try clear hcz9_2
  try clear hcz9_3
  try clear hcz9_4
  try clear hcz9_5
  try clear hcz9_6
  try clear hcz9_7
  try clear hcz9_8
  try clear hcz9_9
  try clear hfz13_0
  try clear hfz13_1
  try clear hfz13_10
  try clear hfz13_11
  try clear hfz13_2
  try clear hfz13_3
  try clear hfz13_4
  try clear hfz13_5
  try clear hfz13_6
  try clear hfz13_7
  try clear hfz13_8
  try clear hfz13_9
  try clear hfz14_0
  try clear hfz14_1
  try clear hfz14_10
  try clear hfz14_11
  try clear hfz14_2
  try clear hfz14_3
  try clear hfz14_4
  try clear hfz14_5
  try clear hfz14_6
  try clear hfz14_7
  try clear hfz14_8
  try clear hfz14_9
  try clear hfz15_0
  try clear hfz15_1
  try clear hfz15_10
  try clear hfz15_11
  try clear hfz15_2
  try clear hfz15_3
  try clear hfz15_4
  try clear hfz15_5
  try clear hfz15_6
  try clear hfz15_7
  try clear hfz15_8
  try clear hfz15_9
  try clear hfz16_0
  try clear hfz16_1
  try clear hfz16_10
  try clear hfz16_11
  try clear hfz16_2
  try clear hfz16_3
  try clear hfz16_4
  try clear hfz16_5
  try clear hfz16_6
  try clear hfz16_7
  try clear hfz16_8
  try clear hfz16_9
  try clear hfz7_0
  try clear hfz7_1
  try clear hfz7_10
  try clear hfz7_11
  try clear hfz7_2
  try clear hfz7_3
  try clear hfz7_4
  try clear hfz7_5
  try clear hfz7_6
  try clear hfz7_7
  try clear hfz7_8
  try clear hfz7_9
  try clear hfz8_0
  try clear hfz8_1
  try clear hfz8_10
  try clear hfz8_11
  try clear hfz8_2
  try clear hfz8_3
  try clear hfz8_4
  try clear hfz8_5
  try clear hfz8_6
  try clear hfz8_7
  try clear hfz8_8
  try clear hfz8_9
  try clear hfz9_0
  try clear hfz9_1
  try clear hfz9_10
  try clear hfz9_11
  try clear hfz9_2
  try clear hfz9_3
  try clear hfz9_4
  try clear hfz9_5
  try clear hfz9_6
  try clear hfz9_7
  try clear hfz9_8
  try clear hfz9_9
  obtain ⟨kq,x31_1,rfl,HA,HJ1,BK233,HB⟩:=hcut
  cases kq with
  |zero=>exact absurd HA.out (by simp [drawbridgeref20_Put.j0])
  |succ kj1 =>
   have H:=HA.out
   clear HA
   simp only [drawbridgeref20_Put.j0] at H
   by_cases c17 : x31_1 = true
   ·subst c17
    have H1 : (some (([] : List Int),2)) = some (r1,r2):= by rw [if_pos rfl] at H;exact H
    clear H
    have H:=H1
    clear H1
    simp only [Option.some.injEq,Prod.mk.injEq] at H
    obtain ⟨rfl,rfl⟩:=H
    go_wp2
    go_ret2
    exact ⟨_,by first|rfl|(simp [errW_none,errW_some] <;> rfl)|(simp [*,errW_none,errW_some] <;> rfl),by first|exact Kd.R_nil _ _ _ _ _|exact Kd.N_nil _ _ _ _ _|exact Kd.V_nil _ _ _ _ _|exact Kd.Q_nil _ _ _ _ _|exact Kd.S_nil _ _ _ _ _,by repeat (first|(with_reducible first|exact HB.out|apply lA|apply lN|apply lD|refine lS ?_ GE233.out)|exact HB.out)⟩
   ·replace c17:=Bool.eq_false_iff.mpr c17
    subst c17
    have H1 : ((some (([(a0_0) % 256,1,6,0] : List Int) : List Int)).bind fun y234=>((drawbridgeref20_four.f kj1 a0_1).bind fun t237=>(if y234.length + t237.length < 140737488355328 then ((some (y234 ++ t237 : List Int)).bind fun y240=>((some (([0,0,0,0] : List Int) : List Int)).bind fun y243=>(if y240.length + y243.length < 140737488355328 then ((some (y240 ++ y243 : List Int)).bind fun y246=>((drawbridgeref20_four.f kj1 a0_2).bind fun t249=>(if y246.length + t249.length < 140737488355328 then ((some (y246 ++ t249 : List Int)).bind fun y252=>((drawbridgeref20_four.f kj1 a0_3).bind fun t255=>(if y252.length + t255.length < 140737488355328 then ((some (y252 ++ t255 : List Int)).bind fun y258=>(if y258.length + 8 < 140737488355328 then ((some (y258 ++ List.replicate 8 0 : List Int)).bind fun y261=>(if y261.length + l0_4.length < 140737488355328 then ((some (y261 ++ l0_4 : List Int)).bind fun y264=>(if y264.length + 202 < 140737488355328 then ((some (y264 ++ List.replicate 202 0 : List Int)).bind fun y267=>((some (([99,130,83,99,53,1,(a0_5) % 256] : List Int) : List Int)).bind fun y270=>(if y267.length + y270.length < 140737488355328 then (drawbridgeref20_Put.l0 kj1 (y267 ++ y270) (([50,54,51,1,3,6] : List Int)) (([a0_6,a0_7,a0_8,a0_9,a0_10,a0_11] : List Int)) 0) else (none)))) else (none))) else (none))) else (none))) else (none)))) else (none)))) else (none)))) else (none)))) = some (r1,r2):= by rw [if_neg (show ¬ (false = true) by decide)] at H;exact H
    clear H
    have H:=H1
    clear H1
    obtain ⟨y234,hy234⟩ : ∃ y_ : List Int,y_ = (([(a0_0) % 256,1,6,0] : List Int)):=⟨_,rfl⟩
    replace H : ((drawbridgeref20_four.f kj1 a0_1).bind fun t237=>(if y234.length + t237.length < 140737488355328 then ((some (y234 ++ t237 : List Int)).bind fun y240=>((some (([0,0,0,0] : List Int) : List Int)).bind fun y243=>(if y240.length + y243.length < 140737488355328 then ((some (y240 ++ y243 : List Int)).bind fun y246=>((drawbridgeref20_four.f kj1 a0_2).bind fun t249=>(if y246.length + t249.length < 140737488355328 then ((some (y246 ++ t249 : List Int)).bind fun y252=>((drawbridgeref20_four.f kj1 a0_3).bind fun t255=>(if y252.length + t255.length < 140737488355328 then ((some (y252 ++ t255 : List Int)).bind fun y258=>(if y258.length + 8 < 140737488355328 then ((some (y258 ++ List.replicate 8 0 : List Int)).bind fun y261=>(if y261.length + l0_4.length < 140737488355328 then ((some (y261 ++ l0_4 : List Int)).bind fun y264=>(if y264.length + 202 < 140737488355328 then ((some (y264 ++ List.replicate 202 0 : List Int)).bind fun y267=>((some (([99,130,83,99,53,1,(a0_5) % 256] : List Int) : List Int)).bind fun y270=>(if y267.length + y270.length < 140737488355328 then (drawbridgeref20_Put.l0 kj1 (y267 ++ y270) (([50,54,51,1,3,6] : List Int)) (([a0_6,a0_7,a0_8,a0_9,a0_10,a0_11] : List Int)) 0) else (none)))) else (none))) else (none))) else (none))) else (none)))) else (none)))) else (none)))) else (none))) = some (r1,r2):= by first|(rw [hy234];with_reducible exact H)|(have H2_:=(Option.bind_some _ _).symm.trans H;rw [hy234];with_reducible exact H2_)|(have H2_:=(Option.bind_some _ _).symm.trans H;with_reducible exact H2_)|with_reducible exact H|(rw [hy234];exact H)|exact H
    have Ny234:=mK hy234
    clear hy234
    replace H:=Option.bind_eq_some_iff.mp H
    obtain ⟨t237,A180,H⟩:=H
    replace H : (if y234.length + t237.length < 140737488355328 then ((some (y234 ++ t237 : List Int)).bind fun y240=>((some (([0,0,0,0] : List Int) : List Int)).bind fun y243=>(if y240.length + y243.length < 140737488355328 then ((some (y240 ++ y243 : List Int)).bind fun y246=>((drawbridgeref20_four.f kj1 a0_2).bind fun t249=>(if y246.length + t249.length < 140737488355328 then ((some (y246 ++ t249 : List Int)).bind fun y252=>((drawbridgeref20_four.f kj1 a0_3).bind fun t255=>(if y252.length + t255.length < 140737488355328 then ((some (y252 ++ t255 : List Int)).bind fun y258=>(if y258.length + 8 < 140737488355328 then ((some (y258 ++ List.replicate 8 0 : List Int)).bind fun y261=>(if y261.length + l0_4.length < 140737488355328 then ((some (y261 ++ l0_4 : List Int)).bind fun y264=>(if y264.length + 202 < 140737488355328 then ((some (y264 ++ List.replicate 202 0 : List Int)).bind fun y267=>((some (([99,130,83,99,53,1,(a0_5) % 256] : List Int) : List Int)).bind fun y270=>(if y267.length + y270.length < 140737488355328 then (drawbridgeref20_Put.l0 kj1 (y267 ++ y270) (([50,54,51,1,3,6] : List Int)) (([a0_6,a0_7,a0_8,a0_9,a0_10,a0_11] : List Int)) 0) else (none)))) else (none))) else (none))) else (none))) else (none)))) else (none)))) else (none)))) else (none)) = some (r1,r2):=H
    have A18:=mK A180
    clear A180
    by_cases c19 : y234.length + t237.length < 140737488355328
    ·rw [if_pos c19] at H
     have LMc19:=mK c19
     clear c19
     obtain ⟨y240,hy240⟩ : ∃ y_ : List Int,y_ = (y234 ++ t237):=⟨_,rfl⟩
     replace H : ((some (([0,0,0,0] : List Int) : List Int)).bind fun y243=>(if y240.length + y243.length < 140737488355328 then ((some (y240 ++ y243 : List Int)).bind fun y246=>((drawbridgeref20_four.f kj1 a0_2).bind fun t249=>(if y246.length + t249.length < 140737488355328 then ((some (y246 ++ t249 : List Int)).bind fun y252=>((drawbridgeref20_four.f kj1 a0_3).bind fun t255=>(if y252.length + t255.length < 140737488355328 then ((some (y252 ++ t255 : List Int)).bind fun y258=>(if y258.length + 8 < 140737488355328 then ((some (y258 ++ List.replicate 8 0 : List Int)).bind fun y261=>(if y261.length + l0_4.length < 140737488355328 then ((some (y261 ++ l0_4 : List Int)).bind fun y264=>(if y264.length + 202 < 140737488355328 then ((some (y264 ++ List.replicate 202 0 : List Int)).bind fun y267=>((some (([99,130,83,99,53,1,(a0_5) % 256] : List Int) : List Int)).bind fun y270=>(if y267.length + y270.length < 140737488355328 then (drawbridgeref20_Put.l0 kj1 (y267 ++ y270) (([50,54,51,1,3,6] : List Int)) (([a0_6,a0_7,a0_8,a0_9,a0_10,a0_11] : List Int)) 0) else (none)))) else (none))) else (none))) else (none))) else (none)))) else (none)))) else (none))) = some (r1,r2):= by first|(rw [hy240];with_reducible exact H)|(have H2_:=(Option.bind_some _ _).symm.trans H;rw [hy240];with_reducible exact H2_)|(have H2_:=(Option.bind_some _ _).symm.trans H;with_reducible exact H2_)|with_reducible exact H|(rw [hy240];exact H)|exact H
     have Ny240:=mK hy240
     clear hy240
     obtain ⟨y243,hy243⟩ : ∃ y_ : List Int,y_ = (([0,0,0,0] : List Int)):=⟨_,rfl⟩
     replace H : (if y240.length + y243.length < 140737488355328 then ((some (y240 ++ y243 : List Int)).bind fun y246=>((drawbridgeref20_four.f kj1 a0_2).bind fun t249=>(if y246.length + t249.length < 140737488355328 then ((some (y246 ++ t249 : List Int)).bind fun y252=>((drawbridgeref20_four.f kj1 a0_3).bind fun t255=>(if y252.length + t255.length < 140737488355328 then ((some (y252 ++ t255 : List Int)).bind fun y258=>(if y258.length + 8 < 140737488355328 then ((some (y258 ++ List.replicate 8 0 : List Int)).bind fun y261=>(if y261.length + l0_4.length < 140737488355328 then ((some (y261 ++ l0_4 : List Int)).bind fun y264=>(if y264.length + 202 < 140737488355328 then ((some (y264 ++ List.replicate 202 0 : List Int)).bind fun y267=>((some (([99,130,83,99,53,1,(a0_5) % 256] : List Int) : List Int)).bind fun y270=>(if y267.length + y270.length < 140737488355328 then (drawbridgeref20_Put.l0 kj1 (y267 ++ y270) (([50,54,51,1,3,6] : List Int)) (([a0_6,a0_7,a0_8,a0_9,a0_10,a0_11] : List Int)) 0) else (none)))) else (none))) else (none))) else (none))) else (none)))) else (none)))) else (none)) = some (r1,r2):= by first|(rw [hy243];with_reducible exact H)|(have H2_:=(Option.bind_some _ _).symm.trans H;rw [hy243];with_reducible exact H2_)|(have H2_:=(Option.bind_some _ _).symm.trans H;with_reducible exact H2_)|with_reducible exact H|(rw [hy243];exact H)|exact H
     have Ny243:=mK hy243
     clear hy243
     by_cases c20 : y240.length + y243.length < 140737488355328
     ·rw [if_pos c20] at H
      have LMc20:=mK c20
      clear c20
      obtain ⟨y246,hy246⟩ : ∃ y_ : List Int,y_ = (y240 ++ y243):=⟨_,rfl⟩
      replace H : ((drawbridgeref20_four.f kj1 a0_2).bind fun t249=>(if y246.length + t249.length < 140737488355328 then ((some (y246 ++ t249 : List Int)).bind fun y252=>((drawbridgeref20_four.f kj1 a0_3).bind fun t255=>(if y252.length + t255.length < 140737488355328 then ((some (y252 ++ t255 : List Int)).bind fun y258=>(if y258.length + 8 < 140737488355328 then ((some (y258 ++ List.replicate 8 0 : List Int)).bind fun y261=>(if y261.length + l0_4.length < 140737488355328 then ((some (y261 ++ l0_4 : List Int)).bind fun y264=>(if y264.length + 202 < 140737488355328 then ((some (y264 ++ List.replicate 202 0 : List Int)).bind fun y267=>((some (([99,130,83,99,53,1,(a0_5) % 256] : List Int) : List Int)).bind fun y270=>(if y267.length + y270.length < 140737488355328 then (drawbridgeref20_Put.l0 kj1 (y267 ++ y270) (([50,54,51,1,3,6] : List Int)) (([a0_6,a0_7,a0_8,a0_9,a0_10,a0_11] : List Int)) 0) else (none)))) else (none))) else (none))) else (none))) else (none)))) else (none))) = some (r1,r2):= by first|(rw [hy246];with_reducible exact H)|(have H2_:=(Option.bind_some _ _).symm.trans H;rw [hy246];with_reducible exact H2_)|(have H2_:=(Option.bind_some _ _).symm.trans H;with_reducible exact H2_)|with_reducible exact H|(rw [hy246];exact H)|exact H
      have Ny246:=mK hy246
      clear hy246
      replace H:=Option.bind_eq_some_iff.mp H
      obtain ⟨t249,A210,H⟩:=H
      replace H : (if y246.length + t249.length < 140737488355328 then ((some (y246 ++ t249 : List Int)).bind fun y252=>((drawbridgeref20_four.f kj1 a0_3).bind fun t255=>(if y252.length + t255.length < 140737488355328 then ((some (y252 ++ t255 : List Int)).bind fun y258=>(if y258.length + 8 < 140737488355328 then ((some (y258 ++ List.replicate 8 0 : List Int)).bind fun y261=>(if y261.length + l0_4.length < 140737488355328 then ((some (y261 ++ l0_4 : List Int)).bind fun y264=>(if y264.length + 202 < 140737488355328 then ((some (y264 ++ List.replicate 202 0 : List Int)).bind fun y267=>((some (([99,130,83,99,53,1,(a0_5) % 256] : List Int) : List Int)).bind fun y270=>(if y267.length + y270.length < 140737488355328 then (drawbridgeref20_Put.l0 kj1 (y267 ++ y270) (([50,54,51,1,3,6] : List Int)) (([a0_6,a0_7,a0_8,a0_9,a0_10,a0_11] : List Int)) 0) else (none)))) else (none))) else (none))) else (none))) else (none)))) else (none)) = some (r1,r2):=H
      have A21:=mK A210
      clear A210
      by_cases c22 : y246.length + t249.length < 140737488355328
      ·rw [if_pos c22] at H
       have LMc22:=mK c22
       clear c22
       obtain ⟨y252,hy252⟩ : ∃ y_ : List Int,y_ = (y246 ++ t249):=⟨_,rfl⟩
       replace H : ((drawbridgeref20_four.f kj1 a0_3).bind fun t255=>(if y252.length + t255.length < 140737488355328 then ((some (y252 ++ t255 : List Int)).bind fun y258=>(if y258.length + 8 < 140737488355328 then ((some (y258 ++ List.replicate 8 0 : List Int)).bind fun y261=>(if y261.length + l0_4.length < 140737488355328 then ((some (y261 ++ l0_4 : List Int)).bind fun y264=>(if y264.length + 202 < 140737488355328 then ((some (y264 ++ List.replicate 202 0 : List Int)).bind fun y267=>((some (([99,130,83,99,53,1,(a0_5) % 256] : List Int) : List Int)).bind fun y270=>(if y267.length + y270.length < 140737488355328 then (drawbridgeref20_Put.l0 kj1 (y267 ++ y270) (([50,54,51,1,3,6] : List Int)) (([a0_6,a0_7,a0_8,a0_9,a0_10,a0_11] : List Int)) 0) else (none)))) else (none))) else (none))) else (none))) else (none))) = some (r1,r2):= by first|(rw [hy252];with_reducible exact H)|(have H2_:=(Option.bind_some _ _).symm.trans H;rw [hy252];with_reducible exact H2_)|(have H2_:=(Option.bind_some _ _).symm.trans H;with_reducible exact H2_)|with_reducible exact H|(rw [hy252];exact H)|exact H
       have Ny252:=mK hy252
       clear hy252
       replace H:=Option.bind_eq_some_iff.mp H
       obtain ⟨t255,A230,H⟩:=H
       replace H : (if y252.length + t255.length < 140737488355328 then ((some (y252 ++ t255 : List Int)).bind fun y258=>(if y258.length + 8 < 140737488355328 then ((some (y258 ++ List.replicate 8 0 : List Int)).bind fun y261=>(if y261.length + l0_4.length < 140737488355328 then ((some (y261 ++ l0_4 : List Int)).bind fun y264=>(if y264.length + 202 < 140737488355328 then ((some (y264 ++ List.replicate 202 0 : List Int)).bind fun y267=>((some (([99,130,83,99,53,1,(a0_5) % 256] : List Int) : List Int)).bind fun y270=>(if y267.length + y270.length < 140737488355328 then (drawbridgeref20_Put.l0 kj1 (y267 ++ y270) (([50,54,51,1,3,6] : List Int)) (([a0_6,a0_7,a0_8,a0_9,a0_10,a0_11] : List Int)) 0) else (none)))) else (none))) else (none))) else (none))) else (none)) = some (r1,r2):=H
       have A23:=mK A230
       clear A230
       by_cases c24 : y252.length + t255.length < 140737488355328
       ·rw [if_pos c24] at H
        have LMc24:=mK c24
        clear c24
        obtain ⟨y258,hy258⟩ : ∃ y_ : List Int,y_ = (y252 ++ t255):=⟨_,rfl⟩
        replace H : (if y258.length + 8 < 140737488355328 then ((some (y258 ++ List.replicate 8 0 : List Int)).bind fun y261=>(if y261.length + l0_4.length < 140737488355328 then ((some (y261 ++ l0_4 : List Int)).bind fun y264=>(if y264.length + 202 < 140737488355328 then ((some (y264 ++ List.replicate 202 0 : List Int)).bind fun y267=>((some (([99,130,83,99,53,1,(a0_5) % 256] : List Int) : List Int)).bind fun y270=>(if y267.length + y270.length < 140737488355328 then (drawbridgeref20_Put.l0 kj1 (y267 ++ y270) (([50,54,51,1,3,6] : List Int)) (([a0_6,a0_7,a0_8,a0_9,a0_10,a0_11] : List Int)) 0) else (none)))) else (none))) else (none))) else (none)) = some (r1,r2):= by first|(rw [hy258];with_reducible exact H)|(have H2_:=(Option.bind_some _ _).symm.trans H;rw [hy258];with_reducible exact H2_)|(have H2_:=(Option.bind_some _ _).symm.trans H;with_reducible exact H2_)|with_reducible exact H|(rw [hy258];exact H)|exact H
        have Ny258:=mK hy258
        clear hy258
        by_cases c25 : y258.length + 8 < 140737488355328
        ·rw [if_pos c25] at H
         have LMc25:=mK c25
         clear c25
         obtain ⟨y261,hy261⟩ : ∃ y_ : List Int,y_ = (y258 ++ List.replicate 8 0):=⟨_,rfl⟩
         replace H : (if y261.length + l0_4.length < 140737488355328 then ((some (y261 ++ l0_4 : List Int)).bind fun y264=>(if y264.length + 202 < 140737488355328 then ((some (y264 ++ List.replicate 202 0 : List Int)).bind fun y267=>((some (([99,130,83,99,53,1,(a0_5) % 256] : List Int) : List Int)).bind fun y270=>(if y267.length + y270.length < 140737488355328 then (drawbridgeref20_Put.l0 kj1 (y267 ++ y270) (([50,54,51,1,3,6] : List Int)) (([a0_6,a0_7,a0_8,a0_9,a0_10,a0_11] : List Int)) 0) else (none)))) else (none))) else (none)) = some (r1,r2):= by first|(rw [hy261];with_reducible exact H)|(have H2_:=(Option.bind_some _ _).symm.trans H;rw [hy261];with_reducible exact H2_)|(have H2_:=(Option.bind_some _ _).symm.trans H;with_reducible exact H2_)|with_reducible exact H|(rw [hy261];exact H)|exact H
         have Ny261:=mK hy261
         clear hy261
         by_cases c26 : y261.length + l0_4.length < 140737488355328
         ·rw [if_pos c26] at H
          have LMc26:=mK c26
          clear c26
          obtain ⟨y264,hy264⟩ : ∃ y_ : List Int,y_ = (y261 ++ l0_4):=⟨_,rfl⟩
          replace H : (if y264.length + 202 < 140737488355328 then ((some (y264 ++ List.replicate 202 0 : List Int)).bind fun y267=>((some (([99,130,83,99,53,1,(a0_5) % 256] : List Int) : List Int)).bind fun y270=>(if y267.length + y270.length < 140737488355328 then (drawbridgeref20_Put.l0 kj1 (y267 ++ y270) (([50,54,51,1,3,6] : List Int)) (([a0_6,a0_7,a0_8,a0_9,a0_10,a0_11] : List Int)) 0) else (none)))) else (none)) = some (r1,r2):= by first|(rw [hy264];with_reducible exact H)|(have H2_:=(Option.bind_some _ _).symm.trans H;rw [hy264];with_reducible exact H2_)|(have H2_:=(Option.bind_some _ _).symm.trans H;with_reducible exact H2_)|with_reducible exact H|(rw [hy264];exact H)|exact H
          have Ny264:=mK hy264
          clear hy264
          by_cases c27 : y264.length + 202 < 140737488355328
          ·rw [if_pos c27] at H
           have LMc27:=mK c27
           clear c27
           obtain ⟨y267,hy267⟩ : ∃ y_ : List Int,y_ = (y264 ++ List.replicate 202 0):=⟨_,rfl⟩
           replace H : ((some (([99,130,83,99,53,1,(a0_5) % 256] : List Int) : List Int)).bind fun y270=>(if y267.length + y270.length < 140737488355328 then (drawbridgeref20_Put.l0 kj1 (y267 ++ y270) (([50,54,51,1,3,6] : List Int)) (([a0_6,a0_7,a0_8,a0_9,a0_10,a0_11] : List Int)) 0) else (none))) = some (r1,r2):= by first|(rw [hy267];with_reducible exact H)|(have H2_:=(Option.bind_some _ _).symm.trans H;rw [hy267];with_reducible exact H2_)|(have H2_:=(Option.bind_some _ _).symm.trans H;with_reducible exact H2_)|with_reducible exact H|(rw [hy267];exact H)|exact H
           have Ny267:=mK hy267
           clear hy267
           obtain ⟨y270,hy270⟩ : ∃ y_ : List Int,y_ = (([99,130,83,99,53,1,(a0_5) % 256] : List Int)):=⟨_,rfl⟩
           replace H : (if y267.length + y270.length < 140737488355328 then (drawbridgeref20_Put.l0 kj1 (y267 ++ y270) (([50,54,51,1,3,6] : List Int)) (([a0_6,a0_7,a0_8,a0_9,a0_10,a0_11] : List Int)) 0) else (none)) = some (r1,r2):= by first|(rw [hy270];with_reducible exact H)|(have H2_:=(Option.bind_some _ _).symm.trans H;rw [hy270];with_reducible exact H2_)|(have H2_:=(Option.bind_some _ _).symm.trans H;with_reducible exact H2_)|with_reducible exact H|(rw [hy270];exact H)|exact H
           have Ny270:=mK hy270
           clear hy270
           by_cases c28 : y267.length + y270.length < 140737488355328
           ·rw [if_pos c28] at H
            have LMc28:=mK c28
            clear c28
            obtain ⟨y273,hy273⟩ : ∃ y_ : List Int,y_ = (y267 ++ y270):=⟨_,rfl⟩
            replace H : (drawbridgeref20_Put.l0 kj1 y273 (([50,54,51,1,3,6] : List Int)) (([a0_6,a0_7,a0_8,a0_9,a0_10,a0_11] : List Int)) 0) = some (r1,r2):= by first|(rw [hy273];with_reducible exact H)|(have H2_:=(Option.bind_some _ _).symm.trans H;rw [hy273];with_reducible exact H2_)|(have H2_:=(Option.bind_some _ _).symm.trans H;with_reducible exact H2_)|with_reducible exact H|(rw [hy273];exact H)|exact H
            have Ny273:=mK hy273
            clear hy273
            obtain ⟨y276,hy276⟩ : ∃ y_ : List Int,y_ = (([50,54,51,1,3,6] : List Int)):=⟨_,rfl⟩
            replace H : (drawbridgeref20_Put.l0 kj1 y273 y276 (([a0_6,a0_7,a0_8,a0_9,a0_10,a0_11] : List Int)) 0) = some (r1,r2):= by first|(rw [hy276];with_reducible exact H)|(have H2_:=(Option.bind_some _ _).symm.trans H;rw [hy276];with_reducible exact H2_)|(have H2_:=(Option.bind_some _ _).symm.trans H;with_reducible exact H2_)|with_reducible exact H|(rw [hy276];exact H)|exact H
            have Ny276:=mK hy276
            clear hy276
            obtain ⟨y279,hy279⟩ : ∃ y_ : List Int,y_ = (([a0_6,a0_7,a0_8,a0_9,a0_10,a0_11] : List Int)):=⟨_,rfl⟩
            replace H : (drawbridgeref20_Put.l0 kj1 y273 y276 y279 0) = some (r1,r2):= by first|(rw [hy279];with_reducible exact H)|(have H2_:=(Option.bind_some _ _).symm.trans H;rw [hy279];with_reducible exact H2_)|(have H2_:=(Option.bind_some _ _).symm.trans H;with_reducible exact H2_)|with_reducible exact H|(rw [hy279];exact H)|exact H
            have Ny279:=mK hy279
            clear hy279
            have H':=mK H
            clear H
            try go_wp2
            have n0_:=mK (blk_drew BK233.out)
            have n1_:=mK (below_drew1 HB.out)
            clear BK233
            clear HB
            have BK233:=n0_
            have HB:=n1_
            clear n0_ n1_
            refine start_ (n:=9) (S:= fun w'=>w'.cell? ⟨gb233,0,none⟩ = some (.int .i64 a0_0)∧w'.cell? ⟨gb233,1,none⟩ = some (.int .u32 a0_1)∧w'.cell? ⟨gb233,2,none⟩ = some (.int .u32 a0_2)∧w'.cell? ⟨gb233,3,none⟩ = some (.int .u32 a0_3)∧w'.cell? ⟨gb233,4,none⟩ = some (.slice A0_4 l0_4.length c0_4)∧w'.cell? ⟨gb233,5,none⟩ = some (.int .i64 a0_5)∧w'.cell? ⟨gb233,6,none⟩ = some (.int .u32 a0_6)∧w'.cell? ⟨gb233,7,none⟩ = some (.int .u32 a0_7)∧w'.cell? ⟨gb233,8,none⟩ = some (.int .u32 a0_8)∧w'.cell? ⟨gb233,9,none⟩ = some (.int .u32 a0_9)∧w'.cell? ⟨gb233,10,none⟩ = some (.int .u32 a0_10)∧w'.cell? ⟨gb233,11,none⟩ = some (.int .u32 a0_11)) (ds:=[]) #[φ,φ,φ,φ,φ,φ,φ,φ,φ] (by kernel_rfl) rfl rfl ⟨(blk_cell BK233.out 0).trans rfl,(blk_cell BK233.out 1).trans rfl,(blk_cell BK233.out 2).trans rfl,(blk_cell BK233.out 3).trans rfl,(blk_cell BK233.out 4).trans rfl,(blk_cell BK233.out 5).trans rfl,(blk_cell BK233.out 6).trans rfl,(blk_cell BK233.out 7).trans rfl,(blk_cell BK233.out 8).trans rfl,(blk_cell BK233.out 9).trans rfl,(blk_cell BK233.out 10).trans rfl,(blk_cell BK233.out 11).trans rfl⟩ (fun hHeld=>?_);refine with_tabW drawbridgeref20_Put.tab3 drawbridgeref20_Put.bits3 (fun HT_ HW_=>?_)
            generalize wc.drew = w29 at BK233 HB hHeld ⊢
            refine pure_ (i:=0) (N:=some 32) (v:=?_) (a':=?_) #[τ,φ,φ,φ,φ,φ,φ,φ,φ] rfl rfl (any_of HT_.out (by kernel_rfl)) (fun _ _ _ h=>h) (Or.inl ⟨by rfl,?_⟩) ?_ ?_
            rotate_left
            ·intro w'
             go_simp
             with_reducible rfl
            rotate_left
            ·simp only [Act.put,sT,sZ,sS,i64_w,i32_w]
             rfl
            refine pure_ (i:=4) (N:=some 36) (v:=?_) (a':=?_) #[τ,φ,φ,φ,τ,φ,φ,φ,φ] rfl rfl (any_of HT_.out (by kernel_rfl)) (fun _ _ _ h=>h) (Or.inl ⟨by rfl,?_⟩) ?_ ?_
            rotate_left
            ·intro w'
             go_simp
             with_reducible rfl
            rotate_left
            ·simp only [Act.put,sT,sZ,sS,i64_w,i32_w]
             rfl
            refine take_ (i:=1) (N:=some 33) (v:=?_) (a':=?_) #[τ,τ,φ,φ,τ,φ,φ,φ,φ] rfl rfl (take_ofW HT_.out HW_.out (by kernel_rfl)) (fun _ _ _ h=>h) (Or.inl ⟨by rfl,?_⟩) hHeld ?_ ?_
            rotate_left
            ·rintro w' ⟨s0,s1,s2,s3,s4,s5,s6,s7,s8,s9,s10,s11⟩
             go_simp
             with_reducible rfl
            rotate_left
            ·simp only [Act.put,sT,sZ,sS,i64_w,i32_w]
             rfl
            refine pure_ (i:=2) (N:=some 34) (v:=?_) (a':=?_) #[τ,τ,τ,φ,τ,φ,φ,φ,φ] rfl rfl (any_of HT_.out (by kernel_rfl)) (fun _ _ _ h=>h) (Or.inl ⟨by rfl,?_⟩) ?_ ?_
            rotate_left
            ·intro w'
             go_simp
             with_reducible rfl
            rotate_left
            ·simp only [Act.put,sT,sZ,sS,i64_w,i32_w]
             rfl
            refine take_ (i:=5) (N:=some 37) (v:=?_) (a':=?_) #[τ,τ,τ,φ,τ,τ,φ,φ,φ] rfl rfl (take_ofW HT_.out HW_.out (by kernel_rfl)) (fun _ _ _ h=>h) (Or.inl ⟨by rfl,?_⟩) hHeld ?_ ?_
            rotate_left
            ·rintro w' ⟨s0,s1,s2,s3,s4,s5,s6,s7,s8,s9,s10,s11⟩
             go_simp
             with_reducible rfl
            rotate_left
            ·simp only [Act.put,sT,sZ,sS,i64_w,i32_w]
             rfl
            refine join_ (σ:=Value × Value) 2 #[τ,τ,τ,τ,τ,τ,τ,φ,φ] (fun s_=>[(35,s_.1),(38,s_.2)]) (fun s_ w'=>(w'.cell? ⟨gb233,0,none⟩ = some (.int .i64 a0_0)∧w'.cell? ⟨gb233,1,none⟩ = some (.int .u32 a0_1)∧w'.cell? ⟨gb233,2,none⟩ = some (.int .u32 a0_2)∧w'.cell? ⟨gb233,3,none⟩ = some (.int .u32 a0_3)∧w'.cell? ⟨gb233,4,none⟩ = some (.slice A0_4 l0_4.length c0_4)∧w'.cell? ⟨gb233,5,none⟩ = some (.int .i64 a0_5)∧w'.cell? ⟨gb233,6,none⟩ = some (.int .u32 a0_6)∧w'.cell? ⟨gb233,7,none⟩ = some (.int .u32 a0_7)∧w'.cell? ⟨gb233,8,none⟩ = some (.int .u32 a0_8)∧w'.cell? ⟨gb233,9,none⟩ = some (.int .u32 a0_9)∧w'.cell? ⟨gb233,10,none⟩ = some (.int .u32 a0_10)∧w'.cell? ⟨gb233,11,none⟩ = some (.int .u32 a0_11))∧(Kd.R (Kd.int .u8) 5 w' w.heap.size (fun k_=>some k_ ≠ (s_.2 : Value).ownBlock) s_.1 y234)∧(Kd.R (Kd.int .u8) 5 w' w.heap.size (fun k_=>some k_ ≠ (s_.1 : Value).ownBlock) s_.2 t237)∧(w'.heap[gb233]? = some (.cells #[.int .i64 a0_0,.int .u32 a0_1,.int .u32 a0_2,.int .u32 a0_3,.slice A0_4 l0_4.length c0_4,.int .i64 a0_5,.int .u32 a0_6,.int .u32 a0_7,.int .u32 a0_8,.int .u32 a0_9,.int .u32 a0_10,.int .u32 a0_11] 26 (0,0)))∧(Below w.heap.size w w')) ?_ ?_
            rotate_left
            ·intro hCont
             refine two_ (i:=3) (j:=6) (Ni:=some 35) (Nj:=some 38) #[τ,τ,τ,τ,τ,τ,φ,φ,φ] #[τ,τ,τ,φ,τ,τ,τ,φ,φ] rfl rfl rfl rfl (two_of HT_.out (by kernel_rfl)) (by decide) (by decide) (fun K hK=>?_) (fun K hK=>?_)
             ·skip
              refine Kd.R_lit_step (Kd.int .u8) _ 5 ?hg (N:=35) ?hd (xs:=([(a0_0) % 256,1,6,0] : List Int)) (inner:=[.int .u8 ((a0_0) % 256),.int .u8 1,.int .u8 6,.int .u8 0]) (ok:= fun _=>True) (okp:= fun _=>True) ?hr ?hp (fun _ hk=>hk) trivial (Below.refl _ _) (Nat.le_refl _) (by simp) ?_;(case hd=>rfl);(case hg=>rfl);(case hr=>first|(go_simp;done)|(go_simp;rfl));(case hp=>exact (Reps.one (show Kd.M (Kd.int .u8) _ _ _ ((a0_0) % 256) [.int .u8 ((a0_0) % 256)] from rfl) (Reps.one (show Kd.M (Kd.int .u8) _ _ _ 1 [.int .u8 1] from rfl) (Reps.one (show Kd.M (Kd.int .u8) _ _ _ 6 [.int .u8 6] from rfl) (Reps.one (show Kd.M (Kd.int .u8) _ _ _ 0 [.int .u8 0] from rfl) (Reps.none _ _))))))
              intro v235 w30 ho31 hb hg_ hnew_
              clear hg_ hnew_
              (first|rw [← Ny234.out] at ho31|(simp only [Int.reduceToNat] at ho31;rw [← Ny234.out] at ho31))
              have n0_:=mK (Kd.R_lower ho31 (below_size (by repeat (first|(with_reducible first|exact HB.out|apply lA|apply lN|apply lD|refine lS ?_ GE233.out)|exact HB.out))))
              have n1_:=mK (blk_below (g:=gb233) (o:=.cells #[.int .i64 a0_0,.int .u32 a0_1,.int .u32 a0_2,.int .u32 a0_3,.slice A0_4 l0_4.length c0_4,.int .i64 a0_5,.int .u32 a0_6,.int .u32 a0_7,.int .u32 a0_8,.int .u32 a0_9,.int .u32 a0_10,.int .u32 a0_11] 26 (0,0)) (by (with_reducible repeat (first|apply bN|apply bD|apply bA));exact BK233.out) hb)
              have n2_:=mK (below_step (by repeat (first|(with_reducible first|exact HB.out|apply lA|apply lN|apply lD|refine lS ?_ GE233.out)|exact HB.out)) hb)
              clear BK233
              clear HB
              have HO236:=n0_
              have BK233:=n1_
              have HB:=n2_
              clear n0_ n1_ n2_
              clear hb ho31
              refine hK.out _ _ ⟨(blk_cell BK233.out 0).trans rfl,(blk_cell BK233.out 1).trans rfl,(blk_cell BK233.out 2).trans rfl,(blk_cell BK233.out 3).trans rfl,(blk_cell BK233.out 4).trans rfl,(blk_cell BK233.out 5).trans rfl,(blk_cell BK233.out 6).trans rfl,(blk_cell BK233.out 7).trans rfl,(blk_cell BK233.out 8).trans rfl,(blk_cell BK233.out 9).trans rfl,(blk_cell BK233.out 10).trans rfl,(blk_cell BK233.out 11).trans rfl⟩ (fun hHeld=>?_)
              clear hK K
              refine norm_ (a':=?_) ?_ ?_
              rotate_left
              ·show Act.put _ (some 35) _ = _
               simp only [Act.put,sT,sZ,sS,i64_w,i32_w]
               rfl
              refine one_ (i:=6) (N:=some 38) #[τ,τ,τ,τ,τ,τ,τ,φ,φ] rfl rfl (one_of HT_.out (by kernel_rfl)) (by decide) (fun K hK=>?_)
              refine goes_ Try.func22 (by kernel_rfl) rfl #[.int .u32 a0_1] (by rfl) rfl rfl (by (try simp only [List.map_toArray,List.map_cons,List.map_nil]);first|done|rfl|(simp only [List.length_drop,List.length_take];rfl)) ?_
              with_reducible refine (drawbridgeref20_four.calls kj1 a0_1 t237 _ A18.out).mono ?_
              rintro e w32 ⟨v238,rfl,ho0,hb⟩
              refine ⟨_,rfl,?_⟩
              have n0_:=mK (Kd.R_elder' (by (with_reducible repeat (first|apply rA|apply rN|apply rD));exact HO236.out) (Kd.R_base ho0) hb)
              have n1_:=mK (Kd.R_lower (Kd.R_new' ho0 (Kd.R_lt (by (with_reducible repeat (first|apply rA|apply rN|apply rD));exact HO236.out))) (below_size (by repeat (first|(with_reducible first|exact HB.out|apply lA|apply lN|apply lD|refine lS ?_ GE233.out)|exact HB.out))))
              have n2_:=mK (blk_below (g:=gb233) (o:=.cells #[.int .i64 a0_0,.int .u32 a0_1,.int .u32 a0_2,.int .u32 a0_3,.slice A0_4 l0_4.length c0_4,.int .i64 a0_5,.int .u32 a0_6,.int .u32 a0_7,.int .u32 a0_8,.int .u32 a0_9,.int .u32 a0_10,.int .u32 a0_11] 26 (0,0)) (by (with_reducible repeat (first|apply bN|apply bD|apply bA));exact BK233.out) hb)
              have n3_:=mK (below_step (by repeat (first|(with_reducible first|exact HB.out|apply lA|apply lN|apply lD|refine lS ?_ GE233.out)|exact HB.out)) hb)
              clear HO236
              clear BK233
              clear HB
              have HO236:=n0_
              have HO239:=n1_
              have BK233:=n2_
              have HB:=n3_
              clear n0_ n1_ n2_ n3_
              (try clear hb)
              (try clear hb2)
              (try clear hk)
              (try clear hi)
              (try clear ho0)
              refine hK.out _ _ ⟨(blk_cell BK233.out 0).trans rfl,(blk_cell BK233.out 1).trans rfl,(blk_cell BK233.out 2).trans rfl,(blk_cell BK233.out 3).trans rfl,(blk_cell BK233.out 4).trans rfl,(blk_cell BK233.out 5).trans rfl,(blk_cell BK233.out 6).trans rfl,(blk_cell BK233.out 7).trans rfl,(blk_cell BK233.out 8).trans rfl,(blk_cell BK233.out 9).trans rfl,(blk_cell BK233.out 10).trans rfl,(blk_cell BK233.out 11).trans rfl⟩ (fun hHeld=>?_)
              clear hK K
              refine norm_ (a':=?_) ?_ ?_
              rotate_left
              ·show Act.put _ (some 38) _ = _
               simp only [Act.put,sT,sZ,sS,i64_w,i32_w]
               rfl
              exact norm_ (by simp only [putAll,Act.put,sT,sZ,sS]) (hCont (v235,v238) _ ⟨hHeld,(by (with_reducible repeat (first|apply rA|apply rN|apply rD));exact Kd.R_mono HO236.out (fun _ hk=>hk.2)),(by (with_reducible repeat (first|apply rA|apply rN|apply rD));exact Kd.R_mono HO239.out (fun _ hk=>hk.2)),(by (with_reducible repeat (first|apply bN|apply bD|apply bA));exact BK233.out),(by repeat (first|(with_reducible first|exact HB.out|apply lA|apply lN|apply lD|refine lS ?_ GE233.out)|exact HB.out))⟩)
             ·skip
              refine goes_ Try.func22 (by kernel_rfl) rfl #[.int .u32 a0_1] (by rfl) rfl rfl (by (try simp only [List.map_toArray,List.map_cons,List.map_nil]);first|done|rfl|(simp only [List.length_drop,List.length_take];rfl)) ?_
              with_reducible refine (drawbridgeref20_four.calls kj1 a0_1 t237 _ A18.out).mono ?_
              rintro e w30 ⟨v238,rfl,ho0,hb⟩
              refine ⟨_,rfl,?_⟩
              have n0_:=mK (Kd.R_lower ho0 (below_size (by repeat (first|(with_reducible first|exact HB.out|apply lA|apply lN|apply lD|refine lS ?_ GE233.out)|exact HB.out))))
              have n1_:=mK (blk_below (g:=gb233) (o:=.cells #[.int .i64 a0_0,.int .u32 a0_1,.int .u32 a0_2,.int .u32 a0_3,.slice A0_4 l0_4.length c0_4,.int .i64 a0_5,.int .u32 a0_6,.int .u32 a0_7,.int .u32 a0_8,.int .u32 a0_9,.int .u32 a0_10,.int .u32 a0_11] 26 (0,0)) (by (with_reducible repeat (first|apply bN|apply bD|apply bA));exact BK233.out) hb)
              have n2_:=mK (below_step (by repeat (first|(with_reducible first|exact HB.out|apply lA|apply lN|apply lD|refine lS ?_ GE233.out)|exact HB.out)) hb)
              clear BK233
              clear HB
              have HO239:=n0_
              have BK233:=n1_
              have HB:=n2_
              clear n0_ n1_ n2_
              (try clear hb)
              (try clear hb2)
              (try clear hk)
              (try clear hi)
              (try clear ho0)
              refine hK.out _ _ ⟨(blk_cell BK233.out 0).trans rfl,(blk_cell BK233.out 1).trans rfl,(blk_cell BK233.out 2).trans rfl,(blk_cell BK233.out 3).trans rfl,(blk_cell BK233.out 4).trans rfl,(blk_cell BK233.out 5).trans rfl,(blk_cell BK233.out 6).trans rfl,(blk_cell BK233.out 7).trans rfl,(blk_cell BK233.out 8).trans rfl,(blk_cell BK233.out 9).trans rfl,(blk_cell BK233.out 10).trans rfl,(blk_cell BK233.out 11).trans rfl⟩ (fun hHeld=>?_)
              clear hK K
              refine norm_ (a':=?_) ?_ ?_
              rotate_left
              ·show Act.put _ (some 38) _ = _
               simp only [Act.put,sT,sZ,sS,i64_w,i32_w]
               rfl
              refine one_ (i:=3) (N:=some 35) #[τ,τ,τ,τ,τ,τ,τ,φ,φ] rfl rfl (one_of HT_.out (by kernel_rfl)) (by decide) (fun K hK=>?_)
              refine Kd.R_lit_step (Kd.int .u8) _ 5 ?hg (N:=35) ?hd (xs:=([(a0_0) % 256,1,6,0] : List Int)) (inner:=[.int .u8 ((a0_0) % 256),.int .u8 1,.int .u8 6,.int .u8 0]) (ok:= fun _=>True) (okp:= fun _=>True) ?hr ?hp (fun _ hk=>hk) trivial (Below.refl _ _) (Nat.le_refl _) (by simp) ?_;(case hd=>rfl);(case hg=>rfl);(case hr=>first|(go_simp;done)|(go_simp;rfl));(case hp=>exact (Reps.one (show Kd.M (Kd.int .u8) _ _ _ ((a0_0) % 256) [.int .u8 ((a0_0) % 256)] from rfl) (Reps.one (show Kd.M (Kd.int .u8) _ _ _ 1 [.int .u8 1] from rfl) (Reps.one (show Kd.M (Kd.int .u8) _ _ _ 6 [.int .u8 6] from rfl) (Reps.one (show Kd.M (Kd.int .u8) _ _ _ 0 [.int .u8 0] from rfl) (Reps.none _ _))))))
              intro v235 w31 ho32 hb hg_ hnew_
              clear hg_ hnew_
              (first|rw [← Ny234.out] at ho32|(simp only [Int.reduceToNat] at ho32;rw [← Ny234.out] at ho32))
              have n0_:=mK (Kd.R_elder' (by (with_reducible repeat (first|apply rA|apply rN|apply rD));exact HO239.out) (Kd.R_base ho32) hb)
              have n1_:=mK (Kd.R_lower (Kd.R_new' ho32 (Kd.R_lt (by (with_reducible repeat (first|apply rA|apply rN|apply rD));exact HO239.out))) (below_size (by repeat (first|(with_reducible first|exact HB.out|apply lA|apply lN|apply lD|refine lS ?_ GE233.out)|exact HB.out))))
              have n2_:=mK (blk_below (g:=gb233) (o:=.cells #[.int .i64 a0_0,.int .u32 a0_1,.int .u32 a0_2,.int .u32 a0_3,.slice A0_4 l0_4.length c0_4,.int .i64 a0_5,.int .u32 a0_6,.int .u32 a0_7,.int .u32 a0_8,.int .u32 a0_9,.int .u32 a0_10,.int .u32 a0_11] 26 (0,0)) (by (with_reducible repeat (first|apply bN|apply bD|apply bA));exact BK233.out) hb)
              have n3_:=mK (below_step (by repeat (first|(with_reducible first|exact HB.out|apply lA|apply lN|apply lD|refine lS ?_ GE233.out)|exact HB.out)) hb)
              clear HO239
              clear BK233
              clear HB
              have HO239:=n0_
              have HO236:=n1_
              have BK233:=n2_
              have HB:=n3_
              clear n0_ n1_ n2_ n3_
              clear hb ho32
              refine hK.out _ _ ⟨(blk_cell BK233.out 0).trans rfl,(blk_cell BK233.out 1).trans rfl,(blk_cell BK233.out 2).trans rfl,(blk_cell BK233.out 3).trans rfl,(blk_cell BK233.out 4).trans rfl,(blk_cell BK233.out 5).trans rfl,(blk_cell BK233.out 6).trans rfl,(blk_cell BK233.out 7).trans rfl,(blk_cell BK233.out 8).trans rfl,(blk_cell BK233.out 9).trans rfl,(blk_cell BK233.out 10).trans rfl,(blk_cell BK233.out 11).trans rfl⟩ (fun hHeld=>?_)
              clear hK K
              refine norm_ (a':=?_) ?_ ?_
              rotate_left
              ·show Act.put _ (some 35) _ = _
               simp only [Act.put,sT,sZ,sS,i64_w,i32_w]
               rfl
              exact norm_ (by simp only [putAll,Act.put,sT,sZ,sS]) (hCont (v235,v238) _ ⟨hHeld,(by (with_reducible repeat (first|apply rA|apply rN|apply rD));exact Kd.R_mono HO236.out (fun _ hk=>hk.2)),(by (with_reducible repeat (first|apply rA|apply rN|apply rD));exact Kd.R_mono HO239.out (fun _ hk=>hk.2)),(by (with_reducible repeat (first|apply bN|apply bD|apply bA));exact BK233.out),(by repeat (first|(with_reducible first|exact HB.out|apply lA|apply lN|apply lD|refine lS ?_ GE233.out)|exact HB.out))⟩)
            rintro ⟨v235,v238⟩ w33 ⟨hS_,h0_,h1_,h2_,h3_⟩
            have n0_ : Aside0 (Kd.R (Kd.int .u8) 5 w33 w.heap.size (fun k_=>some k_ ≠ (v238 : Value).ownBlock) v235 y234):=⟨h0_⟩
            have n1_ : Aside0 (Kd.R (Kd.int .u8) 5 w33 w.heap.size (fun k_=>some k_ ≠ (v235 : Value).ownBlock) v238 t237):=⟨h1_⟩
            have n2_ : Aside0 (w33.heap[gb233]? = some (.cells #[.int .i64 a0_0,.int .u32 a0_1,.int .u32 a0_2,.int .u32 a0_3,.slice A0_4 l0_4.length c0_4,.int .i64 a0_5,.int .u32 a0_6,.int .u32 a0_7,.int .u32 a0_8,.int .u32 a0_9,.int .u32 a0_10,.int .u32 a0_11] 26 (0,0))):=⟨h2_⟩
            have n3_ : Aside0 (Below w.heap.size w w33):=⟨h3_⟩
            clear BK233
            clear HB
            clear h0_ h1_ h2_ h3_
            have HO236:=n0_
            have HO239:=n1_
            have BK233:=n2_
            have HB:=n3_
            clear n0_ n1_ n2_ n3_
            have hHeld : w33.cell? ⟨gb233,0,none⟩ = some (.int .i64 a0_0)∧w33.cell? ⟨gb233,1,none⟩ = some (.int .u32 a0_1)∧w33.cell? ⟨gb233,2,none⟩ = some (.int .u32 a0_2)∧w33.cell? ⟨gb233,3,none⟩ = some (.int .u32 a0_3)∧w33.cell? ⟨gb233,4,none⟩ = some (.slice A0_4 l0_4.length c0_4)∧w33.cell? ⟨gb233,5,none⟩ = some (.int .i64 a0_5)∧w33.cell? ⟨gb233,6,none⟩ = some (.int .u32 a0_6)∧w33.cell? ⟨gb233,7,none⟩ = some (.int .u32 a0_7)∧w33.cell? ⟨gb233,8,none⟩ = some (.int .u32 a0_8)∧w33.cell? ⟨gb233,9,none⟩ = some (.int .u32 a0_9)∧w33.cell? ⟨gb233,10,none⟩ = some (.int .u32 a0_10)∧w33.cell? ⟨gb233,11,none⟩ = some (.int .u32 a0_11):=hS_
            obtain ⟨Ao35,co35,eo35⟩:=Kd.R_slice HO239.out
            (first|subst eo35|(injection eo35 with f1_ f2_ f3_;have f4_:=f1_.symm;have f5_:=f3_.symm;clear f1_ f2_ f3_;subst f4_;subst f5_))
            refine norm_ (a':=?_) ?_ ?_
            rotate_left
            ·simp only [putAll,Act.put,sT,sZ,sS]
             rfl
            refine one_ (i:=7) (N:=some 39) #[τ,τ,τ,τ,τ,τ,τ,τ,φ] rfl rfl (one_of HT_.out (by kernel_rfl)) (by decide) (fun K hK=>?_)
            refine Kd.R_append_rows_step (Kd.int .u8) (w0:=w) w.heap.size (by rfl) (.tmp 35) (.tmp 38) 22 5 (.int .u8 0) 1 rfl Try.underlying22 info5 rfl (by decide) (by omega) v235 y234 t237 _ _ _ (fun k_=>some k_ ≠ (.slice Ao35 t237.length co35 : Value).ownBlock) (fun _=>False) rfl rfl ?aO ?aR (fun _ _ h=>h) (fun _ h=>h.elim) ?aF ?aB ?aS ?aL ?_
            (case aR=>repeat (first|exact (Kd.R_reads' HO239.out).2.2|(with_reducible refine Kd.C_alloc ?_ _)|(with_reducible refine Kd.C_drewN ?_ _)|(with_reducible refine Kd.C_drew ?_)))
            (case aB=>exact (by repeat (first|(with_reducible first|exact HB.out|apply lA|apply lN|apply lD|refine lS ?_ GE233.out)|exact HB.out)))
            (case aF=>exact (fun k_ hk=>Kd.fresh' (Kd.R_lt (by (with_reducible repeat (first|apply rA|apply rN|apply rD));exact HO239.out)) k_ hk))
            (case aO=>exact (by (with_reducible repeat (first|apply rA|apply rN|apply rD));exact HO236.out))
            (case aS=>exact (below_size (by repeat (first|(with_reducible first|exact HB.out|apply lA|apply lN|apply lD|refine lS ?_ GE233.out)|exact HB.out))))
            (case aL=>have:=LMc19.out;omega)
            intro v241 w34 ho hb hg hat
            first|rw [← Ny240.out] at ho|(simp only [Int.reduceToNat] at ho;rw [← Ny240.out] at ho)
            have n0_:=mK (blk_grown (g:=gb233) (o:=.cells #[.int .i64 a0_0,.int .u32 a0_1,.int .u32 a0_2,.int .u32 a0_3,.slice A0_4 l0_4.length c0_4,.int .i64 a0_5,.int .u32 a0_6,.int .u32 a0_7,.int .u32 a0_8,.int .u32 a0_9,.int .u32 a0_10,.int .u32 a0_11] 26 (0,0)) (by (with_reducible repeat (first|apply bN|apply bD|apply bA));exact BK233.out) hg (Kd.R_ne HO236.out BK233.out (by decide)))
            have n1_:=mK (Kd.R_after (ok:=(fun _=>True)) (by (with_reducible repeat (first|apply rA|apply rN|apply rD));exact Kd.R_mono HO239.out (fun _ hk=>⟨trivial,hk⟩)) hg hat)
            have n2_:=mK (hb)
            have n3_:=mK (ho)
            clear BK233
            clear HO239
            clear HB
            clear HO236
            have BK233:=n0_
            have HO239:=n1_
            have HB:=n2_
            have HO242:=n3_
            clear n0_ n1_ n2_ n3_
            clear ho hb hg hat
            refine hK.out _ _ ⟨(blk_cell BK233.out 0).trans rfl,(blk_cell BK233.out 1).trans rfl,(blk_cell BK233.out 2).trans rfl,(blk_cell BK233.out 3).trans rfl,(blk_cell BK233.out 4).trans rfl,(blk_cell BK233.out 5).trans rfl,(blk_cell BK233.out 6).trans rfl,(blk_cell BK233.out 7).trans rfl,(blk_cell BK233.out 8).trans rfl,(blk_cell BK233.out 9).trans rfl,(blk_cell BK233.out 10).trans rfl,(blk_cell BK233.out 11).trans rfl⟩ (fun hHeld=>?_)
            clear hK K
            refine norm_ (a':=?_) ?_ ?_
            rotate_left
            ·show Act.put _ (some 39) _ = _
             simp only [Act.put,sT,sZ,sS,i64_w,i32_w]
             rfl
            refine pure_ (i:=8) (N:=some 4) (v:=?_) (a':=?_) #[τ,τ,τ,τ,τ,τ,τ,τ,τ] rfl rfl (any_of HT_.out (by kernel_rfl)) (fun _ _ _ h=>h) (Or.inl ⟨by rfl,?_⟩) ?_ ?_
            rotate_left
            ·intro w'
             go_simp
             with_reducible rfl
            rotate_left
            ·simp only [Act.put,sT,sZ,sS,i64_w,i32_w]
             rfl
            refine done_ (done_of HT_.out (by kernel_rfl)) ?_
            try go_wp2
            have n0_:=mK (Kd.R_drew HO239.out)
            have n1_:=mK (Kd.R_drew HO242.out)
            have n2_:=mK (blk_drew BK233.out)
            have n3_:=mK (below_drew1 HB.out)
            clear HO239
            clear HO242
            clear BK233
            clear HB
            have HO239:=n0_
            have HO242:=n1_
            have BK233:=n2_
            have HB:=n3_
            clear n0_ n1_ n2_ n3_
            refine start_ (n:=12) (S:= fun w'=>w'.cell? ⟨gb233,0,none⟩ = some (.int .i64 a0_0)∧w'.cell? ⟨gb233,1,none⟩ = some (.int .u32 a0_1)∧w'.cell? ⟨gb233,2,none⟩ = some (.int .u32 a0_2)∧w'.cell? ⟨gb233,3,none⟩ = some (.int .u32 a0_3)∧w'.cell? ⟨gb233,4,none⟩ = some (.slice A0_4 l0_4.length c0_4)∧w'.cell? ⟨gb233,5,none⟩ = some (.int .i64 a0_5)∧w'.cell? ⟨gb233,6,none⟩ = some (.int .u32 a0_6)∧w'.cell? ⟨gb233,7,none⟩ = some (.int .u32 a0_7)∧w'.cell? ⟨gb233,8,none⟩ = some (.int .u32 a0_8)∧w'.cell? ⟨gb233,9,none⟩ = some (.int .u32 a0_9)∧w'.cell? ⟨gb233,10,none⟩ = some (.int .u32 a0_10)∧w'.cell? ⟨gb233,11,none⟩ = some (.int .u32 a0_11)) (ds:=[]) #[φ,φ,φ,φ,φ,φ,φ,φ,φ,φ,φ,φ] (by kernel_rfl) rfl rfl ⟨(blk_cell BK233.out 0).trans rfl,(blk_cell BK233.out 1).trans rfl,(blk_cell BK233.out 2).trans rfl,(blk_cell BK233.out 3).trans rfl,(blk_cell BK233.out 4).trans rfl,(blk_cell BK233.out 5).trans rfl,(blk_cell BK233.out 6).trans rfl,(blk_cell BK233.out 7).trans rfl,(blk_cell BK233.out 8).trans rfl,(blk_cell BK233.out 9).trans rfl,(blk_cell BK233.out 10).trans rfl,(blk_cell BK233.out 11).trans rfl⟩ (fun hHeld=>?_);refine with_tabW drawbridgeref20_Put.tab4 drawbridgeref20_Put.bits4 (fun HT_ HW_=>?_)
            generalize w34.drew = w36 at HO239 HO242 BK233 HB hHeld ⊢
            refine pure_ (i:=0) (N:=some 40) (v:=?_) (a':=?_) #[τ,φ,φ,φ,φ,φ,φ,φ,φ,φ,φ,φ] rfl rfl (any_of HT_.out (by kernel_rfl)) (fun _ _ _ h=>h) (Or.inl ⟨by rfl,?_⟩) ?_ ?_
            rotate_left
            ·intro w'
             go_simp
             with_reducible rfl
            rotate_left
            ·simp only [Act.put,sT,sZ,sS,i64_w,i32_w]
             rfl
            refine pure_ (i:=3) (N:=some 43) (v:=?_) (a':=?_) #[τ,φ,φ,τ,φ,φ,φ,φ,φ,φ,φ,φ] rfl rfl (any_of HT_.out (by kernel_rfl)) (fun _ _ _ h=>h) (Or.inl ⟨by rfl,?_⟩) ?_ ?_
            rotate_left
            ·intro w'
             go_simp
             with_reducible rfl
            rotate_left
            ·simp only [Act.put,sT,sZ,sS,i64_w,i32_w]
             rfl
            refine pure_ (i:=7) (N:=some 47) (v:=?_) (a':=?_) #[τ,φ,φ,τ,φ,φ,φ,τ,φ,φ,φ,φ] rfl rfl (any_of HT_.out (by kernel_rfl)) (fun _ _ _ h=>h) (Or.inl ⟨by rfl,?_⟩) ?_ ?_
            rotate_left
            ·intro w'
             go_simp
             with_reducible rfl
            rotate_left
            ·simp only [Act.put,sT,sZ,sS,i64_w,i32_w]
             rfl
            refine take_ (i:=4) (N:=some 44) (v:=?_) (a':=?_) #[τ,φ,φ,τ,τ,φ,φ,τ,φ,φ,φ,φ] rfl rfl (take_ofW HT_.out HW_.out (by kernel_rfl)) (fun _ _ _ h=>h) (Or.inl ⟨by rfl,?_⟩) hHeld ?_ ?_
            rotate_left
            ·rintro w' ⟨s0,s1,s2,s3,s4,s5,s6,s7,s8,s9,s10,s11⟩
             go_simp
             with_reducible rfl
            rotate_left
            ·simp only [Act.put,sT,sZ,sS,i64_w,i32_w]
             rfl
            refine take_ (i:=8) (N:=some 48) (v:=?_) (a':=?_) #[τ,φ,φ,τ,τ,φ,φ,τ,τ,φ,φ,φ] rfl rfl (take_ofW HT_.out HW_.out (by kernel_rfl)) (fun _ _ _ h=>h) (Or.inl ⟨by rfl,?_⟩) hHeld ?_ ?_
            rotate_left
            ·rintro w' ⟨s0,s1,s2,s3,s4,s5,s6,s7,s8,s9,s10,s11⟩
             go_simp
             with_reducible rfl
            rotate_left
            ·simp only [Act.put,sT,sZ,sS,i64_w,i32_w]
             rfl
            refine one_ (i:=1) (N:=some 41) #[τ,τ,φ,τ,τ,φ,φ,τ,τ,φ,φ,φ] rfl rfl (one_of HT_.out (by kernel_rfl)) (by decide) (fun K hK=>?_)
            refine Kd.R_lit_step (Kd.int .u8) _ 5 ?hg (N:=41) ?hd (xs:=([0,0,0,0] : List Int)) (inner:=[.int .u8 0,.int .u8 0,.int .u8 0,.int .u8 0]) (ok:= fun _=>True) (okp:= fun _=>True) ?hr ?hp (fun _ hk=>hk) trivial (Below.refl _ _) (Nat.le_refl _) (by simp) ?_;(case hd=>rfl);(case hg=>rfl);(case hr=>first|(go_simp;done)|(go_simp;rfl));(case hp=>exact (Reps.one (show Kd.M (Kd.int .u8) _ _ _ 0 [.int .u8 0] from rfl) (Reps.one (show Kd.M (Kd.int .u8) _ _ _ 0 [.int .u8 0] from rfl) (Reps.one (show Kd.M (Kd.int .u8) _ _ _ 0 [.int .u8 0] from rfl) (Reps.one (show Kd.M (Kd.int .u8) _ _ _ 0 [.int .u8 0] from rfl) (Reps.none _ _))))))
            intro v244 w37 ho38 hb hg_ hnew_
            clear hg_ hnew_
            (first|rw [← Ny243.out] at ho38|(simp only [Int.reduceToNat] at ho38;rw [← Ny243.out] at ho38))
            have n0_:=mK (Kd.R_elder' (by (with_reducible repeat (first|apply rA|apply rN|apply rD));exact HO239.out) (Kd.R_base ho38) hb)
            have n1_:=mK (Kd.R_elder' (by (with_reducible repeat (first|apply rA|apply rN|apply rD));exact HO242.out) (Kd.R_base ho38) hb)
            have n2_:=mK (Kd.R_lower (Kd.R_new' (Kd.R_new' ho38 (Kd.R_lt (by (with_reducible repeat (first|apply rA|apply rN|apply rD));exact HO239.out))) (Kd.R_lt (by (with_reducible repeat (first|apply rA|apply rN|apply rD));exact HO242.out))) (below_size (by repeat (first|(with_reducible first|exact HB.out|apply lA|apply lN|apply lD|refine lS ?_ GE233.out)|exact HB.out))))
            have n3_:=mK (blk_below (g:=gb233) (o:=.cells #[.int .i64 a0_0,.int .u32 a0_1,.int .u32 a0_2,.int .u32 a0_3,.slice A0_4 l0_4.length c0_4,.int .i64 a0_5,.int .u32 a0_6,.int .u32 a0_7,.int .u32 a0_8,.int .u32 a0_9,.int .u32 a0_10,.int .u32 a0_11] 26 (0,0)) (by (with_reducible repeat (first|apply bN|apply bD|apply bA));exact BK233.out) hb)
            have n4_:=mK (below_step (by repeat (first|(with_reducible first|exact HB.out|apply lA|apply lN|apply lD|refine lS ?_ GE233.out)|exact HB.out)) hb)
            clear HO239
            clear HO242
            clear BK233
            clear HB
            have HO239:=n0_
            have HO242:=n1_
            have HO245:=n2_
            have BK233:=n3_
            have HB:=n4_
            clear n0_ n1_ n2_ n3_ n4_
            clear hb ho38
            obtain ⟨Ao40,co40,eo40⟩:=Kd.R_slice HO245.out
            (first|subst eo40|(injection eo40 with f1_ f2_ f3_;have f4_:=f1_.symm;have f5_:=f3_.symm;clear f1_ f2_ f3_;subst f4_;subst f5_))
            refine hK.out _ _ ⟨(blk_cell BK233.out 0).trans rfl,(blk_cell BK233.out 1).trans rfl,(blk_cell BK233.out 2).trans rfl,(blk_cell BK233.out 3).trans rfl,(blk_cell BK233.out 4).trans rfl,(blk_cell BK233.out 5).trans rfl,(blk_cell BK233.out 6).trans rfl,(blk_cell BK233.out 7).trans rfl,(blk_cell BK233.out 8).trans rfl,(blk_cell BK233.out 9).trans rfl,(blk_cell BK233.out 10).trans rfl,(blk_cell BK233.out 11).trans rfl⟩ (fun hHeld=>?_)
            clear hK K
            refine norm_ (a':=?_) ?_ ?_
            rotate_left
            ·show Act.put _ (some 41) _ = _
             simp only [Act.put,sT,sZ,sS,i64_w,i32_w]
             rfl
            refine one_ (i:=2) (N:=some 42) #[τ,τ,τ,τ,τ,φ,φ,τ,τ,φ,φ,φ] rfl rfl (one_of HT_.out (by kernel_rfl)) (by decide) (fun K hK=>?_)
            refine Kd.R_append_rows_step (Kd.int .u8) (w0:=w) w.heap.size (by rfl) (.tmp 40) (.tmp 41) 22 5 (.int .u8 0) 1 rfl Try.underlying22 info5 rfl (by decide) (by omega) v241 y240 y243 _ _ _ (fun k_=>some k_ ≠ (.slice Ao35 t237.length co35 : Value).ownBlock∧some k_ ≠ (.slice Ao40 y243.length co40 : Value).ownBlock) (fun _=>False) rfl rfl ?aO ?aR (fun _ _ h=>h) (fun _ h=>h.elim) ?aF ?aB ?aS ?aL ?_
            (case aR=>repeat (first|exact (Kd.R_reads' HO245.out).2.2|(with_reducible refine Kd.C_alloc ?_ _)|(with_reducible refine Kd.C_drewN ?_ _)|(with_reducible refine Kd.C_drew ?_)))
            (case aB=>exact (by repeat (first|(with_reducible first|exact HB.out|apply lA|apply lN|apply lD|refine lS ?_ GE233.out)|exact HB.out)))
            (case aF=>exact (fun k_ hk=>⟨Kd.fresh' (Kd.R_lt (by (with_reducible repeat (first|apply rA|apply rN|apply rD));exact HO239.out)) k_ hk,Kd.fresh' (Kd.R_lt (by (with_reducible repeat (first|apply rA|apply rN|apply rD));exact HO245.out)) k_ hk⟩))
            (case aO=>exact (by (with_reducible repeat (first|apply rA|apply rN|apply rD));exact HO242.out))
            (case aS=>exact (below_size (by repeat (first|(with_reducible first|exact HB.out|apply lA|apply lN|apply lD|refine lS ?_ GE233.out)|exact HB.out))))
            (case aL=>have:=LMc20.out;omega)
            intro v247 w39 ho hb hg hat
            first|rw [← Ny246.out] at ho|(simp only [Int.reduceToNat] at ho;rw [← Ny246.out] at ho)
            have n0_:=mK (blk_grown (g:=gb233) (o:=.cells #[.int .i64 a0_0,.int .u32 a0_1,.int .u32 a0_2,.int .u32 a0_3,.slice A0_4 l0_4.length c0_4,.int .i64 a0_5,.int .u32 a0_6,.int .u32 a0_7,.int .u32 a0_8,.int .u32 a0_9,.int .u32 a0_10,.int .u32 a0_11] 26 (0,0)) (by (with_reducible repeat (first|apply bN|apply bD|apply bA));exact BK233.out) hg (Kd.R_ne HO242.out BK233.out (by decide)))
            have n1_:=mK (Kd.R_after (ok:=(fun k_=>some k_ ≠ (.slice Ao40 y243.length co40 : Value).ownBlock)) (by (with_reducible repeat (first|apply rA|apply rN|apply rD));exact Kd.R_mono HO239.out (fun _ hk=>⟨hk.2,hk.1.2⟩)) hg hat)
            have n2_:=mK (Kd.R_after (ok:=(fun k_=>some k_ ≠ (.slice Ao35 t237.length co35 : Value).ownBlock)) (by (with_reducible repeat (first|apply rA|apply rN|apply rD));exact Kd.R_mono HO245.out (fun _ hk=>⟨hk.1.2,hk.2⟩)) hg hat)
            have n3_:=mK (hb)
            have n4_:=mK (ho)
            clear BK233
            clear HO239
            clear HO245
            clear HB
            clear HO242
            have BK233:=n0_
            have HO239:=n1_
            have HO245:=n2_
            have HB:=n3_
            have HO248:=n4_
            clear n0_ n1_ n2_ n3_ n4_
            clear ho hb hg hat
            refine hK.out _ _ ⟨(blk_cell BK233.out 0).trans rfl,(blk_cell BK233.out 1).trans rfl,(blk_cell BK233.out 2).trans rfl,(blk_cell BK233.out 3).trans rfl,(blk_cell BK233.out 4).trans rfl,(blk_cell BK233.out 5).trans rfl,(blk_cell BK233.out 6).trans rfl,(blk_cell BK233.out 7).trans rfl,(blk_cell BK233.out 8).trans rfl,(blk_cell BK233.out 9).trans rfl,(blk_cell BK233.out 10).trans rfl,(blk_cell BK233.out 11).trans rfl⟩ (fun hHeld=>?_)
            clear hK K
            refine norm_ (a':=?_) ?_ ?_
            rotate_left
            ·show Act.put _ (some 42) _ = _
             simp only [Act.put,sT,sZ,sS,i64_w,i32_w]
             rfl
            refine one_ (i:=5) (N:=some 45) #[τ,τ,τ,τ,τ,τ,φ,τ,τ,φ,φ,φ] rfl rfl (one_of HT_.out (by kernel_rfl)) (by decide) (fun K hK=>?_)
            refine goes_ Try.func22 (by kernel_rfl) rfl #[.int .u32 a0_2] (by rfl) rfl rfl (by (try simp only [List.map_toArray,List.map_cons,List.map_nil]);first|done|rfl|(simp only [List.length_drop,List.length_take];rfl)) ?_
            with_reducible refine (drawbridgeref20_four.calls kj1 a0_2 t249 _ A21.out).mono ?_
            rintro e w41 ⟨v250,rfl,ho0,hb⟩
            refine ⟨_,rfl,?_⟩
            have n0_:=mK (Kd.R_elder' (by (with_reducible repeat (first|apply rA|apply rN|apply rD));exact HO239.out) (Kd.R_base ho0) hb)
            have n1_:=mK (Kd.R_elder' (by (with_reducible repeat (first|apply rA|apply rN|apply rD));exact HO245.out) (Kd.R_base ho0) hb)
            have n2_:=mK (Kd.R_elder' (by (with_reducible repeat (first|apply rA|apply rN|apply rD));exact HO248.out) (Kd.R_base ho0) hb)
            have n3_:=mK (Kd.R_lower (Kd.R_new' (Kd.R_new' (Kd.R_new' ho0 (Kd.R_lt (by (with_reducible repeat (first|apply rA|apply rN|apply rD));exact HO239.out))) (Kd.R_lt (by (with_reducible repeat (first|apply rA|apply rN|apply rD));exact HO245.out))) (Kd.R_lt (by (with_reducible repeat (first|apply rA|apply rN|apply rD));exact HO248.out))) (below_size (by repeat (first|(with_reducible first|exact HB.out|apply lA|apply lN|apply lD|refine lS ?_ GE233.out)|exact HB.out))))
            have n4_:=mK (blk_below (g:=gb233) (o:=.cells #[.int .i64 a0_0,.int .u32 a0_1,.int .u32 a0_2,.int .u32 a0_3,.slice A0_4 l0_4.length c0_4,.int .i64 a0_5,.int .u32 a0_6,.int .u32 a0_7,.int .u32 a0_8,.int .u32 a0_9,.int .u32 a0_10,.int .u32 a0_11] 26 (0,0)) (by (with_reducible repeat (first|apply bN|apply bD|apply bA));exact BK233.out) hb)
            have n5_:=mK (below_step (by repeat (first|(with_reducible first|exact HB.out|apply lA|apply lN|apply lD|refine lS ?_ GE233.out)|exact HB.out)) hb)
            clear HO239
            clear HO245
            clear HO248
            clear BK233
            clear HB
            have HO239:=n0_
            have HO245:=n1_
            have HO248:=n2_
            have HO251:=n3_
            have BK233:=n4_
            have HB:=n5_
            clear n0_ n1_ n2_ n3_ n4_ n5_
            (try clear hb)
            (try clear hb2)
            (try clear hk)
            (try clear hi)
            (try clear ho0)
            obtain ⟨Ao43,co43,eo43⟩:=Kd.R_slice HO251.out
            (first|subst eo43|(injection eo43 with f1_ f2_ f3_;have f4_:=f1_.symm;have f5_:=f3_.symm;clear f1_ f2_ f3_;subst f4_;subst f5_))
            refine hK.out _ _ ⟨(blk_cell BK233.out 0).trans rfl,(blk_cell BK233.out 1).trans rfl,(blk_cell BK233.out 2).trans rfl,(blk_cell BK233.out 3).trans rfl,(blk_cell BK233.out 4).trans rfl,(blk_cell BK233.out 5).trans rfl,(blk_cell BK233.out 6).trans rfl,(blk_cell BK233.out 7).trans rfl,(blk_cell BK233.out 8).trans rfl,(blk_cell BK233.out 9).trans rfl,(blk_cell BK233.out 10).trans rfl,(blk_cell BK233.out 11).trans rfl⟩ (fun hHeld=>?_)
            clear hK K
            refine norm_ (a':=?_) ?_ ?_
            rotate_left
            ·show Act.put _ (some 45) _ = _
             simp only [Act.put,sT,sZ,sS,i64_w,i32_w]
             rfl
            refine one_ (i:=6) (N:=some 46) #[τ,τ,τ,τ,τ,τ,τ,τ,τ,φ,φ,φ] rfl rfl (one_of HT_.out (by kernel_rfl)) (by decide) (fun K hK=>?_)
            refine Kd.R_append_rows_step (Kd.int .u8) (w0:=w) w.heap.size (by rfl) (.tmp 42) (.tmp 45) 22 5 (.int .u8 0) 1 rfl Try.underlying22 info5 rfl (by decide) (by omega) v247 y246 t249 _ _ _ (fun k_=>some k_ ≠ (.slice Ao35 t237.length co35 : Value).ownBlock∧some k_ ≠ (.slice Ao40 y243.length co40 : Value).ownBlock∧some k_ ≠ (.slice Ao43 t249.length co43 : Value).ownBlock) (fun _=>False) rfl rfl ?aO ?aR (fun _ _ h=>h) (fun _ h=>h.elim) ?aF ?aB ?aS ?aL ?_
            (case aR=>repeat (first|exact (Kd.R_reads' HO251.out).2.2|(with_reducible refine Kd.C_alloc ?_ _)|(with_reducible refine Kd.C_drewN ?_ _)|(with_reducible refine Kd.C_drew ?_)))
            (case aB=>exact (by repeat (first|(with_reducible first|exact HB.out|apply lA|apply lN|apply lD|refine lS ?_ GE233.out)|exact HB.out)))
            (case aF=>exact (fun k_ hk=>⟨Kd.fresh' (Kd.R_lt (by (with_reducible repeat (first|apply rA|apply rN|apply rD));exact HO239.out)) k_ hk,Kd.fresh' (Kd.R_lt (by (with_reducible repeat (first|apply rA|apply rN|apply rD));exact HO245.out)) k_ hk,Kd.fresh' (Kd.R_lt (by (with_reducible repeat (first|apply rA|apply rN|apply rD));exact HO251.out)) k_ hk⟩))
            (case aO=>exact (by (with_reducible repeat (first|apply rA|apply rN|apply rD));exact Kd.R_mono HO248.out (fun _ hk=>⟨hk.1.1,⟨hk.1.2,hk.2⟩⟩)))
            (case aS=>exact (below_size (by repeat (first|(with_reducible first|exact HB.out|apply lA|apply lN|apply lD|refine lS ?_ GE233.out)|exact HB.out))))
            (case aL=>have:=LMc22.out;omega)
            intro v253 w42 ho hb hg hat
            first|rw [← Ny252.out] at ho|(simp only [Int.reduceToNat] at ho;rw [← Ny252.out] at ho)
            have n0_:=mK (blk_grown (g:=gb233) (o:=.cells #[.int .i64 a0_0,.int .u32 a0_1,.int .u32 a0_2,.int .u32 a0_3,.slice A0_4 l0_4.length c0_4,.int .i64 a0_5,.int .u32 a0_6,.int .u32 a0_7,.int .u32 a0_8,.int .u32 a0_9,.int .u32 a0_10,.int .u32 a0_11] 26 (0,0)) (by (with_reducible repeat (first|apply bN|apply bD|apply bA));exact BK233.out) hg (Kd.R_ne HO248.out BK233.out (by decide)))
            have n1_:=mK (Kd.R_after (ok:=(fun k_=>some k_ ≠ (.slice Ao40 y243.length co40 : Value).ownBlock∧some k_ ≠ (.slice Ao43 t249.length co43 : Value).ownBlock)) (by (with_reducible repeat (first|apply rA|apply rN|apply rD));exact Kd.R_mono HO239.out (fun _ hk=>⟨⟨hk.1.1,hk.2⟩,hk.1.2⟩)) hg hat)
            have n2_:=mK (Kd.R_after (ok:=(fun k_=>some k_ ≠ (.slice Ao35 t237.length co35 : Value).ownBlock∧some k_ ≠ (.slice Ao43 t249.length co43 : Value).ownBlock)) (by (with_reducible repeat (first|apply rA|apply rN|apply rD));exact Kd.R_mono HO245.out (fun _ hk=>⟨⟨hk.1.1,hk.2⟩,hk.1.2⟩)) hg hat)
            have n3_:=mK (Kd.R_after (ok:=(fun k_=>some k_ ≠ (.slice Ao35 t237.length co35 : Value).ownBlock∧some k_ ≠ (.slice Ao40 y243.length co40 : Value).ownBlock)) (by (with_reducible repeat (first|apply rA|apply rN|apply rD));exact Kd.R_mono HO251.out (fun _ hk=>⟨⟨hk.1.1.2,hk.1.2⟩,hk.2⟩)) hg hat)
            have n4_:=mK (hb)
            have n5_:=mK (ho)
            clear BK233
            clear HO239
            clear HO245
            clear HO251
            clear HB
            clear HO248
            have BK233:=n0_
            have HO239:=n1_
            have HO245:=n2_
            have HO251:=n3_
            have HB:=n4_
            have HO254:=n5_
            clear n0_ n1_ n2_ n3_ n4_ n5_
            clear ho hb hg hat
            refine hK.out _ _ ⟨(blk_cell BK233.out 0).trans rfl,(blk_cell BK233.out 1).trans rfl,(blk_cell BK233.out 2).trans rfl,(blk_cell BK233.out 3).trans rfl,(blk_cell BK233.out 4).trans rfl,(blk_cell BK233.out 5).trans rfl,(blk_cell BK233.out 6).trans rfl,(blk_cell BK233.out 7).trans rfl,(blk_cell BK233.out 8).trans rfl,(blk_cell BK233.out 9).trans rfl,(blk_cell BK233.out 10).trans rfl,(blk_cell BK233.out 11).trans rfl⟩ (fun hHeld=>?_)
            clear hK K
            refine norm_ (a':=?_) ?_ ?_
            rotate_left
            ·show Act.put _ (some 46) _ = _
             simp only [Act.put,sT,sZ,sS,i64_w,i32_w]
             rfl
            refine one_ (i:=9) (N:=some 49) #[τ,τ,τ,τ,τ,τ,τ,τ,τ,τ,φ,φ] rfl rfl (one_of HT_.out (by kernel_rfl)) (by decide) (fun K hK=>?_)
            refine goes_ Try.func22 (by kernel_rfl) rfl #[.int .u32 a0_3] (by rfl) rfl rfl (by (try simp only [List.map_toArray,List.map_cons,List.map_nil]);first|done|rfl|(simp only [List.length_drop,List.length_take];rfl)) ?_
            with_reducible refine (drawbridgeref20_four.calls kj1 a0_3 t255 _ A23.out).mono ?_
            rintro e w44 ⟨v256,rfl,ho0,hb⟩
            refine ⟨_,rfl,?_⟩
            have n0_:=mK (Kd.R_elder' (by (with_reducible repeat (first|apply rA|apply rN|apply rD));exact HO239.out) (Kd.R_base ho0) hb)
            have n1_:=mK (Kd.R_elder' (by (with_reducible repeat (first|apply rA|apply rN|apply rD));exact HO245.out) (Kd.R_base ho0) hb)
            have n2_:=mK (Kd.R_elder' (by (with_reducible repeat (first|apply rA|apply rN|apply rD));exact HO251.out) (Kd.R_base ho0) hb)
            have n3_:=mK (Kd.R_elder' (by (with_reducible repeat (first|apply rA|apply rN|apply rD));exact HO254.out) (Kd.R_base ho0) hb)
            have n4_:=mK (Kd.R_lower (Kd.R_new' (Kd.R_new' (Kd.R_new' (Kd.R_new' ho0 (Kd.R_lt (by (with_reducible repeat (first|apply rA|apply rN|apply rD));exact HO239.out))) (Kd.R_lt (by (with_reducible repeat (first|apply rA|apply rN|apply rD));exact HO245.out))) (Kd.R_lt (by (with_reducible repeat (first|apply rA|apply rN|apply rD));exact HO251.out))) (Kd.R_lt (by (with_reducible repeat (first|apply rA|apply rN|apply rD));exact HO254.out))) (below_size (by repeat (first|(with_reducible first|exact HB.out|apply lA|apply lN|apply lD|refine lS ?_ GE233.out)|exact HB.out))))
            have n5_:=mK (blk_below (g:=gb233) (o:=.cells #[.int .i64 a0_0,.int .u32 a0_1,.int .u32 a0_2,.int .u32 a0_3,.slice A0_4 l0_4.length c0_4,.int .i64 a0_5,.int .u32 a0_6,.int .u32 a0_7,.int .u32 a0_8,.int .u32 a0_9,.int .u32 a0_10,.int .u32 a0_11] 26 (0,0)) (by (with_reducible repeat (first|apply bN|apply bD|apply bA));exact BK233.out) hb)
            have n6_:=mK (below_step (by repeat (first|(with_reducible first|exact HB.out|apply lA|apply lN|apply lD|refine lS ?_ GE233.out)|exact HB.out)) hb)
            clear HO239
            clear HO245
            clear HO251
            clear HO254
            clear BK233
            clear HB
            have HO239:=n0_
            have HO245:=n1_
            have HO251:=n2_
            have HO254:=n3_
            have HO257:=n4_
            have BK233:=n5_
            have HB:=n6_
            clear n0_ n1_ n2_ n3_ n4_ n5_ n6_
            (try clear hb)
            (try clear hb2)
            (try clear hk)
            (try clear hi)
            (try clear ho0)
            obtain ⟨Ao46,co46,eo46⟩:=Kd.R_slice HO257.out
            (first|subst eo46|(injection eo46 with f1_ f2_ f3_;have f4_:=f1_.symm;have f5_:=f3_.symm;clear f1_ f2_ f3_;subst f4_;subst f5_))
            refine hK.out _ _ ⟨(blk_cell BK233.out 0).trans rfl,(blk_cell BK233.out 1).trans rfl,(blk_cell BK233.out 2).trans rfl,(blk_cell BK233.out 3).trans rfl,(blk_cell BK233.out 4).trans rfl,(blk_cell BK233.out 5).trans rfl,(blk_cell BK233.out 6).trans rfl,(blk_cell BK233.out 7).trans rfl,(blk_cell BK233.out 8).trans rfl,(blk_cell BK233.out 9).trans rfl,(blk_cell BK233.out 10).trans rfl,(blk_cell BK233.out 11).trans rfl⟩ (fun hHeld=>?_)
            clear hK K
            refine norm_ (a':=?_) ?_ ?_
            rotate_left
            ·show Act.put _ (some 49) _ = _
             simp only [Act.put,sT,sZ,sS,i64_w,i32_w]
             rfl
            refine one_ (i:=10) (N:=some 50) #[τ,τ,τ,τ,τ,τ,τ,τ,τ,τ,τ,φ] rfl rfl (one_of HT_.out (by kernel_rfl)) (by decide) (fun K hK=>?_)
            refine Kd.R_append_rows_step (Kd.int .u8) (w0:=w) w.heap.size (by rfl) (.tmp 46) (.tmp 49) 22 5 (.int .u8 0) 1 rfl Try.underlying22 info5 rfl (by decide) (by omega) v253 y252 t255 _ _ _ (fun k_=>some k_ ≠ (.slice Ao35 t237.length co35 : Value).ownBlock∧some k_ ≠ (.slice Ao40 y243.length co40 : Value).ownBlock∧some k_ ≠ (.slice Ao43 t249.length co43 : Value).ownBlock∧some k_ ≠ (.slice Ao46 t255.length co46 : Value).ownBlock) (fun _=>False) rfl rfl ?aO ?aR (fun _ _ h=>h) (fun _ h=>h.elim) ?aF ?aB ?aS ?aL ?_
            (case aR=>repeat (first|exact (Kd.R_reads' HO257.out).2.2|(with_reducible refine Kd.C_alloc ?_ _)|(with_reducible refine Kd.C_drewN ?_ _)|(with_reducible refine Kd.C_drew ?_)))
            (case aB=>exact (by repeat (first|(with_reducible first|exact HB.out|apply lA|apply lN|apply lD|refine lS ?_ GE233.out)|exact HB.out)))
            (case aF=>exact (fun k_ hk=>⟨Kd.fresh' (Kd.R_lt (by (with_reducible repeat (first|apply rA|apply rN|apply rD));exact HO239.out)) k_ hk,Kd.fresh' (Kd.R_lt (by (with_reducible repeat (first|apply rA|apply rN|apply rD));exact HO245.out)) k_ hk,Kd.fresh' (Kd.R_lt (by (with_reducible repeat (first|apply rA|apply rN|apply rD));exact HO251.out)) k_ hk,Kd.fresh' (Kd.R_lt (by (with_reducible repeat (first|apply rA|apply rN|apply rD));exact HO257.out)) k_ hk⟩))
            (case aO=>exact (by (with_reducible repeat (first|apply rA|apply rN|apply rD));exact Kd.R_mono HO254.out (fun _ hk=>⟨hk.1.1,⟨hk.1.2.1,⟨hk.1.2.2,hk.2⟩⟩⟩)))
            (case aS=>exact (below_size (by repeat (first|(with_reducible first|exact HB.out|apply lA|apply lN|apply lD|refine lS ?_ GE233.out)|exact HB.out))))
            (case aL=>have:=LMc24.out;omega)
            intro v259 w45 ho hb hg hat
            first|rw [← Ny258.out] at ho|(simp only [Int.reduceToNat] at ho;rw [← Ny258.out] at ho)
            have n0_:=mK (blk_grown (g:=gb233) (o:=.cells #[.int .i64 a0_0,.int .u32 a0_1,.int .u32 a0_2,.int .u32 a0_3,.slice A0_4 l0_4.length c0_4,.int .i64 a0_5,.int .u32 a0_6,.int .u32 a0_7,.int .u32 a0_8,.int .u32 a0_9,.int .u32 a0_10,.int .u32 a0_11] 26 (0,0)) (by (with_reducible repeat (first|apply bN|apply bD|apply bA));exact BK233.out) hg (Kd.R_ne HO254.out BK233.out (by decide)))
            have n1_:=mK (Kd.R_after (ok:=(fun k_=>some k_ ≠ (.slice Ao40 y243.length co40 : Value).ownBlock∧some k_ ≠ (.slice Ao43 t249.length co43 : Value).ownBlock∧some k_ ≠ (.slice Ao46 t255.length co46 : Value).ownBlock)) (by (with_reducible repeat (first|apply rA|apply rN|apply rD));exact Kd.R_mono HO239.out (fun _ hk=>⟨⟨hk.1.1.1,⟨hk.1.1.2,hk.2⟩⟩,hk.1.2⟩)) hg hat)
            have n2_:=mK (Kd.R_after (ok:=(fun k_=>some k_ ≠ (.slice Ao35 t237.length co35 : Value).ownBlock∧some k_ ≠ (.slice Ao43 t249.length co43 : Value).ownBlock∧some k_ ≠ (.slice Ao46 t255.length co46 : Value).ownBlock)) (by (with_reducible repeat (first|apply rA|apply rN|apply rD));exact Kd.R_mono HO245.out (fun _ hk=>⟨⟨hk.1.1.1,⟨hk.1.1.2,hk.2⟩⟩,hk.1.2⟩)) hg hat)
            have n3_:=mK (Kd.R_after (ok:=(fun k_=>some k_ ≠ (.slice Ao35 t237.length co35 : Value).ownBlock∧some k_ ≠ (.slice Ao40 y243.length co40 : Value).ownBlock∧some k_ ≠ (.slice Ao46 t255.length co46 : Value).ownBlock)) (by (with_reducible repeat (first|apply rA|apply rN|apply rD));exact Kd.R_mono HO251.out (fun _ hk=>⟨⟨hk.1.1.1,⟨hk.1.1.2,hk.2⟩⟩,hk.1.2⟩)) hg hat)
            have n4_:=mK (Kd.R_after (ok:=(fun k_=>some k_ ≠ (.slice Ao35 t237.length co35 : Value).ownBlock∧some k_ ≠ (.slice Ao40 y243.length co40 : Value).ownBlock∧some k_ ≠ (.slice Ao43 t249.length co43 : Value).ownBlock)) (by (with_reducible repeat (first|apply rA|apply rN|apply rD));exact Kd.R_mono HO257.out (fun _ hk=>⟨⟨hk.1.1.1.2,⟨hk.1.1.2,hk.1.2⟩⟩,hk.2⟩)) hg hat)
            have n5_:=mK (hb)
            have n6_:=mK (ho)
            clear BK233
            clear HO239
            clear HO245
            clear HO251
            clear HO257
            clear HB
            clear HO254
            have BK233:=n0_
            have HO239:=n1_
            have HO245:=n2_
            have HO251:=n3_
            have HO257:=n4_
            have HB:=n5_
            have HO260:=n6_
            clear n0_ n1_ n2_ n3_ n4_ n5_ n6_
            clear ho hb hg hat
            refine hK.out _ _ ⟨(blk_cell BK233.out 0).trans rfl,(blk_cell BK233.out 1).trans rfl,(blk_cell BK233.out 2).trans rfl,(blk_cell BK233.out 3).trans rfl,(blk_cell BK233.out 4).trans rfl,(blk_cell BK233.out 5).trans rfl,(blk_cell BK233.out 6).trans rfl,(blk_cell BK233.out 7).trans rfl,(blk_cell BK233.out 8).trans rfl,(blk_cell BK233.out 9).trans rfl,(blk_cell BK233.out 10).trans rfl,(blk_cell BK233.out 11).trans rfl⟩ (fun hHeld=>?_)
            clear hK K
            refine norm_ (a':=?_) ?_ ?_
            rotate_left
            ·show Act.put _ (some 50) _ = _
             simp only [Act.put,sT,sZ,sS,i64_w,i32_w]
             rfl
            refine pure_ (i:=11) (N:=some 4) (v:=?_) (a':=?_) #[τ,τ,τ,τ,τ,τ,τ,τ,τ,τ,τ,τ] rfl rfl (any_of HT_.out (by kernel_rfl)) (fun _ _ _ h=>h) (Or.inl ⟨by rfl,?_⟩) ?_ ?_
            rotate_left
            ·intro w'
             go_simp
             with_reducible rfl
            rotate_left
            ·simp only [Act.put,sT,sZ,sS,i64_w,i32_w]
             rfl
            refine done_ (done_of HT_.out (by kernel_rfl)) ?_
            try go_wp2
            have n0_:=mK (Kd.R_drew HO239.out)
            have n1_:=mK (Kd.R_drew HO245.out)
            have n2_:=mK (Kd.R_drew HO251.out)
            have n3_:=mK (Kd.R_drew HO257.out)
            have n4_:=mK (Kd.R_drew HO260.out)
            have n5_:=mK (blk_drew BK233.out)
            have n6_:=mK (below_drew1 HB.out)
            clear HO239
            clear HO245
            clear HO251
            clear HO257
            clear HO260
            clear BK233
            clear HB
            have HO239:=n0_
            have HO245:=n1_
            have HO251:=n2_
            have HO257:=n3_
            have HO260:=n4_
            have BK233:=n5_
            have HB:=n6_
            clear n0_ n1_ n2_ n3_ n4_ n5_ n6_
            refine start_ (n:=6) (S:= fun w'=>w'.cell? ⟨gb233,0,none⟩ = some (.int .i64 a0_0)∧w'.cell? ⟨gb233,1,none⟩ = some (.int .u32 a0_1)∧w'.cell? ⟨gb233,2,none⟩ = some (.int .u32 a0_2)∧w'.cell? ⟨gb233,3,none⟩ = some (.int .u32 a0_3)∧w'.cell? ⟨gb233,4,none⟩ = some (.slice A0_4 l0_4.length c0_4)∧w'.cell? ⟨gb233,5,none⟩ = some (.int .i64 a0_5)∧w'.cell? ⟨gb233,6,none⟩ = some (.int .u32 a0_6)∧w'.cell? ⟨gb233,7,none⟩ = some (.int .u32 a0_7)∧w'.cell? ⟨gb233,8,none⟩ = some (.int .u32 a0_8)∧w'.cell? ⟨gb233,9,none⟩ = some (.int .u32 a0_9)∧w'.cell? ⟨gb233,10,none⟩ = some (.int .u32 a0_10)∧w'.cell? ⟨gb233,11,none⟩ = some (.int .u32 a0_11)) (ds:=[]) #[φ,φ,φ,φ,φ,φ] (by kernel_rfl) rfl rfl ⟨(blk_cell BK233.out 0).trans rfl,(blk_cell BK233.out 1).trans rfl,(blk_cell BK233.out 2).trans rfl,(blk_cell BK233.out 3).trans rfl,(blk_cell BK233.out 4).trans rfl,(blk_cell BK233.out 5).trans rfl,(blk_cell BK233.out 6).trans rfl,(blk_cell BK233.out 7).trans rfl,(blk_cell BK233.out 8).trans rfl,(blk_cell BK233.out 9).trans rfl,(blk_cell BK233.out 10).trans rfl,(blk_cell BK233.out 11).trans rfl⟩ (fun hHeld=>?_)
            generalize w45.drew = w47 at HO239 HO245 HO251 HO257 HO260 BK233 HB hHeld ⊢
            refine pure_ (i:=0) (N:=some 51) (v:=?_) (a':=?_) #[τ,φ,φ,φ,φ,φ] rfl rfl (by kernel_rfl) (fun _ _ _ h=>h) (Or.inl ⟨by rfl,?_⟩) ?_ ?_
            rotate_left
            ·intro w'
             go_simp
             with_reducible rfl
            rotate_left
            ·simp only [Act.put,sT,sZ,sS,i64_w,i32_w]
             rfl
            refine pure_ (i:=2) (N:=some 53) (v:=?_) (a':=?_) #[τ,φ,τ,φ,φ,φ] rfl rfl (by kernel_rfl) (fun _ _ _ h=>h) (Or.inl ⟨by rfl,?_⟩) ?_ ?_
            rotate_left
            ·intro w'
             go_simp
             with_reducible rfl
            rotate_left
            ·simp only [Act.put,sT,sZ,sS,i64_w,i32_w]
             rfl
            refine take_ (i:=3) (N:=some 54) (v:=?_) (a':=?_) #[τ,φ,τ,τ,φ,φ] rfl rfl (by kernel_rfl) (fun _ _ _ h=>h) (Or.inl ⟨by rfl,?_⟩) hHeld ?_ ?_
            rotate_left
            ·rintro w' ⟨s0,s1,s2,s3,s4,s5,s6,s7,s8,s9,s10,s11⟩
             go_simp
             with_reducible rfl
            rotate_left
            ·simp only [Act.put,sT,sZ,sS,i64_w,i32_w]
             rfl
            refine one_ (i:=1) (N:=some 52) #[τ,τ,τ,τ,φ,φ] rfl rfl (by kernel_rfl) (by decide) (fun K hK=>?_)
            refine Kd.R_append_zeros_step (Kd.int .u8) (w0:=w) w.heap.size (by rfl) (.tmp 51) (.const (.int .i64 8)) 22 3 5 (.int .u8 0) 1 rfl Try.underlying22 Try.underlying3 info5 rfl (by decide) (by omega) v259 y258 0 (8 : Int) (fun k_=>some k_ ≠ (.slice Ao35 t237.length co35 : Value).ownBlock∧some k_ ≠ (.slice Ao40 y243.length co40 : Value).ownBlock∧some k_ ≠ (.slice Ao43 t249.length co43 : Value).ownBlock∧some k_ ≠ (.slice Ao46 t255.length co46 : Value).ownBlock) rfl rfl rfl ?aF ?aO (by omega) ?aB ?aS ?aL ?_
            (case aB=>exact (by repeat (first|(with_reducible first|exact HB.out|apply lA|apply lN|apply lD|refine lS ?_ GE233.out)|exact HB.out)))
            (case aF=>exact (fun k_ hk=>⟨Kd.fresh' (Kd.R_lt (by (with_reducible repeat (first|apply rA|apply rN|apply rD));exact HO239.out)) k_ hk,Kd.fresh' (Kd.R_lt (by (with_reducible repeat (first|apply rA|apply rN|apply rD));exact HO245.out)) k_ hk,Kd.fresh' (Kd.R_lt (by (with_reducible repeat (first|apply rA|apply rN|apply rD));exact HO251.out)) k_ hk,Kd.fresh' (Kd.R_lt (by (with_reducible repeat (first|apply rA|apply rN|apply rD));exact HO257.out)) k_ hk⟩))
            (case aO=>exact (by (with_reducible repeat (first|apply rA|apply rN|apply rD));exact HO260.out))
            (case aS=>exact (below_size (by repeat (first|(with_reducible first|exact HB.out|apply lA|apply lN|apply lD|refine lS ?_ GE233.out)|exact HB.out))))
            (case aL=>have:=LMc25.out;omega)
            intro v262 w48 ho hb hg hat
            first|rw [← Ny261.out] at ho|(simp only [Int.reduceToNat] at ho;rw [← Ny261.out] at ho)
            have n0_:=mK (blk_grown (g:=gb233) (o:=.cells #[.int .i64 a0_0,.int .u32 a0_1,.int .u32 a0_2,.int .u32 a0_3,.slice A0_4 l0_4.length c0_4,.int .i64 a0_5,.int .u32 a0_6,.int .u32 a0_7,.int .u32 a0_8,.int .u32 a0_9,.int .u32 a0_10,.int .u32 a0_11] 26 (0,0)) (by (with_reducible repeat (first|apply bN|apply bD|apply bA));exact BK233.out) hg (Kd.R_ne HO260.out BK233.out (by decide)))
            have n1_:=mK (Kd.R_after (ok:=(fun k_=>some k_ ≠ (.slice Ao40 y243.length co40 : Value).ownBlock∧some k_ ≠ (.slice Ao43 t249.length co43 : Value).ownBlock∧some k_ ≠ (.slice Ao46 t255.length co46 : Value).ownBlock)) (by (with_reducible repeat (first|apply rA|apply rN|apply rD));exact HO239.out) hg hat)
            have n2_:=mK (Kd.R_after (ok:=(fun k_=>some k_ ≠ (.slice Ao35 t237.length co35 : Value).ownBlock∧some k_ ≠ (.slice Ao43 t249.length co43 : Value).ownBlock∧some k_ ≠ (.slice Ao46 t255.length co46 : Value).ownBlock)) (by (with_reducible repeat (first|apply rA|apply rN|apply rD));exact HO245.out) hg hat)
            have n3_:=mK (Kd.R_after (ok:=(fun k_=>some k_ ≠ (.slice Ao35 t237.length co35 : Value).ownBlock∧some k_ ≠ (.slice Ao40 y243.length co40 : Value).ownBlock∧some k_ ≠ (.slice Ao46 t255.length co46 : Value).ownBlock)) (by (with_reducible repeat (first|apply rA|apply rN|apply rD));exact HO251.out) hg hat)
            have n4_:=mK (Kd.R_after (ok:=(fun k_=>some k_ ≠ (.slice Ao35 t237.length co35 : Value).ownBlock∧some k_ ≠ (.slice Ao40 y243.length co40 : Value).ownBlock∧some k_ ≠ (.slice Ao43 t249.length co43 : Value).ownBlock)) (by (with_reducible repeat (first|apply rA|apply rN|apply rD));exact HO257.out) hg hat)
            have n5_:=mK (hb)
            have n6_:=mK (ho)
            clear BK233
            clear HO239
            clear HO245
            clear HO251
            clear HO257
            clear HB
            clear HO260
            have BK233:=n0_
            have HO239:=n1_
            have HO245:=n2_
            have HO251:=n3_
            have HO257:=n4_
            have HB:=n5_
            have HO263:=n6_
            clear n0_ n1_ n2_ n3_ n4_ n5_ n6_
            clear ho hb hg hat
            refine hK.out _ _ ⟨(blk_cell BK233.out 0).trans rfl,(blk_cell BK233.out 1).trans rfl,(blk_cell BK233.out 2).trans rfl,(blk_cell BK233.out 3).trans rfl,(blk_cell BK233.out 4).trans rfl,(blk_cell BK233.out 5).trans rfl,(blk_cell BK233.out 6).trans rfl,(blk_cell BK233.out 7).trans rfl,(blk_cell BK233.out 8).trans rfl,(blk_cell BK233.out 9).trans rfl,(blk_cell BK233.out 10).trans rfl,(blk_cell BK233.out 11).trans rfl⟩ (fun hHeld=>?_)
            clear hK K
            refine norm_ (a':=?_) ?_ ?_
            rotate_left
            ·show Act.put _ (some 52) _ = _
             simp only [Act.put,sT,sZ,sS,i64_w,i32_w]
             rfl
            refine one_ (i:=4) (N:=some 55) #[τ,τ,τ,τ,τ,φ] rfl rfl (by kernel_rfl) (by decide) (fun K hK=>?_)
            refine Kd.R_append_rows_step (Kd.int .u8) (w0:=w) w.heap.size (by rfl) (.tmp 52) (.tmp 54) 22 5 (.int .u8 0) 1 rfl Try.underlying22 info5 rfl (by decide) (by omega) v262 y261 l0_4 _ _ _ (fun k_=>some k_ ≠ (.slice Ao35 t237.length co35 : Value).ownBlock∧some k_ ≠ (.slice Ao40 y243.length co40 : Value).ownBlock∧some k_ ≠ (.slice Ao43 t249.length co43 : Value).ownBlock∧some k_ ≠ (.slice Ao46 t255.length co46 : Value).ownBlock) (fun _=>False) rfl rfl ?aO ?aR (fun _ _ h=>h) (fun _ h=>h.elim) ?aF ?aB ?aS ?aL ?_
            (case aR=>repeat (first|exact (Kd.C_below HR0_4.out HB.out)|(with_reducible refine Kd.C_alloc ?_ _)|(with_reducible refine Kd.C_drewN ?_ _)|(with_reducible refine Kd.C_drew ?_)))
            (case aB=>exact (by repeat (first|(with_reducible first|exact HB.out|apply lA|apply lN|apply lD|refine lS ?_ GE233.out)|exact HB.out)))
            (case aF=>exact (fun k_ hk=>⟨Kd.fresh' (Kd.R_lt (by (with_reducible repeat (first|apply rA|apply rN|apply rD));exact HO239.out)) k_ hk,Kd.fresh' (Kd.R_lt (by (with_reducible repeat (first|apply rA|apply rN|apply rD));exact HO245.out)) k_ hk,Kd.fresh' (Kd.R_lt (by (with_reducible repeat (first|apply rA|apply rN|apply rD));exact HO251.out)) k_ hk,Kd.fresh' (Kd.R_lt (by (with_reducible repeat (first|apply rA|apply rN|apply rD));exact HO257.out)) k_ hk⟩))
            (case aO=>exact (by (with_reducible repeat (first|apply rA|apply rN|apply rD));exact HO263.out))
            (case aS=>exact (below_size (by repeat (first|(with_reducible first|exact HB.out|apply lA|apply lN|apply lD|refine lS ?_ GE233.out)|exact HB.out))))
            (case aL=>have:=LMc26.out;omega)
            intro v265 w49 ho hb hg hat
            first|rw [← Ny264.out] at ho|(simp only [Int.reduceToNat] at ho;rw [← Ny264.out] at ho)
            have n0_:=mK (blk_grown (g:=gb233) (o:=.cells #[.int .i64 a0_0,.int .u32 a0_1,.int .u32 a0_2,.int .u32 a0_3,.slice A0_4 l0_4.length c0_4,.int .i64 a0_5,.int .u32 a0_6,.int .u32 a0_7,.int .u32 a0_8,.int .u32 a0_9,.int .u32 a0_10,.int .u32 a0_11] 26 (0,0)) (by (with_reducible repeat (first|apply bN|apply bD|apply bA));exact BK233.out) hg (Kd.R_ne HO263.out BK233.out (by decide)))
            have n1_:=mK (Kd.R_after (ok:=(fun k_=>some k_ ≠ (.slice Ao40 y243.length co40 : Value).ownBlock∧some k_ ≠ (.slice Ao43 t249.length co43 : Value).ownBlock∧some k_ ≠ (.slice Ao46 t255.length co46 : Value).ownBlock)) (by (with_reducible repeat (first|apply rA|apply rN|apply rD));exact HO239.out) hg hat)
            have n2_:=mK (Kd.R_after (ok:=(fun k_=>some k_ ≠ (.slice Ao35 t237.length co35 : Value).ownBlock∧some k_ ≠ (.slice Ao43 t249.length co43 : Value).ownBlock∧some k_ ≠ (.slice Ao46 t255.length co46 : Value).ownBlock)) (by (with_reducible repeat (first|apply rA|apply rN|apply rD));exact HO245.out) hg hat)
            have n3_:=mK (Kd.R_after (ok:=(fun k_=>some k_ ≠ (.slice Ao35 t237.length co35 : Value).ownBlock∧some k_ ≠ (.slice Ao40 y243.length co40 : Value).ownBlock∧some k_ ≠ (.slice Ao46 t255.length co46 : Value).ownBlock)) (by (with_reducible repeat (first|apply rA|apply rN|apply rD));exact HO251.out) hg hat)
            have n4_:=mK (Kd.R_after (ok:=(fun k_=>some k_ ≠ (.slice Ao35 t237.length co35 : Value).ownBlock∧some k_ ≠ (.slice Ao40 y243.length co40 : Value).ownBlock∧some k_ ≠ (.slice Ao43 t249.length co43 : Value).ownBlock)) (by (with_reducible repeat (first|apply rA|apply rN|apply rD));exact HO257.out) hg hat)
            have n5_:=mK (hb)
            have n6_:=mK (ho)
            clear BK233
            clear HO239
            clear HO245
            clear HO251
            clear HO257
            clear HB
            clear HO263
            have BK233:=n0_
            have HO239:=n1_
            have HO245:=n2_
            have HO251:=n3_
            have HO257:=n4_
            have HB:=n5_
            have HO266:=n6_
            clear n0_ n1_ n2_ n3_ n4_ n5_ n6_
            clear ho hb hg hat
            refine hK.out _ _ ⟨(blk_cell BK233.out 0).trans rfl,(blk_cell BK233.out 1).trans rfl,(blk_cell BK233.out 2).trans rfl,(blk_cell BK233.out 3).trans rfl,(blk_cell BK233.out 4).trans rfl,(blk_cell BK233.out 5).trans rfl,(blk_cell BK233.out 6).trans rfl,(blk_cell BK233.out 7).trans rfl,(blk_cell BK233.out 8).trans rfl,(blk_cell BK233.out 9).trans rfl,(blk_cell BK233.out 10).trans rfl,(blk_cell BK233.out 11).trans rfl⟩ (fun hHeld=>?_)
            clear hK K
            refine norm_ (a':=?_) ?_ ?_
            rotate_left
            ·show Act.put _ (some 55) _ = _
             simp only [Act.put,sT,sZ,sS,i64_w,i32_w]
             rfl
            refine pure_ (i:=5) (N:=some 4) (v:=?_) (a':=?_) #[τ,τ,τ,τ,τ,τ] rfl rfl (by kernel_rfl) (fun _ _ _ h=>h) (Or.inl ⟨by rfl,?_⟩) ?_ ?_
            rotate_left
            ·intro w'
             go_simp
             with_reducible rfl
            rotate_left
            ·simp only [Act.put,sT,sZ,sS,i64_w,i32_w]
             rfl
            refine done_ (by kernel_rfl) ?_
            obtain ⟨Ao50,co50,eo50⟩:=Kd.R_slice HO266.out
            subst eo50
            try go_wp2
            have n0_:=mK (Kd.R_drew HO239.out)
            have n1_:=mK (Kd.R_drew HO245.out)
            have n2_:=mK (Kd.R_drew HO251.out)
            have n3_:=mK (Kd.R_drew HO257.out)
            have n4_:=mK (Kd.R_drew HO266.out)
            have n5_:=mK (blk_drew BK233.out)
            have n6_:=mK (below_drew1 HB.out)
            clear HO239
            clear HO245
            clear HO251
            clear HO257
            clear HO266
            clear BK233
            clear HB
            have HO239:=n0_
            have HO245:=n1_
            have HO251:=n2_
            have HO257:=n3_
            have HO266:=n4_
            have BK233:=n5_
            have HB:=n6_
            clear n0_ n1_ n2_ n3_ n4_ n5_ n6_
            refine start_ (n:=8) (S:= fun w'=>w'.cell? ⟨gb233,0,none⟩ = some (.int .i64 a0_0)∧w'.cell? ⟨gb233,1,none⟩ = some (.int .u32 a0_1)∧w'.cell? ⟨gb233,2,none⟩ = some (.int .u32 a0_2)∧w'.cell? ⟨gb233,3,none⟩ = some (.int .u32 a0_3)∧w'.cell? ⟨gb233,4,none⟩ = some (.slice A0_4 l0_4.length c0_4)∧w'.cell? ⟨gb233,5,none⟩ = some (.int .i64 a0_5)∧w'.cell? ⟨gb233,6,none⟩ = some (.int .u32 a0_6)∧w'.cell? ⟨gb233,7,none⟩ = some (.int .u32 a0_7)∧w'.cell? ⟨gb233,8,none⟩ = some (.int .u32 a0_8)∧w'.cell? ⟨gb233,9,none⟩ = some (.int .u32 a0_9)∧w'.cell? ⟨gb233,10,none⟩ = some (.int .u32 a0_10)∧w'.cell? ⟨gb233,11,none⟩ = some (.int .u32 a0_11)) (ds:=[]) #[φ,φ,φ,φ,φ,φ,φ,φ] (by kernel_rfl) rfl rfl ⟨(blk_cell BK233.out 0).trans rfl,(blk_cell BK233.out 1).trans rfl,(blk_cell BK233.out 2).trans rfl,(blk_cell BK233.out 3).trans rfl,(blk_cell BK233.out 4).trans rfl,(blk_cell BK233.out 5).trans rfl,(blk_cell BK233.out 6).trans rfl,(blk_cell BK233.out 7).trans rfl,(blk_cell BK233.out 8).trans rfl,(blk_cell BK233.out 9).trans rfl,(blk_cell BK233.out 10).trans rfl,(blk_cell BK233.out 11).trans rfl⟩ (fun hHeld=>?_);refine with_tabW drawbridgeref20_Put.tab6 drawbridgeref20_Put.bits6 (fun HT_ HW_=>?_)
            generalize w49.drew = w51 at HO239 HO245 HO251 HO257 HO266 BK233 HB hHeld ⊢
            refine pure_ (i:=0) (N:=some 56) (v:=?_) (a':=?_) #[τ,φ,φ,φ,φ,φ,φ,φ] rfl rfl (any_of HT_.out (by kernel_rfl)) (fun _ _ _ h=>h) (Or.inl ⟨by rfl,?_⟩) ?_ ?_
            rotate_left
            ·intro w'
             go_simp
             with_reducible rfl
            rotate_left
            ·simp only [Act.put,sT,sZ,sS,i64_w,i32_w]
             rfl
            refine pure_ (i:=2) (N:=some 58) (v:=?_) (a':=?_) #[τ,φ,τ,φ,φ,φ,φ,φ] rfl rfl (any_of HT_.out (by kernel_rfl)) (fun _ _ _ h=>h) (Or.inl ⟨by rfl,?_⟩) ?_ ?_
            rotate_left
            ·intro w'
             go_simp
             with_reducible rfl
            rotate_left
            ·simp only [Act.put,sT,sZ,sS,i64_w,i32_w]
             rfl
            refine take_ (i:=3) (N:=some 59) (v:=?_) (a':=?_) #[τ,φ,τ,τ,φ,φ,φ,φ] rfl rfl (take_ofW HT_.out HW_.out (by kernel_rfl)) (fun _ _ _ h=>h) (Or.inl ⟨by rfl,?_⟩) hHeld ?_ ?_
            rotate_left
            ·rintro w' ⟨s0,s1,s2,s3,s4,s5,s6,s7,s8,s9,s10,s11⟩
             go_simp
             with_reducible rfl
            rotate_left
            ·simp only [Act.put,sT,sZ,sS,i64_w,i32_w]
             rfl
            refine pure_ (i:=4) (N:=some 60) (v:=?_) (a':=?_) #[τ,φ,τ,τ,τ,φ,φ,φ] rfl rfl (any_of HT_.out (by kernel_rfl)) (fun _ _ _ h=>h) (Or.inl ⟨by rfl,?_⟩) ?_ ?_
            rotate_left
            ·intro w'
             go_simp
             with_reducible rfl
            rotate_left
            ·simp only [Act.put,sT,sZ,sS,i64_w,i32_w]
             rfl
            refine join_ (σ:=Value × Value) 2 #[τ,τ,τ,τ,τ,τ,φ,φ] (fun s_=>[(57,s_.1),(61,s_.2)]) (fun s_ w'=>(w'.cell? ⟨gb233,0,none⟩ = some (.int .i64 a0_0)∧w'.cell? ⟨gb233,1,none⟩ = some (.int .u32 a0_1)∧w'.cell? ⟨gb233,2,none⟩ = some (.int .u32 a0_2)∧w'.cell? ⟨gb233,3,none⟩ = some (.int .u32 a0_3)∧w'.cell? ⟨gb233,4,none⟩ = some (.slice A0_4 l0_4.length c0_4)∧w'.cell? ⟨gb233,5,none⟩ = some (.int .i64 a0_5)∧w'.cell? ⟨gb233,6,none⟩ = some (.int .u32 a0_6)∧w'.cell? ⟨gb233,7,none⟩ = some (.int .u32 a0_7)∧w'.cell? ⟨gb233,8,none⟩ = some (.int .u32 a0_8)∧w'.cell? ⟨gb233,9,none⟩ = some (.int .u32 a0_9)∧w'.cell? ⟨gb233,10,none⟩ = some (.int .u32 a0_10)∧w'.cell? ⟨gb233,11,none⟩ = some (.int .u32 a0_11))∧(Kd.R (Kd.int .u8) 5 w' w.heap.size (fun k_=>some k_ ≠ (.slice Ao40 y243.length co40 : Value).ownBlock∧some k_ ≠ (.slice Ao43 t249.length co43 : Value).ownBlock∧some k_ ≠ (.slice Ao46 t255.length co46 : Value).ownBlock∧some k_ ≠ (s_.1 : Value).ownBlock∧some k_ ≠ (s_.2 : Value).ownBlock) (.slice Ao35 t237.length co35) t237)∧(Kd.R (Kd.int .u8) 5 w' w.heap.size (fun k_=>some k_ ≠ (.slice Ao35 t237.length co35 : Value).ownBlock∧some k_ ≠ (.slice Ao43 t249.length co43 : Value).ownBlock∧some k_ ≠ (.slice Ao46 t255.length co46 : Value).ownBlock∧some k_ ≠ (s_.1 : Value).ownBlock∧some k_ ≠ (s_.2 : Value).ownBlock) (.slice Ao40 y243.length co40) y243)∧(Kd.R (Kd.int .u8) 5 w' w.heap.size (fun k_=>some k_ ≠ (.slice Ao35 t237.length co35 : Value).ownBlock∧some k_ ≠ (.slice Ao40 y243.length co40 : Value).ownBlock∧some k_ ≠ (.slice Ao46 t255.length co46 : Value).ownBlock∧some k_ ≠ (s_.1 : Value).ownBlock∧some k_ ≠ (s_.2 : Value).ownBlock) (.slice Ao43 t249.length co43) t249)∧(Kd.R (Kd.int .u8) 5 w' w.heap.size (fun k_=>some k_ ≠ (.slice Ao35 t237.length co35 : Value).ownBlock∧some k_ ≠ (.slice Ao40 y243.length co40 : Value).ownBlock∧some k_ ≠ (.slice Ao43 t249.length co43 : Value).ownBlock∧some k_ ≠ (s_.1 : Value).ownBlock∧some k_ ≠ (s_.2 : Value).ownBlock) (.slice Ao46 t255.length co46) t255)∧(Kd.R (Kd.int .u8) 5 w' w.heap.size (fun k_=>some k_ ≠ (.slice Ao35 t237.length co35 : Value).ownBlock∧some k_ ≠ (.slice Ao40 y243.length co40 : Value).ownBlock∧some k_ ≠ (.slice Ao43 t249.length co43 : Value).ownBlock∧some k_ ≠ (.slice Ao46 t255.length co46 : Value).ownBlock∧some k_ ≠ (s_.2 : Value).ownBlock) s_.1 y267)∧(Kd.R (Kd.int .u8) 5 w' w.heap.size (fun k_=>some k_ ≠ (.slice Ao35 t237.length co35 : Value).ownBlock∧some k_ ≠ (.slice Ao40 y243.length co40 : Value).ownBlock∧some k_ ≠ (.slice Ao43 t249.length co43 : Value).ownBlock∧some k_ ≠ (.slice Ao46 t255.length co46 : Value).ownBlock∧some k_ ≠ (s_.1 : Value).ownBlock) s_.2 y270)∧(w'.heap[gb233]? = some (.cells #[.int .i64 a0_0,.int .u32 a0_1,.int .u32 a0_2,.int .u32 a0_3,.slice A0_4 l0_4.length c0_4,.int .i64 a0_5,.int .u32 a0_6,.int .u32 a0_7,.int .u32 a0_8,.int .u32 a0_9,.int .u32 a0_10,.int .u32 a0_11] 26 (0,0)))∧(Below w.heap.size w w')) ?_ ?_
            rotate_left
            ·intro hCont
             refine two_ (i:=1) (j:=5) (Ni:=some 57) (Nj:=some 61) #[τ,τ,τ,τ,τ,φ,φ,φ] #[τ,φ,τ,τ,τ,τ,φ,φ] rfl rfl rfl rfl (two_of HT_.out (by kernel_rfl)) (by decide) (by decide) (fun K hK=>?_) (fun K hK=>?_)
             ·skip
              refine Kd.R_append_zeros_step (Kd.int .u8) (w0:=w) w.heap.size (by rfl) (.tmp 56) (.const (.int .i64 202)) 22 3 5 (.int .u8 0) 1 rfl Try.underlying22 Try.underlying3 info5 rfl (by decide) (by omega) (.slice Ao50 y264.length co50) y264 0 (202 : Int) (fun k_=>some k_ ≠ (.slice Ao35 t237.length co35 : Value).ownBlock∧some k_ ≠ (.slice Ao40 y243.length co40 : Value).ownBlock∧some k_ ≠ (.slice Ao43 t249.length co43 : Value).ownBlock∧some k_ ≠ (.slice Ao46 t255.length co46 : Value).ownBlock) rfl rfl rfl ?aF ?aO (by omega) ?aB ?aS ?aL ?_
              (case aB=>exact (by repeat (first|(with_reducible first|exact HB.out|apply lA|apply lN|apply lD|refine lS ?_ GE233.out)|exact HB.out)))
              (case aF=>exact (fun k_ hk=>⟨Kd.fresh' (Kd.R_lt (by (with_reducible repeat (first|apply rA|apply rN|apply rD));exact HO239.out)) k_ hk,Kd.fresh' (Kd.R_lt (by (with_reducible repeat (first|apply rA|apply rN|apply rD));exact HO245.out)) k_ hk,Kd.fresh' (Kd.R_lt (by (with_reducible repeat (first|apply rA|apply rN|apply rD));exact HO251.out)) k_ hk,Kd.fresh' (Kd.R_lt (by (with_reducible repeat (first|apply rA|apply rN|apply rD));exact HO257.out)) k_ hk⟩))
              (case aO=>exact (by (with_reducible repeat (first|apply rA|apply rN|apply rD));exact HO266.out))
              (case aS=>exact (below_size (by repeat (first|(with_reducible first|exact HB.out|apply lA|apply lN|apply lD|refine lS ?_ GE233.out)|exact HB.out))))
              (case aL=>have:=LMc27.out;omega)
              intro v268 w52 ho hb hg hat
              first|rw [← Ny267.out] at ho|(simp only [Int.reduceToNat] at ho;rw [← Ny267.out] at ho)
              have n0_:=mK (blk_grown (g:=gb233) (o:=.cells #[.int .i64 a0_0,.int .u32 a0_1,.int .u32 a0_2,.int .u32 a0_3,.slice A0_4 l0_4.length c0_4,.int .i64 a0_5,.int .u32 a0_6,.int .u32 a0_7,.int .u32 a0_8,.int .u32 a0_9,.int .u32 a0_10,.int .u32 a0_11] 26 (0,0)) (by (with_reducible repeat (first|apply bN|apply bD|apply bA));exact BK233.out) hg (Kd.R_ne HO266.out BK233.out (by decide)))
              have n1_:=mK (Kd.R_after (ok:=(fun k_=>some k_ ≠ (.slice Ao40 y243.length co40 : Value).ownBlock∧some k_ ≠ (.slice Ao43 t249.length co43 : Value).ownBlock∧some k_ ≠ (.slice Ao46 t255.length co46 : Value).ownBlock)) (by (with_reducible repeat (first|apply rA|apply rN|apply rD));exact HO239.out) hg hat)
              have n2_:=mK (Kd.R_after (ok:=(fun k_=>some k_ ≠ (.slice Ao35 t237.length co35 : Value).ownBlock∧some k_ ≠ (.slice Ao43 t249.length co43 : Value).ownBlock∧some k_ ≠ (.slice Ao46 t255.length co46 : Value).ownBlock)) (by (with_reducible repeat (first|apply rA|apply rN|apply rD));exact HO245.out) hg hat)
              have n3_:=mK (Kd.R_after (ok:=(fun k_=>some k_ ≠ (.slice Ao35 t237.length co35 : Value).ownBlock∧some k_ ≠ (.slice Ao40 y243.length co40 : Value).ownBlock∧some k_ ≠ (.slice Ao46 t255.length co46 : Value).ownBlock)) (by (with_reducible repeat (first|apply rA|apply rN|apply rD));exact HO251.out) hg hat)
              have n4_:=mK (Kd.R_after (ok:=(fun k_=>some k_ ≠ (.slice Ao35 t237.length co35 : Value).ownBlock∧some k_ ≠ (.slice Ao40 y243.length co40 : Value).ownBlock∧some k_ ≠ (.slice Ao43 t249.length co43 : Value).ownBlock)) (by (with_reducible repeat (first|apply rA|apply rN|apply rD));exact HO257.out) hg hat)
              have n5_:=mK (hb)
              have n6_:=mK (ho)
              clear BK233
              clear HO239
              clear HO245
              clear HO251
              clear HO257
              clear HB
              clear HO266
              have BK233:=n0_
              have HO239:=n1_
              have HO245:=n2_
              have HO251:=n3_
              have HO257:=n4_
              have HB:=n5_
              have HO269:=n6_
              clear n0_ n1_ n2_ n3_ n4_ n5_ n6_
              clear ho hb hg hat
              refine hK.out _ _ ⟨(blk_cell BK233.out 0).trans rfl,(blk_cell BK233.out 1).trans rfl,(blk_cell BK233.out 2).trans rfl,(blk_cell BK233.out 3).trans rfl,(blk_cell BK233.out 4).trans rfl,(blk_cell BK233.out 5).trans rfl,(blk_cell BK233.out 6).trans rfl,(blk_cell BK233.out 7).trans rfl,(blk_cell BK233.out 8).trans rfl,(blk_cell BK233.out 9).trans rfl,(blk_cell BK233.out 10).trans rfl,(blk_cell BK233.out 11).trans rfl⟩ (fun hHeld=>?_)
              clear hK K
              refine norm_ (a':=?_) ?_ ?_
              rotate_left
              ·show Act.put _ (some 57) _ = _
               simp only [Act.put,sT,sZ,sS,i64_w,i32_w]
               rfl
              refine one_ (i:=5) (N:=some 61) #[τ,τ,τ,τ,τ,τ,φ,φ] rfl rfl (one_of HT_.out (by kernel_rfl)) (by decide) (fun K hK=>?_)
              refine Kd.R_lit_step (Kd.int .u8) _ 5 ?hg (N:=61) ?hd (xs:=([99,130,83,99,53,1,(a0_5) % 256] : List Int)) (inner:=[.int .u8 99,.int .u8 130,.int .u8 83,.int .u8 99,.int .u8 53,.int .u8 1,.int .u8 ((a0_5) % 256)]) (ok:= fun _=>True) (okp:= fun _=>True) ?hr ?hp (fun _ hk=>hk) trivial (Below.refl _ _) (Nat.le_refl _) (by simp) ?_;(case hd=>rfl);(case hg=>rfl);(case hr=>first|(go_simp;done)|(go_simp;rfl));(case hp=>exact (Reps.one (show Kd.M (Kd.int .u8) _ _ _ 99 [.int .u8 99] from rfl) (Reps.one (show Kd.M (Kd.int .u8) _ _ _ 130 [.int .u8 130] from rfl) (Reps.one (show Kd.M (Kd.int .u8) _ _ _ 83 [.int .u8 83] from rfl) (Reps.one (show Kd.M (Kd.int .u8) _ _ _ 99 [.int .u8 99] from rfl) (Reps.one (show Kd.M (Kd.int .u8) _ _ _ 53 [.int .u8 53] from rfl) (Reps.one (show Kd.M (Kd.int .u8) _ _ _ 1 [.int .u8 1] from rfl) (Reps.one (show Kd.M (Kd.int .u8) _ _ _ ((a0_5) % 256) [.int .u8 ((a0_5) % 256)] from rfl) (Reps.none _ _)))))))))
              intro v271 w53 ho54 hb hg_ hnew_
              clear hg_ hnew_
              (first|rw [← Ny270.out] at ho54|(simp only [Int.reduceToNat] at ho54;rw [← Ny270.out] at ho54))
              have n0_:=mK (Kd.R_elder' (by (with_reducible repeat (first|apply rA|apply rN|apply rD));exact HO239.out) (Kd.R_base ho54) hb)
              have n1_:=mK (Kd.R_elder' (by (with_reducible repeat (first|apply rA|apply rN|apply rD));exact HO245.out) (Kd.R_base ho54) hb)
              have n2_:=mK (Kd.R_elder' (by (with_reducible repeat (first|apply rA|apply rN|apply rD));exact HO251.out) (Kd.R_base ho54) hb)
              have n3_:=mK (Kd.R_elder' (by (with_reducible repeat (first|apply rA|apply rN|apply rD));exact HO257.out) (Kd.R_base ho54) hb)
              have n4_:=mK (Kd.R_elder' (by (with_reducible repeat (first|apply rA|apply rN|apply rD));exact HO269.out) (Kd.R_base ho54) hb)
              have n5_:=mK (Kd.R_lower (Kd.R_new' (Kd.R_new' (Kd.R_new' (Kd.R_new' (Kd.R_new' ho54 (Kd.R_lt (by (with_reducible repeat (first|apply rA|apply rN|apply rD));exact HO239.out))) (Kd.R_lt (by (with_reducible repeat (first|apply rA|apply rN|apply rD));exact HO245.out))) (Kd.R_lt (by (with_reducible repeat (first|apply rA|apply rN|apply rD));exact HO251.out))) (Kd.R_lt (by (with_reducible repeat (first|apply rA|apply rN|apply rD));exact HO257.out))) (Kd.R_lt (by (with_reducible repeat (first|apply rA|apply rN|apply rD));exact HO269.out))) (below_size (by repeat (first|(with_reducible first|exact HB.out|apply lA|apply lN|apply lD|refine lS ?_ GE233.out)|exact HB.out))))
              have n6_:=mK (blk_below (g:=gb233) (o:=.cells #[.int .i64 a0_0,.int .u32 a0_1,.int .u32 a0_2,.int .u32 a0_3,.slice A0_4 l0_4.length c0_4,.int .i64 a0_5,.int .u32 a0_6,.int .u32 a0_7,.int .u32 a0_8,.int .u32 a0_9,.int .u32 a0_10,.int .u32 a0_11] 26 (0,0)) (by (with_reducible repeat (first|apply bN|apply bD|apply bA));exact BK233.out) hb)
              have n7_:=mK (below_step (by repeat (first|(with_reducible first|exact HB.out|apply lA|apply lN|apply lD|refine lS ?_ GE233.out)|exact HB.out)) hb)
              clear HO239
              clear HO245
              clear HO251
              clear HO257
              clear HO269
              clear BK233
              clear HB
              have HO239:=n0_
              have HO245:=n1_
              have HO251:=n2_
              have HO257:=n3_
              have HO269:=n4_
              have HO272:=n5_
              have BK233:=n6_
              have HB:=n7_
              clear n0_ n1_ n2_ n3_ n4_ n5_ n6_ n7_
              clear hb ho54
              refine hK.out _ _ ⟨(blk_cell BK233.out 0).trans rfl,(blk_cell BK233.out 1).trans rfl,(blk_cell BK233.out 2).trans rfl,(blk_cell BK233.out 3).trans rfl,(blk_cell BK233.out 4).trans rfl,(blk_cell BK233.out 5).trans rfl,(blk_cell BK233.out 6).trans rfl,(blk_cell BK233.out 7).trans rfl,(blk_cell BK233.out 8).trans rfl,(blk_cell BK233.out 9).trans rfl,(blk_cell BK233.out 10).trans rfl,(blk_cell BK233.out 11).trans rfl⟩ (fun hHeld=>?_)
              clear hK K
              refine norm_ (a':=?_) ?_ ?_
              rotate_left
              ·show Act.put _ (some 61) _ = _
               simp only [Act.put,sT,sZ,sS,i64_w,i32_w]
               rfl
              exact norm_ (by simp only [putAll,Act.put,sT,sZ,sS]) (hCont (v268,v271) _ ⟨hHeld,(by (with_reducible repeat (first|apply rA|apply rN|apply rD));exact Kd.R_mono HO239.out (fun _ hk=>⟨hk.1.1.1,⟨hk.1.1.2.1,⟨hk.1.1.2.2,⟨hk.1.2,hk.2⟩⟩⟩⟩)),(by (with_reducible repeat (first|apply rA|apply rN|apply rD));exact Kd.R_mono HO245.out (fun _ hk=>⟨hk.1.1.1,⟨hk.1.1.2.1,⟨hk.1.1.2.2,⟨hk.1.2,hk.2⟩⟩⟩⟩)),(by (with_reducible repeat (first|apply rA|apply rN|apply rD));exact Kd.R_mono HO251.out (fun _ hk=>⟨hk.1.1.1,⟨hk.1.1.2.1,⟨hk.1.1.2.2,⟨hk.1.2,hk.2⟩⟩⟩⟩)),(by (with_reducible repeat (first|apply rA|apply rN|apply rD));exact Kd.R_mono HO257.out (fun _ hk=>⟨hk.1.1.1,⟨hk.1.1.2.1,⟨hk.1.1.2.2,⟨hk.1.2,hk.2⟩⟩⟩⟩)),(by (with_reducible repeat (first|apply rA|apply rN|apply rD));exact Kd.R_mono HO269.out (fun _ hk=>⟨hk.1.1,⟨hk.1.2.1,⟨hk.1.2.2.1,⟨hk.1.2.2.2,hk.2⟩⟩⟩⟩)),(by (with_reducible repeat (first|apply rA|apply rN|apply rD));exact Kd.R_mono HO272.out (fun _ hk=>⟨hk.1.1.1.1.2,⟨hk.1.1.1.2,⟨hk.1.1.2,⟨hk.1.2,hk.2⟩⟩⟩⟩)),(by (with_reducible repeat (first|apply bN|apply bD|apply bA));exact BK233.out),(by repeat (first|(with_reducible first|exact HB.out|apply lA|apply lN|apply lD|refine lS ?_ GE233.out)|exact HB.out))⟩)
             ·skip
              refine Kd.R_lit_step (Kd.int .u8) _ 5 ?hg (N:=61) ?hd (xs:=([99,130,83,99,53,1,(a0_5) % 256] : List Int)) (inner:=[.int .u8 99,.int .u8 130,.int .u8 83,.int .u8 99,.int .u8 53,.int .u8 1,.int .u8 ((a0_5) % 256)]) (ok:= fun _=>True) (okp:= fun _=>True) ?hr ?hp (fun _ hk=>hk) trivial (Below.refl _ _) (Nat.le_refl _) (by simp) ?_;(case hd=>rfl);(case hg=>rfl);(case hr=>first|(go_simp;done)|(go_simp;rfl));(case hp=>exact (Reps.one (show Kd.M (Kd.int .u8) _ _ _ 99 [.int .u8 99] from rfl) (Reps.one (show Kd.M (Kd.int .u8) _ _ _ 130 [.int .u8 130] from rfl) (Reps.one (show Kd.M (Kd.int .u8) _ _ _ 83 [.int .u8 83] from rfl) (Reps.one (show Kd.M (Kd.int .u8) _ _ _ 99 [.int .u8 99] from rfl) (Reps.one (show Kd.M (Kd.int .u8) _ _ _ 53 [.int .u8 53] from rfl) (Reps.one (show Kd.M (Kd.int .u8) _ _ _ 1 [.int .u8 1] from rfl) (Reps.one (show Kd.M (Kd.int .u8) _ _ _ ((a0_5) % 256) [.int .u8 ((a0_5) % 256)] from rfl) (Reps.none _ _)))))))))
              intro v271 w52 ho53 hb hg_ hnew_
              clear hg_ hnew_
              (first|rw [← Ny270.out] at ho53|(simp only [Int.reduceToNat] at ho53;rw [← Ny270.out] at ho53))
              have n0_:=mK (Kd.R_elder' (by (with_reducible repeat (first|apply rA|apply rN|apply rD));exact HO239.out) (Kd.R_base ho53) hb)
              have n1_:=mK (Kd.R_elder' (by (with_reducible repeat (first|apply rA|apply rN|apply rD));exact HO245.out) (Kd.R_base ho53) hb)
              have n2_:=mK (Kd.R_elder' (by (with_reducible repeat (first|apply rA|apply rN|apply rD));exact HO251.out) (Kd.R_base ho53) hb)
              have n3_:=mK (Kd.R_elder' (by (with_reducible repeat (first|apply rA|apply rN|apply rD));exact HO257.out) (Kd.R_base ho53) hb)
              have n4_:=mK (Kd.R_elder' (by (with_reducible repeat (first|apply rA|apply rN|apply rD));exact HO266.out) (Kd.R_base ho53) hb)
              have n5_:=mK (Kd.R_lower (Kd.R_new' (Kd.R_new' (Kd.R_new' (Kd.R_new' (Kd.R_new' ho53 (Kd.R_lt (by (with_reducible repeat (first|apply rA|apply rN|apply rD));exact HO239.out))) (Kd.R_lt (by (with_reducible repeat (first|apply rA|apply rN|apply rD));exact HO245.out))) (Kd.R_lt (by (with_reducible repeat (first|apply rA|apply rN|apply rD));exact HO251.out))) (Kd.R_lt (by (with_reducible repeat (first|apply rA|apply rN|apply rD));exact HO257.out))) (Kd.R_lt (by (with_reducible repeat (first|apply rA|apply rN|apply rD));exact HO266.out))) (below_size (by repeat (first|(with_reducible first|exact HB.out|apply lA|apply lN|apply lD|refine lS ?_ GE233.out)|exact HB.out))))
              have n6_:=mK (blk_below (g:=gb233) (o:=.cells #[.int .i64 a0_0,.int .u32 a0_1,.int .u32 a0_2,.int .u32 a0_3,.slice A0_4 l0_4.length c0_4,.int .i64 a0_5,.int .u32 a0_6,.int .u32 a0_7,.int .u32 a0_8,.int .u32 a0_9,.int .u32 a0_10,.int .u32 a0_11] 26 (0,0)) (by (with_reducible repeat (first|apply bN|apply bD|apply bA));exact BK233.out) hb)
              have n7_:=mK (below_step (by repeat (first|(with_reducible first|exact HB.out|apply lA|apply lN|apply lD|refine lS ?_ GE233.out)|exact HB.out)) hb)
              clear HO239
              clear HO245
              clear HO251
              clear HO257
              clear HO266
              clear BK233
              clear HB
              have HO239:=n0_
              have HO245:=n1_
              have HO251:=n2_
              have HO257:=n3_
              have HO266:=n4_
              have HO272:=n5_
              have BK233:=n6_
              have HB:=n7_
              clear n0_ n1_ n2_ n3_ n4_ n5_ n6_ n7_
              clear hb ho53
              refine hK.out _ _ ⟨(blk_cell BK233.out 0).trans rfl,(blk_cell BK233.out 1).trans rfl,(blk_cell BK233.out 2).trans rfl,(blk_cell BK233.out 3).trans rfl,(blk_cell BK233.out 4).trans rfl,(blk_cell BK233.out 5).trans rfl,(blk_cell BK233.out 6).trans rfl,(blk_cell BK233.out 7).trans rfl,(blk_cell BK233.out 8).trans rfl,(blk_cell BK233.out 9).trans rfl,(blk_cell BK233.out 10).trans rfl,(blk_cell BK233.out 11).trans rfl⟩ (fun hHeld=>?_)
              clear hK K
              refine norm_ (a':=?_) ?_ ?_
              rotate_left
              ·show Act.put _ (some 61) _ = _
               simp only [Act.put,sT,sZ,sS,i64_w,i32_w]
               rfl
              refine one_ (i:=1) (N:=some 57) #[τ,τ,τ,τ,τ,τ,φ,φ] rfl rfl (one_of HT_.out (by kernel_rfl)) (by decide) (fun K hK=>?_)
              refine Kd.R_append_zeros_step (Kd.int .u8) (w0:=w) w.heap.size (by rfl) (.tmp 56) (.const (.int .i64 202)) 22 3 5 (.int .u8 0) 1 rfl Try.underlying22 Try.underlying3 info5 rfl (by decide) (by omega) (.slice Ao50 y264.length co50) y264 0 (202 : Int) (fun k_=>some k_ ≠ (.slice Ao35 t237.length co35 : Value).ownBlock∧some k_ ≠ (.slice Ao40 y243.length co40 : Value).ownBlock∧some k_ ≠ (.slice Ao43 t249.length co43 : Value).ownBlock∧some k_ ≠ (.slice Ao46 t255.length co46 : Value).ownBlock∧some k_ ≠ (v271 : Value).ownBlock) rfl rfl rfl ?aF ?aO (by omega) ?aB ?aS ?aL ?_
              (case aB=>exact (by repeat (first|(with_reducible first|exact HB.out|apply lA|apply lN|apply lD|refine lS ?_ GE233.out)|exact HB.out)))
              (case aF=>exact (fun k_ hk=>⟨Kd.fresh' (Kd.R_lt (by (with_reducible repeat (first|apply rA|apply rN|apply rD));exact HO239.out)) k_ hk,Kd.fresh' (Kd.R_lt (by (with_reducible repeat (first|apply rA|apply rN|apply rD));exact HO245.out)) k_ hk,Kd.fresh' (Kd.R_lt (by (with_reducible repeat (first|apply rA|apply rN|apply rD));exact HO251.out)) k_ hk,Kd.fresh' (Kd.R_lt (by (with_reducible repeat (first|apply rA|apply rN|apply rD));exact HO257.out)) k_ hk,Kd.fresh' (Kd.R_lt (by (with_reducible repeat (first|apply rA|apply rN|apply rD));exact HO272.out)) k_ hk⟩))
              (case aO=>exact (by (with_reducible repeat (first|apply rA|apply rN|apply rD));exact Kd.R_mono HO266.out (fun _ hk=>⟨hk.1.1,⟨hk.1.2.1,⟨hk.1.2.2.1,⟨hk.1.2.2.2,hk.2⟩⟩⟩⟩)))
              (case aS=>exact (below_size (by repeat (first|(with_reducible first|exact HB.out|apply lA|apply lN|apply lD|refine lS ?_ GE233.out)|exact HB.out))))
              (case aL=>have:=LMc27.out;omega)
              intro v268 w54 ho hb hg hat
              first|rw [← Ny267.out] at ho|(simp only [Int.reduceToNat] at ho;rw [← Ny267.out] at ho)
              have n0_:=mK (blk_grown (g:=gb233) (o:=.cells #[.int .i64 a0_0,.int .u32 a0_1,.int .u32 a0_2,.int .u32 a0_3,.slice A0_4 l0_4.length c0_4,.int .i64 a0_5,.int .u32 a0_6,.int .u32 a0_7,.int .u32 a0_8,.int .u32 a0_9,.int .u32 a0_10,.int .u32 a0_11] 26 (0,0)) (by (with_reducible repeat (first|apply bN|apply bD|apply bA));exact BK233.out) hg (Kd.R_ne HO266.out BK233.out (by decide)))
              have n1_:=mK (Kd.R_after (ok:=(fun k_=>some k_ ≠ (.slice Ao40 y243.length co40 : Value).ownBlock∧some k_ ≠ (.slice Ao43 t249.length co43 : Value).ownBlock∧some k_ ≠ (.slice Ao46 t255.length co46 : Value).ownBlock∧some k_ ≠ (v271 : Value).ownBlock)) (by (with_reducible repeat (first|apply rA|apply rN|apply rD));exact Kd.R_mono HO239.out (fun _ hk=>⟨⟨hk.1.1.1,⟨hk.1.1.2.1,⟨hk.1.1.2.2,hk.2⟩⟩⟩,hk.1.2⟩)) hg hat)
              have n2_:=mK (Kd.R_after (ok:=(fun k_=>some k_ ≠ (.slice Ao35 t237.length co35 : Value).ownBlock∧some k_ ≠ (.slice Ao43 t249.length co43 : Value).ownBlock∧some k_ ≠ (.slice Ao46 t255.length co46 : Value).ownBlock∧some k_ ≠ (v271 : Value).ownBlock)) (by (with_reducible repeat (first|apply rA|apply rN|apply rD));exact Kd.R_mono HO245.out (fun _ hk=>⟨⟨hk.1.1.1,⟨hk.1.1.2.1,⟨hk.1.1.2.2,hk.2⟩⟩⟩,hk.1.2⟩)) hg hat)
              have n3_:=mK (Kd.R_after (ok:=(fun k_=>some k_ ≠ (.slice Ao35 t237.length co35 : Value).ownBlock∧some k_ ≠ (.slice Ao40 y243.length co40 : Value).ownBlock∧some k_ ≠ (.slice Ao46 t255.length co46 : Value).ownBlock∧some k_ ≠ (v271 : Value).ownBlock)) (by (with_reducible repeat (first|apply rA|apply rN|apply rD));exact Kd.R_mono HO251.out (fun _ hk=>⟨⟨hk.1.1.1,⟨hk.1.1.2.1,⟨hk.1.1.2.2,hk.2⟩⟩⟩,hk.1.2⟩)) hg hat)
              have n4_:=mK (Kd.R_after (ok:=(fun k_=>some k_ ≠ (.slice Ao35 t237.length co35 : Value).ownBlock∧some k_ ≠ (.slice Ao40 y243.length co40 : Value).ownBlock∧some k_ ≠ (.slice Ao43 t249.length co43 : Value).ownBlock∧some k_ ≠ (v271 : Value).ownBlock)) (by (with_reducible repeat (first|apply rA|apply rN|apply rD));exact Kd.R_mono HO257.out (fun _ hk=>⟨⟨hk.1.1.1,⟨hk.1.1.2.1,⟨hk.1.1.2.2,hk.2⟩⟩⟩,hk.1.2⟩)) hg hat)
              have n5_:=mK (Kd.R_after (ok:=(fun k_=>some k_ ≠ (.slice Ao35 t237.length co35 : Value).ownBlock∧some k_ ≠ (.slice Ao40 y243.length co40 : Value).ownBlock∧some k_ ≠ (.slice Ao43 t249.length co43 : Value).ownBlock∧some k_ ≠ (.slice Ao46 t255.length co46 : Value).ownBlock)) (by (with_reducible repeat (first|apply rA|apply rN|apply rD));exact Kd.R_mono HO272.out (fun _ hk=>⟨⟨hk.1.1.1.1.2,⟨hk.1.1.1.2,⟨hk.1.1.2,hk.1.2⟩⟩⟩,hk.2⟩)) hg hat)
              have n6_:=mK (hb)
              have n7_:=mK (ho)
              clear BK233
              clear HO239
              clear HO245
              clear HO251
              clear HO257
              clear HO272
              clear HB
              clear HO266
              have BK233:=n0_
              have HO239:=n1_
              have HO245:=n2_
              have HO251:=n3_
              have HO257:=n4_
              have HO272:=n5_
              have HB:=n6_
              have HO269:=n7_
              clear n0_ n1_ n2_ n3_ n4_ n5_ n6_ n7_
              clear ho hb hg hat
              refine hK.out _ _ ⟨(blk_cell BK233.out 0).trans rfl,(blk_cell BK233.out 1).trans rfl,(blk_cell BK233.out 2).trans rfl,(blk_cell BK233.out 3).trans rfl,(blk_cell BK233.out 4).trans rfl,(blk_cell BK233.out 5).trans rfl,(blk_cell BK233.out 6).trans rfl,(blk_cell BK233.out 7).trans rfl,(blk_cell BK233.out 8).trans rfl,(blk_cell BK233.out 9).trans rfl,(blk_cell BK233.out 10).trans rfl,(blk_cell BK233.out 11).trans rfl⟩ (fun hHeld=>?_)
              clear hK K
              refine norm_ (a':=?_) ?_ ?_
              rotate_left
              ·show Act.put _ (some 57) _ = _
               simp only [Act.put,sT,sZ,sS,i64_w,i32_w]
               rfl
              exact norm_ (by simp only [putAll,Act.put,sT,sZ,sS]) (hCont (v268,v271) _ ⟨hHeld,(by (with_reducible repeat (first|apply rA|apply rN|apply rD));exact Kd.R_mono HO239.out (fun _ hk=>⟨hk.1.1,⟨hk.1.2.1,⟨hk.1.2.2.1,⟨hk.2,hk.1.2.2.2⟩⟩⟩⟩)),(by (with_reducible repeat (first|apply rA|apply rN|apply rD));exact Kd.R_mono HO245.out (fun _ hk=>⟨hk.1.1,⟨hk.1.2.1,⟨hk.1.2.2.1,⟨hk.2,hk.1.2.2.2⟩⟩⟩⟩)),(by (with_reducible repeat (first|apply rA|apply rN|apply rD));exact Kd.R_mono HO251.out (fun _ hk=>⟨hk.1.1,⟨hk.1.2.1,⟨hk.1.2.2.1,⟨hk.2,hk.1.2.2.2⟩⟩⟩⟩)),(by (with_reducible repeat (first|apply rA|apply rN|apply rD));exact Kd.R_mono HO257.out (fun _ hk=>⟨hk.1.1,⟨hk.1.2.1,⟨hk.1.2.2.1,⟨hk.2,hk.1.2.2.2⟩⟩⟩⟩)),(by (with_reducible repeat (first|apply rA|apply rN|apply rD));exact HO269.out),(by (with_reducible repeat (first|apply rA|apply rN|apply rD));exact Kd.R_mono HO272.out (fun _ hk=>⟨hk.1.1,⟨hk.1.2.1,⟨hk.1.2.2.1,⟨hk.1.2.2.2,hk.2⟩⟩⟩⟩)),(by (with_reducible repeat (first|apply bN|apply bD|apply bA));exact BK233.out),(by repeat (first|(with_reducible first|exact HB.out|apply lA|apply lN|apply lD|refine lS ?_ GE233.out)|exact HB.out))⟩)
            rintro ⟨v268,v271⟩ w55 ⟨hS_,h0_,h1_,h2_,h3_,h4_,h5_,h6_,h7_⟩
            have n0_ : Aside0 (Kd.R (Kd.int .u8) 5 w55 w.heap.size (fun k_=>some k_ ≠ (.slice Ao40 y243.length co40 : Value).ownBlock∧some k_ ≠ (.slice Ao43 t249.length co43 : Value).ownBlock∧some k_ ≠ (.slice Ao46 t255.length co46 : Value).ownBlock∧some k_ ≠ (v268 : Value).ownBlock∧some k_ ≠ (v271 : Value).ownBlock) (.slice Ao35 t237.length co35) t237):=⟨h0_⟩
            have n1_ : Aside0 (Kd.R (Kd.int .u8) 5 w55 w.heap.size (fun k_=>some k_ ≠ (.slice Ao35 t237.length co35 : Value).ownBlock∧some k_ ≠ (.slice Ao43 t249.length co43 : Value).ownBlock∧some k_ ≠ (.slice Ao46 t255.length co46 : Value).ownBlock∧some k_ ≠ (v268 : Value).ownBlock∧some k_ ≠ (v271 : Value).ownBlock) (.slice Ao40 y243.length co40) y243):=⟨h1_⟩
            have n2_ : Aside0 (Kd.R (Kd.int .u8) 5 w55 w.heap.size (fun k_=>some k_ ≠ (.slice Ao35 t237.length co35 : Value).ownBlock∧some k_ ≠ (.slice Ao40 y243.length co40 : Value).ownBlock∧some k_ ≠ (.slice Ao46 t255.length co46 : Value).ownBlock∧some k_ ≠ (v268 : Value).ownBlock∧some k_ ≠ (v271 : Value).ownBlock) (.slice Ao43 t249.length co43) t249):=⟨h2_⟩
            have n3_ : Aside0 (Kd.R (Kd.int .u8) 5 w55 w.heap.size (fun k_=>some k_ ≠ (.slice Ao35 t237.length co35 : Value).ownBlock∧some k_ ≠ (.slice Ao40 y243.length co40 : Value).ownBlock∧some k_ ≠ (.slice Ao43 t249.length co43 : Value).ownBlock∧some k_ ≠ (v268 : Value).ownBlock∧some k_ ≠ (v271 : Value).ownBlock) (.slice Ao46 t255.length co46) t255):=⟨h3_⟩
            have n4_ : Aside0 (Kd.R (Kd.int .u8) 5 w55 w.heap.size (fun k_=>some k_ ≠ (.slice Ao35 t237.length co35 : Value).ownBlock∧some k_ ≠ (.slice Ao40 y243.length co40 : Value).ownBlock∧some k_ ≠ (.slice Ao43 t249.length co43 : Value).ownBlock∧some k_ ≠ (.slice Ao46 t255.length co46 : Value).ownBlock∧some k_ ≠ (v271 : Value).ownBlock) v268 y267):=⟨h4_⟩
            have n5_ : Aside0 (Kd.R (Kd.int .u8) 5 w55 w.heap.size (fun k_=>some k_ ≠ (.slice Ao35 t237.length co35 : Value).ownBlock∧some k_ ≠ (.slice Ao40 y243.length co40 : Value).ownBlock∧some k_ ≠ (.slice Ao43 t249.length co43 : Value).ownBlock∧some k_ ≠ (.slice Ao46 t255.length co46 : Value).ownBlock∧some k_ ≠ (v268 : Value).ownBlock) v271 y270):=⟨h5_⟩
            have n6_ : Aside0 (w55.heap[gb233]? = some (.cells #[.int .i64 a0_0,.int .u32 a0_1,.int .u32 a0_2,.int .u32 a0_3,.slice A0_4 l0_4.length c0_4,.int .i64 a0_5,.int .u32 a0_6,.int .u32 a0_7,.int .u32 a0_8,.int .u32 a0_9,.int .u32 a0_10,.int .u32 a0_11] 26 (0,0))):=⟨h6_⟩
            have n7_ : Aside0 (Below w.heap.size w w55):=⟨h7_⟩
            clear HO239
            clear HO245
            clear HO251
            clear HO257
            clear HO266
            clear BK233
            clear HB
            clear h0_ h1_ h2_ h3_ h4_ h5_ h6_ h7_
            have HO239:=n0_
            have HO245:=n1_
            have HO251:=n2_
            have HO257:=n3_
            have HO269:=n4_
            have HO272:=n5_
            have BK233:=n6_
            have HB:=n7_
            clear n0_ n1_ n2_ n3_ n4_ n5_ n6_ n7_
            have hHeld : w55.cell? ⟨gb233,0,none⟩ = some (.int .i64 a0_0)∧w55.cell? ⟨gb233,1,none⟩ = some (.int .u32 a0_1)∧w55.cell? ⟨gb233,2,none⟩ = some (.int .u32 a0_2)∧w55.cell? ⟨gb233,3,none⟩ = some (.int .u32 a0_3)∧w55.cell? ⟨gb233,4,none⟩ = some (.slice A0_4 l0_4.length c0_4)∧w55.cell? ⟨gb233,5,none⟩ = some (.int .i64 a0_5)∧w55.cell? ⟨gb233,6,none⟩ = some (.int .u32 a0_6)∧w55.cell? ⟨gb233,7,none⟩ = some (.int .u32 a0_7)∧w55.cell? ⟨gb233,8,none⟩ = some (.int .u32 a0_8)∧w55.cell? ⟨gb233,9,none⟩ = some (.int .u32 a0_9)∧w55.cell? ⟨gb233,10,none⟩ = some (.int .u32 a0_10)∧w55.cell? ⟨gb233,11,none⟩ = some (.int .u32 a0_11):=hS_
            obtain ⟨Ao57,co57,eo57⟩:=Kd.R_slice HO272.out
            (first|subst eo57|(injection eo57 with f1_ f2_ f3_;have f4_:=f1_.symm;have f5_:=f3_.symm;clear f1_ f2_ f3_;subst f4_;subst f5_))
            refine norm_ (a':=?_) ?_ ?_
            rotate_left
            ·simp only [putAll,Act.put,sT,sZ,sS]
             rfl
            refine one_ (i:=6) (N:=some 62) #[τ,τ,τ,τ,τ,τ,τ,φ] rfl rfl (one_of HT_.out (by kernel_rfl)) (by decide) (fun K hK=>?_)
            refine Kd.R_append_rows_step (Kd.int .u8) (w0:=w) w.heap.size (by rfl) (.tmp 57) (.tmp 61) 22 5 (.int .u8 0) 1 rfl Try.underlying22 info5 rfl (by decide) (by omega) v268 y267 y270 _ _ _ (fun k_=>some k_ ≠ (.slice Ao35 t237.length co35 : Value).ownBlock∧some k_ ≠ (.slice Ao40 y243.length co40 : Value).ownBlock∧some k_ ≠ (.slice Ao43 t249.length co43 : Value).ownBlock∧some k_ ≠ (.slice Ao46 t255.length co46 : Value).ownBlock∧some k_ ≠ (.slice Ao57 y270.length co57 : Value).ownBlock) (fun _=>False) rfl rfl ?aO ?aR (fun _ _ h=>h) (fun _ h=>h.elim) ?aF ?aB ?aS ?aL ?_
            (case aR=>repeat (first|exact (Kd.R_reads' HO272.out).2.2|(with_reducible refine Kd.C_alloc ?_ _)|(with_reducible refine Kd.C_drewN ?_ _)|(with_reducible refine Kd.C_drew ?_)))
            (case aB=>exact (by repeat (first|(with_reducible first|exact HB.out|apply lA|apply lN|apply lD|refine lS ?_ GE233.out)|exact HB.out)))
            (case aF=>exact (fun k_ hk=>⟨Kd.fresh' (Kd.R_lt (by (with_reducible repeat (first|apply rA|apply rN|apply rD));exact HO239.out)) k_ hk,Kd.fresh' (Kd.R_lt (by (with_reducible repeat (first|apply rA|apply rN|apply rD));exact HO245.out)) k_ hk,Kd.fresh' (Kd.R_lt (by (with_reducible repeat (first|apply rA|apply rN|apply rD));exact HO251.out)) k_ hk,Kd.fresh' (Kd.R_lt (by (with_reducible repeat (first|apply rA|apply rN|apply rD));exact HO257.out)) k_ hk,Kd.fresh' (Kd.R_lt (by (with_reducible repeat (first|apply rA|apply rN|apply rD));exact HO272.out)) k_ hk⟩))
            (case aO=>exact (by (with_reducible repeat (first|apply rA|apply rN|apply rD));exact HO269.out))
            (case aS=>exact (below_size (by repeat (first|(with_reducible first|exact HB.out|apply lA|apply lN|apply lD|refine lS ?_ GE233.out)|exact HB.out))))
            (case aL=>have:=LMc28.out;omega)
            intro v274 w56 ho hb hg hat
            first|rw [← Ny273.out] at ho|(simp only [Int.reduceToNat] at ho;rw [← Ny273.out] at ho)
            have n0_:=mK (blk_grown (g:=gb233) (o:=.cells #[.int .i64 a0_0,.int .u32 a0_1,.int .u32 a0_2,.int .u32 a0_3,.slice A0_4 l0_4.length c0_4,.int .i64 a0_5,.int .u32 a0_6,.int .u32 a0_7,.int .u32 a0_8,.int .u32 a0_9,.int .u32 a0_10,.int .u32 a0_11] 26 (0,0)) (by (with_reducible repeat (first|apply bN|apply bD|apply bA));exact BK233.out) hg (Kd.R_ne HO269.out BK233.out (by decide)))
            have n1_:=mK (Kd.R_after (ok:=(fun k_=>some k_ ≠ (.slice Ao40 y243.length co40 : Value).ownBlock∧some k_ ≠ (.slice Ao43 t249.length co43 : Value).ownBlock∧some k_ ≠ (.slice Ao46 t255.length co46 : Value).ownBlock∧some k_ ≠ (.slice Ao57 y270.length co57 : Value).ownBlock)) (by (with_reducible repeat (first|apply rA|apply rN|apply rD));exact Kd.R_mono HO239.out (fun _ hk=>⟨⟨hk.1,⟨hk.2.1,⟨hk.2.2.1,hk.2.2.2.2⟩⟩⟩,hk.2.2.2.1⟩)) hg hat)
            have n2_:=mK (Kd.R_after (ok:=(fun k_=>some k_ ≠ (.slice Ao35 t237.length co35 : Value).ownBlock∧some k_ ≠ (.slice Ao43 t249.length co43 : Value).ownBlock∧some k_ ≠ (.slice Ao46 t255.length co46 : Value).ownBlock∧some k_ ≠ (.slice Ao57 y270.length co57 : Value).ownBlock)) (by (with_reducible repeat (first|apply rA|apply rN|apply rD));exact Kd.R_mono HO245.out (fun _ hk=>⟨⟨hk.1,⟨hk.2.1,⟨hk.2.2.1,hk.2.2.2.2⟩⟩⟩,hk.2.2.2.1⟩)) hg hat)
            have n3_:=mK (Kd.R_after (ok:=(fun k_=>some k_ ≠ (.slice Ao35 t237.length co35 : Value).ownBlock∧some k_ ≠ (.slice Ao40 y243.length co40 : Value).ownBlock∧some k_ ≠ (.slice Ao46 t255.length co46 : Value).ownBlock∧some k_ ≠ (.slice Ao57 y270.length co57 : Value).ownBlock)) (by (with_reducible repeat (first|apply rA|apply rN|apply rD));exact Kd.R_mono HO251.out (fun _ hk=>⟨⟨hk.1,⟨hk.2.1,⟨hk.2.2.1,hk.2.2.2.2⟩⟩⟩,hk.2.2.2.1⟩)) hg hat)
            have n4_:=mK (Kd.R_after (ok:=(fun k_=>some k_ ≠ (.slice Ao35 t237.length co35 : Value).ownBlock∧some k_ ≠ (.slice Ao40 y243.length co40 : Value).ownBlock∧some k_ ≠ (.slice Ao43 t249.length co43 : Value).ownBlock∧some k_ ≠ (.slice Ao57 y270.length co57 : Value).ownBlock)) (by (with_reducible repeat (first|apply rA|apply rN|apply rD));exact Kd.R_mono HO257.out (fun _ hk=>⟨⟨hk.1,⟨hk.2.1,⟨hk.2.2.1,hk.2.2.2.2⟩⟩⟩,hk.2.2.2.1⟩)) hg hat)
            have n5_:=mK (Kd.R_after (ok:=(fun k_=>some k_ ≠ (.slice Ao35 t237.length co35 : Value).ownBlock∧some k_ ≠ (.slice Ao40 y243.length co40 : Value).ownBlock∧some k_ ≠ (.slice Ao43 t249.length co43 : Value).ownBlock∧some k_ ≠ (.slice Ao46 t255.length co46 : Value).ownBlock)) (by (with_reducible repeat (first|apply rA|apply rN|apply rD));exact Kd.R_mono HO272.out (fun _ hk=>⟨⟨hk.1,⟨hk.2.1,⟨hk.2.2.1,hk.2.2.2.1⟩⟩⟩,hk.2.2.2.2⟩)) hg hat)
            have n6_:=mK (hb)
            have n7_:=mK (ho)
            clear BK233
            clear HO239
            clear HO245
            clear HO251
            clear HO257
            clear HO272
            clear HB
            clear HO269
            have BK233:=n0_
            have HO239:=n1_
            have HO245:=n2_
            have HO251:=n3_
            have HO257:=n4_
            have HO272:=n5_
            have HB:=n6_
            have HO275:=n7_
            clear n0_ n1_ n2_ n3_ n4_ n5_ n6_ n7_
            clear ho hb hg hat
            refine hK.out _ _ ⟨(blk_cell BK233.out 0).trans rfl,(blk_cell BK233.out 1).trans rfl,(blk_cell BK233.out 2).trans rfl,(blk_cell BK233.out 3).trans rfl,(blk_cell BK233.out 4).trans rfl,(blk_cell BK233.out 5).trans rfl,(blk_cell BK233.out 6).trans rfl,(blk_cell BK233.out 7).trans rfl,(blk_cell BK233.out 8).trans rfl,(blk_cell BK233.out 9).trans rfl,(blk_cell BK233.out 10).trans rfl,(blk_cell BK233.out 11).trans rfl⟩ (fun hHeld=>?_)
            clear hK K
            refine norm_ (a':=?_) ?_ ?_
            rotate_left
            ·show Act.put _ (some 62) _ = _
             simp only [Act.put,sT,sZ,sS,i64_w,i32_w]
             rfl
            refine pure_ (i:=7) (N:=some 4) (v:=?_) (a':=?_) #[τ,τ,τ,τ,τ,τ,τ,τ] rfl rfl (any_of HT_.out (by kernel_rfl)) (fun _ _ _ h=>h) (Or.inl ⟨by rfl,?_⟩) ?_ ?_
            rotate_left
            ·intro w'
             go_simp
             with_reducible rfl
            rotate_left
            ·simp only [Act.put,sT,sZ,sS,i64_w,i32_w]
             rfl
            refine done_ (done_of HT_.out (by kernel_rfl)) ?_
            try go_wp2_with (first|((with_reducible refine gate_dst (N:=63) rfl ?_);(try (refine gate_guard (by rfl) ?_;dsimp only));refine Kd.R_lit (Kd.int .u8) _ 5 ?hg (N:=63) ?hd (xs:=([50,54,51,1,3,6] : List Int)) (inner:=[.int .u8 50,.int .u8 54,.int .u8 51,.int .u8 1,.int .u8 3,.int .u8 6]) (ok:= fun _=>True) (okp:= fun _=>True) ?hr ?hp (fun _ hk=>hk) trivial (Below.refl _ _) (Nat.le_refl _) (by simp) ?_;(case hd=>rfl);(case hg=>rfl);(case hr=>first|(go_simp;done)|(go_simp;rfl));(case hp=>exact (Reps.one (show Kd.M (Kd.int .u8) _ _ _ 50 [.int .u8 50] from rfl) (Reps.one (show Kd.M (Kd.int .u8) _ _ _ 54 [.int .u8 54] from rfl) (Reps.one (show Kd.M (Kd.int .u8) _ _ _ 51 [.int .u8 51] from rfl) (Reps.one (show Kd.M (Kd.int .u8) _ _ _ 1 [.int .u8 1] from rfl) (Reps.one (show Kd.M (Kd.int .u8) _ _ _ 3 [.int .u8 3] from rfl) (Reps.one (show Kd.M (Kd.int .u8) _ _ _ 6 [.int .u8 6] from rfl) (Reps.none _ _))))))));intro v277 w58 ho59 hb hg_ hnew_;clear hg_ hnew_;(first|rw [← Ny276.out] at ho59|(simp only [Int.reduceToNat] at ho59;rw [← Ny276.out] at ho59));have n5_:=mK (Kd.R_elder' (by (with_reducible repeat (first|apply rA|apply rN|apply rD));exact HO275.out) (Kd.R_base ho59) hb);have n6_:=mK (Kd.R_lower (Kd.R_new' (Kd.R_new' (Kd.R_new' (Kd.R_new' (Kd.R_new' (Kd.R_new' ho59 (Kd.R_lt (by (with_reducible repeat (first|apply rA|apply rN|apply rD));exact HO239.out))) (Kd.R_lt (by (with_reducible repeat (first|apply rA|apply rN|apply rD));exact HO245.out))) (Kd.R_lt (by (with_reducible repeat (first|apply rA|apply rN|apply rD));exact HO251.out))) (Kd.R_lt (by (with_reducible repeat (first|apply rA|apply rN|apply rD));exact HO257.out))) (Kd.R_lt (by (with_reducible repeat (first|apply rA|apply rN|apply rD));exact HO272.out))) (Kd.R_lt (by (with_reducible repeat (first|apply rA|apply rN|apply rD));exact HO275.out))) (below_size (by repeat (first|(with_reducible first|exact HB.out|apply lA|apply lN|apply lD|refine lS ?_ GE233.out)|exact HB.out))));have n7_:=mK (blk_below (g:=gb233) (o:=.cells #[.int .i64 a0_0,.int .u32 a0_1,.int .u32 a0_2,.int .u32 a0_3,.slice A0_4 l0_4.length c0_4,.int .i64 a0_5,.int .u32 a0_6,.int .u32 a0_7,.int .u32 a0_8,.int .u32 a0_9,.int .u32 a0_10,.int .u32 a0_11] 26 (0,0)) (by (with_reducible repeat (first|apply bN|apply bD|apply bA));exact BK233.out) hb);have n8_:=mK (below_step (by repeat (first|(with_reducible first|exact HB.out|apply lA|apply lN|apply lD|refine lS ?_ GE233.out)|exact HB.out)) hb);clear HO275;clear BK233;clear HB;have HO275:=n5_;have HO278:=n6_;have BK233:=n7_;have HB:=n8_;clear n5_ n6_ n7_ n8_;clear hb ho59;have hcz60_0 : w58.cell? ⟨gb233,0,none⟩ = some (.int .i64 a0_0):=(blk_cell BK233.out 0).trans rfl;have hcz60_1 : w58.cell? ⟨gb233,1,none⟩ = some (.int .u32 a0_1):=(blk_cell BK233.out 1).trans rfl;have hcz60_2 : w58.cell? ⟨gb233,2,none⟩ = some (.int .u32 a0_2):=(blk_cell BK233.out 2).trans rfl;have hcz60_3 : w58.cell? ⟨gb233,3,none⟩ = some (.int .u32 a0_3):=(blk_cell BK233.out 3).trans rfl;have hcz60_4 : w58.cell? ⟨gb233,4,none⟩ = some (.slice A0_4 l0_4.length c0_4):=(blk_cell BK233.out 4).trans rfl;have hcz60_5 : w58.cell? ⟨gb233,5,none⟩ = some (.int .i64 a0_5):=(blk_cell BK233.out 5).trans rfl;have hcz60_6 : w58.cell? ⟨gb233,6,none⟩ = some (.int .u32 a0_6):=(blk_cell BK233.out 6).trans rfl;have hcz60_7 : w58.cell? ⟨gb233,7,none⟩ = some (.int .u32 a0_7):=(blk_cell BK233.out 7).trans rfl;have hcz60_8 : w58.cell? ⟨gb233,8,none⟩ = some (.int .u32 a0_8):=(blk_cell BK233.out 8).trans rfl;have hcz60_9 : w58.cell? ⟨gb233,9,none⟩ = some (.int .u32 a0_9):=(blk_cell BK233.out 9).trans rfl;have hcz60_10 : w58.cell? ⟨gb233,10,none⟩ = some (.int .u32 a0_10):=(blk_cell BK233.out 10).trans rfl;have hcz60_11 : w58.cell? ⟨gb233,11,none⟩ = some (.int .u32 a0_11):=(blk_cell BK233.out 11).trans rfl;have hfz60_0:=blk_frozen BK233.out 0;have hfz60_1:=blk_frozen BK233.out 1;have hfz60_2:=blk_frozen BK233.out 2;have hfz60_3:=blk_frozen BK233.out 3;have hfz60_4:=blk_frozen BK233.out 4;have hfz60_5:=blk_frozen BK233.out 5;have hfz60_6:=blk_frozen BK233.out 6;have hfz60_7:=blk_frozen BK233.out 7;have hfz60_8:=blk_frozen BK233.out 8;have hfz60_9:=blk_frozen BK233.out 9;have hfz60_10:=blk_frozen BK233.out 10;have hfz60_11:=blk_frozen BK233.out 11)|((with_reducible refine gate_dst (N:=76) rfl ?_);(try (refine gate_guard (by rfl) ?_;dsimp only));refine Kd.R_lit (Kd.int .u32) _ 24 ?hg (N:=76) ?hd (xs:=([a0_6,a0_7,a0_8,a0_9,a0_10,a0_11] : List Int)) (inner:=[.int .u32 a0_6,.int .u32 a0_7,.int .u32 a0_8,.int .u32 a0_9,.int .u32 a0_10,.int .u32 a0_11]) (ok:= fun _=>True) (okp:= fun _=>True) ?hr ?hp (fun _ hk=>hk) trivial (Below.refl _ _) (Nat.le_refl _) (by simp) ?_;(case hd=>rfl);(case hg=>rfl);(case hr=>first|(go_simp;done)|(go_simp;rfl));(case hp=>exact (Reps.one (show Kd.M (Kd.int .u32) _ _ _ a0_6 [.int .u32 a0_6] from rfl) (Reps.one (show Kd.M (Kd.int .u32) _ _ _ a0_7 [.int .u32 a0_7] from rfl) (Reps.one (show Kd.M (Kd.int .u32) _ _ _ a0_8 [.int .u32 a0_8] from rfl) (Reps.one (show Kd.M (Kd.int .u32) _ _ _ a0_9 [.int .u32 a0_9] from rfl) (Reps.one (show Kd.M (Kd.int .u32) _ _ _ a0_10 [.int .u32 a0_10] from rfl) (Reps.one (show Kd.M (Kd.int .u32) _ _ _ a0_11 [.int .u32 a0_11] from rfl) (Reps.none _ _))))))));intro v280 w61 ho62 hb hg_ hnew_;clear hg_ hnew_;(first|rw [← Ny279.out] at ho62|(simp only [Int.reduceToNat] at ho62;rw [← Ny279.out] at ho62));have n5_:=mK (Kd.R_below (by (with_reducible repeat (first|apply rA|apply rN|apply rD));exact HO275.out) hb);have n6_:=mK (Kd.R_below (by (with_reducible repeat (first|apply rA|apply rN|apply rD));exact HO278.out) hb);have n7_:=mK (Kd.R_lower ho62 (below_size (by repeat (first|(with_reducible first|exact HB.out|apply lA|apply lN|apply lD|refine lS ?_ GE233.out)|exact HB.out))));have n8_:=mK (blk_below (g:=gb233) (o:=.cells #[.int .i64 a0_0,.int .u32 a0_1,.int .u32 a0_2,.int .u32 a0_3,.slice A0_4 l0_4.length c0_4,.int .i64 a0_5,.int .u32 a0_6,.int .u32 a0_7,.int .u32 a0_8,.int .u32 a0_9,.int .u32 a0_10,.int .u32 a0_11] 26 (0,0)) (by (with_reducible repeat (first|apply bN|apply bD|apply bA));exact BK233.out) hb);have n9_:=mK (below_step (by repeat (first|(with_reducible first|exact HB.out|apply lA|apply lN|apply lD|refine lS ?_ GE233.out)|exact HB.out)) hb);clear HO275;clear HO278;clear BK233;clear HB;have HO275:=n5_;have HO278:=n6_;have HO281:=n7_;have BK233:=n8_;have HB:=n9_;clear n5_ n6_ n7_ n8_ n9_;clear hb ho62))
            go_loopg [4,7] kj1 (fun kq v4 v7 w'=>∃ (x4_2 : List Int) (x7_2 : Int),v7 = .int .i64 x7_2∧Aside0 (drawbridgeref20_Put.l0 kq x4_2 y276 y279 x7_2 = some (r1,r2))∧Aside0 (kq ≤ kj1)∧Aside0 (Kd.R (Kd.int .u8) 5 w' w.heap.size (fun k_=>some k_ ≠ (v277 : Value).ownBlock) v4 x4_2)∧Aside0 (Kd.R (Kd.int .u8) 5 w' w.heap.size (fun k_=>some k_ ≠ (v4 : Value).ownBlock) v277 y276)∧Aside0 (Kd.R (Kd.int .u32) 24 w' w.heap.size (fun _=>True) v280 y279)∧Aside0 (w'.heap[gb233]? = some (.cells #[.int .i64 a0_0,.int .u32 a0_1,.int .u32 a0_2,.int .u32 a0_3,(.slice A0_4 l0_4.length c0_4),.int .i64 a0_5,.int .u32 a0_6,.int .u32 a0_7,.int .u32 a0_8,.int .u32 a0_9,.int .u32 a0_10,.int .u32 a0_11] 26 (0,0)))∧Aside0 (Below w.heap.size w w'))
            case atStart=>exact ⟨(y273),(0),(by first|rfl|(simp;done)|(simp [*];done)),H',⟨Nat.le_refl _⟩,⟨by (with_reducible repeat (first|apply rA|apply rN|apply rD));exact Kd.R_mono HO275.out (fun _ hk=>hk.2)⟩,⟨by (with_reducible repeat (first|apply rA|apply rN|apply rD));exact Kd.R_mono HO278.out (fun _ hk=>hk.2)⟩,⟨by (with_reducible repeat (first|apply rA|apply rN|apply rD));exact HO281.out⟩,⟨by (with_reducible repeat (first|apply bN|apply bD|apply bA));exact BK233.out⟩,⟨by repeat (first|(with_reducible first|exact HB.out|apply lA|apply lN|apply lD|refine lS ?_ GE233.out)|exact HB.out)⟩⟩
            case round =>
             clear H'
             try clear c2
             try clear p2
             try clear c22
             try clear c24
             try clear c25
             try clear c26
             try clear c27
             try clear c28
             try clear hcz60_0
             try clear hcz60_1
             try clear hcz60_10
             try clear hcz60_11
             try clear hcz60_2
             try clear hcz60_3
             try clear hcz60_4
             try clear hcz60_5
             try clear hcz60_6
             try clear hcz60_7
             try clear hcz60_8
             try clear hcz60_9
             try clear hfz60_0
             try clear hfz60_1
             try clear hfz60_10
             try clear hfz60_11
             try clear hfz60_2
             try clear hfz60_3
             try clear hfz60_4
             try clear hfz60_5
             try clear hfz60_6
             try clear hfz60_7
             try clear hfz60_8
             try clear hfz60_9
             obtain ⟨x4_2,x7_2,rfl,HA,HK2,HO_4,HO_5,HO_6,BK233,HB⟩:=hrel
             cases gk with
             |zero=>exact absurd HA.out (by simp [drawbridgeref20_Put.l0])
             |succ k2 =>
              have H:=HA.out
              clear HA
              simp only [drawbridgeref20_Put.l0] at H
              by_cases c63 : x7_2 < (y276.length : Int)
              ·rw [if_pos c63] at H
               have c63b0 : decide (x7_2 < (y276.length : Int)) = true:=decide_eq_true c63
               clear c63
               by_cases c64 : 0 ≤ x7_2
               ·rw [if_pos c64] at H
                have c64b0 : decide (0 ≤ x7_2) = true:=decide_eq_true c64
                clear c64
                by_cases c65 : x7_2 < (y279.length : Int)
                ·rw [if_pos c65] at H
                 have c65b0 : decide (x7_2 < (y279.length : Int)) = true:=decide_eq_true c65
                 clear c65
                 replace H:=Option.bind_eq_some_iff.mp H
                 obtain ⟨t284,A660,H⟩:=H
                 replace H : (if x4_2.length + t284.length < 140737488355328 then (drawbridgeref20_Put.l0 k2 (x4_2 ++ t284) y276 y279 (wrap64 (x7_2 + 1))) else (none)) = some (r1,r2):=H
                 have A66:=mK A660
                 clear A660
                 by_cases c67 : x4_2.length + t284.length < 140737488355328
                 ·rw [if_pos c67] at H
                  have LMc67:=mK c67
                  clear c67
                  obtain ⟨y287,hy287⟩ : ∃ y_ : List Int,y_ = (x4_2 ++ t284):=⟨_,rfl⟩
                  replace H : (drawbridgeref20_Put.l0 k2 y287 y276 y279 (wrap64 (x7_2 + 1))) = some (r1,r2):= by first|(rw [hy287];with_reducible exact H)|(have H2_:=(Option.bind_some _ _).symm.trans H;rw [hy287];with_reducible exact H2_)|(have H2_:=(Option.bind_some _ _).symm.trans H;with_reducible exact H2_)|with_reducible exact H|(rw [hy287];exact H)|exact H
                  have Ny287:=mK hy287
                  clear hy287
                  have H':=mK H
                  clear H
                  obtain ⟨Ao68,co68,eo68⟩:=Kd.R_slice HO_5.out
                  subst eo68
                  try go_wp2
                  have n0_:=mK (Kd.R_drew HO_4.out)
                  have n1_:=mK (Kd.R_drew HO_5.out)
                  have n2_:=mK (Kd.R_drew HO_6.out)
                  have n3_:=mK (blk_drew BK233.out)
                  have n4_:=mK (below_drew1 HB.out)
                  clear HO_4
                  clear HO_5
                  clear HO_6
                  clear BK233
                  clear HB
                  have HO_4:=n0_
                  have HO_5:=n1_
                  have HO_6:=n2_
                  have BK233:=n3_
                  have HB:=n4_
                  clear n0_ n1_ n2_ n3_ n4_
                  have p282 : 0 ≤ (x7_2 : Int):=of_decide_eq_true (by first|(with_reducible assumption)|assumption)
                  have q282 : x7_2 < (y276.length : Int):=of_decide_eq_true (by first|(with_reducible assumption)|assumption)
                  obtain ⟨ad282,e282,hx282_0⟩:=Kd.at_int (Kd.R_reads' HO_5.out).2.2 x7_2 p282 q282
                  cases e282
                  replace p282:=eq_true p282
                  replace q282:=eq_true q282
                  obtain ⟨Ao70,co70,eo70⟩:=Kd.R_slice HO_6.out
                  (first|subst eo70|(injection eo70 with f1_ f2_ f3_;have f4_:=f1_.symm;have f5_:=f3_.symm;clear f1_ f2_ f3_;subst f4_;subst f5_))
                  have p283 : 0 ≤ (x7_2 : Int):=of_decide_eq_true (by first|(with_reducible assumption)|assumption)
                  have q283 : x7_2 < (y279.length : Int):=of_decide_eq_true (by first|(with_reducible assumption)|assumption)
                  obtain ⟨ad283,e283,hx283_0⟩:=Kd.at_int (Kd.R_reads' HO_6.out).2.2 x7_2 p283 q283
                  cases e283
                  replace p283:=eq_true p283
                  replace q283:=eq_true q283
                  refine start_ (n:=12) (S:= fun w'=>w'.cell? (ad282.add (x7_2).toNat) = some (.int .u8 (rd y276 x7_2))∧w'.cell? (ad283.add (x7_2).toNat) = some (.int .u32 (rd y279 x7_2))) (ds:=[10]) #[φ,φ,φ,φ,φ,φ,φ,φ,φ,φ,φ,φ] (by kernel_rfl) rfl rfl ⟨hx282_0,hx283_0⟩ (fun hHeld=>?_);refine with_tabW drawbridgeref20_Put.tab12 drawbridgeref20_Put.bits12 (fun HT_ HW_=>?_)
                  generalize wr.drew = w69 at HO_4 HO_5 HO_6 BK233 HB hx282_0 hx283_0 hHeld ⊢
                  refine pure_ (i:=0) (N:=some 83) (v:=?_) (a':=?_) #[τ,φ,φ,φ,φ,φ,φ,φ,φ,φ,φ,φ] rfl rfl (any_of HT_.out (by kernel_rfl)) (fun _ _ _ h=>h) (Or.inl ⟨by rfl,?_⟩) ?_ ?_
                  rotate_left
                  ·intro w'
                   go_simp
                   with_reducible rfl
                  rotate_left
                  ·simp only [Act.put,sT,sZ,sS,i64_w,i32_w]
                   rfl
                  refine pure_ (i:=1) (N:=some 84) (v:=?_) (a':=?_) #[τ,τ,φ,φ,φ,φ,φ,φ,φ,φ,φ,φ] rfl rfl (any_of HT_.out (by kernel_rfl)) (fun _ _ _ h=>h) (Or.inl ⟨by rfl,?_⟩) ?_ ?_
                  rotate_left
                  ·intro w'
                   go_simp
                   with_reducible rfl
                  rotate_left
                  ·simp only [Act.put,sT,sZ,sS,i64_w,i32_w]
                   rfl
                  refine pure_ (i:=2) (N:=some 85) (v:=?_) (a':=?_) #[τ,τ,τ,φ,φ,φ,φ,φ,φ,φ,φ,φ] rfl rfl (any_of HT_.out (by kernel_rfl)) (fun _ _ _ h=>h) (Or.inl ⟨by rfl,?_⟩) ?_ ?_
                  rotate_left
                  ·intro w'
                   go_simp
                   with_reducible rfl
                  rotate_left
                  ·simp only [Act.put,sT,sZ,sS,i64_w,i32_w]
                   rfl
                  refine pure_ (i:=3) (N:=some 86) (v:=?_) (a':=?_) #[τ,τ,τ,τ,φ,φ,φ,φ,φ,φ,φ,φ] rfl rfl (any_of HT_.out (by kernel_rfl)) (fun _ _ _ h=>h) (Or.inl ⟨by rfl,?_⟩) ?_ ?_
                  rotate_left
                  ·intro w'
                   go_simp
                   with_reducible rfl
                  rotate_left
                  ·simp only [Act.put,sT,sZ,sS,i64_w,i32_w]
                   rfl
                  refine pure_ (i:=5) (N:=some 88) (v:=?_) (a':=?_) #[τ,τ,τ,τ,φ,τ,φ,φ,φ,φ,φ,φ] rfl rfl (any_of HT_.out (by kernel_rfl)) (fun _ _ _ h=>h) (Or.inl ⟨by rfl,?_⟩) ?_ ?_
                  rotate_left
                  ·intro w'
                   go_simp
                   with_reducible rfl
                  rotate_left
                  ·simp only [Act.put,sT,sZ,sS,i64_w,i32_w]
                   rfl
                  refine pure_ (i:=6) (N:=some 89) (v:=?_) (a':=?_) #[τ,τ,τ,τ,φ,τ,τ,φ,φ,φ,φ,φ] rfl rfl (any_of HT_.out (by kernel_rfl)) (fun _ _ _ h=>h) (Or.inl ⟨by rfl,?_⟩) ?_ ?_
                  rotate_left
                  ·intro w'
                   go_simp
                   with_reducible rfl
                  rotate_left
                  ·simp only [Act.put,sT,sZ,sS,i64_w,i32_w]
                   rfl
                  refine pure_ (i:=7) (N:=some 90) (v:=?_) (a':=?_) #[τ,τ,τ,τ,φ,τ,τ,τ,φ,φ,φ,φ] rfl rfl (any_of HT_.out (by kernel_rfl)) (fun _ _ _ h=>h) (Or.inl ⟨by rfl,?_⟩) ?_ ?_
                  rotate_left
                  ·intro w'
                   go_simp
                   with_reducible rfl
                  rotate_left
                  ·simp only [Act.put,sT,sZ,sS,i64_w,i32_w]
                   rfl
                  refine take_ (i:=4) (N:=some 87) (v:=?_) (a':=?_) #[τ,τ,τ,τ,τ,τ,τ,τ,φ,φ,φ,φ] rfl rfl (take_ofW HT_.out HW_.out (by kernel_rfl)) (fun _ _ _ h=>h) (Or.inl ⟨by rfl,?_⟩) hHeld ?_ ?_
                  rotate_left
                  ·rintro w' ⟨s0,s1⟩
                   go_simp
                   with_reducible rfl
                  rotate_left
                  ·simp only [Act.put,sT,sZ,sS,i64_w,i32_w]
                   rfl
                  refine take_ (i:=8) (N:=some 91) (v:=?_) (a':=?_) #[τ,τ,τ,τ,τ,τ,τ,τ,τ,φ,φ,φ] rfl rfl (take_ofW HT_.out HW_.out (by kernel_rfl)) (fun _ _ _ h=>h) (Or.inl ⟨by rfl,?_⟩) hHeld ?_ ?_
                  rotate_left
                  ·rintro w' ⟨s0,s1⟩
                   go_simp
                   with_reducible rfl
                  rotate_left
                  ·simp only [Act.put,sT,sZ,sS,i64_w,i32_w]
                   rfl
                  refine one_ (i:=9) (N:=some 92) #[τ,τ,τ,τ,τ,τ,τ,τ,τ,τ,φ,φ] rfl rfl (one_of HT_.out (by kernel_rfl)) (by decide) (fun K hK=>?_)
                  refine goes_ Try.func23 (by kernel_rfl) rfl #[.int .u8 (rd y276 x7_2),.int .u32 (rd y279 x7_2)] (by rfl) rfl rfl (by (try simp only [List.map_toArray,List.map_cons,List.map_nil]);first|done|rfl|(simp only [List.length_drop,List.length_take];rfl)) ?_
                  with_reducible refine (drawbridgeref20_option.calls k2 (rd y276 x7_2) (rd y279 x7_2) t284 _ A66.out).mono ?_
                  rintro e w71 ⟨v285,rfl,ho0,hb⟩
                  have HS0_:=(hb.cell (World.block_lt_of_cell? _ _ (hHeld.1))).trans (hHeld.1)
                  have HS1_:=(hb.cell (World.block_lt_of_cell? _ _ (hHeld.2))).trans (hHeld.2)
                  refine ⟨_,rfl,?_⟩
                  have n0_:=mK (Kd.R_elder' (by (with_reducible repeat (first|apply rA|apply rN|apply rD));exact HO_4.out) (Kd.R_base ho0) hb)
                  have n1_:=mK (Kd.R_elder' (by (with_reducible repeat (first|apply rA|apply rN|apply rD));exact HO_5.out) (Kd.R_base ho0) hb)
                  have n2_:=mK (Kd.R_below (by (with_reducible repeat (first|apply rA|apply rN|apply rD));exact HO_6.out) hb)
                  have n3_:=mK (Kd.R_lower (Kd.R_new' (Kd.R_new' ho0 (Kd.R_lt (by (with_reducible repeat (first|apply rA|apply rN|apply rD));exact HO_4.out))) (Kd.R_lt (by (with_reducible repeat (first|apply rA|apply rN|apply rD));exact HO_5.out))) (below_size (by repeat (first|(with_reducible first|exact HB.out|apply lA|apply lN|apply lD|refine lS ?_ GE233.out)|exact HB.out))))
                  have n4_:=mK (blk_below (g:=gb233) (o:=.cells #[.int .i64 a0_0,.int .u32 a0_1,.int .u32 a0_2,.int .u32 a0_3,.slice A0_4 l0_4.length c0_4,.int .i64 a0_5,.int .u32 a0_6,.int .u32 a0_7,.int .u32 a0_8,.int .u32 a0_9,.int .u32 a0_10,.int .u32 a0_11] 26 (0,0)) (by (with_reducible repeat (first|apply bN|apply bD|apply bA));exact BK233.out) hb)
                  have n5_:=mK (below_step (by repeat (first|(with_reducible first|exact HB.out|apply lA|apply lN|apply lD|refine lS ?_ GE233.out)|exact HB.out)) hb)
                  clear HO_4
                  clear HO_5
                  clear HO_6
                  clear BK233
                  clear HB
                  have HO_4:=n0_
                  have HO_5:=n1_
                  have HO_6:=n2_
                  have HO286:=n3_
                  have BK233:=n4_
                  have HB:=n5_
                  clear n0_ n1_ n2_ n3_ n4_ n5_
                  (try clear hb)
                  (try clear hb2)
                  (try clear hk)
                  (try clear hi)
                  (try clear ho0)
                  obtain ⟨Ao73,co73,eo73⟩:=Kd.R_slice HO286.out
                  (first|subst eo73|(injection eo73 with f1_ f2_ f3_;have f4_:=f1_.symm;have f5_:=f3_.symm;clear f1_ f2_ f3_;subst f4_;subst f5_))
                  refine hK.out _ _ ⟨HS0_,HS1_⟩ (fun hHeld=>?_)
                  clear hK K
                  refine norm_ (a':=?_) ?_ ?_
                  rotate_left
                  ·show Act.put _ (some 92) _ = _
                   simp only [Act.put,sT,sZ,sS,i64_w,i32_w]
                   rfl
                  refine last_ (i:=10) (N:=some 93) #[τ,τ,τ,τ,τ,τ,τ,τ,τ,τ,τ,φ] rfl rfl (one_of HT_.out (by kernel_rfl)) (by decide) (fun K hK=>?_)
                  refine Kd.R_append_rows_step (Kd.int .u8) (w0:=w) w.heap.size (by rfl) (.tmp 83) (.tmp 92) 22 5 (.int .u8 0) 1 rfl Try.underlying22 info5 rfl (by decide) (by omega) u4 x4_2 t284 _ _ _ (fun k_=>some k_ ≠ (.slice (some ad282) y276.length co68 : Value).ownBlock∧some k_ ≠ (.slice Ao73 t284.length co73 : Value).ownBlock) (fun _=>False) rfl rfl ?aO ?aR (fun _ _ h=>h) (fun _ h=>h.elim) ?aF ?aB ?aS ?aL ?_
                  (case aR=>repeat (first|exact (Kd.R_reads' HO286.out).2.2|(with_reducible refine Kd.C_alloc ?_ _)|(with_reducible refine Kd.C_drewN ?_ _)|(with_reducible refine Kd.C_drew ?_)))
                  (case aB=>exact (by repeat (first|(with_reducible first|exact HB.out|apply lA|apply lN|apply lD|refine lS ?_ GE233.out)|exact HB.out)))
                  (case aF=>exact (fun k_ hk=>⟨Kd.fresh' (Kd.R_lt (by (with_reducible repeat (first|apply rA|apply rN|apply rD));exact HO_5.out)) k_ hk,Kd.fresh' (Kd.R_lt (by (with_reducible repeat (first|apply rA|apply rN|apply rD));exact HO286.out)) k_ hk⟩))
                  (case aO=>exact (by (with_reducible repeat (first|apply rA|apply rN|apply rD));exact HO_4.out))
                  (case aS=>exact (below_size (by repeat (first|(with_reducible first|exact HB.out|apply lA|apply lN|apply lD|refine lS ?_ GE233.out)|exact HB.out))))
                  (case aL=>have:=LMc67.out;omega)
                  intro v288 w72 ho hb hg hat
                  first|rw [← Ny287.out] at ho|(simp only [Int.reduceToNat] at ho;rw [← Ny287.out] at ho)
                  have n0_:=mK (Kd.R_after (ok:=(fun k_=>some k_ ≠ (.slice Ao73 t284.length co73 : Value).ownBlock)) (by (with_reducible repeat (first|apply rA|apply rN|apply rD));exact Kd.R_mono HO_5.out (fun _ hk=>⟨hk.2,hk.1⟩)) hg hat)
                  have n1_:=mK (Kd.R_over' (by (with_reducible repeat (first|apply rA|apply rN|apply rD));exact HO_6.out) (Kd.R_typed (by (with_reducible repeat (first|apply rA|apply rN|apply rD));exact HO_4.out)) (by decide) hg)
                  have n2_:=mK (blk_grown (g:=gb233) (o:=.cells #[.int .i64 a0_0,.int .u32 a0_1,.int .u32 a0_2,.int .u32 a0_3,.slice A0_4 l0_4.length c0_4,.int .i64 a0_5,.int .u32 a0_6,.int .u32 a0_7,.int .u32 a0_8,.int .u32 a0_9,.int .u32 a0_10,.int .u32 a0_11] 26 (0,0)) (by (with_reducible repeat (first|apply bN|apply bD|apply bA));exact BK233.out) hg (Kd.R_ne HO_4.out BK233.out (by decide)))
                  have n4_:=mK (hb)
                  have n5_:=mK (ho)
                  clear HO_5
                  clear HO_6
                  clear BK233
                  clear HB
                  clear HO_4
                  have HO_5:=n0_
                  have HO_6:=n1_
                  have BK233:=n2_
                  have HB:=n4_
                  have HO289:=n5_
                  clear n0_ n1_ n2_ n4_ n5_
                  clear ho hb hg hat
                  refine hK.out _ _ ?_
                  clear hK K
                  refine norm_ (a':=?_) ?_ ?_
                  rotate_left
                  ·show Act.put _ (some 93) _ = _
                   simp only [Act.put,sT,sZ,sS,i64_w,i32_w]
                   rfl
                  refine pure_ (i:=11) (N:=some 4) (v:=?_) (a':=?_) #[τ,τ,τ,τ,τ,τ,τ,τ,τ,τ,τ,τ] rfl rfl (any_of HT_.out (by kernel_rfl)) (fun _ _ _ h=>h) (Or.inl ⟨by rfl,?_⟩) ?_ ?_
                  rotate_left
                  ·intro w'
                   go_simp
                   with_reducible rfl
                  rotate_left
                  ·simp only [Act.put,sT,sZ,sS,i64_w,i32_w]
                   rfl
                  refine done_ (done_of HT_.out (by kernel_rfl)) ?_
                  try go_wp2
                  go_roundg k2
                  case measure=>have:=HJ1.out;have:=HK2.out;omega
                  case rel=>exact ⟨(y287),(wrap64 (x7_2 + 1)),(by first|rfl|(simp;done)|(simp [*];done)),H',⟨by have:=HJ1.out;have:=HK2.out;omega⟩,⟨by (with_reducible repeat (first|apply rA|apply rN|apply rD));exact Kd.R_mono HO289.out (fun _ hk=>hk.1)⟩,⟨by (with_reducible repeat (first|apply rA|apply rN|apply rD));exact Kd.R_mono HO_5.out (fun _ hk=>hk.2)⟩,⟨by (with_reducible repeat (first|apply rA|apply rN|apply rD));exact HO_6.out⟩,⟨by (with_reducible repeat (first|apply bN|apply bD|apply bA));exact BK233.out⟩,⟨by repeat (first|(with_reducible first|exact HB.out|apply lA|apply lN|apply lD|refine lS ?_ GE233.out)|exact HB.out)⟩⟩
                 ·rw [if_neg c67] at H
                  exact absurd H (by simp)
                ·rw [if_neg c65] at H
                 exact absurd H (by simp)
               ·rw [if_neg c64] at H
                exact absurd H (by simp)
              ·rw [if_neg c63] at H
               have c63b0 : decide (x7_2 < (y276.length : Int)) = false:=decide_eq_false c63
               clear c63
               by_cases c74 : x4_2.length < 140737488355328
               ·rw [if_pos c74] at H
                have LMc74:=mK c74
                clear c74
                obtain ⟨y290,hy290⟩ : ∃ y_ : List Int,y_ = (x4_2 ++ [255]):=⟨_,rfl⟩
                replace H : (some (y290,0)) = some (r1,r2):= by first|(rw [hy290];with_reducible exact H)|(have H2_:=(Option.bind_some _ _).symm.trans H;rw [hy290];with_reducible exact H2_)|(have H2_:=(Option.bind_some _ _).symm.trans H;with_reducible exact H2_)|with_reducible exact H|(rw [hy290];exact H)|exact H
                have Ny290:=mK hy290
                clear hy290
                simp only [Option.some.injEq,Prod.mk.injEq] at H
                obtain ⟨rfl,rfl⟩:=H
                obtain ⟨Ao75,co75,eo75⟩:=Kd.R_slice HO_5.out
                subst eo75
                go_wp2_with (first|((with_reducible refine gate_builtin (b:=.append) (xs:=#[.tmp 94,.tmp 95]) rfl ?_);(try (refine gate_guard (by rfl) ?_;dsimp only));at_builtin;refine Kd.R_append (Kd.int .u8) (w0:=w) w.heap.size rfl (.tmp 94) (.tmp 95) 22 5 (.int .u8 0) 1 rfl Try.underlying22 info5 rfl (by decide) (by omega) u4 x4_2 255 [.int .u8 255] (fun k_=>some k_ ≠ (.slice Ao75 y276.length co75 : Value).ownBlock) (fun _=>False) rfl rfl ?aP (fun _ hk=>hk.elim) ?aF ?aO ?aB ?aS ?aL ?_;(case aP=>exact rfl);(case aB=>exact (by repeat (first|(with_reducible first|exact HB.out|apply lA|apply lN|apply lD|refine lS ?_ GE233.out)|exact HB.out)));(case aF=>exact (fun k_ hk=>Kd.fresh' (Kd.R_lt (by (with_reducible repeat (first|apply rA|apply rN|apply rD));exact HO_5.out)) k_ hk));(case aO=>exact (by (with_reducible repeat (first|apply rA|apply rN|apply rD));exact HO_4.out));(case aS=>exact (below_size (by repeat (first|(with_reducible first|exact HB.out|apply lA|apply lN|apply lD|refine lS ?_ GE233.out)|exact HB.out))));(case aL=>have:=LMc74.out;omega);intro v291 w76 ho hb hg hat;rw [← Ny290.out] at ho;have n3_:=mK (hb);have n4_:=mK (ho);clear HB;clear HO_4;have HB:=n3_;have HO292:=n4_;clear n3_ n4_;clear ho hb hg hat))
                go_ret2
                exact ⟨_,by first|rfl|(simp [errW_none,errW_some] <;> rfl)|(simp [*,errW_none,errW_some] <;> rfl),by (with_reducible repeat (first|apply rA|apply rN|apply rD));exact Kd.R_mono HO292.out (fun _ hk=>trivial),by repeat (first|(with_reducible first|exact HB.out|apply lA|apply lN|apply lD|refine lS ?_ GE233.out)|exact HB.out)⟩
               ·rw [if_neg c74] at H
                exact absurd H (by simp)
           ·rw [if_neg c28] at H
            exact absurd H (by simp)
          ·rw [if_neg c27] at H
           exact absurd H (by simp)
         ·rw [if_neg c26] at H
          exact absurd H (by simp)
        ·rw [if_neg c25] at H
         exact absurd H (by simp)
       ·rw [if_neg c24] at H
        exact absurd H (by simp)
      ·rw [if_neg c22] at H
       exact absurd H (by simp)
     ·rw [if_neg c20] at H
      exact absurd H (by simp)
    ·rw [if_neg c19] at H
     exact absurd H (by simp)

end Go.Proofs.Ytpbofaghnfheiaa.P
