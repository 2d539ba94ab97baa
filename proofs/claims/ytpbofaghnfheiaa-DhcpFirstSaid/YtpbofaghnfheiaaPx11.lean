/- Contracts of functions of the seat, written by a program of this session (with the kit's print) for the laws of this claim; no condition beside what each states. -/
import Derived.Test.YtpbofaghnfheiaaPx0
import Derived.Test.YtpbofaghnfheiaaPx3
import Derived.Test.YtpbofaghnfheiaaPx5
namespace Go.Proofs.Ytpbofaghnfheiaa.P
open Go.Proofs.Ytpbofaghnfheiaa.Aux Go.RowKit Go.Proofs.YtpbofaghnfheiaaW.PrintWords Go.Proofs.YtpbofaghnfheiaaW.PrintLast Go.Proofs.YtpbofaghnfheiaaW.PrintMore
attribute [local go_sem] max2_int min2_int max_two min_two max_three min_three max_four min_four   -- for this text's walks alone
set_option linter.unusedVariables false
set_option linter.unusedSimpArgs false

/-! ### drawbridgelaw20_DhcpFirst: function 6 -/
mutual
def drawbridgelaw20_DhcpFirst.j0 : Nat → Int → List Int → Int → Bool → Int → Int → Int → Int → List Int → Int → Int → Int → Int → Int → Int → Int → Option (Bool)
 | 0, _, _, _, _, _, _, _, _, _, _, _, _, _, _, _, _ => none
 | k + 1, x1, x2, x3, x30, x376000, x376001, x376002, x376003, x376004, x376005, x376006, x376007, x376008, x376009, x376010, x376011 => if x30 = true then ((drawbridgelaw20_heads.f k).bind fun t376 => (some t376)) else ((dhcp_Put.f k x376000 x376001 x376002 x376003 x376004 x376005 x376006 x376007 x376008 x376009 x376010 x376011).bind fun bt377 => (if bt377.2 = 0 then (drawbridgelaw20_DhcpFirst.j1 k x1 x2 x3 bt377.1 bt377.2 (decide ((bt377.1.length : Int) < 240)) x376000 x376001 x376002 x376003 x376004 x376005 x376006 x376007 x376008 x376009 x376010 x376011) else (drawbridgelaw20_DhcpFirst.j1 k x1 x2 x3 bt377.1 bt377.2 true x376000 x376001 x376002 x376003 x376004 x376005 x376006 x376007 x376008 x376009 x376010 x376011)))
def drawbridgelaw20_DhcpFirst.j1 : Nat → Int → List Int → Int → List Int → Int → Bool → Int → Int → Int → Int → List Int → Int → Int → Int → Int → Int → Int → Int → Option (Bool)
 | 0, _, _, _, _, _, _, _, _, _, _, _, _, _, _, _, _, _, _ => none
 | k + 1, x1, x2, x3, x9, x10, x43, x376000, x376001, x376002, x376003, x376004, x376005, x376006, x376007, x376008, x376009, x376010, x376011 => if x43 = true then (if x10 = 0 then (some false) else ((drawbridgelaw20_heads.f k).bind fun t381 => (some t381))) else (if 0 ≤ x3 then (if (x3 : Int).toNat ≤ 281474976710656 then ((some (List.replicate (x3 : Int).toNat 0 : List Int)).bind fun y382 => ((some (([50, 4, (x1 / 16777216) % 256, (x1 / 65536) % 256, (x1 / 256) % 256, (x1) % 256, 200, ((x2.length : Int)) % 256] : List Int) : List Int)).bind fun y385 => (if y382.length + y385.length < 140737488355328 then ((some (y382 ++ y385 : List Int)).bind fun y388 => ((some (([] : List Int) : List Int)).bind fun y391 => (if 240 ≤ (x9.length : Int) then ((some (x9.take 240 : List Int)).bind fun y394 => (if y391.length + y394.length < 140737488355328 then ((some (y391 ++ y394 : List Int)).bind fun y398 => (if y398.length + y388.length < 140737488355328 then ((some (y398 ++ y388 : List Int)).bind fun y401 => (if y401.length + x2.length < 140737488355328 then ((some (y401 ++ x2 : List Int)).bind fun y404 => ((some (x9.drop 240 : List Int)).bind fun y407 => (if y404.length + y407.length < 140737488355328 then ((dhcp_Get.f k (y404 ++ y407)).bind fun bt414 => (if bt414.2.2.2.2.2.2.2.2.2.2.2.2 = 0 then ((drawbridgeref20_Same.f bt414.1 bt414.2.1 bt414.2.2.1 bt414.2.2.2.1 bt414.2.2.2.2.1 bt414.2.2.2.2.2.1 bt414.2.2.2.2.2.2.1 bt414.2.2.2.2.2.2.2.1 bt414.2.2.2.2.2.2.2.2.1 bt414.2.2.2.2.2.2.2.2.2.1 bt414.2.2.2.2.2.2.2.2.2.2.1 bt414.2.2.2.2.2.2.2.2.2.2.2.1 x376000 x376001 x376002 x376003 x376004 x376005 x1 x376007 x376008 x376009 x376010 x376011).bind fun t431 => (if t431 = true then ((drawbridgelaw20_heads.f k).bind fun t432 => (some t432)) else (some false))) else (some false))) else (none)))) else (none))) else (none))) else (none))) else (none)))) else (none)))) else (none)) else (none))
end
def drawbridgelaw20_DhcpFirst.f (k : Nat) (a0_0 : Int) (a0_1 : Int) (a0_2 : Int) (a0_3 : Int) (l0_4 : List Int) (a0_5 : Int) (a0_6 : Int) (a0_7 : Int) (a0_8 : Int) (a0_9 : Int) (a0_10 : Int) (a0_11 : Int) (a1 : Int) (l2 : List Int) (a3 : Int) : Option (Bool) := if (l2.length : Int) > 255 then (drawbridgelaw20_DhcpFirst.j0 k a1 l2 a3 true a0_0 a0_1 a0_2 a0_3 l0_4 a0_5 a0_6 a0_7 a0_8 a0_9 a0_10 a0_11) else (if a3 < 0 then (drawbridgelaw20_DhcpFirst.j0 k a1 l2 a3 true a0_0 a0_1 a0_2 a0_3 l0_4 a0_5 a0_6 a0_7 a0_8 a0_9 a0_10 a0_11) else (if a3 > 100 then (drawbridgelaw20_DhcpFirst.j0 k a1 l2 a3 true a0_0 a0_1 a0_2 a0_3 l0_4 a0_5 a0_6 a0_7 a0_8 a0_9 a0_10 a0_11) else (drawbridgelaw20_DhcpFirst.j0 k a1 l2 a3 (a1 == 0) a0_0 a0_1 a0_2 a0_3 l0_4 a0_5 a0_6 a0_7 a0_8 a0_9 a0_10 a0_11)))
theorem drawbridgelaw20_DhcpFirst.mono_l : ∀ k, (∀ y0 y1 y2 y3 y4 y5 y6 y7 y8 y9 y10 y11 y12 y13 y14 y15, LeO (drawbridgelaw20_DhcpFirst.j0 k y0 y1 y2 y3 y4 y5 y6 y7 y8 y9 y10 y11 y12 y13 y14 y15) (drawbridgelaw20_DhcpFirst.j0 (k + 1) y0 y1 y2 y3 y4 y5 y6 y7 y8 y9 y10 y11 y12 y13 y14 y15)) ∧ (∀ y0 y1 y2 y3 y4 y5 y6 y7 y8 y9 y10 y11 y12 y13 y14 y15 y16 y17, LeO (drawbridgelaw20_DhcpFirst.j1 k y0 y1 y2 y3 y4 y5 y6 y7 y8 y9 y10 y11 y12 y13 y14 y15 y16 y17) (drawbridgelaw20_DhcpFirst.j1 (k + 1) y0 y1 y2 y3 y4 y5 y6 y7 y8 y9 y10 y11 y12 y13 y14 y15 y16 y17))
 | 0 => ⟨fun _ _ _ _ _ _ _ _ _ _ _ _ _ _ _ _ r h => by simp [drawbridgelaw20_DhcpFirst.j0] at h, fun _ _ _ _ _ _ _ _ _ _ _ _ _ _ _ _ _ _ r h => by simp [drawbridgelaw20_DhcpFirst.j1] at h⟩
 | k + 1 => by
  obtain ⟨ih0, ih1⟩ := drawbridgelaw20_DhcpFirst.mono_l k
  refine ⟨?_, ?_⟩
  ·intro y0 y1 y2 y3 y4 y5 y6 y7 y8 y9 y10 y11 y12 y13 y14 y15
   unfold drawbridgelaw20_DhcpFirst.j0
   repeat' first
   | (with_reducible exact ih0 _ _ _ _ _ _ _ _ _ _ _ _ _ _ _ _)
   | (with_reducible exact ih1 _ _ _ _ _ _ _ _ _ _ _ _ _ _ _ _ _ _)
   | (with_reducible exact dhcp_Get.mono _ _)
   | (with_reducible exact dhcp_Put.mono _ _ _ _ _ _ _ _ _ _ _ _ _)
   | (with_reducible exact drawbridgelaw20_heads.mono _)
   | (with_reducible exact LeO.refl _)
   | (with_reducible exact LeO.none _)
   | (with_reducible refine LeO.ite ?_ ?_)
   | (with_reducible refine LeO.bind ?_ (fun _ => ?_))
   | exact ih0 _ _ _ _ _ _ _ _ _ _ _ _ _ _ _ _
   | exact ih1 _ _ _ _ _ _ _ _ _ _ _ _ _ _ _ _ _ _
   | exact dhcp_Get.mono _ _
   | exact dhcp_Put.mono _ _ _ _ _ _ _ _ _ _ _ _ _
   | exact drawbridgelaw20_heads.mono _
   | exact LeO.none _
   | refine LeO.ite ?_ ?_
   | refine LeO.bind ?_ (fun _ => ?_)
  ·intro y0 y1 y2 y3 y4 y5 y6 y7 y8 y9 y10 y11 y12 y13 y14 y15 y16 y17
   unfold drawbridgelaw20_DhcpFirst.j1
   repeat' first
   | (with_reducible exact ih0 _ _ _ _ _ _ _ _ _ _ _ _ _ _ _ _)
   | (with_reducible exact ih1 _ _ _ _ _ _ _ _ _ _ _ _ _ _ _ _ _ _)
   | (with_reducible exact dhcp_Get.mono _ _)
   | (with_reducible exact dhcp_Put.mono _ _ _ _ _ _ _ _ _ _ _ _ _)
   | (with_reducible exact drawbridgelaw20_heads.mono _)
   | (with_reducible exact LeO.refl _)
   | (with_reducible exact LeO.none _)
   | (with_reducible refine LeO.ite ?_ ?_)
   | (with_reducible refine LeO.bind ?_ (fun _ => ?_))
   | exact ih0 _ _ _ _ _ _ _ _ _ _ _ _ _ _ _ _
   | exact ih1 _ _ _ _ _ _ _ _ _ _ _ _ _ _ _ _ _ _
   | exact dhcp_Get.mono _ _
   | exact dhcp_Put.mono _ _ _ _ _ _ _ _ _ _ _ _ _
   | exact drawbridgelaw20_heads.mono _
   | exact LeO.none _
   | refine LeO.ite ?_ ?_
   | refine LeO.bind ?_ (fun _ => ?_)
theorem drawbridgelaw20_DhcpFirst.mono : ∀ a0 a1 a2 a3 a4 a5 a6 a7 a8 a9 a10 a11 a12 a13 a14 k, LeO (drawbridgelaw20_DhcpFirst.f k a0 a1 a2 a3 a4 a5 a6 a7 a8 a9 a10 a11 a12 a13 a14) (drawbridgelaw20_DhcpFirst.f (k + 1) a0 a1 a2 a3 a4 a5 a6 a7 a8 a9 a10 a11 a12 a13 a14) := by
 intro a0 a1 a2 a3 a4 a5 a6 a7 a8 a9 a10 a11 a12 a13 a14 k
 obtain ⟨ih0, ih1⟩ := drawbridgelaw20_DhcpFirst.mono_l k
 unfold drawbridgelaw20_DhcpFirst.f
 repeat' first
   | (with_reducible exact ih0 _ _ _ _ _ _ _ _ _ _ _ _ _ _ _ _)
   | (with_reducible exact ih1 _ _ _ _ _ _ _ _ _ _ _ _ _ _ _ _ _ _)
   | (with_reducible exact dhcp_Get.mono _ _)
   | (with_reducible exact dhcp_Put.mono _ _ _ _ _ _ _ _ _ _ _ _ _)
   | (with_reducible exact drawbridgelaw20_heads.mono _)
   | (with_reducible exact LeO.refl _)
   | (with_reducible exact LeO.none _)
   | (with_reducible refine LeO.ite ?_ ?_)
   | (with_reducible refine LeO.bind ?_ (fun _ => ?_))
   | exact ih0 _ _ _ _ _ _ _ _ _ _ _ _ _ _ _ _
   | exact ih1 _ _ _ _ _ _ _ _ _ _ _ _ _ _ _ _ _ _
   | exact dhcp_Get.mono _ _
   | exact dhcp_Put.mono _ _ _ _ _ _ _ _ _ _ _ _ _
   | exact drawbridgelaw20_heads.mono _
   | exact LeO.none _
   | refine LeO.ite ?_ ?_
   | refine LeO.bind ?_ (fun _ => ?_)
def drawbridgelaw20_DhcpFirst.T7 : Bool × List (List Nat × List Nat) := (true, [([], []), ([], []), ([1], [1]), ([0, 2], [0, 2]), ([], []), ([3, 4, 3], [3, 4]), ([], []), ([5, 6, 5], [5, 6]), ([], []), ([8], [8]), ([7, 9, 7], [7, 9]), ([10, 10, 0, 1, 2, 3, 4, 5, 6, 7, 8, 9, 10], [10])])
def drawbridgelaw20_DhcpFirst.B7 : List Nat := [0, 0, 2, 7, 0, 31, 0, 127, 0, 256, 1023, 2047]
theorem drawbridgelaw20_DhcpFirst.tab7 : rtab .any (opsOf Try.f6 7) = drawbridgelaw20_DhcpFirst.T7 := by kernel_rfl
theorem drawbridgelaw20_DhcpFirst.bits7 : waitsOk drawbridgelaw20_DhcpFirst.T7.2 drawbridgelaw20_DhcpFirst.B7 = true := by kernel_rfl

set_option maxHeartbeats 8000000 in
set_option maxRecDepth 100000 in
theorem drawbridgelaw20_DhcpFirst.calls (k : Nat) (a0_0 : Int) (a0_1 : Int) (a0_2 : Int) (a0_3 : Int) (A0_4 : Option Addr) (c0_4 : Nat) (l0_4 : List Int) (a0_5 : Int) (a0_6 : Int) (a0_7 : Int) (a0_8 : Int) (a0_9 : Int) (a0_10 : Int) (a0_11 : Int) (a1 : Int) (A2 : Option Addr) (c2 : Nat) (l2 : List Int) (a3 : Int) (r : Bool) (w : World) (hr0_4 : Kd.C (Kd.int .u8) w A0_4 l0_4.length l0_4) (hc0_4 : l0_4.length ≤ c0_4) (hr2 : Kd.C (Kd.int .u8) w A2 l2.length l2) (hc2 : l2.length ≤ c2) (hT_ : r = true) (h : drawbridgelaw20_DhcpFirst.f k a0_0 a0_1 a0_2 a0_3 l0_4 a0_5 a0_6 a0_7 a0_8 a0_9 a0_10 a0_11 a1 l2 a3 = some r) :
  Calls Try.prog 6 #[.agg #[.int .i64 a0_0, .int .u32 a0_1, .int .u32 a0_2, .int .u32 a0_3, .slice A0_4 l0_4.length c0_4, .int .i64 a0_5, .int .u32 a0_6, .int .u32 a0_7, .int .u32 a0_8, .int .u32 a0_9, .int .u32 a0_10, .int .u32 a0_11], .int .u32 a1, .slice A2 l2.length c2, .int .i64 a3] w fun e w' => e = .returned (.bool r) ∧ Below w.heap.size w w' := by
 have HTr_:=mK hT_
 clear hT_
 have hu26:=Try.underlying26
 have HR0_4:=mK hr0_4
 have HC0_4:=mK hc0_4
 clear hr0_4 hc0_4
 have HR2:=mK hr2
 have HC2:=mK hc2
 clear hr2 hc2
 have HB:=mK (Below.refl w.heap.size w)
 have H : (if (l2.length : Int) > 255 then (drawbridgelaw20_DhcpFirst.j0 k a1 l2 a3 true a0_0 a0_1 a0_2 a0_3 l0_4 a0_5 a0_6 a0_7 a0_8 a0_9 a0_10 a0_11) else (if a3 < 0 then (drawbridgelaw20_DhcpFirst.j0 k a1 l2 a3 true a0_0 a0_1 a0_2 a0_3 l0_4 a0_5 a0_6 a0_7 a0_8 a0_9 a0_10 a0_11) else (if a3 > 100 then (drawbridgelaw20_DhcpFirst.j0 k a1 l2 a3 true a0_0 a0_1 a0_2 a0_3 l0_4 a0_5 a0_6 a0_7 a0_8 a0_9 a0_10 a0_11) else (drawbridgelaw20_DhcpFirst.j0 k a1 l2 a3 (a1 == 0) a0_0 a0_1 a0_2 a0_3 l0_4 a0_5 a0_6 a0_7 a0_8 a0_9 a0_10 a0_11)))) = some r:=h
 clear h
 have HC5:=mK H
 clear H
 go_enter Try.func6,Try.ntmps6
 go_upto_region 1 with (first|((with_reducible refine gate_dst (N:=4) rfl ?_);(try (refine gate_guard (by rfl) ?_;dsimp only));refine box_event ?hg (N:=4) ?hd (cs:=#[.int .i64 a0_0,.int .u32 a0_1,.int .u32 a0_2,.int .u32 a0_3,.slice A0_4 l0_4.length c0_4,.int .i64 a0_5,.int .u32 a0_6,.int .u32 a0_7,.int .u32 a0_8,.int .u32 a0_9,.int .u32 a0_10,.int .u32 a0_11]) (t:=26) ?hr ?_;(case hd=>rfl);(case hg=>rfl);(case hr=>first|(go_simp;done)|(go_simp;rfl));intro gb375 hg w6 hbox hb;have n0_:=mK (below_step (by repeat (first|(with_reducible first|exact HB.out|apply lA|apply lN|apply lD)|exact HB.out)) hb);have n1_:=mK (hbox);have n3_:=mK ((by rw [hg];exact (below_size (by repeat (first|(with_reducible first|exact HB.out|apply lA|apply lN|apply lD)|exact HB.out))) : w.heap.size ≤ gb375));clear HB;have HB:=n0_;have BK375:=n1_;have GE375:=n3_;clear n0_ n1_ n3_;clear hb hbox hg))
 (try simp only [Act.put,sT,sZ,sS])
 go_cut [30] (fun v30 wc=>∃ (kq : Nat) (x30_4 : Bool),v30 = .bool x30_4∧Aside0 (drawbridgelaw20_DhcpFirst.j0 kq a1 l2 a3 x30_4 a0_0 a0_1 a0_2 a0_3 l0_4 a0_5 a0_6 a0_7 a0_8 a0_9 a0_10 a0_11 = some r)∧Aside0 (kq ≤ k)∧Aside0 (wc.heap[gb375]? = some (.cells #[.int .i64 a0_0,.int .u32 a0_1,.int .u32 a0_2,.int .u32 a0_3,(.slice A0_4 l0_4.length c0_4),.int .i64 a0_5,.int .u32 a0_6,.int .u32 a0_7,.int .u32 a0_8,.int .u32 a0_9,.int .u32 a0_10,.int .u32 a0_11] 26 (0,0)))∧Aside0 (Below w.heap.size w wc))
 case first =>
  have H:=HC5.out
  clear HC5
  by_cases c7 : (l2.length : Int) > 255
  ·rw [if_pos c7] at H
   have c7b0 : decide (255 < (l2.length : Int)) = true:=decide_eq_true c7
   have c7b1 : decide (255 < l2.length) = true:=decide_eq_true (by omega)
   clear c7
   (first|rw [c7b0]|(simp only [i64_w,i32_w];rw [c7b0])|skip)
   have H':=mK H
   clear H
   go_wp2
   go_meet
   case rel=>exact ⟨_,(true),(by first|rfl|(simp;done)|(simp [*];done)),H',⟨by first|omega|exact Nat.le_refl _⟩,⟨by (with_reducible repeat (first|apply bN|apply bD|apply bA));exact BK375.out⟩,⟨by repeat (first|(with_reducible first|exact HB.out|apply lA|apply lN|apply lD|refine lS ?_ GE375.out)|exact HB.out)⟩⟩
  ·rw [if_neg c7] at H
   have c7b0 : decide (255 < (l2.length : Int)) = false:=decide_eq_false c7
   have c7b1 : decide (255 < l2.length) = false:=decide_eq_false (by omega)
   clear c7
   (first|rw [c7b0]|(simp only [i64_w,i32_w];rw [c7b0])|skip)
   by_cases c8 : a3 < 0
   ·rw [if_pos c8] at H
    have c8b0 : decide (a3 < 0) = true:=decide_eq_true c8
    clear c8
    have H':=mK H
    clear H
    go_wp2
    go_meet
    case rel=>exact ⟨_,(true),(by first|rfl|(simp;done)|(simp [*];done)),H',⟨by first|omega|exact Nat.le_refl _⟩,⟨by (with_reducible repeat (first|apply bN|apply bD|apply bA));exact BK375.out⟩,⟨by repeat (first|(with_reducible first|exact HB.out|apply lA|apply lN|apply lD|refine lS ?_ GE375.out)|exact HB.out)⟩⟩
   ·rw [if_neg c8] at H
    have c8b0 : decide (a3 < 0) = false:=decide_eq_false c8
    clear c8
    by_cases c9 : a3 > 100
    ·rw [if_pos c9] at H
     have c9b0 : decide (100 < a3) = true:=decide_eq_true c9
     clear c9
     have H':=mK H
     clear H
     go_wp2
     go_meet
     case rel=>exact ⟨_,(true),(by first|rfl|(simp;done)|(simp [*];done)),H',⟨by first|omega|exact Nat.le_refl _⟩,⟨by (with_reducible repeat (first|apply bN|apply bD|apply bA));exact BK375.out⟩,⟨by repeat (first|(with_reducible first|exact HB.out|apply lA|apply lN|apply lD|refine lS ?_ GE375.out)|exact HB.out)⟩⟩
    ·rw [if_neg c9] at H
     have c9b0 : decide (100 < a3) = false:=decide_eq_false c9
     clear c9
     have H':=mK H
     clear H
     go_wp2
     go_meet
     case rel=>exact ⟨_,((a1 == 0)),(by first|rfl|(simp;done)|(simp [*];done)),H',⟨by first|omega|exact Nat.le_refl _⟩,⟨by (with_reducible repeat (first|apply bN|apply bD|apply bA));exact BK375.out⟩,⟨by repeat (first|(with_reducible first|exact HB.out|apply lA|apply lN|apply lD|refine lS ?_ GE375.out)|exact HB.out)⟩⟩
 case rest =>
  clear HC5
  try clear c2
  try clear p2
  try clear c6
  try clear c7
  try clear c7b0
  try clear c7b1
  try clear c8
  try clear c8b0
  try clear c9
  try clear c9b0
  obtain ⟨kq,x30_4,rfl,HA,HJ4,BK375,HB⟩:=hcut
  cases kq with
  |zero=>exact absurd HA.out (by simp [drawbridgelaw20_DhcpFirst.j0])
  |succ kj4 =>
   have H:=HA.out
   clear HA
   simp only [drawbridgelaw20_DhcpFirst.j0] at H
   by_cases c10 : x30_4 = true
   ·subst c10
    have H1 : ((drawbridgelaw20_heads.f kj4).bind fun t376=>(some t376)) = some r:= by rw [if_pos rfl] at H;exact H
    clear H
    have H:=H1
    clear H1
    replace H:=Option.bind_eq_some_iff.mp H
    obtain ⟨t376,A110,H⟩:=H
    replace H : (some t376) = some r:=H
    have A11:=mK A110
    clear A110
    obtain rfl:=Option.some.inj H
    go_wp2_with (first|((with_reducible refine gate_callee (f:=7) rfl ?_);refine goesL_ (some 31) rfl rfl Try.func7 (by kernel_rfl) rfl #[] rfl (by (try simp only [List.map_toArray,List.map_cons,List.map_nil]);first|done|rfl|(simp only [List.length_drop,List.length_take];rfl)) ?_;(with_reducible refine (drawbridgelaw20_heads.calls kj4  t376 _ (by first|exact HTr_.out|assumption) A11.out).mono ?_);rintro e w12 ⟨rfl,hb⟩;refine ⟨_,rfl,?_⟩;have n1_:=mK (below_step (by repeat (first|(with_reducible first|exact HB.out|apply lA|apply lN|apply lD|refine lS ?_ GE375.out)|exact HB.out)) hb);clear HB;have HB:=n1_;clear n1_;(try clear hb);(try clear hb2);(try clear hk);(try clear hi)))
    go_ret
    exact ⟨by first|rfl|(simp [errW_none,errW_some] <;> rfl)|(simp [*,errW_none,errW_some] <;> rfl),by repeat (first|(with_reducible first|exact HB.out|apply lA|apply lN|apply lD|refine lS ?_ GE375.out)|exact HB.out)⟩
   ·replace c10:=Bool.eq_false_iff.mpr c10
    subst c10
    have H1 : ((dhcp_Put.f kj4 a0_0 a0_1 a0_2 a0_3 l0_4 a0_5 a0_6 a0_7 a0_8 a0_9 a0_10 a0_11).bind fun bt377=>(if bt377.2 = 0 then (drawbridgelaw20_DhcpFirst.j1 kj4 a1 l2 a3 bt377.1 bt377.2 (decide ((bt377.1.length : Int) < 240)) a0_0 a0_1 a0_2 a0_3 l0_4 a0_5 a0_6 a0_7 a0_8 a0_9 a0_10 a0_11) else (drawbridgelaw20_DhcpFirst.j1 kj4 a1 l2 a3 bt377.1 bt377.2 true a0_0 a0_1 a0_2 a0_3 l0_4 a0_5 a0_6 a0_7 a0_8 a0_9 a0_10 a0_11))) = some r:= by rw [if_neg (show ¬ (false = true) by decide)] at H;exact H
    clear H
    have H:=H1
    clear H1
    replace H:=Option.bind_eq_some_iff.mp H
    obtain ⟨⟨t377,t380⟩,A130,H⟩:=H
    replace H : (if t380 = 0 then (drawbridgelaw20_DhcpFirst.j1 kj4 a1 l2 a3 t377 t380 (decide ((t377.length : Int) < 240)) a0_0 a0_1 a0_2 a0_3 l0_4 a0_5 a0_6 a0_7 a0_8 a0_9 a0_10 a0_11) else (drawbridgelaw20_DhcpFirst.j1 kj4 a1 l2 a3 t377 t380 true a0_0 a0_1 a0_2 a0_3 l0_4 a0_5 a0_6 a0_7 a0_8 a0_9 a0_10 a0_11)) = some r:=H
    have A13:=mK A130
    clear A130
    have HC14:=mK H
    clear H
    have hcz15_0 : wc.cell? ⟨gb375,0,none⟩ = some (.int .i64 a0_0):=(blk_cell BK375.out 0).trans rfl
    have hcz15_1 : wc.cell? ⟨gb375,1,none⟩ = some (.int .u32 a0_1):=(blk_cell BK375.out 1).trans rfl
    have hcz15_2 : wc.cell? ⟨gb375,2,none⟩ = some (.int .u32 a0_2):=(blk_cell BK375.out 2).trans rfl
    have hcz15_3 : wc.cell? ⟨gb375,3,none⟩ = some (.int .u32 a0_3):=(blk_cell BK375.out 3).trans rfl
    have hcz15_4 : wc.cell? ⟨gb375,4,none⟩ = some (.slice A0_4 l0_4.length c0_4):=(blk_cell BK375.out 4).trans rfl
    have hcz15_5 : wc.cell? ⟨gb375,5,none⟩ = some (.int .i64 a0_5):=(blk_cell BK375.out 5).trans rfl
    have hcz15_6 : wc.cell? ⟨gb375,6,none⟩ = some (.int .u32 a0_6):=(blk_cell BK375.out 6).trans rfl
    have hcz15_7 : wc.cell? ⟨gb375,7,none⟩ = some (.int .u32 a0_7):=(blk_cell BK375.out 7).trans rfl
    have hcz15_8 : wc.cell? ⟨gb375,8,none⟩ = some (.int .u32 a0_8):=(blk_cell BK375.out 8).trans rfl
    have hcz15_9 : wc.cell? ⟨gb375,9,none⟩ = some (.int .u32 a0_9):=(blk_cell BK375.out 9).trans rfl
    have hcz15_10 : wc.cell? ⟨gb375,10,none⟩ = some (.int .u32 a0_10):=(blk_cell BK375.out 10).trans rfl
    have hcz15_11 : wc.cell? ⟨gb375,11,none⟩ = some (.int .u32 a0_11):=(blk_cell BK375.out 11).trans rfl
    have hfz15_0:=blk_frozen BK375.out 0
    have hfz15_1:=blk_frozen BK375.out 1
    have hfz15_2:=blk_frozen BK375.out 2
    have hfz15_3:=blk_frozen BK375.out 3
    have hfz15_4:=blk_frozen BK375.out 4
    have hfz15_5:=blk_frozen BK375.out 5
    have hfz15_6:=blk_frozen BK375.out 6
    have hfz15_7:=blk_frozen BK375.out 7
    have hfz15_8:=blk_frozen BK375.out 8
    have hfz15_9:=blk_frozen BK375.out 9
    have hfz15_10:=blk_frozen BK375.out 10
    have hfz15_11:=blk_frozen BK375.out 11
    go_upto_region 4 with (first|((with_reducible refine gate_callee (f:=10) rfl ?_);refine goesL_ (some 34) rfl rfl Try.func10 (by kernel_rfl) rfl #[.agg #[.int .i64 a0_0,.int .u32 a0_1,.int .u32 a0_2,.int .u32 a0_3,.slice A0_4 l0_4.length c0_4,.int .i64 a0_5,.int .u32 a0_6,.int .u32 a0_7,.int .u32 a0_8,.int .u32 a0_9,.int .u32 a0_10,.int .u32 a0_11]] rfl (by (try simp only [List.map_toArray,List.map_cons,List.map_nil]);first|done|rfl|(simp only [List.length_drop,List.length_take];rfl)) ?_;(with_reducible refine (dhcp_Put.calls kj4 a0_0 a0_1 a0_2 a0_3 _ _ l0_4 a0_5 a0_6 a0_7 a0_8 a0_9 a0_10 a0_11 t377 t380 _ ?side1 ?side2 A13.out).mono ?_);(case side1=>repeat (first|exact (Kd.C_below HR0_4.out HB.out)|(with_reducible refine Kd.C_alloc ?_ _)|(with_reducible refine Kd.C_drewN ?_ _)|(with_reducible refine Kd.C_drew ?_)));(case side2=>exact HC0_4.out);rintro e w16 ⟨v378,rfl,ho0,hb⟩;refine ⟨_,rfl,?_⟩;have n0_:=mK (Kd.R_lower ho0 (below_size (by repeat (first|(with_reducible first|exact HB.out|apply lA|apply lN|apply lD|refine lS ?_ GE375.out)|exact HB.out))));have n1_:=mK (blk_below (g:=gb375) (o:=.cells #[.int .i64 a0_0,.int .u32 a0_1,.int .u32 a0_2,.int .u32 a0_3,.slice A0_4 l0_4.length c0_4,.int .i64 a0_5,.int .u32 a0_6,.int .u32 a0_7,.int .u32 a0_8,.int .u32 a0_9,.int .u32 a0_10,.int .u32 a0_11] 26 (0,0)) (by (with_reducible repeat (first|apply bN|apply bD|apply bA));exact BK375.out) hb);have n2_:=mK (below_step (by repeat (first|(with_reducible first|exact HB.out|apply lA|apply lN|apply lD|refine lS ?_ GE375.out)|exact HB.out)) hb);clear BK375;clear HB;have HO379:=n0_;have BK375:=n1_;have HB:=n2_;clear n0_ n1_ n2_;(try clear hb);(try clear hb2);(try clear hk);(try clear hi);(try clear ho0)))
    (try simp only [Act.put,sT,sZ,sS])
    go_cut [43] (fun v43 wc=>∃ (kq : Nat) (x43_13 : Bool),v43 = .bool x43_13∧Aside0 (drawbridgelaw20_DhcpFirst.j1 kq a1 l2 a3 t377 t380 x43_13 a0_0 a0_1 a0_2 a0_3 l0_4 a0_5 a0_6 a0_7 a0_8 a0_9 a0_10 a0_11 = some r)∧Aside0 (kq ≤ kj4)∧Aside0 (Kd.R (Kd.int .u8) 5 wc w.heap.size (fun _=>True) v378 t377)∧Aside0 (wc.heap[gb375]? = some (.cells #[.int .i64 a0_0,.int .u32 a0_1,.int .u32 a0_2,.int .u32 a0_3,(.slice A0_4 l0_4.length c0_4),.int .i64 a0_5,.int .u32 a0_6,.int .u32 a0_7,.int .u32 a0_8,.int .u32 a0_9,.int .u32 a0_10,.int .u32 a0_11] 26 (0,0)))∧Aside0 (Below w.heap.size w wc))
    case first =>
     have H:=HC14.out
     clear HC14
     by_cases c17 : t380 = 0
     ·rw [if_pos c17] at H
      have c17b0 : (t380 == 0) = true:=beq_iff_eq.mpr c17
      have c17b1 : (t380 != 0) = false:=bne_eq_false_iff_eq.mpr c17
      clear c17
      (first|rw [c17b0]|(simp only [i64_w,i32_w];rw [c17b0])|skip)
      have H':=mK H
      clear H
      obtain ⟨Ao18,co18,eo18⟩:=Kd.R_slice HO379.out
      subst eo18
      go_wp2
      go_meet
      case rel=>exact ⟨_,(decide ((t377.length : Int) < 240)),(by first|rfl|(simp;done)|(simp [*];done)),H',⟨by have:=HJ4.out;first|omega|exact Nat.le_refl _⟩,⟨by (with_reducible repeat (first|apply rA|apply rN|apply rD));exact HO379.out⟩,⟨by (with_reducible repeat (first|apply bN|apply bD|apply bA));exact BK375.out⟩,⟨by repeat (first|(with_reducible first|exact HB.out|apply lA|apply lN|apply lD|refine lS ?_ GE375.out)|exact HB.out)⟩⟩
     ·rw [if_neg c17] at H
      have c17b0 : (t380 == 0) = false:=beq_eq_false_iff_ne.mpr c17
      have c17b1 : (t380 != 0) = true:=bne_iff_ne.mpr c17
      (first|rw [c17b0]|(simp only [i64_w,i32_w];rw [c17b0])|skip)
      have H':=mK H
      clear H
      go_wp2
      go_meet
      case rel=>exact ⟨_,(true),(by first|rfl|(simp;done)|(simp [*];done)),H',⟨by have:=HJ4.out;first|omega|exact Nat.le_refl _⟩,⟨by (with_reducible repeat (first|apply rA|apply rN|apply rD));exact HO379.out⟩,⟨by (with_reducible repeat (first|apply bN|apply bD|apply bA));exact BK375.out⟩,⟨by repeat (first|(with_reducible first|exact HB.out|apply lA|apply lN|apply lD|refine lS ?_ GE375.out)|exact HB.out)⟩⟩
    case rest =>
     clear HC14
     try clear c1
     try clear c2
     try clear p2
     try clear c6
     try clear c7
     try clear c7b0
     try clear c7b1
     try clear c8
     try clear c8b0
     try clear c9
     try clear c9b0
     try clear c10
     try clear c17
     try clear c17b0
     try clear c17b1
     try clear hcz15_0
     try clear hcz15_1
     try clear hcz15_10
     try clear hcz15_11
     try clear hcz15_2
     try clear hcz15_3
     try clear hcz15_4
     try clear hcz15_5
     try clear hcz15_6
     try clear hcz15_7
     try clear hcz15_8
     try clear hcz15_9
     try clear hfz15_0
     try clear hfz15_1
     try clear hfz15_10
     try clear hfz15_11
     try clear hfz15_2
     try clear hfz15_3
     try clear hfz15_4
     try clear hfz15_5
     try clear hfz15_6
     try clear hfz15_7
     try clear hfz15_8
     try clear hfz15_9
     try clear p2
     obtain ⟨kq,x43_13,rfl,HA,HJ13,HO_9,BK375,HB⟩:=hcut
     cases kq with
     |zero=>exact absurd HA.out (by simp [drawbridgelaw20_DhcpFirst.j1])
     |succ kj13 =>
      have H:=HA.out
      clear HA
      simp only [drawbridgelaw20_DhcpFirst.j1] at H
      by_cases c19 : x43_13 = true
      ·subst c19
       have H1 : (if t380 = 0 then (some false) else ((drawbridgelaw20_heads.f kj13).bind fun t381=>(some t381))) = some r:= by rw [if_pos rfl] at H;exact H
       clear H
       have H:=H1
       clear H1
       by_cases c20 : t380 = 0
       ·rw [if_pos c20] at H
        have c20b0 : (t380 == 0) = true:=beq_iff_eq.mpr c20
        have c20b1 : (t380 != 0) = false:=bne_eq_false_iff_eq.mpr c20
        clear c20
        exact absurd (H.trans (congrArg some HTr_.out)) (by simp)
       ·rw [if_neg c20] at H
        have c20b0 : (t380 == 0) = false:=beq_eq_false_iff_ne.mpr c20
        have c20b1 : (t380 != 0) = true:=bne_iff_ne.mpr c20
        replace H:=Option.bind_eq_some_iff.mp H
        obtain ⟨t381,A210,H⟩:=H
        replace H : (some t381) = some r:=H
        have A21:=mK A210
        clear A210
        obtain rfl:=Option.some.inj H
        go_wp2_with (first|(go_at_call 7;(with_reducible refine (drawbridgelaw20_heads.calls kj13  t381 _ (by first|exact HTr_.out|assumption) A21.out).mono ?_);rintro e w22 ⟨rfl,hb⟩;have n2_:=mK (below_step (by repeat (first|(with_reducible first|exact HB.out|apply lA|apply lN|apply lD|refine lS ?_ GE375.out)|exact HB.out)) hb);clear HB;have HB:=n2_;clear n2_;(try clear hb);(try clear hb2);(try clear hk);(try clear hi)))
        go_ret
        exact ⟨by first|rfl|(simp [errW_none,errW_some] <;> rfl)|(simp [*,errW_none,errW_some] <;> rfl),by repeat (first|(with_reducible first|exact HB.out|apply lA|apply lN|apply lD|refine lS ?_ GE375.out)|exact HB.out)⟩
      ·replace c19:=Bool.eq_false_iff.mpr c19
       subst c19
       have H1 : (if 0 ≤ a3 then (if (a3 : Int).toNat ≤ 281474976710656 then ((some (List.replicate (a3 : Int).toNat 0 : List Int)).bind fun y382=>((some (([50,4,(a1 / 16777216) % 256,(a1 / 65536) % 256,(a1 / 256) % 256,(a1) % 256,200,((l2.length : Int)) % 256] : List Int) : List Int)).bind fun y385=>(if y382.length + y385.length < 140737488355328 then ((some (y382 ++ y385 : List Int)).bind fun y388=>((some (([] : List Int) : List Int)).bind fun y391=>(if 240 ≤ (t377.length : Int) then ((some (t377.take 240 : List Int)).bind fun y394=>(if y391.length + y394.length < 140737488355328 then ((some (y391 ++ y394 : List Int)).bind fun y398=>(if y398.length + y388.length < 140737488355328 then ((some (y398 ++ y388 : List Int)).bind fun y401=>(if y401.length + l2.length < 140737488355328 then ((some (y401 ++ l2 : List Int)).bind fun y404=>((some (t377.drop 240 : List Int)).bind fun y407=>(if y404.length + y407.length < 140737488355328 then ((dhcp_Get.f kj13 (y404 ++ y407)).bind fun bt414=>(if bt414.2.2.2.2.2.2.2.2.2.2.2.2 = 0 then ((drawbridgeref20_Same.f bt414.1 bt414.2.1 bt414.2.2.1 bt414.2.2.2.1 bt414.2.2.2.2.1 bt414.2.2.2.2.2.1 bt414.2.2.2.2.2.2.1 bt414.2.2.2.2.2.2.2.1 bt414.2.2.2.2.2.2.2.2.1 bt414.2.2.2.2.2.2.2.2.2.1 bt414.2.2.2.2.2.2.2.2.2.2.1 bt414.2.2.2.2.2.2.2.2.2.2.2.1 a0_0 a0_1 a0_2 a0_3 l0_4 a0_5 a1 a0_7 a0_8 a0_9 a0_10 a0_11).bind fun t431=>(if t431 = true then ((drawbridgelaw20_heads.f kj13).bind fun t432=>(some t432)) else (some false))) else (some false))) else (none)))) else (none))) else (none))) else (none))) else (none)))) else (none)))) else (none)) else (none)) = some r:= by rw [if_neg (show ¬ (false = true) by decide)] at H;exact H
       clear H
       have H:=H1
       clear H1
       by_cases c23 : 0 ≤ a3
       ·rw [if_pos c23] at H
        have c23b0:=eq_true c23
        have c23b1 : decide (0 ≤ a3) = true:=decide_eq_true c23
        clear c23
        by_cases c24 : (a3 : Int).toNat ≤ 281474976710656
        ·rw [if_pos c24] at H
         have c24b0:=eq_true c24
         have c24b1 : decide ((a3 : Int).toNat ≤ 281474976710656) = true:=decide_eq_true c24
         clear c24
         obtain ⟨y382,hy382⟩ : ∃ y_ : List Int,y_ = (List.replicate (a3 : Int).toNat 0):=⟨_,rfl⟩
         replace H : ((some (([50,4,(a1 / 16777216) % 256,(a1 / 65536) % 256,(a1 / 256) % 256,(a1) % 256,200,((l2.length : Int)) % 256] : List Int) : List Int)).bind fun y385=>(if y382.length + y385.length < 140737488355328 then ((some (y382 ++ y385 : List Int)).bind fun y388=>((some (([] : List Int) : List Int)).bind fun y391=>(if 240 ≤ (t377.length : Int) then ((some (t377.take 240 : List Int)).bind fun y394=>(if y391.length + y394.length < 140737488355328 then ((some (y391 ++ y394 : List Int)).bind fun y398=>(if y398.length + y388.length < 140737488355328 then ((some (y398 ++ y388 : List Int)).bind fun y401=>(if y401.length + l2.length < 140737488355328 then ((some (y401 ++ l2 : List Int)).bind fun y404=>((some (t377.drop 240 : List Int)).bind fun y407=>(if y404.length + y407.length < 140737488355328 then ((dhcp_Get.f kj13 (y404 ++ y407)).bind fun bt414=>(if bt414.2.2.2.2.2.2.2.2.2.2.2.2 = 0 then ((drawbridgeref20_Same.f bt414.1 bt414.2.1 bt414.2.2.1 bt414.2.2.2.1 bt414.2.2.2.2.1 bt414.2.2.2.2.2.1 bt414.2.2.2.2.2.2.1 bt414.2.2.2.2.2.2.2.1 bt414.2.2.2.2.2.2.2.2.1 bt414.2.2.2.2.2.2.2.2.2.1 bt414.2.2.2.2.2.2.2.2.2.2.1 bt414.2.2.2.2.2.2.2.2.2.2.2.1 a0_0 a0_1 a0_2 a0_3 l0_4 a0_5 a1 a0_7 a0_8 a0_9 a0_10 a0_11).bind fun t431=>(if t431 = true then ((drawbridgelaw20_heads.f kj13).bind fun t432=>(some t432)) else (some false))) else (some false))) else (none)))) else (none))) else (none))) else (none))) else (none)))) else (none))) = some r:= by first|(rw [hy382];with_reducible exact H)|(have H2_:=(Option.bind_some _ _).symm.trans H;rw [hy382];with_reducible exact H2_)|(have H2_:=(Option.bind_some _ _).symm.trans H;with_reducible exact H2_)|with_reducible exact H|(rw [hy382];exact H)|exact H
         have Ny382:=mK hy382
         clear hy382
         obtain ⟨y385,hy385⟩ : ∃ y_ : List Int,y_ = (([50,4,(a1 / 16777216) % 256,(a1 / 65536) % 256,(a1 / 256) % 256,(a1) % 256,200,((l2.length : Int)) % 256] : List Int)):=⟨_,rfl⟩
         replace H : (if y382.length + y385.length < 140737488355328 then ((some (y382 ++ y385 : List Int)).bind fun y388=>((some (([] : List Int) : List Int)).bind fun y391=>(if 240 ≤ (t377.length : Int) then ((some (t377.take 240 : List Int)).bind fun y394=>(if y391.length + y394.length < 140737488355328 then ((some (y391 ++ y394 : List Int)).bind fun y398=>(if y398.length + y388.length < 140737488355328 then ((some (y398 ++ y388 : List Int)).bind fun y401=>(if y401.length + l2.length < 140737488355328 then ((some (y401 ++ l2 : List Int)).bind fun y404=>((some (t377.drop 240 : List Int)).bind fun y407=>(if y404.length + y407.length < 140737488355328 then ((dhcp_Get.f kj13 (y404 ++ y407)).bind fun bt414=>(if bt414.2.2.2.2.2.2.2.2.2.2.2.2 = 0 then ((drawbridgeref20_Same.f bt414.1 bt414.2.1 bt414.2.2.1 bt414.2.2.2.1 bt414.2.2.2.2.1 bt414.2.2.2.2.2.1 bt414.2.2.2.2.2.2.1 bt414.2.2.2.2.2.2.2.1 bt414.2.2.2.2.2.2.2.2.1 bt414.2.2.2.2.2.2.2.2.2.1 bt414.2.2.2.2.2.2.2.2.2.2.1 bt414.2.2.2.2.2.2.2.2.2.2.2.1 a0_0 a0_1 a0_2 a0_3 l0_4 a0_5 a1 a0_7 a0_8 a0_9 a0_10 a0_11).bind fun t431=>(if t431 = true then ((drawbridgelaw20_heads.f kj13).bind fun t432=>(some t432)) else (some false))) else (some false))) else (none)))) else (none))) else (none))) else (none))) else (none)))) else (none)) = some r:= by first|(rw [hy385];with_reducible exact H)|(have H2_:=(Option.bind_some _ _).symm.trans H;rw [hy385];with_reducible exact H2_)|(have H2_:=(Option.bind_some _ _).symm.trans H;with_reducible exact H2_)|with_reducible exact H|(rw [hy385];exact H)|exact H
         have Ny385:=mK hy385
         clear hy385
         by_cases c25 : y382.length + y385.length < 140737488355328
         ·rw [if_pos c25] at H
          have LMc25:=mK c25
          clear c25
          obtain ⟨y388,hy388⟩ : ∃ y_ : List Int,y_ = (y382 ++ y385):=⟨_,rfl⟩
          replace H : ((some (([] : List Int) : List Int)).bind fun y391=>(if 240 ≤ (t377.length : Int) then ((some (t377.take 240 : List Int)).bind fun y394=>(if y391.length + y394.length < 140737488355328 then ((some (y391 ++ y394 : List Int)).bind fun y398=>(if y398.length + y388.length < 140737488355328 then ((some (y398 ++ y388 : List Int)).bind fun y401=>(if y401.length + l2.length < 140737488355328 then ((some (y401 ++ l2 : List Int)).bind fun y404=>((some (t377.drop 240 : List Int)).bind fun y407=>(if y404.length + y407.length < 140737488355328 then ((dhcp_Get.f kj13 (y404 ++ y407)).bind fun bt414=>(if bt414.2.2.2.2.2.2.2.2.2.2.2.2 = 0 then ((drawbridgeref20_Same.f bt414.1 bt414.2.1 bt414.2.2.1 bt414.2.2.2.1 bt414.2.2.2.2.1 bt414.2.2.2.2.2.1 bt414.2.2.2.2.2.2.1 bt414.2.2.2.2.2.2.2.1 bt414.2.2.2.2.2.2.2.2.1 bt414.2.2.2.2.2.2.2.2.2.1 bt414.2.2.2.2.2.2.2.2.2.2.1 bt414.2.2.2.2.2.2.2.2.2.2.2.1 a0_0 a0_1 a0_2 a0_3 l0_4 a0_5 a1 a0_7 a0_8 a0_9 a0_10 a0_11).bind fun t431=>(if t431 = true then ((drawbridgelaw20_heads.f kj13).bind fun t432=>(some t432)) else (some false))) else (some false))) else (none)))) else (none))) else (none))) else (none))) else (none))) = some r:= by first|(rw [hy388];with_reducible exact H)|(have H2_:=(Option.bind_some _ _).symm.trans H;rw [hy388];with_reducible exact H2_)|(have H2_:=(Option.bind_some _ _).symm.trans H;with_reducible exact H2_)|with_reducible exact H|(rw [hy388];exact H)|exact H
          have Ny388:=mK hy388
          clear hy388
          obtain ⟨y391,hy391⟩ : ∃ y_ : List Int,y_ = (([] : List Int)):=⟨_,rfl⟩
          replace H : (if 240 ≤ (t377.length : Int) then ((some (t377.take 240 : List Int)).bind fun y394=>(if y391.length + y394.length < 140737488355328 then ((some (y391 ++ y394 : List Int)).bind fun y398=>(if y398.length + y388.length < 140737488355328 then ((some (y398 ++ y388 : List Int)).bind fun y401=>(if y401.length + l2.length < 140737488355328 then ((some (y401 ++ l2 : List Int)).bind fun y404=>((some (t377.drop 240 : List Int)).bind fun y407=>(if y404.length + y407.length < 140737488355328 then ((dhcp_Get.f kj13 (y404 ++ y407)).bind fun bt414=>(if bt414.2.2.2.2.2.2.2.2.2.2.2.2 = 0 then ((drawbridgeref20_Same.f bt414.1 bt414.2.1 bt414.2.2.1 bt414.2.2.2.1 bt414.2.2.2.2.1 bt414.2.2.2.2.2.1 bt414.2.2.2.2.2.2.1 bt414.2.2.2.2.2.2.2.1 bt414.2.2.2.2.2.2.2.2.1 bt414.2.2.2.2.2.2.2.2.2.1 bt414.2.2.2.2.2.2.2.2.2.2.1 bt414.2.2.2.2.2.2.2.2.2.2.2.1 a0_0 a0_1 a0_2 a0_3 l0_4 a0_5 a1 a0_7 a0_8 a0_9 a0_10 a0_11).bind fun t431=>(if t431 = true then ((drawbridgelaw20_heads.f kj13).bind fun t432=>(some t432)) else (some false))) else (some false))) else (none)))) else (none))) else (none))) else (none))) else (none)) = some r:= by first|(rw [hy391];with_reducible exact H)|(have H2_:=(Option.bind_some _ _).symm.trans H;rw [hy391];with_reducible exact H2_)|(have H2_:=(Option.bind_some _ _).symm.trans H;with_reducible exact H2_)|with_reducible exact H|(rw [hy391];exact H)|exact H
          have Ny391:=mK hy391
          clear hy391
          by_cases c26 : 240 ≤ (t377.length : Int)
          ·rw [if_pos c26] at H
           have c26b0:=eq_true c26
           have c26b1 : decide (240 ≤ (t377.length : Int)) = true:=decide_eq_true c26
           clear c26
           obtain ⟨y394,hy394⟩ : ∃ y_ : List Int,y_ = (t377.take 240):=⟨_,rfl⟩
           replace H : (if y391.length + y394.length < 140737488355328 then ((some (y391 ++ y394 : List Int)).bind fun y398=>(if y398.length + y388.length < 140737488355328 then ((some (y398 ++ y388 : List Int)).bind fun y401=>(if y401.length + l2.length < 140737488355328 then ((some (y401 ++ l2 : List Int)).bind fun y404=>((some (t377.drop 240 : List Int)).bind fun y407=>(if y404.length + y407.length < 140737488355328 then ((dhcp_Get.f kj13 (y404 ++ y407)).bind fun bt414=>(if bt414.2.2.2.2.2.2.2.2.2.2.2.2 = 0 then ((drawbridgeref20_Same.f bt414.1 bt414.2.1 bt414.2.2.1 bt414.2.2.2.1 bt414.2.2.2.2.1 bt414.2.2.2.2.2.1 bt414.2.2.2.2.2.2.1 bt414.2.2.2.2.2.2.2.1 bt414.2.2.2.2.2.2.2.2.1 bt414.2.2.2.2.2.2.2.2.2.1 bt414.2.2.2.2.2.2.2.2.2.2.1 bt414.2.2.2.2.2.2.2.2.2.2.2.1 a0_0 a0_1 a0_2 a0_3 l0_4 a0_5 a1 a0_7 a0_8 a0_9 a0_10 a0_11).bind fun t431=>(if t431 = true then ((drawbridgelaw20_heads.f kj13).bind fun t432=>(some t432)) else (some false))) else (some false))) else (none)))) else (none))) else (none))) else (none)) = some r:= by first|(rw [hy394];with_reducible exact H)|(have H2_:=(Option.bind_some _ _).symm.trans H;rw [hy394];with_reducible exact H2_)|(have H2_:=(Option.bind_some _ _).symm.trans H;with_reducible exact H2_)|with_reducible exact H|(rw [hy394];exact H)|exact H
           have Ny394:=mK hy394
           clear hy394
           by_cases c27 : y391.length + y394.length < 140737488355328
           ·rw [if_pos c27] at H
            have LMc27:=mK c27
            clear c27
            obtain ⟨y398,hy398⟩ : ∃ y_ : List Int,y_ = (y391 ++ y394):=⟨_,rfl⟩
            replace H : (if y398.length + y388.length < 140737488355328 then ((some (y398 ++ y388 : List Int)).bind fun y401=>(if y401.length + l2.length < 140737488355328 then ((some (y401 ++ l2 : List Int)).bind fun y404=>((some (t377.drop 240 : List Int)).bind fun y407=>(if y404.length + y407.length < 140737488355328 then ((dhcp_Get.f kj13 (y404 ++ y407)).bind fun bt414=>(if bt414.2.2.2.2.2.2.2.2.2.2.2.2 = 0 then ((drawbridgeref20_Same.f bt414.1 bt414.2.1 bt414.2.2.1 bt414.2.2.2.1 bt414.2.2.2.2.1 bt414.2.2.2.2.2.1 bt414.2.2.2.2.2.2.1 bt414.2.2.2.2.2.2.2.1 bt414.2.2.2.2.2.2.2.2.1 bt414.2.2.2.2.2.2.2.2.2.1 bt414.2.2.2.2.2.2.2.2.2.2.1 bt414.2.2.2.2.2.2.2.2.2.2.2.1 a0_0 a0_1 a0_2 a0_3 l0_4 a0_5 a1 a0_7 a0_8 a0_9 a0_10 a0_11).bind fun t431=>(if t431 = true then ((drawbridgelaw20_heads.f kj13).bind fun t432=>(some t432)) else (some false))) else (some false))) else (none)))) else (none))) else (none)) = some r:= by first|(rw [hy398];with_reducible exact H)|(have H2_:=(Option.bind_some _ _).symm.trans H;rw [hy398];with_reducible exact H2_)|(have H2_:=(Option.bind_some _ _).symm.trans H;with_reducible exact H2_)|with_reducible exact H|(rw [hy398];exact H)|exact H
            have Ny398:=mK hy398
            clear hy398
            by_cases c28 : y398.length + y388.length < 140737488355328
            ·rw [if_pos c28] at H
             have LMc28:=mK c28
             clear c28
             obtain ⟨y401,hy401⟩ : ∃ y_ : List Int,y_ = (y398 ++ y388):=⟨_,rfl⟩
             replace H : (if y401.length + l2.length < 140737488355328 then ((some (y401 ++ l2 : List Int)).bind fun y404=>((some (t377.drop 240 : List Int)).bind fun y407=>(if y404.length + y407.length < 140737488355328 then ((dhcp_Get.f kj13 (y404 ++ y407)).bind fun bt414=>(if bt414.2.2.2.2.2.2.2.2.2.2.2.2 = 0 then ((drawbridgeref20_Same.f bt414.1 bt414.2.1 bt414.2.2.1 bt414.2.2.2.1 bt414.2.2.2.2.1 bt414.2.2.2.2.2.1 bt414.2.2.2.2.2.2.1 bt414.2.2.2.2.2.2.2.1 bt414.2.2.2.2.2.2.2.2.1 bt414.2.2.2.2.2.2.2.2.2.1 bt414.2.2.2.2.2.2.2.2.2.2.1 bt414.2.2.2.2.2.2.2.2.2.2.2.1 a0_0 a0_1 a0_2 a0_3 l0_4 a0_5 a1 a0_7 a0_8 a0_9 a0_10 a0_11).bind fun t431=>(if t431 = true then ((drawbridgelaw20_heads.f kj13).bind fun t432=>(some t432)) else (some false))) else (some false))) else (none)))) else (none)) = some r:= by first|(rw [hy401];with_reducible exact H)|(have H2_:=(Option.bind_some _ _).symm.trans H;rw [hy401];with_reducible exact H2_)|(have H2_:=(Option.bind_some _ _).symm.trans H;with_reducible exact H2_)|with_reducible exact H|(rw [hy401];exact H)|exact H
             have Ny401:=mK hy401
             clear hy401
             by_cases c29 : y401.length + l2.length < 140737488355328
             ·rw [if_pos c29] at H
              have LMc29:=mK c29
              clear c29
              obtain ⟨y404,hy404⟩ : ∃ y_ : List Int,y_ = (y401 ++ l2):=⟨_,rfl⟩
              replace H : ((some (t377.drop 240 : List Int)).bind fun y407=>(if y404.length + y407.length < 140737488355328 then ((dhcp_Get.f kj13 (y404 ++ y407)).bind fun bt414=>(if bt414.2.2.2.2.2.2.2.2.2.2.2.2 = 0 then ((drawbridgeref20_Same.f bt414.1 bt414.2.1 bt414.2.2.1 bt414.2.2.2.1 bt414.2.2.2.2.1 bt414.2.2.2.2.2.1 bt414.2.2.2.2.2.2.1 bt414.2.2.2.2.2.2.2.1 bt414.2.2.2.2.2.2.2.2.1 bt414.2.2.2.2.2.2.2.2.2.1 bt414.2.2.2.2.2.2.2.2.2.2.1 bt414.2.2.2.2.2.2.2.2.2.2.2.1 a0_0 a0_1 a0_2 a0_3 l0_4 a0_5 a1 a0_7 a0_8 a0_9 a0_10 a0_11).bind fun t431=>(if t431 = true then ((drawbridgelaw20_heads.f kj13).bind fun t432=>(some t432)) else (some false))) else (some false))) else (none))) = some r:= by first|(rw [hy404];with_reducible exact H)|(have H2_:=(Option.bind_some _ _).symm.trans H;rw [hy404];with_reducible exact H2_)|(have H2_:=(Option.bind_some _ _).symm.trans H;with_reducible exact H2_)|with_reducible exact H|(rw [hy404];exact H)|exact H
              have Ny404:=mK hy404
              clear hy404
              have c30b0:=eq_true (of_decide_eq_true (by first|(with_reducible assumption)|assumption) : 240 ≤ (t377.length : Int))
              obtain ⟨y407,hy407⟩ : ∃ y_ : List Int,y_ = (t377.drop 240):=⟨_,rfl⟩
              replace H : (if y404.length + y407.length < 140737488355328 then ((dhcp_Get.f kj13 (y404 ++ y407)).bind fun bt414=>(if bt414.2.2.2.2.2.2.2.2.2.2.2.2 = 0 then ((drawbridgeref20_Same.f bt414.1 bt414.2.1 bt414.2.2.1 bt414.2.2.2.1 bt414.2.2.2.2.1 bt414.2.2.2.2.2.1 bt414.2.2.2.2.2.2.1 bt414.2.2.2.2.2.2.2.1 bt414.2.2.2.2.2.2.2.2.1 bt414.2.2.2.2.2.2.2.2.2.1 bt414.2.2.2.2.2.2.2.2.2.2.1 bt414.2.2.2.2.2.2.2.2.2.2.2.1 a0_0 a0_1 a0_2 a0_3 l0_4 a0_5 a1 a0_7 a0_8 a0_9 a0_10 a0_11).bind fun t431=>(if t431 = true then ((drawbridgelaw20_heads.f kj13).bind fun t432=>(some t432)) else (some false))) else (some false))) else (none)) = some r:= by first|(rw [hy407];with_reducible exact H)|(have H2_:=(Option.bind_some _ _).symm.trans H;rw [hy407];with_reducible exact H2_)|(have H2_:=(Option.bind_some _ _).symm.trans H;with_reducible exact H2_)|with_reducible exact H|(rw [hy407];exact H)|exact H
              have Ny407:=mK hy407
              clear hy407
              by_cases c31 : y404.length + y407.length < 140737488355328
              ·rw [if_pos c31] at H
               have LMc31:=mK c31
               clear c31
               obtain ⟨y411,hy411⟩ : ∃ y_ : List Int,y_ = (y404 ++ y407):=⟨_,rfl⟩
               replace H : ((dhcp_Get.f kj13 y411).bind fun bt414=>(if bt414.2.2.2.2.2.2.2.2.2.2.2.2 = 0 then ((drawbridgeref20_Same.f bt414.1 bt414.2.1 bt414.2.2.1 bt414.2.2.2.1 bt414.2.2.2.2.1 bt414.2.2.2.2.2.1 bt414.2.2.2.2.2.2.1 bt414.2.2.2.2.2.2.2.1 bt414.2.2.2.2.2.2.2.2.1 bt414.2.2.2.2.2.2.2.2.2.1 bt414.2.2.2.2.2.2.2.2.2.2.1 bt414.2.2.2.2.2.2.2.2.2.2.2.1 a0_0 a0_1 a0_2 a0_3 l0_4 a0_5 a1 a0_7 a0_8 a0_9 a0_10 a0_11).bind fun t431=>(if t431 = true then ((drawbridgelaw20_heads.f kj13).bind fun t432=>(some t432)) else (some false))) else (some false))) = some r:= by first|(rw [hy411];with_reducible exact H)|(have H2_:=(Option.bind_some _ _).symm.trans H;rw [hy411];with_reducible exact H2_)|(have H2_:=(Option.bind_some _ _).symm.trans H;with_reducible exact H2_)|with_reducible exact H|(rw [hy411];exact H)|exact H
               have Ny411:=mK hy411
               clear hy411
               replace H:=Option.bind_eq_some_iff.mp H
               obtain ⟨⟨t414,t415,t416,t417,t418,t421,t422,t423,t424,t425,t426,t427,t428⟩,A320,H⟩:=H
               replace H : (if t428 = 0 then ((drawbridgeref20_Same.f t414 t415 t416 t417 t418 t421 t422 t423 t424 t425 t426 t427 a0_0 a0_1 a0_2 a0_3 l0_4 a0_5 a1 a0_7 a0_8 a0_9 a0_10 a0_11).bind fun t431=>(if t431 = true then ((drawbridgelaw20_heads.f kj13).bind fun t432=>(some t432)) else (some false))) else (some false)) = some r:=H
               have A32:=mK A320
               clear A320
               by_cases c33 : t428 = 0
               ·rw [if_pos c33] at H
                have c33b0 : (t428 == 0) = true:=beq_iff_eq.mpr c33
                have c33b1 : (t428 != 0) = false:=bne_eq_false_iff_eq.mpr c33
                clear c33
                replace H:=Option.bind_eq_some_iff.mp H
                obtain ⟨t431,A340,H⟩:=H
                replace H : (if t431 = true then ((drawbridgelaw20_heads.f kj13).bind fun t432=>(some t432)) else (some false)) = some r:=H
                have A34:=mK A340
                clear A340
                by_cases c35 : t431 = true
                ·subst c35
                 have H1 : ((drawbridgelaw20_heads.f kj13).bind fun t432=>(some t432)) = some r:= by rw [if_pos rfl] at H;exact H
                 clear H
                 have H:=H1
                 clear H1
                 replace H:=Option.bind_eq_some_iff.mp H
                 obtain ⟨t432,A360,H⟩:=H
                 replace H : (some t432) = some r:=H
                 have A36:=mK A360
                 clear A360
                 obtain rfl:=Option.some.inj H
                 try go_wp2_with (first|((with_reducible refine gate_dst (N:=50) rfl ?_);(try (refine gate_guard (by rfl) ?_;dsimp only));refine Kd.R_make (Kd.int .u8) _ 5 rfl (N:=50) rfl 22 _ _ rfl a3 rfl rfl Try.underlying22 (.int .u8 0) 1 info5 rfl (by decide) (by omega) 0 (ok:= fun _=>True) (okp:= fun _=>True) rfl (fun _ hk=>hk) trivial (of_decide_eq_true (by first|(with_reducible assumption)|assumption)) (Nat.le_trans (Nat.mul_le_mul_right _ (of_decide_eq_true (by first|(with_reducible assumption)|assumption) : a3.toNat ≤ 281474976710656)) (by omega)) (Below.refl _ _) (Nat.le_refl _) ?_;intro v383 w37 ho38 hb hg_ hnew_;clear hg_ hnew_;(first|rw [← Ny382.out] at ho38|(simp only [Int.reduceToNat] at ho38;rw [← Ny382.out] at ho38));have n0_:=mK (Kd.R_elder' (by (with_reducible repeat (first|apply rA|apply rN|apply rD));exact HO_9.out) (Kd.R_base ho38) hb);have n1_:=mK (Kd.R_lower (Kd.R_new' ho38 (Kd.R_lt (by (with_reducible repeat (first|apply rA|apply rN|apply rD));exact HO_9.out))) (below_size (by repeat (first|(with_reducible first|exact HB.out|apply lA|apply lN|apply lD|refine lS ?_ GE375.out)|exact HB.out))));have n2_:=mK (blk_below (g:=gb375) (o:=.cells #[.int .i64 a0_0,.int .u32 a0_1,.int .u32 a0_2,.int .u32 a0_3,.slice A0_4 l0_4.length c0_4,.int .i64 a0_5,.int .u32 a0_6,.int .u32 a0_7,.int .u32 a0_8,.int .u32 a0_9,.int .u32 a0_10,.int .u32 a0_11] 26 (0,0)) (by (with_reducible repeat (first|apply bN|apply bD|apply bA));exact BK375.out) hb);have n3_:=mK (below_step (by repeat (first|(with_reducible first|exact HB.out|apply lA|apply lN|apply lD|refine lS ?_ GE375.out)|exact HB.out)) hb);clear HO_9;clear BK375;clear HB;have HO_9:=n0_;have HO384:=n1_;have BK375:=n2_;have HB:=n3_;clear n0_ n1_ n2_ n3_;clear hb ho38)|((with_reducible refine gate_dst (N:=65) rfl ?_);(try (refine gate_guard (by rfl) ?_;dsimp only));refine Kd.R_lit (Kd.int .u8) _ 5 ?hg (N:=65) ?hd (xs:=([50,4,(a1 / 16777216) % 256,(a1 / 65536) % 256,(a1 / 256) % 256,(a1) % 256,200,((l2.length : Int)) % 256] : List Int)) (inner:=[.int .u8 50,.int .u8 4,.int .u8 ((a1 / 16777216) % 256),.int .u8 ((a1 / 65536) % 256),.int .u8 ((a1 / 256) % 256),.int .u8 ((a1) % 256),.int .u8 200,.int .u8 (((l2.length : Int)) % 256)]) (ok:= fun _=>True) (okp:= fun _=>True) ?hr ?hp (fun _ hk=>hk) trivial (Below.refl _ _) (Nat.le_refl _) (by simp) ?_;(case hd=>rfl);(case hg=>rfl);(case hr=>first|(go_simp;done)|(go_simp;rfl));(case hp=>exact (Reps.one (show Kd.M (Kd.int .u8) _ _ _ 50 [.int .u8 50] from rfl) (Reps.one (show Kd.M (Kd.int .u8) _ _ _ 4 [.int .u8 4] from rfl) (Reps.one (show Kd.M (Kd.int .u8) _ _ _ ((a1 / 16777216) % 256) [.int .u8 ((a1 / 16777216) % 256)] from rfl) (Reps.one (show Kd.M (Kd.int .u8) _ _ _ ((a1 / 65536) % 256) [.int .u8 ((a1 / 65536) % 256)] from rfl) (Reps.one (show Kd.M (Kd.int .u8) _ _ _ ((a1 / 256) % 256) [.int .u8 ((a1 / 256) % 256)] from rfl) (Reps.one (show Kd.M (Kd.int .u8) _ _ _ ((a1) % 256) [.int .u8 ((a1) % 256)] from rfl) (Reps.one (show Kd.M (Kd.int .u8) _ _ _ 200 [.int .u8 200] from rfl) (Reps.one (show Kd.M (Kd.int .u8) _ _ _ (((l2.length : Int)) % 256) [.int .u8 (((l2.length : Int)) % 256)] from rfl) (Reps.none _ _))))))))));intro v386 w39 ho40 hb hg_ hnew_;clear hg_ hnew_;(first|rw [← Ny385.out] at ho40|(simp only [Int.reduceToNat] at ho40;rw [← Ny385.out] at ho40));have n0_:=mK (Kd.R_elder' (by (with_reducible repeat (first|apply rA|apply rN|apply rD));exact HO_9.out) (Kd.R_base ho40) hb);have n1_:=mK (Kd.R_elder' (by (with_reducible repeat (first|apply rA|apply rN|apply rD));exact HO384.out) (Kd.R_base ho40) hb);have n2_:=mK (Kd.R_lower (Kd.R_new' (Kd.R_new' ho40 (Kd.R_lt (by (with_reducible repeat (first|apply rA|apply rN|apply rD));exact HO_9.out))) (Kd.R_lt (by (with_reducible repeat (first|apply rA|apply rN|apply rD));exact HO384.out))) (below_size (by repeat (first|(with_reducible first|exact HB.out|apply lA|apply lN|apply lD|refine lS ?_ GE375.out)|exact HB.out))));have n3_:=mK (blk_below (g:=gb375) (o:=.cells #[.int .i64 a0_0,.int .u32 a0_1,.int .u32 a0_2,.int .u32 a0_3,.slice A0_4 l0_4.length c0_4,.int .i64 a0_5,.int .u32 a0_6,.int .u32 a0_7,.int .u32 a0_8,.int .u32 a0_9,.int .u32 a0_10,.int .u32 a0_11] 26 (0,0)) (by (with_reducible repeat (first|apply bN|apply bD|apply bA));exact BK375.out) hb);have n4_:=mK (below_step (by repeat (first|(with_reducible first|exact HB.out|apply lA|apply lN|apply lD|refine lS ?_ GE375.out)|exact HB.out)) hb);clear HO_9;clear HO384;clear BK375;clear HB;have HO_9:=n0_;have HO384:=n1_;have HO387:=n2_;have BK375:=n3_;have HB:=n4_;clear n0_ n1_ n2_ n3_ n4_;clear hb ho40;obtain ⟨Ao42,co42,eo42⟩:=Kd.R_slice HO387.out;subst eo42)|((with_reducible refine gate_builtin (b:=.append) (xs:=#[.tmp 50,.tmp 65]) rfl ?_);(try (refine gate_guard (by rfl) ?_;dsimp only));at_builtin;refine Kd.R_append_rows (Kd.int .u8) (w0:=w) w.heap.size rfl (.tmp 50) (.tmp 65) 22 5 (.int .u8 0) 1 rfl Try.underlying22 info5 rfl (by decide) (by omega) v383 y382 y385 _ _ _ (fun k_=>some k_ ≠ (v378 : Value).ownBlock∧some k_ ≠ (.slice Ao42 y385.length co42 : Value).ownBlock) (fun _=>False) rfl rfl ?aO ?aR (fun _ _ h=>h) (fun _ h=>h.elim) ?aF ?aB ?aS ?aL ?_;(case aR=>repeat (first|exact (Kd.R_reads' HO387.out).2.2|(with_reducible refine Kd.C_alloc ?_ _)|(with_reducible refine Kd.C_drewN ?_ _)|(with_reducible refine Kd.C_drew ?_)));(case aB=>exact (by repeat (first|(with_reducible first|exact HB.out|apply lA|apply lN|apply lD|refine lS ?_ GE375.out)|exact HB.out)));(case aF=>exact (fun k_ hk=>⟨Kd.fresh' (Kd.R_lt (by (with_reducible repeat (first|apply rA|apply rN|apply rD));exact HO_9.out)) k_ hk,Kd.fresh' (Kd.R_lt (by (with_reducible repeat (first|apply rA|apply rN|apply rD));exact HO387.out)) k_ hk⟩));(case aO=>exact (by (with_reducible repeat (first|apply rA|apply rN|apply rD));exact Kd.R_mono HO384.out (fun _ hk=>⟨hk.1.2,hk.2⟩)));(case aS=>exact (below_size (by repeat (first|(with_reducible first|exact HB.out|apply lA|apply lN|apply lD|refine lS ?_ GE375.out)|exact HB.out))));(case aL=>have:=LMc25.out;omega);intro v389 w41 ho hb hg hat;rw [← Ny388.out] at ho;have n0_:=mK (Kd.R_after (ok:=(fun k_=>some k_ ≠ (.slice Ao42 y385.length co42 : Value).ownBlock)) (by (with_reducible repeat (first|apply rA|apply rN|apply rD));exact Kd.R_mono HO_9.out (fun _ hk=>⟨hk.2,hk.1.2⟩)) hg hat);have n1_:=mK (blk_grown (g:=gb375) (o:=.cells #[.int .i64 a0_0,.int .u32 a0_1,.int .u32 a0_2,.int .u32 a0_3,.slice A0_4 l0_4.length c0_4,.int .i64 a0_5,.int .u32 a0_6,.int .u32 a0_7,.int .u32 a0_8,.int .u32 a0_9,.int .u32 a0_10,.int .u32 a0_11] 26 (0,0)) (by (with_reducible repeat (first|apply bN|apply bD|apply bA));exact BK375.out) hg (Kd.R_ne HO384.out BK375.out (by decide)));have n2_:=mK (Kd.R_after (ok:=(fun k_=>some k_ ≠ (v378 : Value).ownBlock)) (by (with_reducible repeat (first|apply rA|apply rN|apply rD));exact Kd.R_mono HO387.out (fun _ hk=>⟨hk.1.2,hk.2⟩)) hg hat);have n3_:=mK (hb);have n4_:=mK (ho);clear HO_9;clear BK375;clear HO387;clear HB;clear HO384;have HO_9:=n0_;have BK375:=n1_;have HO387:=n2_;have HB:=n3_;have HO390:=n4_;clear n0_ n1_ n2_ n3_ n4_;clear ho hb hg hat))
                 have n0_:=mK (Kd.R_drew HO_9.out)
                 have n1_:=mK (Kd.R_drew HO387.out)
                 have n2_:=mK (Kd.R_drew HO390.out)
                 have n3_:=mK (blk_drew BK375.out)
                 have n4_:=mK (below_drew1 HB.out)
                 clear HO_9
                 clear HO387
                 clear HO390
                 clear BK375
                 clear HB
                 have HO_9:=n0_
                 have HO387:=n1_
                 have HO390:=n2_
                 have BK375:=n3_
                 have HB:=n4_
                 clear n0_ n1_ n2_ n3_ n4_
                 obtain ⟨Ao45,co45,eo45⟩:=Kd.R_slice HO_9.out
                 (first|subst eo45|(injection eo45 with f1_ f2_ f3_;have f4_:=f1_.symm;have f5_:=f3_.symm;clear f1_ f2_ f3_;subst f4_;subst f5_))
                 have q44 : (240 : Int) ≤ ((t377.length : Int) : Int):=of_decide_eq_true (by first|(with_reducible assumption)|assumption)
                 obtain ⟨i044,hi044,_,hsz44,_⟩:=info_parts info5
                 have hroom44 : t377.length ≤ co45:=(Kd.R_reads' HO_9.out).2.1
                 have hC44 : Kd.C (Kd.int .u8) _ Ao45 t377.length t377:=(Kd.R_reads' HO_9.out).2.2
                 have hcut44:=cut_to (P:=Try.prog) 22 5 .i64 Try.underlying22 hi044 Ao45 t377.length co45 240 (by omega) q44 hroom44
                 have hr44:=Kd.C_take (m:=240) hC44 (by omega)
                 have hy44 : y394.length = (240 : Int).toNat:=(by rw [Ny394.out,List.length_take];omega)
                 rw [← Ny394.out] at hr44
                 rw [← hy44] at hcut44
                 have HR397:=mK hr44
                 have HC397:=mK (show y394.length ≤ co45 from by omega)
                 clear hr44 hC44 hroom44 hi044 hsz44
                 have KY44:=mK hy44
                 clear hy44
                 have KL44:=mK (show 240 ≤ t377.length from by omega)
                 replace q44:=eq_true q44
                 have q46 : (240 : Int) ≤ ((t377.length : Int) : Int):=of_decide_eq_true (by first|(with_reducible assumption)|assumption)
                 obtain ⟨i046,hi046,_,hsz46,_⟩:=info_parts info5
                 have hroom46 : t377.length ≤ co45:=(Kd.R_reads' HO_9.out).2.1
                 have hC46 : Kd.C (Kd.int .u8) _ Ao45 t377.length t377:=(Kd.R_reads' HO_9.out).2.2
                 have hcut46:=cut_from (P:=Try.prog) 22 5 .i64 Try.underlying22 hi046 1 hsz46 Ao45 t377.length co45 240 (by omega) q46
                 have hr46:=Kd.C_drop (m:=(240 : Int).toNat) (c:=co45) hC46 (by omega) hroom46
                 obtain ⟨A46,hA46⟩ : ∃ A1,A1 = (if co45 = (240 : Int).toNat then Ao45 else (Ao45 : Option Addr).map (·.add ((240 : Int).toNat * 1))):=⟨_,rfl⟩
                 obtain ⟨c46,hc46⟩ : ∃ c1,c1 = co45 - (240 : Int).toNat:=⟨_,rfl⟩
                 have hy46 : y407.length = t377.length - (240 : Int).toNat:=(by rw [Ny407.out,List.length_drop] <;> omega)
                 rw [show (t377).drop (240 : Int).toNat = y407 from Ny407.out.symm] at hr46
                 replace hr46 : Kd.C (Kd.int .u8) _ A46 y407.length y407:=(by rw [hA46];exact hr46)
                 rw [← hy46,← hA46,← hc46] at hcut46
                 have HR410:=mK hr46
                 have HC410:=mK (show y407.length ≤ c46 from by rw [hy46,hc46];exact Nat.sub_le_sub_right hroom46 _)
                 clear hr46 hC46 hroom46 hi046 hsz46 hc46
                 have KY46:=mK hy46
                 have KA46:=mK hA46
                 clear hy46 hA46
                 have KL46:=mK (show 240 ≤ t377.length from by omega)
                 replace q46:=eq_true q46
                 refine start_ (n:=12) (S:= fun w'=>True) (ds:=[]) #[φ,φ,φ,φ,φ,φ,φ,φ,φ,φ,φ,φ] (by kernel_rfl) rfl rfl trivial (fun hHeld=>?_);refine with_tabW drawbridgelaw20_DhcpFirst.tab7 drawbridgelaw20_DhcpFirst.bits7 (fun HT_ HW_=>?_)
                 generalize w41.drew = w43 at HO_9 HO387 HO390 BK375 HB HR397 HR410 hHeld ⊢
                 refine pure_ (i:=1) (N:=some 68) (v:=?_) (a':=?_) #[φ,τ,φ,φ,φ,φ,φ,φ,φ,φ,φ,φ] rfl rfl (any_of HT_.out (by kernel_rfl)) (fun _ _ _ h=>h) (Or.inl ⟨by rfl,?_⟩) ?_ ?_
                 rotate_left
                 ·intro w'
                  go_simp
                  with_reducible rfl
                 rotate_left
                 ·simp only [Act.put,sT,sZ,sS,i64_w,i32_w]
                  rfl
                 refine pure_ (i:=2) (N:=some 69) (v:=?_) (a':=?_) #[φ,τ,τ,φ,φ,φ,φ,φ,φ,φ,φ,φ] rfl rfl (any_of HT_.out (by kernel_rfl)) (fun _ _ _ h=>h) (Or.inl ⟨by rfl,?_⟩) ?_ ?_
                 rotate_left
                 ·intro w'
                  go_simp
                  with_reducible rfl
                 rotate_left
                 ·simp only [Act.put,sT,sZ,sS,i64_w,i32_w]
                  rfl
                 refine pure_ (i:=4) (N:=some 71) (v:=?_) (a':=?_) #[φ,τ,τ,φ,τ,φ,φ,φ,φ,φ,φ,φ] rfl rfl (any_of HT_.out (by kernel_rfl)) (fun _ _ _ h=>h) (Or.inl ⟨by rfl,?_⟩) ?_ ?_
                 rotate_left
                 ·intro w'
                  go_simp
                  with_reducible rfl
                 rotate_left
                 ·simp only [Act.put,sT,sZ,sS,i64_w,i32_w]
                  rfl
                 refine pure_ (i:=6) (N:=some 73) (v:=?_) (a':=?_) #[φ,τ,τ,φ,τ,φ,τ,φ,φ,φ,φ,φ] rfl rfl (any_of HT_.out (by kernel_rfl)) (fun _ _ _ h=>h) (Or.inl ⟨by rfl,?_⟩) ?_ ?_
                 rotate_left
                 ·intro w'
                  go_simp
                  with_reducible rfl
                 rotate_left
                 ·simp only [Act.put,sT,sZ,sS,i64_w,i32_w]
                  rfl
                 refine pure_ (i:=8) (N:=some 75) (v:=?_) (a':=?_) #[φ,τ,τ,φ,τ,φ,τ,φ,τ,φ,φ,φ] rfl rfl (any_of HT_.out (by kernel_rfl)) (fun _ _ _ h=>h) (Or.inl ⟨by rfl,?_⟩) ?_ ?_
                 rotate_left
                 ·intro w'
                  go_simp
                  with_reducible rfl
                 rotate_left
                 ·simp only [Act.put,sT,sZ,sS,i64_w,i32_w]
                  rfl
                 refine pure_ (i:=9) (N:=some 76) (v:=?_) (a':=?_) #[φ,τ,τ,φ,τ,φ,τ,φ,τ,τ,φ,φ] rfl rfl (any_of HT_.out (by kernel_rfl)) (fun _ _ _ h=>h) (Or.inl ⟨by rfl,?_⟩) ?_ ?_
                 rotate_left
                 ·intro w'
                  go_simp
                  with_reducible rfl
                 rotate_left
                 ·simp only [Act.put,sT,sZ,sS,i64_w,i32_w]
                  rfl
                 refine one_ (i:=0) (N:=some 67) #[τ,τ,τ,φ,τ,φ,τ,φ,τ,τ,φ,φ] rfl rfl (one_of HT_.out (by kernel_rfl)) (by decide) (fun K hK=>?_)
                 refine Kd.R_lit_step (Kd.int .u8) _ 5 ?hg (N:=67) ?hd (xs:=([] : List Int)) (inner:=[]) (ok:= fun _=>True) (okp:= fun _=>True) ?hr ?hp (fun _ hk=>hk) trivial (Below.refl _ _) (Nat.le_refl _) (by simp) ?_;(case hd=>rfl);(case hg=>rfl);(case hr=>first|(go_simp;done)|(go_simp;rfl));(case hp=>exact (Reps.none _ _))
                 intro v392 w47 ho48 hb hg_ hnew_
                 clear hg_ hnew_
                 (first|rw [← Ny391.out] at ho48|(simp only [Int.reduceToNat] at ho48;rw [← Ny391.out] at ho48))
                 have n0_:=mK (Kd.R_elder' (by (with_reducible repeat (first|apply rA|apply rN|apply rD));exact HO_9.out) (Kd.R_base ho48) hb)
                 have n1_:=mK (Kd.R_elder' (by (with_reducible repeat (first|apply rA|apply rN|apply rD));exact HO387.out) (Kd.R_base ho48) hb)
                 have n2_:=mK (Kd.R_elder' (by (with_reducible repeat (first|apply rA|apply rN|apply rD));exact HO390.out) (Kd.R_base ho48) hb)
                 have n3_:=mK (Kd.R_lower (Kd.R_new' (Kd.R_new' (Kd.R_new' ho48 (Kd.R_lt (by (with_reducible repeat (first|apply rA|apply rN|apply rD));exact HO_9.out))) (Kd.R_lt (by (with_reducible repeat (first|apply rA|apply rN|apply rD));exact HO387.out))) (Kd.R_lt (by (with_reducible repeat (first|apply rA|apply rN|apply rD));exact HO390.out))) (below_size (by repeat (first|(with_reducible first|exact HB.out|apply lA|apply lN|apply lD|refine lS ?_ GE375.out)|exact HB.out))))
                 have n4_:=mK (blk_below (g:=gb375) (o:=.cells #[.int .i64 a0_0,.int .u32 a0_1,.int .u32 a0_2,.int .u32 a0_3,.slice A0_4 l0_4.length c0_4,.int .i64 a0_5,.int .u32 a0_6,.int .u32 a0_7,.int .u32 a0_8,.int .u32 a0_9,.int .u32 a0_10,.int .u32 a0_11] 26 (0,0)) (by (with_reducible repeat (first|apply bN|apply bD|apply bA));exact BK375.out) hb)
                 have n5_:=mK (Kd.C_below (by repeat (first|(with_reducible exact HR397.out)|(with_reducible refine Kd.C_alloc ?_ _)|(with_reducible refine Kd.C_drewN ?_ _)|(with_reducible refine Kd.C_drew ?_)|exact HR397.out)) hb)
                 have n6_:=mK (Kd.C_below (by repeat (first|(with_reducible exact HR410.out)|(with_reducible refine Kd.C_alloc ?_ _)|(with_reducible refine Kd.C_drewN ?_ _)|(with_reducible refine Kd.C_drew ?_)|exact HR410.out)) hb)
                 have n7_:=mK (below_step (by repeat (first|(with_reducible first|exact HB.out|apply lA|apply lN|apply lD|refine lS ?_ GE375.out)|exact HB.out)) hb)
                 clear HO_9
                 clear HO387
                 clear HO390
                 clear BK375
                 clear HR397
                 clear HR410
                 clear HB
                 have HO_9:=n0_
                 have HO387:=n1_
                 have HO390:=n2_
                 have HO393:=n3_
                 have BK375:=n4_
                 have HR397:=n5_
                 have HR410:=n6_
                 have HB:=n7_
                 clear n0_ n1_ n2_ n3_ n4_ n5_ n6_ n7_
                 clear hb ho48
                 refine hK.out _ _ trivial (fun hHeld=>?_)
                 clear hK K
                 refine norm_ (a':=?_) ?_ ?_
                 rotate_left
                 ·show Act.put _ (some 67) _ = _
                  simp only [Act.put,sT,sZ,sS,i64_w,i32_w]
                  rfl
                 refine one_ (i:=3) (N:=some 70) #[τ,τ,τ,τ,τ,φ,τ,φ,τ,τ,φ,φ] rfl rfl (one_of HT_.out (by kernel_rfl)) (by decide) (fun K hK=>?_)
                 refine Kd.R_append_rows_step (Kd.int .u8) (w0:=w) w.heap.size (by rfl) (.tmp 67) (.tmp 69) 22 5 (.int .u8 0) 1 rfl Try.underlying22 info5 rfl (by decide) (by omega) v392 y391 y394 _ _ _ (fun k_=>some k_ ≠ (.slice Ao45 t377.length co45 : Value).ownBlock∧some k_ ≠ (.slice Ao42 y385.length co42 : Value).ownBlock∧some k_ ≠ (v389 : Value).ownBlock) (fun _=>False) rfl rfl ?aO ?aR (fun _ _ h=>h) (fun _ h=>h.elim) ?aF ?aB ?aS ?aL ?_
                 (case aR=>repeat (first|exact (by repeat (first|(with_reducible exact HR397.out)|(with_reducible refine Kd.C_alloc ?_ _)|(with_reducible refine Kd.C_drewN ?_ _)|(with_reducible refine Kd.C_drew ?_)|exact HR397.out))|(with_reducible refine Kd.C_alloc ?_ _)|(with_reducible refine Kd.C_drewN ?_ _)|(with_reducible refine Kd.C_drew ?_)))
                 (case aB=>exact (by repeat (first|(with_reducible first|exact HB.out|apply lA|apply lN|apply lD|refine lS ?_ GE375.out)|exact HB.out)))
                 (case aF=>exact (fun k_ hk=>⟨Kd.fresh' (Kd.R_lt (by (with_reducible repeat (first|apply rA|apply rN|apply rD));exact HO_9.out)) k_ hk,Kd.fresh' (Kd.R_lt (by (with_reducible repeat (first|apply rA|apply rN|apply rD));exact HO387.out)) k_ hk,Kd.fresh' (Kd.R_lt (by (with_reducible repeat (first|apply rA|apply rN|apply rD));exact HO390.out)) k_ hk⟩))
                 (case aO=>exact (by (with_reducible repeat (first|apply rA|apply rN|apply rD));exact Kd.R_mono HO393.out (fun _ hk=>⟨hk.1.1.2,⟨hk.1.2,hk.2⟩⟩)))
                 (case aS=>exact (below_size (by repeat (first|(with_reducible first|exact HB.out|apply lA|apply lN|apply lD|refine lS ?_ GE375.out)|exact HB.out))))
                 (case aL=>have:=LMc27.out;omega)
                 intro v399 w49 ho hb hg hat
                 first|rw [← Ny398.out] at ho|(simp only [Int.reduceToNat] at ho;rw [← Ny398.out] at ho)
                 have n0_:=mK (Kd.R_after (ok:=(fun k_=>some k_ ≠ (.slice Ao42 y385.length co42 : Value).ownBlock∧some k_ ≠ (v389 : Value).ownBlock)) (by (with_reducible repeat (first|apply rA|apply rN|apply rD));exact HO_9.out) hg hat)
                 have n1_:=mK (blk_grown (g:=gb375) (o:=.cells #[.int .i64 a0_0,.int .u32 a0_1,.int .u32 a0_2,.int .u32 a0_3,.slice A0_4 l0_4.length c0_4,.int .i64 a0_5,.int .u32 a0_6,.int .u32 a0_7,.int .u32 a0_8,.int .u32 a0_9,.int .u32 a0_10,.int .u32 a0_11] 26 (0,0)) (by (with_reducible repeat (first|apply bN|apply bD|apply bA));exact BK375.out) hg (Kd.R_ne HO393.out BK375.out (by decide)))
                 have n2_:=mK (Kd.R_after (ok:=(fun k_=>some k_ ≠ (.slice Ao45 t377.length co45 : Value).ownBlock∧some k_ ≠ (v389 : Value).ownBlock)) (by (with_reducible repeat (first|apply rA|apply rN|apply rD));exact HO387.out) hg hat)
                 have n3_:=mK (Kd.R_after (ok:=(fun k_=>some k_ ≠ (.slice Ao45 t377.length co45 : Value).ownBlock∧some k_ ≠ (.slice Ao42 y385.length co42 : Value).ownBlock)) (by (with_reducible repeat (first|apply rA|apply rN|apply rD));exact HO390.out) hg hat)
                 have n4_:=mK (hb)
                 have n6_:=mK ((show Kd.C (Kd.int .u8) w49 A46 y407.length y407 from by rw [Ny407.out,KA46.out];exact Kd.C_drop (m:=240) (c:=co45) ((Kd.R_reads' (Kd.R_after (ok:=(fun k_=>some k_ ≠ (.slice Ao42 y385.length co42 : Value).ownBlock∧some k_ ≠ (v389 : Value).ownBlock)) (by (with_reducible repeat (first|apply rA|apply rN|apply rD));exact HO_9.out) hg hat)).2.2) KL46.out ((Kd.R_reads' (Kd.R_after (ok:=(fun k_=>some k_ ≠ (.slice Ao42 y385.length co42 : Value).ownBlock∧some k_ ≠ (v389 : Value).ownBlock)) (by (with_reducible repeat (first|apply rA|apply rN|apply rD));exact HO_9.out) hg hat)).2.1)))
                 have n7_:=mK (ho)
                 clear HO_9
                 clear BK375
                 clear HO387
                 clear HO390
                 clear HB
                 clear HR410
                 clear HO393
                 have HO_9:=n0_
                 have BK375:=n1_
                 have HO387:=n2_
                 have HO390:=n3_
                 have HB:=n4_
                 have HR410:=n6_
                 have HO400:=n7_
                 clear n0_ n1_ n2_ n3_ n4_ n6_ n7_
                 clear ho hb hg hat
                 obtain ⟨Ao51,co51,eo51⟩:=Kd.R_slice HO390.out
                 (first|subst eo51|(injection eo51 with f1_ f2_ f3_;have f4_:=f1_.symm;have f5_:=f3_.symm;clear f1_ f2_ f3_;subst f4_;subst f5_))
                 refine hK.out _ _ trivial (fun hHeld=>?_)
                 clear hK K
                 refine norm_ (a':=?_) ?_ ?_
                 rotate_left
                 ·show Act.put _ (some 70) _ = _
                  simp only [Act.put,sT,sZ,sS,i64_w,i32_w]
                  rfl
                 refine one_ (i:=5) (N:=some 72) #[τ,τ,τ,τ,τ,τ,τ,φ,τ,τ,φ,φ] rfl rfl (one_of HT_.out (by kernel_rfl)) (by decide) (fun K hK=>?_)
                 refine Kd.R_append_rows_step (Kd.int .u8) (w0:=w) w.heap.size (by rfl) (.tmp 70) (.tmp 71) 22 5 (.int .u8 0) 1 rfl Try.underlying22 info5 rfl (by decide) (by omega) v399 y398 y388 _ _ _ (fun k_=>some k_ ≠ (.slice Ao45 t377.length co45 : Value).ownBlock∧some k_ ≠ (.slice Ao42 y385.length co42 : Value).ownBlock∧some k_ ≠ (.slice Ao51 y388.length co51 : Value).ownBlock) (fun _=>False) rfl rfl ?aO ?aR (fun _ _ h=>h) (fun _ h=>h.elim) ?aF ?aB ?aS ?aL ?_
                 (case aR=>repeat (first|exact (Kd.R_reads' HO390.out).2.2|(with_reducible refine Kd.C_alloc ?_ _)|(with_reducible refine Kd.C_drewN ?_ _)|(with_reducible refine Kd.C_drew ?_)))
                 (case aB=>exact (by repeat (first|(with_reducible first|exact HB.out|apply lA|apply lN|apply lD|refine lS ?_ GE375.out)|exact HB.out)))
                 (case aF=>exact (fun k_ hk=>⟨Kd.fresh' (Kd.R_lt (by (with_reducible repeat (first|apply rA|apply rN|apply rD));exact HO_9.out)) k_ hk,Kd.fresh' (Kd.R_lt (by (with_reducible repeat (first|apply rA|apply rN|apply rD));exact HO387.out)) k_ hk,Kd.fresh' (Kd.R_lt (by (with_reducible repeat (first|apply rA|apply rN|apply rD));exact HO390.out)) k_ hk⟩))
                 (case aO=>exact (by (with_reducible repeat (first|apply rA|apply rN|apply rD));exact HO400.out))
                 (case aS=>exact (below_size (by repeat (first|(with_reducible first|exact HB.out|apply lA|apply lN|apply lD|refine lS ?_ GE375.out)|exact HB.out))))
                 (case aL=>have:=LMc28.out;omega)
                 intro v402 w50 ho hb hg hat
                 first|rw [← Ny401.out] at ho|(simp only [Int.reduceToNat] at ho;rw [← Ny401.out] at ho)
                 have n0_:=mK (Kd.R_after (ok:=(fun k_=>some k_ ≠ (.slice Ao42 y385.length co42 : Value).ownBlock∧some k_ ≠ (.slice Ao51 y388.length co51 : Value).ownBlock)) (by (with_reducible repeat (first|apply rA|apply rN|apply rD));exact HO_9.out) hg hat)
                 have n1_:=mK (blk_grown (g:=gb375) (o:=.cells #[.int .i64 a0_0,.int .u32 a0_1,.int .u32 a0_2,.int .u32 a0_3,.slice A0_4 l0_4.length c0_4,.int .i64 a0_5,.int .u32 a0_6,.int .u32 a0_7,.int .u32 a0_8,.int .u32 a0_9,.int .u32 a0_10,.int .u32 a0_11] 26 (0,0)) (by (with_reducible repeat (first|apply bN|apply bD|apply bA));exact BK375.out) hg (Kd.R_ne HO400.out BK375.out (by decide)))
                 have n2_:=mK (Kd.R_after (ok:=(fun k_=>some k_ ≠ (.slice Ao45 t377.length co45 : Value).ownBlock∧some k_ ≠ (.slice Ao51 y388.length co51 : Value).ownBlock)) (by (with_reducible repeat (first|apply rA|apply rN|apply rD));exact HO387.out) hg hat)
                 have n3_:=mK (Kd.R_after (ok:=(fun k_=>some k_ ≠ (.slice Ao45 t377.length co45 : Value).ownBlock∧some k_ ≠ (.slice Ao42 y385.length co42 : Value).ownBlock)) (by (with_reducible repeat (first|apply rA|apply rN|apply rD));exact HO390.out) hg hat)
                 have n4_:=mK (hb)
                 have n6_:=mK ((show Kd.C (Kd.int .u8) w50 A46 y407.length y407 from by rw [Ny407.out,KA46.out];exact Kd.C_drop (m:=240) (c:=co45) ((Kd.R_reads' (Kd.R_after (ok:=(fun k_=>some k_ ≠ (.slice Ao42 y385.length co42 : Value).ownBlock∧some k_ ≠ (.slice Ao51 y388.length co51 : Value).ownBlock)) (by (with_reducible repeat (first|apply rA|apply rN|apply rD));exact HO_9.out) hg hat)).2.2) KL46.out ((Kd.R_reads' (Kd.R_after (ok:=(fun k_=>some k_ ≠ (.slice Ao42 y385.length co42 : Value).ownBlock∧some k_ ≠ (.slice Ao51 y388.length co51 : Value).ownBlock)) (by (with_reducible repeat (first|apply rA|apply rN|apply rD));exact HO_9.out) hg hat)).2.1)))
                 have n7_:=mK (ho)
                 clear HO_9
                 clear BK375
                 clear HO387
                 clear HO390
                 clear HB
                 clear HR410
                 clear HO400
                 have HO_9:=n0_
                 have BK375:=n1_
                 have HO387:=n2_
                 have HO390:=n3_
                 have HB:=n4_
                 have HR410:=n6_
                 have HO403:=n7_
                 clear n0_ n1_ n2_ n3_ n4_ n6_ n7_
                 clear ho hb hg hat
                 refine hK.out _ _ trivial (fun hHeld=>?_)
                 clear hK K
                 refine norm_ (a':=?_) ?_ ?_
                 rotate_left
                 ·show Act.put _ (some 72) _ = _
                  simp only [Act.put,sT,sZ,sS,i64_w,i32_w]
                  rfl
                 refine one_ (i:=7) (N:=some 74) #[τ,τ,τ,τ,τ,τ,τ,τ,τ,τ,φ,φ] rfl rfl (one_of HT_.out (by kernel_rfl)) (by decide) (fun K hK=>?_)
                 refine Kd.R_append_rows_step (Kd.int .u8) (w0:=w) w.heap.size (by rfl) (.tmp 72) (.tmp 73) 22 5 (.int .u8 0) 1 rfl Try.underlying22 info5 rfl (by decide) (by omega) v402 y401 l2 _ _ _ (fun k_=>some k_ ≠ (.slice Ao45 t377.length co45 : Value).ownBlock∧some k_ ≠ (.slice Ao42 y385.length co42 : Value).ownBlock∧some k_ ≠ (.slice Ao51 y388.length co51 : Value).ownBlock) (fun _=>False) rfl rfl ?aO ?aR (fun _ _ h=>h) (fun _ h=>h.elim) ?aF ?aB ?aS ?aL ?_
                 (case aR=>repeat (first|exact (Kd.C_below HR2.out HB.out)|(with_reducible refine Kd.C_alloc ?_ _)|(with_reducible refine Kd.C_drewN ?_ _)|(with_reducible refine Kd.C_drew ?_)))
                 (case aB=>exact (by repeat (first|(with_reducible first|exact HB.out|apply lA|apply lN|apply lD|refine lS ?_ GE375.out)|exact HB.out)))
                 (case aF=>exact (fun k_ hk=>⟨Kd.fresh' (Kd.R_lt (by (with_reducible repeat (first|apply rA|apply rN|apply rD));exact HO_9.out)) k_ hk,Kd.fresh' (Kd.R_lt (by (with_reducible repeat (first|apply rA|apply rN|apply rD));exact HO387.out)) k_ hk,Kd.fresh' (Kd.R_lt (by (with_reducible repeat (first|apply rA|apply rN|apply rD));exact HO390.out)) k_ hk⟩))
                 (case aO=>exact (by (with_reducible repeat (first|apply rA|apply rN|apply rD));exact HO403.out))
                 (case aS=>exact (below_size (by repeat (first|(with_reducible first|exact HB.out|apply lA|apply lN|apply lD|refine lS ?_ GE375.out)|exact HB.out))))
                 (case aL=>have:=LMc29.out;omega)
                 intro v405 w52 ho hb hg hat
                 first|rw [← Ny404.out] at ho|(simp only [Int.reduceToNat] at ho;rw [← Ny404.out] at ho)
                 have n0_:=mK (Kd.R_after (ok:=(fun k_=>some k_ ≠ (.slice Ao42 y385.length co42 : Value).ownBlock∧some k_ ≠ (.slice Ao51 y388.length co51 : Value).ownBlock)) (by (with_reducible repeat (first|apply rA|apply rN|apply rD));exact HO_9.out) hg hat)
                 have n1_:=mK (blk_grown (g:=gb375) (o:=.cells #[.int .i64 a0_0,.int .u32 a0_1,.int .u32 a0_2,.int .u32 a0_3,.slice A0_4 l0_4.length c0_4,.int .i64 a0_5,.int .u32 a0_6,.int .u32 a0_7,.int .u32 a0_8,.int .u32 a0_9,.int .u32 a0_10,.int .u32 a0_11] 26 (0,0)) (by (with_reducible repeat (first|apply bN|apply bD|apply bA));exact BK375.out) hg (Kd.R_ne HO403.out BK375.out (by decide)))
                 have n2_:=mK (Kd.R_after (ok:=(fun k_=>some k_ ≠ (.slice Ao45 t377.length co45 : Value).ownBlock∧some k_ ≠ (.slice Ao51 y388.length co51 : Value).ownBlock)) (by (with_reducible repeat (first|apply rA|apply rN|apply rD));exact HO387.out) hg hat)
                 have n3_:=mK (Kd.R_after (ok:=(fun k_=>some k_ ≠ (.slice Ao45 t377.length co45 : Value).ownBlock∧some k_ ≠ (.slice Ao42 y385.length co42 : Value).ownBlock)) (by (with_reducible repeat (first|apply rA|apply rN|apply rD));exact HO390.out) hg hat)
                 have n4_:=mK (hb)
                 have n6_:=mK ((show Kd.C (Kd.int .u8) w52 A46 y407.length y407 from by rw [Ny407.out,KA46.out];exact Kd.C_drop (m:=240) (c:=co45) ((Kd.R_reads' (Kd.R_after (ok:=(fun k_=>some k_ ≠ (.slice Ao42 y385.length co42 : Value).ownBlock∧some k_ ≠ (.slice Ao51 y388.length co51 : Value).ownBlock)) (by (with_reducible repeat (first|apply rA|apply rN|apply rD));exact HO_9.out) hg hat)).2.2) KL46.out ((Kd.R_reads' (Kd.R_after (ok:=(fun k_=>some k_ ≠ (.slice Ao42 y385.length co42 : Value).ownBlock∧some k_ ≠ (.slice Ao51 y388.length co51 : Value).ownBlock)) (by (with_reducible repeat (first|apply rA|apply rN|apply rD));exact HO_9.out) hg hat)).2.1)))
                 have n7_:=mK (ho)
                 clear HO_9
                 clear BK375
                 clear HO387
                 clear HO390
                 clear HB
                 clear HR410
                 clear HO403
                 have HO_9:=n0_
                 have BK375:=n1_
                 have HO387:=n2_
                 have HO390:=n3_
                 have HB:=n4_
                 have HR410:=n6_
                 have HO406:=n7_
                 clear n0_ n1_ n2_ n3_ n4_ n6_ n7_
                 clear ho hb hg hat
                 refine hK.out _ _ trivial (fun hHeld=>?_)
                 clear hK K
                 refine norm_ (a':=?_) ?_ ?_
                 rotate_left
                 ·show Act.put _ (some 74) _ = _
                  simp only [Act.put,sT,sZ,sS,i64_w,i32_w]
                  rfl
                 refine one_ (i:=10) (N:=some 77) #[τ,τ,τ,τ,τ,τ,τ,τ,τ,τ,τ,φ] rfl rfl (one_of HT_.out (by kernel_rfl)) (by decide) (fun K hK=>?_)
                 refine Kd.R_append_rows_step (Kd.int .u8) (w0:=w) w.heap.size (by rfl) (.tmp 74) (.tmp 76) 22 5 (.int .u8 0) 1 rfl Try.underlying22 info5 rfl (by decide) (by omega) v405 y404 y407 _ _ _ (fun k_=>some k_ ≠ (.slice Ao45 t377.length co45 : Value).ownBlock∧some k_ ≠ (.slice Ao42 y385.length co42 : Value).ownBlock∧some k_ ≠ (.slice Ao51 y388.length co51 : Value).ownBlock) (fun _=>False) rfl rfl ?aO ?aR (fun _ _ h=>h) (fun _ h=>h.elim) ?aF ?aB ?aS ?aL ?_
                 (case aR=>repeat (first|exact (by repeat (first|(with_reducible exact HR410.out)|(with_reducible refine Kd.C_alloc ?_ _)|(with_reducible refine Kd.C_drewN ?_ _)|(with_reducible refine Kd.C_drew ?_)|exact HR410.out))|(with_reducible refine Kd.C_alloc ?_ _)|(with_reducible refine Kd.C_drewN ?_ _)|(with_reducible refine Kd.C_drew ?_)))
                 (case aB=>exact (by repeat (first|(with_reducible first|exact HB.out|apply lA|apply lN|apply lD|refine lS ?_ GE375.out)|exact HB.out)))
                 (case aF=>exact (fun k_ hk=>⟨Kd.fresh' (Kd.R_lt (by (with_reducible repeat (first|apply rA|apply rN|apply rD));exact HO_9.out)) k_ hk,Kd.fresh' (Kd.R_lt (by (with_reducible repeat (first|apply rA|apply rN|apply rD));exact HO387.out)) k_ hk,Kd.fresh' (Kd.R_lt (by (with_reducible repeat (first|apply rA|apply rN|apply rD));exact HO390.out)) k_ hk⟩))
                 (case aO=>exact (by (with_reducible repeat (first|apply rA|apply rN|apply rD));exact HO406.out))
                 (case aS=>exact (below_size (by repeat (first|(with_reducible first|exact HB.out|apply lA|apply lN|apply lD|refine lS ?_ GE375.out)|exact HB.out))))
                 (case aL=>have:=LMc31.out;omega)
                 intro v412 w53 ho hb hg hat
                 first|rw [← Ny411.out] at ho|(simp only [Int.reduceToNat] at ho;rw [← Ny411.out] at ho)
                 have n0_:=mK (Kd.R_after (ok:=(fun k_=>some k_ ≠ (.slice Ao42 y385.length co42 : Value).ownBlock∧some k_ ≠ (.slice Ao51 y388.length co51 : Value).ownBlock)) (by (with_reducible repeat (first|apply rA|apply rN|apply rD));exact HO_9.out) hg hat)
                 have n1_:=mK (blk_grown (g:=gb375) (o:=.cells #[.int .i64 a0_0,.int .u32 a0_1,.int .u32 a0_2,.int .u32 a0_3,.slice A0_4 l0_4.length c0_4,.int .i64 a0_5,.int .u32 a0_6,.int .u32 a0_7,.int .u32 a0_8,.int .u32 a0_9,.int .u32 a0_10,.int .u32 a0_11] 26 (0,0)) (by (with_reducible repeat (first|apply bN|apply bD|apply bA));exact BK375.out) hg (Kd.R_ne HO406.out BK375.out (by decide)))
                 have n2_:=mK (Kd.R_after (ok:=(fun k_=>some k_ ≠ (.slice Ao45 t377.length co45 : Value).ownBlock∧some k_ ≠ (.slice Ao51 y388.length co51 : Value).ownBlock)) (by (with_reducible repeat (first|apply rA|apply rN|apply rD));exact HO387.out) hg hat)
                 have n3_:=mK (Kd.R_after (ok:=(fun k_=>some k_ ≠ (.slice Ao45 t377.length co45 : Value).ownBlock∧some k_ ≠ (.slice Ao42 y385.length co42 : Value).ownBlock)) (by (with_reducible repeat (first|apply rA|apply rN|apply rD));exact HO390.out) hg hat)
                 have n4_:=mK (hb)
                 have n7_:=mK (ho)
                 clear HO_9
                 clear BK375
                 clear HO387
                 clear HO390
                 clear HB
                 clear HO406
                 have HO_9:=n0_
                 have BK375:=n1_
                 have HO387:=n2_
                 have HO390:=n3_
                 have HB:=n4_
                 have HO413:=n7_
                 clear n0_ n1_ n2_ n3_ n4_ n7_
                 clear ho hb hg hat
                 refine hK.out _ _ trivial (fun hHeld=>?_)
                 clear hK K
                 refine norm_ (a':=?_) ?_ ?_
                 rotate_left
                 ·show Act.put _ (some 77) _ = _
                  simp only [Act.put,sT,sZ,sS,i64_w,i32_w]
                  rfl
                 refine pure_ (i:=11) (N:=some 12) (v:=?_) (a':=?_) #[τ,τ,τ,τ,τ,τ,τ,τ,τ,τ,τ,τ] rfl rfl (any_of HT_.out (by kernel_rfl)) (fun _ _ _ h=>h) (Or.inl ⟨by rfl,?_⟩) ?_ ?_
                 rotate_left
                 ·intro w'
                  go_simp
                  with_reducible rfl
                 rotate_left
                 ·simp only [Act.put,sT,sZ,sS,i64_w,i32_w]
                  rfl
                 refine done_ (done_of HT_.out (by kernel_rfl)) ?_
                 obtain ⟨Ao54,co54,eo54⟩:=Kd.R_slice HO413.out
                 subst eo54
                 go_upto_region 9 with (first|((with_reducible refine gate_callee (f:=8) rfl ?_);refine goesL_ (some 80) rfl rfl Try.func8 (by kernel_rfl) rfl #[.slice Ao54 y411.length co54] rfl (by (try simp only [List.map_toArray,List.map_cons,List.map_nil]);first|done|rfl|(simp only [List.length_drop,List.length_take];rfl)) ?_;(with_reducible refine (dhcp_Get.calls kj13 _ _ y411 t414 t415 t416 t417 t418 t421 t422 t423 t424 t425 t426 t427 t428 _ ?side1 ?side2 A32.out).mono ?_);(case side1=>repeat (first|exact (Kd.R_reads' HO413.out).2.2|(with_reducible refine Kd.C_alloc ?_ _)|(with_reducible refine Kd.C_drewN ?_ _)|(with_reducible refine Kd.C_drew ?_)));(case side2=>exact (Kd.R_reads' HO413.out).2.1);rintro e w55 ⟨v419,rfl,ho0,hb⟩;refine ⟨_,rfl,?_⟩;have n4_:=mK (Kd.R_lower (Kd.R_new' (Kd.R_new' (Kd.R_new' (Kd.R_new' ho0 (Kd.R_lt (by (with_reducible repeat (first|apply rA|apply rN|apply rD));exact HO_9.out))) (Kd.R_lt (by (with_reducible repeat (first|apply rA|apply rN|apply rD));exact HO387.out))) (Kd.R_lt (by (with_reducible repeat (first|apply rA|apply rN|apply rD));exact HO390.out))) (Kd.R_lt (by (with_reducible repeat (first|apply rA|apply rN|apply rD));exact HO413.out))) (below_size (by repeat (first|(with_reducible first|exact HB.out|apply lA|apply lN|apply lD|refine lS ?_ GE375.out)|exact HB.out))));have n5_:=mK (blk_below (g:=gb375) (o:=.cells #[.int .i64 a0_0,.int .u32 a0_1,.int .u32 a0_2,.int .u32 a0_3,.slice A0_4 l0_4.length c0_4,.int .i64 a0_5,.int .u32 a0_6,.int .u32 a0_7,.int .u32 a0_8,.int .u32 a0_9,.int .u32 a0_10,.int .u32 a0_11] 26 (0,0)) (by (with_reducible repeat (first|apply bN|apply bD|apply bA));exact BK375.out) hb);have n8_:=mK (below_step (by repeat (first|(with_reducible first|exact HB.out|apply lA|apply lN|apply lD|refine lS ?_ GE375.out)|exact HB.out)) hb);clear BK375;clear HB;have HO420:=n4_;have BK375:=n5_;have HB:=n8_;clear n4_ n5_ n8_;(try clear hb);(try clear hb2);(try clear hk);(try clear hi);(try clear ho0))|((with_reducible refine gate_dst (N:=13) rfl ?_);(try (refine gate_guard (by rfl) ?_;dsimp only));refine box_event ?hg (N:=13) ?hd (cs:=#[.int .i64 0,.int .u32 0,.int .u32 0,.int .u32 0,.slice none 0 0,.int .i64 0,.int .u32 0,.int .u32 0,.int .u32 0,.int .u32 0,.int .u32 0,.int .u32 0]) (t:=26) ?hr ?_;(case hd=>rfl);(case hg=>rfl);(case hr=>first|(go_simp;done)|(go_simp;rfl));intro gb429 hg w56 hbox hb;have n4_:=mK (Kd.R_below (by (with_reducible repeat (first|apply rA|apply rN|apply rD));exact HO420.out) hb);have n5_:=mK (blk_below (g:=gb375) (o:=.cells #[.int .i64 a0_0,.int .u32 a0_1,.int .u32 a0_2,.int .u32 a0_3,.slice A0_4 l0_4.length c0_4,.int .i64 a0_5,.int .u32 a0_6,.int .u32 a0_7,.int .u32 a0_8,.int .u32 a0_9,.int .u32 a0_10,.int .u32 a0_11] 26 (0,0)) (by (with_reducible repeat (first|apply bN|apply bD|apply bA));exact BK375.out) hb);have n8_:=mK (below_step (by repeat (first|(with_reducible first|exact HB.out|apply lA|apply lN|apply lD|refine lS ?_ GE375.out)|exact HB.out)) hb);have n9_:=mK (hbox);have n11_:=mK ((by rw [hg];exact (below_size (by repeat (first|(with_reducible first|exact HB.out|apply lA|apply lN|apply lD|refine lS ?_ GE375.out)|exact HB.out))) : w.heap.size ≤ gb429));have n12_:=mK ((by rw [hg];exact Nat.ne_of_lt (blk_lt (g:=gb375) (o:=.cells #[.int .i64 a0_0,.int .u32 a0_1,.int .u32 a0_2,.int .u32 a0_3,.slice A0_4 l0_4.length c0_4,.int .i64 a0_5,.int .u32 a0_6,.int .u32 a0_7,.int .u32 a0_8,.int .u32 a0_9,.int .u32 a0_10,.int .u32 a0_11] 26 (0,0)) (by (with_reducible repeat (first|apply bN|apply bD|apply bA));exact BK375.out)) : gb375 ≠ gb429));have n13_:=mK ((by rw [hg];exact Nat.ne_of_gt (blk_lt (g:=gb375) (o:=.cells #[.int .i64 a0_0,.int .u32 a0_1,.int .u32 a0_2,.int .u32 a0_3,.slice A0_4 l0_4.length c0_4,.int .i64 a0_5,.int .u32 a0_6,.int .u32 a0_7,.int .u32 a0_8,.int .u32 a0_9,.int .u32 a0_10,.int .u32 a0_11] 26 (0,0)) (by (with_reducible repeat (first|apply bN|apply bD|apply bA));exact BK375.out)) : gb429 ≠ gb375));clear HO420;clear BK375;clear HB;have HO420:=n4_;have BK375:=n5_;have HB:=n8_;have BK429:=n9_;have GE429:=n11_;have NB375_429:=n12_;have NB429_375:=n13_;clear n4_ n5_ n8_ n9_ n11_ n12_ n13_;clear hb hbox hg;have hnb57:=NB429_375.out;have hnc57:=NB375_429.out;have hcz58_0 : w56.cell? ⟨gb429,0,none⟩ = some (.int .i64 0):=(blk_cell BK429.out 0).trans rfl;have hcz58_1 : w56.cell? ⟨gb429,1,none⟩ = some (.int .u32 0):=(blk_cell BK429.out 1).trans rfl;have hcz58_2 : w56.cell? ⟨gb429,2,none⟩ = some (.int .u32 0):=(blk_cell BK429.out 2).trans rfl;have hcz58_3 : w56.cell? ⟨gb429,3,none⟩ = some (.int .u32 0):=(blk_cell BK429.out 3).trans rfl;have hcz58_4 : w56.cell? ⟨gb429,4,none⟩ = some (.slice none 0 0):=(blk_cell BK429.out 4).trans rfl;have hcz58_5 : w56.cell? ⟨gb429,5,none⟩ = some (.int .i64 0):=(blk_cell BK429.out 5).trans rfl;have hcz58_6 : w56.cell? ⟨gb429,6,none⟩ = some (.int .u32 0):=(blk_cell BK429.out 6).trans rfl;have hcz58_7 : w56.cell? ⟨gb429,7,none⟩ = some (.int .u32 0):=(blk_cell BK429.out 7).trans rfl;have hcz58_8 : w56.cell? ⟨gb429,8,none⟩ = some (.int .u32 0):=(blk_cell BK429.out 8).trans rfl;have hcz58_9 : w56.cell? ⟨gb429,9,none⟩ = some (.int .u32 0):=(blk_cell BK429.out 9).trans rfl;have hcz58_10 : w56.cell? ⟨gb429,10,none⟩ = some (.int .u32 0):=(blk_cell BK429.out 10).trans rfl;have hcz58_11 : w56.cell? ⟨gb429,11,none⟩ = some (.int .u32 0):=(blk_cell BK429.out 11).trans rfl;have hfz58_0:=blk_frozen BK429.out 0;have hfz58_1:=blk_frozen BK429.out 1;have hfz58_2:=blk_frozen BK429.out 2;have hfz58_3:=blk_frozen BK429.out 3;have hfz58_4:=blk_frozen BK429.out 4;have hfz58_5:=blk_frozen BK429.out 5;have hfz58_6:=blk_frozen BK429.out 6;have hfz58_7:=blk_frozen BK429.out 7;have hfz58_8:=blk_frozen BK429.out 8;have hfz58_9:=blk_frozen BK429.out 9;have hfz58_10:=blk_frozen BK429.out 10;have hfz58_11:=blk_frozen BK429.out 11;obtain ⟨Ao59,co59,eo59⟩:=Kd.R_slice HO420.out;subst eo59;have hcz60_0 : w56.cell? ⟨gb375,0,none⟩ = some (.int .i64 a0_0):=(blk_cell BK375.out 0).trans rfl;have hcz60_1 : w56.cell? ⟨gb375,1,none⟩ = some (.int .u32 a0_1):=(blk_cell BK375.out 1).trans rfl;have hcz60_2 : w56.cell? ⟨gb375,2,none⟩ = some (.int .u32 a0_2):=(blk_cell BK375.out 2).trans rfl;have hcz60_3 : w56.cell? ⟨gb375,3,none⟩ = some (.int .u32 a0_3):=(blk_cell BK375.out 3).trans rfl;have hcz60_4 : w56.cell? ⟨gb375,4,none⟩ = some (.slice A0_4 l0_4.length c0_4):=(blk_cell BK375.out 4).trans rfl;have hcz60_5 : w56.cell? ⟨gb375,5,none⟩ = some (.int .i64 a0_5):=(blk_cell BK375.out 5).trans rfl;have hcz60_6 : w56.cell? ⟨gb375,6,none⟩ = some (.int .u32 a0_6):=(blk_cell BK375.out 6).trans rfl;have hcz60_7 : w56.cell? ⟨gb375,7,none⟩ = some (.int .u32 a0_7):=(blk_cell BK375.out 7).trans rfl;have hcz60_8 : w56.cell? ⟨gb375,8,none⟩ = some (.int .u32 a0_8):=(blk_cell BK375.out 8).trans rfl;have hcz60_9 : w56.cell? ⟨gb375,9,none⟩ = some (.int .u32 a0_9):=(blk_cell BK375.out 9).trans rfl;have hcz60_10 : w56.cell? ⟨gb375,10,none⟩ = some (.int .u32 a0_10):=(blk_cell BK375.out 10).trans rfl;have hcz60_11 : w56.cell? ⟨gb375,11,none⟩ = some (.int .u32 a0_11):=(blk_cell BK375.out 11).trans rfl;have hfz60_0:=blk_frozen BK375.out 0;have hfz60_1:=blk_frozen BK375.out 1;have hfz60_2:=blk_frozen BK375.out 2;have hfz60_3:=blk_frozen BK375.out 3;have hfz60_4:=blk_frozen BK375.out 4;have hfz60_5:=blk_frozen BK375.out 5;have hfz60_6:=blk_frozen BK375.out 6;have hfz60_7:=blk_frozen BK375.out 7;have hfz60_8:=blk_frozen BK375.out 8;have hfz60_9:=blk_frozen BK375.out 9;have hfz60_10:=blk_frozen BK375.out 10;have hfz60_11:=blk_frozen BK375.out 11))
                 go_upto_region 10 with (first|((with_reducible refine gate_dst (N:=15) rfl ?_);(try (refine gate_guard (by rfl) ?_;dsimp only));refine box_event ?hg (N:=15) ?hd (cs:=#[.int .i64 0,.int .u32 0,.int .u32 0,.int .u32 0,.slice none 0 0,.int .i64 0,.int .u32 0,.int .u32 0,.int .u32 0,.int .u32 0,.int .u32 0,.int .u32 0]) (t:=26) ?hr ?_;(case hd=>rfl);(case hg=>rfl);(case hr=>first|(go_simp;done)|(go_simp;rfl));intro gb430 hg w61 hbox hb;have n4_:=mK (Kd.R_below (by (with_reducible repeat (first|apply rA|apply rN|apply rD));exact (Kd.R_mono (Kd.R_far (p:=⟨gb429,11,none⟩) (Kd.R_far (p:=⟨gb429,10,none⟩) (Kd.R_far (p:=⟨gb429,9,none⟩) (Kd.R_far (p:=⟨gb429,8,none⟩) (Kd.R_far (p:=⟨gb429,7,none⟩) (Kd.R_far (p:=⟨gb429,6,none⟩) (Kd.R_far (p:=⟨gb429,5,none⟩) (Kd.R_far (p:=⟨gb429,4,none⟩) (Kd.R_far (p:=⟨gb429,3,none⟩) (Kd.R_far (p:=⟨gb429,2,none⟩) (Kd.R_far (p:=⟨gb429,1,none⟩) (Kd.R_far (p:=⟨gb429,0,none⟩) (Kd.R_types HO420.out BK429.out (by decide)) (fun _ hk=>hk.2) (.int .i64 t414)) (fun _ hk=>hk.2) (.int .u32 t415)) (fun _ hk=>hk.2) (.int .u32 t416)) (fun _ hk=>hk.2) (.int .u32 t417)) (fun _ hk=>hk.2) (.slice Ao59 t418.length co59)) (fun _ hk=>hk.2) (.int .i64 t421)) (fun _ hk=>hk.2) (.int .u32 t422)) (fun _ hk=>hk.2) (.int .u32 t423)) (fun _ hk=>hk.2) (.int .u32 t424)) (fun _ hk=>hk.2) (.int .u32 t425)) (fun _ hk=>hk.2) (.int .u32 t426)) (fun _ hk=>hk.2) (.int .u32 t427)) (fun _ h_=>h_.1))) hb);have n8_:=mK (blk_below (g:=gb429) (o:=.cells #[.int .i64 t414,.int .u32 t415,.int .u32 t416,.int .u32 t417,.slice Ao59 t418.length co59,.int .i64 t421,.int .u32 t422,.int .u32 t423,.int .u32 t424,.int .u32 t425,.int .u32 t426,.int .u32 t427] 26 (0,0)) (by (with_reducible repeat (first|apply bN|apply bD|apply bA));refine blk_put (cs:=#[.int .i64 t414,.int .u32 t415,.int .u32 t416,.int .u32 t417,.slice Ao59 t418.length co59,.int .i64 t421,.int .u32 t422,.int .u32 t423,.int .u32 t424,.int .u32 t425,.int .u32 t426,.int .u32 0]) ?_ 11 _ rfl;(with_reducible repeat (first|apply bN|apply bD|apply bA));refine blk_put (cs:=#[.int .i64 t414,.int .u32 t415,.int .u32 t416,.int .u32 t417,.slice Ao59 t418.length co59,.int .i64 t421,.int .u32 t422,.int .u32 t423,.int .u32 t424,.int .u32 t425,.int .u32 0,.int .u32 0]) ?_ 10 _ rfl;(with_reducible repeat (first|apply bN|apply bD|apply bA));refine blk_put (cs:=#[.int .i64 t414,.int .u32 t415,.int .u32 t416,.int .u32 t417,.slice Ao59 t418.length co59,.int .i64 t421,.int .u32 t422,.int .u32 t423,.int .u32 t424,.int .u32 0,.int .u32 0,.int .u32 0]) ?_ 9 _ rfl;(with_reducible repeat (first|apply bN|apply bD|apply bA));refine blk_put (cs:=#[.int .i64 t414,.int .u32 t415,.int .u32 t416,.int .u32 t417,.slice Ao59 t418.length co59,.int .i64 t421,.int .u32 t422,.int .u32 t423,.int .u32 0,.int .u32 0,.int .u32 0,.int .u32 0]) ?_ 8 _ rfl;(with_reducible repeat (first|apply bN|apply bD|apply bA));refine blk_put (cs:=#[.int .i64 t414,.int .u32 t415,.int .u32 t416,.int .u32 t417,.slice Ao59 t418.length co59,.int .i64 t421,.int .u32 t422,.int .u32 0,.int .u32 0,.int .u32 0,.int .u32 0,.int .u32 0]) ?_ 7 _ rfl;(with_reducible repeat (first|apply bN|apply bD|apply bA));refine blk_put (cs:=#[.int .i64 t414,.int .u32 t415,.int .u32 t416,.int .u32 t417,.slice Ao59 t418.length co59,.int .i64 t421,.int .u32 0,.int .u32 0,.int .u32 0,.int .u32 0,.int .u32 0,.int .u32 0]) ?_ 6 _ rfl;(with_reducible repeat (first|apply bN|apply bD|apply bA));refine blk_put (cs:=#[.int .i64 t414,.int .u32 t415,.int .u32 t416,.int .u32 t417,.slice Ao59 t418.length co59,.int .i64 0,.int .u32 0,.int .u32 0,.int .u32 0,.int .u32 0,.int .u32 0,.int .u32 0]) ?_ 5 _ rfl;(with_reducible repeat (first|apply bN|apply bD|apply bA));refine blk_put (cs:=#[.int .i64 t414,.int .u32 t415,.int .u32 t416,.int .u32 t417,.slice none 0 0,.int .i64 0,.int .u32 0,.int .u32 0,.int .u32 0,.int .u32 0,.int .u32 0,.int .u32 0]) ?_ 4 _ rfl;(with_reducible repeat (first|apply bN|apply bD|apply bA));refine blk_put (cs:=#[.int .i64 t414,.int .u32 t415,.int .u32 t416,.int .u32 0,.slice none 0 0,.int .i64 0,.int .u32 0,.int .u32 0,.int .u32 0,.int .u32 0,.int .u32 0,.int .u32 0]) ?_ 3 _ rfl;(with_reducible repeat (first|apply bN|apply bD|apply bA));refine blk_put (cs:=#[.int .i64 t414,.int .u32 t415,.int .u32 0,.int .u32 0,.slice none 0 0,.int .i64 0,.int .u32 0,.int .u32 0,.int .u32 0,.int .u32 0,.int .u32 0,.int .u32 0]) ?_ 2 _ rfl;(with_reducible repeat (first|apply bN|apply bD|apply bA));refine blk_put (cs:=#[.int .i64 t414,.int .u32 0,.int .u32 0,.int .u32 0,.slice none 0 0,.int .i64 0,.int .u32 0,.int .u32 0,.int .u32 0,.int .u32 0,.int .u32 0,.int .u32 0]) ?_ 1 _ rfl;(with_reducible repeat (first|apply bN|apply bD|apply bA));refine blk_put (cs:=#[.int .i64 0,.int .u32 0,.int .u32 0,.int .u32 0,.slice none 0 0,.int .i64 0,.int .u32 0,.int .u32 0,.int .u32 0,.int .u32 0,.int .u32 0,.int .u32 0]) ?_ 0 _ rfl;(with_reducible repeat (first|apply bN|apply bD|apply bA));exact BK429.out) hb);have n9_:=mK (below_step (by repeat (first|(with_reducible first|exact HB.out|apply lA|apply lN|apply lD|refine lS ?_ GE375.out|refine lS ?_ GE429.out)|exact HB.out)) hb);have n10_:=mK (hbox);have n12_:=mK ((by rw [hg];exact (below_size (by repeat (first|(with_reducible first|exact HB.out|apply lA|apply lN|apply lD|refine lS ?_ GE375.out|refine lS ?_ GE429.out)|exact HB.out))) : w.heap.size ≤ gb430));have n13_:=mK ((by rw [hg];exact Nat.ne_of_lt (blk_lt (g:=gb375) (o:=.cells #[.int .i64 a0_0,.int .u32 a0_1,.int .u32 a0_2,.int .u32 a0_3,.slice A0_4 l0_4.length c0_4,.int .i64 a0_5,.int .u32 a0_6,.int .u32 a0_7,.int .u32 a0_8,.int .u32 a0_9,.int .u32 a0_10,.int .u32 a0_11] 26 (0,0)) (by (with_reducible repeat (first|apply bN|apply bD|apply bA));refine blk_far ?_ NB375_429.out _;(with_reducible repeat (first|apply bN|apply bD|apply bA));refine blk_far ?_ NB375_429.out _;(with_reducible repeat (first|apply bN|apply bD|apply bA));refine blk_far ?_ NB375_429.out _;(with_reducible repeat (first|apply bN|apply bD|apply bA));refine blk_far ?_ NB375_429.out _;(with_reducible repeat (first|apply bN|apply bD|apply bA));refine blk_far ?_ NB375_429.out _;(with_reducible repeat (first|apply bN|apply bD|apply bA));refine blk_far ?_ NB375_429.out _;(with_reducible repeat (first|apply bN|apply bD|apply bA));refine blk_far ?_ NB375_429.out _;(with_reducible repeat (first|apply bN|apply bD|apply bA));refine blk_far ?_ NB375_429.out _;(with_reducible repeat (first|apply bN|apply bD|apply bA));refine blk_far ?_ NB375_429.out _;(with_reducible repeat (first|apply bN|apply bD|apply bA));refine blk_far ?_ NB375_429.out _;(with_reducible repeat (first|apply bN|apply bD|apply bA));refine blk_far ?_ NB375_429.out _;(with_reducible repeat (first|apply bN|apply bD|apply bA));refine blk_far ?_ NB375_429.out _;(with_reducible repeat (first|apply bN|apply bD|apply bA));exact BK375.out)) : gb375 ≠ gb430));have n14_:=mK ((by rw [hg];exact Nat.ne_of_gt (blk_lt (g:=gb375) (o:=.cells #[.int .i64 a0_0,.int .u32 a0_1,.int .u32 a0_2,.int .u32 a0_3,.slice A0_4 l0_4.length c0_4,.int .i64 a0_5,.int .u32 a0_6,.int .u32 a0_7,.int .u32 a0_8,.int .u32 a0_9,.int .u32 a0_10,.int .u32 a0_11] 26 (0,0)) (by (with_reducible repeat (first|apply bN|apply bD|apply bA));refine blk_far ?_ NB375_429.out _;(with_reducible repeat (first|apply bN|apply bD|apply bA));refine blk_far ?_ NB375_429.out _;(with_reducible repeat (first|apply bN|apply bD|apply bA));refine blk_far ?_ NB375_429.out _;(with_reducible repeat (first|apply bN|apply bD|apply bA));refine blk_far ?_ NB375_429.out _;(with_reducible repeat (first|apply bN|apply bD|apply bA));refine blk_far ?_ NB375_429.out _;(with_reducible repeat (first|apply bN|apply bD|apply bA));refine blk_far ?_ NB375_429.out _;(with_reducible repeat (first|apply bN|apply bD|apply bA));refine blk_far ?_ NB375_429.out _;(with_reducible repeat (first|apply bN|apply bD|apply bA));refine blk_far ?_ NB375_429.out _;(with_reducible repeat (first|apply bN|apply bD|apply bA));refine blk_far ?_ NB375_429.out _;(with_reducible repeat (first|apply bN|apply bD|apply bA));refine blk_far ?_ NB375_429.out _;(with_reducible repeat (first|apply bN|apply bD|apply bA));refine blk_far ?_ NB375_429.out _;(with_reducible repeat (first|apply bN|apply bD|apply bA));refine blk_far ?_ NB375_429.out _;(with_reducible repeat (first|apply bN|apply bD|apply bA));exact BK375.out)) : gb430 ≠ gb375));have n15_:=mK ((by rw [hg];exact Nat.ne_of_lt (blk_lt (g:=gb429) (o:=.cells #[.int .i64 t414,.int .u32 t415,.int .u32 t416,.int .u32 t417,.slice Ao59 t418.length co59,.int .i64 t421,.int .u32 t422,.int .u32 t423,.int .u32 t424,.int .u32 t425,.int .u32 t426,.int .u32 t427] 26 (0,0)) (by (with_reducible repeat (first|apply bN|apply bD|apply bA));refine blk_put (cs:=#[.int .i64 t414,.int .u32 t415,.int .u32 t416,.int .u32 t417,.slice Ao59 t418.length co59,.int .i64 t421,.int .u32 t422,.int .u32 t423,.int .u32 t424,.int .u32 t425,.int .u32 t426,.int .u32 0]) ?_ 11 _ rfl;(with_reducible repeat (first|apply bN|apply bD|apply bA));refine blk_put (cs:=#[.int .i64 t414,.int .u32 t415,.int .u32 t416,.int .u32 t417,.slice Ao59 t418.length co59,.int .i64 t421,.int .u32 t422,.int .u32 t423,.int .u32 t424,.int .u32 t425,.int .u32 0,.int .u32 0]) ?_ 10 _ rfl;(with_reducible repeat (first|apply bN|apply bD|apply bA));refine blk_put (cs:=#[.int .i64 t414,.int .u32 t415,.int .u32 t416,.int .u32 t417,.slice Ao59 t418.length co59,.int .i64 t421,.int .u32 t422,.int .u32 t423,.int .u32 t424,.int .u32 0,.int .u32 0,.int .u32 0]) ?_ 9 _ rfl;(with_reducible repeat (first|apply bN|apply bD|apply bA));refine blk_put (cs:=#[.int .i64 t414,.int .u32 t415,.int .u32 t416,.int .u32 t417,.slice Ao59 t418.length co59,.int .i64 t421,.int .u32 t422,.int .u32 t423,.int .u32 0,.int .u32 0,.int .u32 0,.int .u32 0]) ?_ 8 _ rfl;(with_reducible repeat (first|apply bN|apply bD|apply bA));refine blk_put (cs:=#[.int .i64 t414,.int .u32 t415,.int .u32 t416,.int .u32 t417,.slice Ao59 t418.length co59,.int .i64 t421,.int .u32 t422,.int .u32 0,.int .u32 0,.int .u32 0,.int .u32 0,.int .u32 0]) ?_ 7 _ rfl;(with_reducible repeat (first|apply bN|apply bD|apply bA));refine blk_put (cs:=#[.int .i64 t414,.int .u32 t415,.int .u32 t416,.int .u32 t417,.slice Ao59 t418.length co59,.int .i64 t421,.int .u32 0,.int .u32 0,.int .u32 0,.int .u32 0,.int .u32 0,.int .u32 0]) ?_ 6 _ rfl;(with_reducible repeat (first|apply bN|apply bD|apply bA));refine blk_put (cs:=#[.int .i64 t414,.int .u32 t415,.int .u32 t416,.int .u32 t417,.slice Ao59 t418.length co59,.int .i64 0,.int .u32 0,.int .u32 0,.int .u32 0,.int .u32 0,.int .u32 0,.int .u32 0]) ?_ 5 _ rfl;(with_reducible repeat (first|apply bN|apply bD|apply bA));refine blk_put (cs:=#[.int .i64 t414,.int .u32 t415,.int .u32 t416,.int .u32 t417,.slice none 0 0,.int .i64 0,.int .u32 0,.int .u32 0,.int .u32 0,.int .u32 0,.int .u32 0,.int .u32 0]) ?_ 4 _ rfl;(with_reducible repeat (first|apply bN|apply bD|apply bA));refine blk_put (cs:=#[.int .i64 t414,.int .u32 t415,.int .u32 t416,.int .u32 0,.slice none 0 0,.int .i64 0,.int .u32 0,.int .u32 0,.int .u32 0,.int .u32 0,.int .u32 0,.int .u32 0]) ?_ 3 _ rfl;(with_reducible repeat (first|apply bN|apply bD|apply bA));refine blk_put (cs:=#[.int .i64 t414,.int .u32 t415,.int .u32 0,.int .u32 0,.slice none 0 0,.int .i64 0,.int .u32 0,.int .u32 0,.int .u32 0,.int .u32 0,.int .u32 0,.int .u32 0]) ?_ 2 _ rfl;(with_reducible repeat (first|apply bN|apply bD|apply bA));refine blk_put (cs:=#[.int .i64 t414,.int .u32 0,.int .u32 0,.int .u32 0,.slice none 0 0,.int .i64 0,.int .u32 0,.int .u32 0,.int .u32 0,.int .u32 0,.int .u32 0,.int .u32 0]) ?_ 1 _ rfl;(with_reducible repeat (first|apply bN|apply bD|apply bA));refine blk_put (cs:=#[.int .i64 0,.int .u32 0,.int .u32 0,.int .u32 0,.slice none 0 0,.int .i64 0,.int .u32 0,.int .u32 0,.int .u32 0,.int .u32 0,.int .u32 0,.int .u32 0]) ?_ 0 _ rfl;(with_reducible repeat (first|apply bN|apply bD|apply bA));exact BK429.out)) : gb429 ≠ gb430));have n16_:=mK ((by rw [hg];exact Nat.ne_of_gt (blk_lt (g:=gb429) (o:=.cells #[.int .i64 t414,.int .u32 t415,.int .u32 t416,.int .u32 t417,.slice Ao59 t418.length co59,.int .i64 t421,.int .u32 t422,.int .u32 t423,.int .u32 t424,.int .u32 t425,.int .u32 t426,.int .u32 t427] 26 (0,0)) (by (with_reducible repeat (first|apply bN|apply bD|apply bA));refine blk_put (cs:=#[.int .i64 t414,.int .u32 t415,.int .u32 t416,.int .u32 t417,.slice Ao59 t418.length co59,.int .i64 t421,.int .u32 t422,.int .u32 t423,.int .u32 t424,.int .u32 t425,.int .u32 t426,.int .u32 0]) ?_ 11 _ rfl;(with_reducible repeat (first|apply bN|apply bD|apply bA));refine blk_put (cs:=#[.int .i64 t414,.int .u32 t415,.int .u32 t416,.int .u32 t417,.slice Ao59 t418.length co59,.int .i64 t421,.int .u32 t422,.int .u32 t423,.int .u32 t424,.int .u32 t425,.int .u32 0,.int .u32 0]) ?_ 10 _ rfl;(with_reducible repeat (first|apply bN|apply bD|apply bA));refine blk_put (cs:=#[.int .i64 t414,.int .u32 t415,.int .u32 t416,.int .u32 t417,.slice Ao59 t418.length co59,.int .i64 t421,.int .u32 t422,.int .u32 t423,.int .u32 t424,.int .u32 0,.int .u32 0,.int .u32 0]) ?_ 9 _ rfl;(with_reducible repeat (first|apply bN|apply bD|apply bA));refine blk_put (cs:=#[.int .i64 t414,.int .u32 t415,.int .u32 t416,.int .u32 t417,.slice Ao59 t418.length co59,.int .i64 t421,.int .u32 t422,.int .u32 t423,.int .u32 0,.int .u32 0,.int .u32 0,.int .u32 0]) ?_ 8 _ rfl;(with_reducible repeat (first|apply bN|apply bD|apply bA));refine blk_put (cs:=#[.int .i64 t414,.int .u32 t415,.int .u32 t416,.int .u32 t417,.slice Ao59 t418.length co59,.int .i64 t421,.int .u32 t422,.int .u32 0,.int .u32 0,.int .u32 0,.int .u32 0,.int .u32 0]) ?_ 7 _ rfl;(with_reducible repeat (first|apply bN|apply bD|apply bA));refine blk_put (cs:=#[.int .i64 t414,.int .u32 t415,.int .u32 t416,.int .u32 t417,.slice Ao59 t418.length co59,.int .i64 t421,.int .u32 0,.int .u32 0,.int .u32 0,.int .u32 0,.int .u32 0,.int .u32 0]) ?_ 6 _ rfl;(with_reducible repeat (first|apply bN|apply bD|apply bA));refine blk_put (cs:=#[.int .i64 t414,.int .u32 t415,.int .u32 t416,.int .u32 t417,.slice Ao59 t418.length co59,.int .i64 0,.int .u32 0,.int .u32 0,.int .u32 0,.int .u32 0,.int .u32 0,.int .u32 0]) ?_ 5 _ rfl;(with_reducible repeat (first|apply bN|apply bD|apply bA));refine blk_put (cs:=#[.int .i64 t414,.int .u32 t415,.int .u32 t416,.int .u32 t417,.slice none 0 0,.int .i64 0,.int .u32 0,.int .u32 0,.int .u32 0,.int .u32 0,.int .u32 0,.int .u32 0]) ?_ 4 _ rfl;(with_reducible repeat (first|apply bN|apply bD|apply bA));refine blk_put (cs:=#[.int .i64 t414,.int .u32 t415,.int .u32 t416,.int .u32 0,.slice none 0 0,.int .i64 0,.int .u32 0,.int .u32 0,.int .u32 0,.int .u32 0,.int .u32 0,.int .u32 0]) ?_ 3 _ rfl;(with_reducible repeat (first|apply bN|apply bD|apply bA));refine blk_put (cs:=#[.int .i64 t414,.int .u32 t415,.int .u32 0,.int .u32 0,.slice none 0 0,.int .i64 0,.int .u32 0,.int .u32 0,.int .u32 0,.int .u32 0,.int .u32 0,.int .u32 0]) ?_ 2 _ rfl;(with_reducible repeat (first|apply bN|apply bD|apply bA));refine blk_put (cs:=#[.int .i64 t414,.int .u32 0,.int .u32 0,.int .u32 0,.slice none 0 0,.int .i64 0,.int .u32 0,.int .u32 0,.int .u32 0,.int .u32 0,.int .u32 0,.int .u32 0]) ?_ 1 _ rfl;(with_reducible repeat (first|apply bN|apply bD|apply bA));refine blk_put (cs:=#[.int .i64 0,.int .u32 0,.int .u32 0,.int .u32 0,.slice none 0 0,.int .i64 0,.int .u32 0,.int .u32 0,.int .u32 0,.int .u32 0,.int .u32 0,.int .u32 0]) ?_ 0 _ rfl;(with_reducible repeat (first|apply bN|apply bD|apply bA));exact BK429.out)) : gb430 ≠ gb429));clear HO420;clear BK429;clear HB;have HO420:=n4_;have BK429:=n8_;have HB:=n9_;have BK430:=n10_;have GE430:=n12_;have NB375_430:=n13_;have NB430_375:=n14_;have NB429_430:=n15_;have NB430_429:=n16_;clear n4_ n8_ n9_ n10_ n12_ n13_ n14_ n15_ n16_;clear hb hbox hg;have hnb62:=NB430_375.out;have hnc62:=NB375_430.out;have hnb63:=NB430_429.out;have hnc63:=NB429_430.out;have hcz64_0 : w61.cell? ⟨gb430,0,none⟩ = some (.int .i64 0):=(blk_cell BK430.out 0).trans rfl;have hcz64_1 : w61.cell? ⟨gb430,1,none⟩ = some (.int .u32 0):=(blk_cell BK430.out 1).trans rfl;have hcz64_2 : w61.cell? ⟨gb430,2,none⟩ = some (.int .u32 0):=(blk_cell BK430.out 2).trans rfl;have hcz64_3 : w61.cell? ⟨gb430,3,none⟩ = some (.int .u32 0):=(blk_cell BK430.out 3).trans rfl;have hcz64_4 : w61.cell? ⟨gb430,4,none⟩ = some (.slice none 0 0):=(blk_cell BK430.out 4).trans rfl;have hcz64_5 : w61.cell? ⟨gb430,5,none⟩ = some (.int .i64 0):=(blk_cell BK430.out 5).trans rfl;have hcz64_6 : w61.cell? ⟨gb430,6,none⟩ = some (.int .u32 0):=(blk_cell BK430.out 6).trans rfl;have hcz64_7 : w61.cell? ⟨gb430,7,none⟩ = some (.int .u32 0):=(blk_cell BK430.out 7).trans rfl;have hcz64_8 : w61.cell? ⟨gb430,8,none⟩ = some (.int .u32 0):=(blk_cell BK430.out 8).trans rfl;have hcz64_9 : w61.cell? ⟨gb430,9,none⟩ = some (.int .u32 0):=(blk_cell BK430.out 9).trans rfl;have hcz64_10 : w61.cell? ⟨gb430,10,none⟩ = some (.int .u32 0):=(blk_cell BK430.out 10).trans rfl;have hcz64_11 : w61.cell? ⟨gb430,11,none⟩ = some (.int .u32 0):=(blk_cell BK430.out 11).trans rfl;have hfz64_0:=blk_frozen BK430.out 0;have hfz64_1:=blk_frozen BK430.out 1;have hfz64_2:=blk_frozen BK430.out 2;have hfz64_3:=blk_frozen BK430.out 3;have hfz64_4:=blk_frozen BK430.out 4;have hfz64_5:=blk_frozen BK430.out 5;have hfz64_6:=blk_frozen BK430.out 6;have hfz64_7:=blk_frozen BK430.out 7;have hfz64_8:=blk_frozen BK430.out 8;have hfz64_9:=blk_frozen BK430.out 9;have hfz64_10:=blk_frozen BK430.out 10;have hfz64_11:=blk_frozen BK430.out 11;have hcz65_0 : w61.cell? ⟨gb429,0,none⟩ = some (.int .i64 t414):=(blk_cell BK429.out 0).trans rfl;have hcz65_1 : w61.cell? ⟨gb429,1,none⟩ = some (.int .u32 t415):=(blk_cell BK429.out 1).trans rfl;have hcz65_2 : w61.cell? ⟨gb429,2,none⟩ = some (.int .u32 t416):=(blk_cell BK429.out 2).trans rfl;have hcz65_3 : w61.cell? ⟨gb429,3,none⟩ = some (.int .u32 t417):=(blk_cell BK429.out 3).trans rfl;have hcz65_4 : w61.cell? ⟨gb429,4,none⟩ = some (.slice Ao59 t418.length co59):=(blk_cell BK429.out 4).trans rfl;have hcz65_5 : w61.cell? ⟨gb429,5,none⟩ = some (.int .i64 t421):=(blk_cell BK429.out 5).trans rfl;have hcz65_6 : w61.cell? ⟨gb429,6,none⟩ = some (.int .u32 t422):=(blk_cell BK429.out 6).trans rfl;have hcz65_7 : w61.cell? ⟨gb429,7,none⟩ = some (.int .u32 t423):=(blk_cell BK429.out 7).trans rfl;have hcz65_8 : w61.cell? ⟨gb429,8,none⟩ = some (.int .u32 t424):=(blk_cell BK429.out 8).trans rfl;have hcz65_9 : w61.cell? ⟨gb429,9,none⟩ = some (.int .u32 t425):=(blk_cell BK429.out 9).trans rfl;have hcz65_10 : w61.cell? ⟨gb429,10,none⟩ = some (.int .u32 t426):=(blk_cell BK429.out 10).trans rfl;have hcz65_11 : w61.cell? ⟨gb429,11,none⟩ = some (.int .u32 t427):=(blk_cell BK429.out 11).trans rfl;have hfz65_0:=blk_frozen BK429.out 0;have hfz65_1:=blk_frozen BK429.out 1;have hfz65_2:=blk_frozen BK429.out 2;have hfz65_3:=blk_frozen BK429.out 3;have hfz65_4:=blk_frozen BK429.out 4;have hfz65_5:=blk_frozen BK429.out 5;have hfz65_6:=blk_frozen BK429.out 6;have hfz65_7:=blk_frozen BK429.out 7;have hfz65_8:=blk_frozen BK429.out 8;have hfz65_9:=blk_frozen BK429.out 9;have hfz65_10:=blk_frozen BK429.out 10;have hfz65_11:=blk_frozen BK429.out 11))
                 go_upto_region 11 with (fail)
                 have BKg_ : Aside0 ((((((((((((((w61.setCell ⟨gb430,0,none⟩ (.int .i64 a0_0)).setCell ⟨gb430,1,none⟩ (.int .u32 a0_1)).setCell ⟨gb430,2,none⟩ (.int .u32 a0_2)).setCell ⟨gb430,3,none⟩ (.int .u32 a0_3)).setCell ⟨gb430,4,none⟩ (.slice A0_4 l0_4.length c0_4)).setCell ⟨gb430,5,none⟩ (.int .i64 a0_5)).setCell ⟨gb430,6,none⟩ (.int .u32 a0_6)).setCell ⟨gb430,7,none⟩ (.int .u32 a0_7)).setCell ⟨gb430,8,none⟩ (.int .u32 a0_8)).setCell ⟨gb430,9,none⟩ (.int .u32 a0_9)).setCell ⟨gb430,10,none⟩ (.int .u32 a0_10)).setCell ⟨gb430,11,none⟩ (.int .u32 a0_11)).setCell ⟨gb430,6,none⟩ (.int .u32 a1)).heap[gb429]? = some (.cells #[.int .i64 t414,.int .u32 t415,.int .u32 t416,.int .u32 t417,.slice Ao59 t418.length co59,.int .i64 t421,.int .u32 t422,.int .u32 t423,.int .u32 t424,.int .u32 t425,.int .u32 t426,.int .u32 t427] 26 (0,0))):=⟨by (with_reducible repeat (first|exact BK429.out|refine blk_far ?_ NB429_430.out _))⟩
                 have BKx_ : Aside0 ((((((((((((((w61.setCell ⟨gb430,0,none⟩ (.int .i64 a0_0)).setCell ⟨gb430,1,none⟩ (.int .u32 a0_1)).setCell ⟨gb430,2,none⟩ (.int .u32 a0_2)).setCell ⟨gb430,3,none⟩ (.int .u32 a0_3)).setCell ⟨gb430,4,none⟩ (.slice A0_4 l0_4.length c0_4)).setCell ⟨gb430,5,none⟩ (.int .i64 a0_5)).setCell ⟨gb430,6,none⟩ (.int .u32 a0_6)).setCell ⟨gb430,7,none⟩ (.int .u32 a0_7)).setCell ⟨gb430,8,none⟩ (.int .u32 a0_8)).setCell ⟨gb430,9,none⟩ (.int .u32 a0_9)).setCell ⟨gb430,10,none⟩ (.int .u32 a0_10)).setCell ⟨gb430,11,none⟩ (.int .u32 a0_11)).setCell ⟨gb430,6,none⟩ (.int .u32 a1)).heap[gb430]? = some (.cells #[.int .i64 a0_0,.int .u32 a0_1,.int .u32 a0_2,.int .u32 a0_3,.slice A0_4 l0_4.length c0_4,.int .i64 a0_5,.int .u32 a1,.int .u32 a0_7,.int .u32 a0_8,.int .u32 a0_9,.int .u32 a0_10,.int .u32 a0_11] 26 (0,0))):=⟨by refine blk_put (cs:=#[.int .i64 a0_0,.int .u32 a0_1,.int .u32 a0_2,.int .u32 a0_3,.slice A0_4 l0_4.length c0_4,.int .i64 a0_5,.int .u32 a0_6,.int .u32 a0_7,.int .u32 a0_8,.int .u32 a0_9,.int .u32 a0_10,.int .u32 a0_11]) ?_ 6 _ rfl;refine blk_put (cs:=#[.int .i64 a0_0,.int .u32 a0_1,.int .u32 a0_2,.int .u32 a0_3,.slice A0_4 l0_4.length c0_4,.int .i64 a0_5,.int .u32 a0_6,.int .u32 a0_7,.int .u32 a0_8,.int .u32 a0_9,.int .u32 a0_10,.int .u32 0]) ?_ 11 _ rfl;refine blk_put (cs:=#[.int .i64 a0_0,.int .u32 a0_1,.int .u32 a0_2,.int .u32 a0_3,.slice A0_4 l0_4.length c0_4,.int .i64 a0_5,.int .u32 a0_6,.int .u32 a0_7,.int .u32 a0_8,.int .u32 a0_9,.int .u32 0,.int .u32 0]) ?_ 10 _ rfl;refine blk_put (cs:=#[.int .i64 a0_0,.int .u32 a0_1,.int .u32 a0_2,.int .u32 a0_3,.slice A0_4 l0_4.length c0_4,.int .i64 a0_5,.int .u32 a0_6,.int .u32 a0_7,.int .u32 a0_8,.int .u32 0,.int .u32 0,.int .u32 0]) ?_ 9 _ rfl;refine blk_put (cs:=#[.int .i64 a0_0,.int .u32 a0_1,.int .u32 a0_2,.int .u32 a0_3,.slice A0_4 l0_4.length c0_4,.int .i64 a0_5,.int .u32 a0_6,.int .u32 a0_7,.int .u32 0,.int .u32 0,.int .u32 0,.int .u32 0]) ?_ 8 _ rfl;refine blk_put (cs:=#[.int .i64 a0_0,.int .u32 a0_1,.int .u32 a0_2,.int .u32 a0_3,.slice A0_4 l0_4.length c0_4,.int .i64 a0_5,.int .u32 a0_6,.int .u32 0,.int .u32 0,.int .u32 0,.int .u32 0,.int .u32 0]) ?_ 7 _ rfl;refine blk_put (cs:=#[.int .i64 a0_0,.int .u32 a0_1,.int .u32 a0_2,.int .u32 a0_3,.slice A0_4 l0_4.length c0_4,.int .i64 a0_5,.int .u32 0,.int .u32 0,.int .u32 0,.int .u32 0,.int .u32 0,.int .u32 0]) ?_ 6 _ rfl;refine blk_put (cs:=#[.int .i64 a0_0,.int .u32 a0_1,.int .u32 a0_2,.int .u32 a0_3,.slice A0_4 l0_4.length c0_4,.int .i64 0,.int .u32 0,.int .u32 0,.int .u32 0,.int .u32 0,.int .u32 0,.int .u32 0]) ?_ 5 _ rfl;refine blk_put (cs:=#[.int .i64 a0_0,.int .u32 a0_1,.int .u32 a0_2,.int .u32 a0_3,.slice none 0 0,.int .i64 0,.int .u32 0,.int .u32 0,.int .u32 0,.int .u32 0,.int .u32 0,.int .u32 0]) ?_ 4 _ rfl;refine blk_put (cs:=#[.int .i64 a0_0,.int .u32 a0_1,.int .u32 a0_2,.int .u32 0,.slice none 0 0,.int .i64 0,.int .u32 0,.int .u32 0,.int .u32 0,.int .u32 0,.int .u32 0,.int .u32 0]) ?_ 3 _ rfl;refine blk_put (cs:=#[.int .i64 a0_0,.int .u32 a0_1,.int .u32 0,.int .u32 0,.slice none 0 0,.int .i64 0,.int .u32 0,.int .u32 0,.int .u32 0,.int .u32 0,.int .u32 0,.int .u32 0]) ?_ 2 _ rfl;refine blk_put (cs:=#[.int .i64 a0_0,.int .u32 0,.int .u32 0,.int .u32 0,.slice none 0 0,.int .i64 0,.int .u32 0,.int .u32 0,.int .u32 0,.int .u32 0,.int .u32 0,.int .u32 0]) ?_ 1 _ rfl;refine blk_put (cs:=#[.int .i64 0,.int .u32 0,.int .u32 0,.int .u32 0,.slice none 0 0,.int .i64 0,.int .u32 0,.int .u32 0,.int .u32 0,.int .u32 0,.int .u32 0,.int .u32 0]) ?_ 0 _ rfl;exact BK430.out⟩
                 have HBn_ : Aside0 (Below w.heap.size w (((((((((((((w61.setCell ⟨gb430,0,none⟩ (.int .i64 a0_0)).setCell ⟨gb430,1,none⟩ (.int .u32 a0_1)).setCell ⟨gb430,2,none⟩ (.int .u32 a0_2)).setCell ⟨gb430,3,none⟩ (.int .u32 a0_3)).setCell ⟨gb430,4,none⟩ (.slice A0_4 l0_4.length c0_4)).setCell ⟨gb430,5,none⟩ (.int .i64 a0_5)).setCell ⟨gb430,6,none⟩ (.int .u32 a0_6)).setCell ⟨gb430,7,none⟩ (.int .u32 a0_7)).setCell ⟨gb430,8,none⟩ (.int .u32 a0_8)).setCell ⟨gb430,9,none⟩ (.int .u32 a0_9)).setCell ⟨gb430,10,none⟩ (.int .u32 a0_10)).setCell ⟨gb430,11,none⟩ (.int .u32 a0_11)).setCell ⟨gb430,6,none⟩ (.int .u32 a1))):=⟨by (with_reducible repeat (first|exact HB.out|refine lS ?_ GE430.out))⟩
                 have HOt_ : Kd.R (Kd.int .u8) 5 w61 w.heap.size (fun k_=>True∧k_ ≠ gb430) (.slice Ao59 t418.length co59) t418:=Kd.R_mono (Kd.R_types HO420.out BK430.out (by decide)) (fun _ hk=>⟨trivial,hk.2⟩)
                 have HOn_ : Aside0 (Kd.R (Kd.int .u8) 5 (((((((((((((w61.setCell ⟨gb430,0,none⟩ (.int .i64 a0_0)).setCell ⟨gb430,1,none⟩ (.int .u32 a0_1)).setCell ⟨gb430,2,none⟩ (.int .u32 a0_2)).setCell ⟨gb430,3,none⟩ (.int .u32 a0_3)).setCell ⟨gb430,4,none⟩ (.slice A0_4 l0_4.length c0_4)).setCell ⟨gb430,5,none⟩ (.int .i64 a0_5)).setCell ⟨gb430,6,none⟩ (.int .u32 a0_6)).setCell ⟨gb430,7,none⟩ (.int .u32 a0_7)).setCell ⟨gb430,8,none⟩ (.int .u32 a0_8)).setCell ⟨gb430,9,none⟩ (.int .u32 a0_9)).setCell ⟨gb430,10,none⟩ (.int .u32 a0_10)).setCell ⟨gb430,11,none⟩ (.int .u32 a0_11)).setCell ⟨gb430,6,none⟩ (.int .u32 a1)) w.heap.size (fun _=>True) (.slice Ao59 t418.length co59) t418):=⟨Kd.R_mono (ok:= fun k_=>True∧k_ ≠ gb430) (by (with_reducible repeat (first|exact HOt_|refine Kd.R_far (p:=⟨gb430,_,none⟩) ?_ (fun _ hk=>hk.2) _))) (fun _ _=>trivial)⟩
                 clear HOt_ HB
                 generalize ((((((((((((w61.setCell ⟨gb430,0,none⟩ (.int .i64 a0_0)).setCell ⟨gb430,1,none⟩ (.int .u32 a0_1)).setCell ⟨gb430,2,none⟩ (.int .u32 a0_2)).setCell ⟨gb430,3,none⟩ (.int .u32 a0_3)).setCell ⟨gb430,4,none⟩ (.slice A0_4 l0_4.length c0_4)).setCell ⟨gb430,5,none⟩ (.int .i64 a0_5)).setCell ⟨gb430,6,none⟩ (.int .u32 a0_6)).setCell ⟨gb430,7,none⟩ (.int .u32 a0_7)).setCell ⟨gb430,8,none⟩ (.int .u32 a0_8)).setCell ⟨gb430,9,none⟩ (.int .u32 a0_9)).setCell ⟨gb430,10,none⟩ (.int .u32 a0_10)).setCell ⟨gb430,11,none⟩ (.int .u32 a0_11)).setCell ⟨gb430,6,none⟩ (.int .u32 a1) = wz_ at BKg_ BKx_ HBn_ HOn_ ⊢
                 have zg0_ : wz_.cell? ⟨gb429,0,none⟩ = some (.int .i64 t414):=(blk_cell BKg_.out 0).trans rfl
                 have zx0_ : wz_.cell? ⟨gb430,0,none⟩ = some (.int .i64 a0_0):=(blk_cell BKx_.out 0).trans rfl
                 have zg1_ : wz_.cell? ⟨gb429,1,none⟩ = some (.int .u32 t415):=(blk_cell BKg_.out 1).trans rfl
                 have zx1_ : wz_.cell? ⟨gb430,1,none⟩ = some (.int .u32 a0_1):=(blk_cell BKx_.out 1).trans rfl
                 have zg2_ : wz_.cell? ⟨gb429,2,none⟩ = some (.int .u32 t416):=(blk_cell BKg_.out 2).trans rfl
                 have zx2_ : wz_.cell? ⟨gb430,2,none⟩ = some (.int .u32 a0_2):=(blk_cell BKx_.out 2).trans rfl
                 have zg3_ : wz_.cell? ⟨gb429,3,none⟩ = some (.int .u32 t417):=(blk_cell BKg_.out 3).trans rfl
                 have zx3_ : wz_.cell? ⟨gb430,3,none⟩ = some (.int .u32 a0_3):=(blk_cell BKx_.out 3).trans rfl
                 have zg4_ : wz_.cell? ⟨gb429,4,none⟩ = some (.slice Ao59 t418.length co59):=(blk_cell BKg_.out 4).trans rfl
                 have zx4_ : wz_.cell? ⟨gb430,4,none⟩ = some (.slice A0_4 l0_4.length c0_4):=(blk_cell BKx_.out 4).trans rfl
                 have zg5_ : wz_.cell? ⟨gb429,5,none⟩ = some (.int .i64 t421):=(blk_cell BKg_.out 5).trans rfl
                 have zx5_ : wz_.cell? ⟨gb430,5,none⟩ = some (.int .i64 a0_5):=(blk_cell BKx_.out 5).trans rfl
                 have zg6_ : wz_.cell? ⟨gb429,6,none⟩ = some (.int .u32 t422):=(blk_cell BKg_.out 6).trans rfl
                 have zx6_ : wz_.cell? ⟨gb430,6,none⟩ = some (.int .u32 a1):=(blk_cell BKx_.out 6).trans rfl
                 have zg7_ : wz_.cell? ⟨gb429,7,none⟩ = some (.int .u32 t423):=(blk_cell BKg_.out 7).trans rfl
                 have zx7_ : wz_.cell? ⟨gb430,7,none⟩ = some (.int .u32 a0_7):=(blk_cell BKx_.out 7).trans rfl
                 have zg8_ : wz_.cell? ⟨gb429,8,none⟩ = some (.int .u32 t424):=(blk_cell BKg_.out 8).trans rfl
                 have zx8_ : wz_.cell? ⟨gb430,8,none⟩ = some (.int .u32 a0_8):=(blk_cell BKx_.out 8).trans rfl
                 have zg9_ : wz_.cell? ⟨gb429,9,none⟩ = some (.int .u32 t425):=(blk_cell BKg_.out 9).trans rfl
                 have zx9_ : wz_.cell? ⟨gb430,9,none⟩ = some (.int .u32 a0_9):=(blk_cell BKx_.out 9).trans rfl
                 have zg10_ : wz_.cell? ⟨gb429,10,none⟩ = some (.int .u32 t426):=(blk_cell BKg_.out 10).trans rfl
                 have zx10_ : wz_.cell? ⟨gb430,10,none⟩ = some (.int .u32 a0_10):=(blk_cell BKx_.out 10).trans rfl
                 have zg11_ : wz_.cell? ⟨gb429,11,none⟩ = some (.int .u32 t427):=(blk_cell BKg_.out 11).trans rfl
                 have zx11_ : wz_.cell? ⟨gb430,11,none⟩ = some (.int .u32 a0_11):=(blk_cell BKx_.out 11).trans rfl
                 have HB:=HBn_
                 clear HBn_
                 go_wp2_with (first|(go_at_call 9;(with_reducible refine (drawbridgeref20_Same.calls t414 t415 t416 t417 _ _ t418 t421 t422 t423 t424 t425 t426 t427 a0_0 a0_1 a0_2 a0_3 _ _ l0_4 a0_5 a1 a0_7 a0_8 a0_9 a0_10 a0_11 true _ ?side1 ?side2 ?side3 ?side4 A34.out).mono ?_);(case side1=>exact (Kd.R_reads' HOn_.out).2.2);(case side2=>exact (Kd.R_reads' HOn_.out).2.1);(case side3=>exact Kd.C_below HR0_4.out HB.out);(case side4=>exact HC0_4.out);rintro e wy_ ⟨rfl,hb⟩;have n10_:=mK (below_step HB.out hb);clear HB;have HB:=n10_;clear n10_ hb)|(go_at_call 7;(with_reducible refine (drawbridgelaw20_heads.calls kj13 t432 _ (by first|exact HTr_.out|assumption) A36.out).mono ?_);rintro e wx_ ⟨rfl,hb⟩;have n10_:=mK (below_step HB.out hb);clear HB;have HB:=n10_;clear n10_ hb))
                 go_ret
                 exact ⟨by first|rfl|(simp [errW_none,errW_some] <;> rfl)|(simp [*,errW_none,errW_some] <;> rfl),by repeat (first|(with_reducible first|exact HB.out|apply lA|apply lN|apply lD|refine lS ?_ GE375.out|refine lS ?_ GE429.out|refine lS ?_ GE430.out)|exact HB.out)⟩
                ·replace c35:=Bool.eq_false_iff.mpr c35
                 subst c35
                 have H1 : (some false) = some r:= by rw [if_neg (show ¬ (false = true) by decide)] at H;exact H
                 clear H
                 have H:=H1
                 clear H1
                 exact absurd (H.trans (congrArg some HTr_.out)) (by simp)
               ·rw [if_neg c33] at H
                have c33b0 : (t428 == 0) = false:=beq_eq_false_iff_ne.mpr c33
                have c33b1 : (t428 != 0) = true:=bne_iff_ne.mpr c33
                exact absurd (H.trans (congrArg some HTr_.out)) (by simp)
              ·rw [if_neg c31] at H
               exact absurd H (by simp)
             ·rw [if_neg c29] at H
              exact absurd H (by simp)
            ·rw [if_neg c28] at H
             exact absurd H (by simp)
           ·rw [if_neg c27] at H
            exact absurd H (by simp)
          ·rw [if_neg c26] at H
           exact absurd H (by simp)
         ·rw [if_neg c25] at H
          exact absurd H (by simp)
        ·rw [if_neg c24] at H
         exact absurd H (by simp)
       ·rw [if_neg c23] at H
        exact absurd H (by simp)

end Go.Proofs.Ytpbofaghnfheiaa.P
