/- Contracts of functions of the seat, written by a program of this session (with the kit's print) for the laws of this claim; no condition beside what each states. -/
import Derived.Test.YthfokiabneflpaaPx0
import Derived.Test.YthfokiabneflpaaPx1
import Derived.Test.YthfokiabneflpaaPx2
import Derived.Test.YthfokiabneflpaaPx3
import Derived.Test.YthfokiabneflpaaPx4
import Derived.Test.YthfokiabneflpaaPx5
import Derived.Test.YthfokiabneflpaaPx6
import Derived.Test.YthfokiabneflpaaPx7
import Derived.Test.YthfokiabneflpaaPx8
import Derived.Test.YthfokiabneflpaaPx9
namespace Go.Proofs.Ythfokiabneflpaa.P
open Go.Proofs.Ythfokiabneflpaa.Aux Go.RowKit Go.Proofs.YthfokiabneflpaaW.PrintWords Go.Proofs.YthfokiabneflpaaW.PrintLast Go.Proofs.YthfokiabneflpaaW.PrintMore
attribute [local go_sem] max2_int min2_int max_two min_two max_three min_three max_four min_four   -- for this text's walks alone
set_option linter.unusedVariables false
set_option linter.unusedSimpArgs false

/-! ### drawbridgelaw23_LinkDoes: function 3 -/
mutual
def drawbridgelaw23_LinkDoes.j0 : Nat → List Int → Int → Bool → List (List Int) → Int → Option (Bool)
 | 0, _, _, _, _, _ => none
 | k + 1, x1, x2, x26, x370000, x370001 => if x26 = true then ((drawbridgelaw23_heads.f k).bind fun t371 => (some t371)) else (drawbridgelaw23_LinkDoes.l0 k x1 x2 0 x370000 x370001 ([] : List (List Int)) x370001)
def drawbridgelaw23_LinkDoes.l0 : Nat → List Int → Int → Int → List (List Int) → Int → List (List Int) → Int → Option (Bool)
 | 0, _, _, _, _, _, _, _ => none
 | k + 1, x1, x2, x8, x370000, x370001, x373000, x373001 => if x8 < (x370000.length : Int) then ((some (([] : List Int) : List Int)).bind fun y373 => (if 0 ≤ x8 then (if y373.length + (rd_L1 x370000 x8).length < 140737488355328 then (if x373000.length < 5864062014805 then (drawbridgelaw23_LinkDoes.l0 k x1 x2 (wrap64 (x8 + 1)) x370000 x370001 (x373000 ++ [(y373 ++ (rd_L1 x370000 x8))]) x373001) else (none)) else (none)) else (none))) else ((link_Push.f k x373000 x373001 x1).bind fun bt383 => ((drawbridgeref23_Push.f k x370000 x370001 x1).bind fun bt389 => ((link_Pop.f k x373000 x373001).bind fun bt395 => ((drawbridgeref23_Pop.f k x370000 x370001).bind fun bt404 => ((drawbridgeref23_Same.f k bt383.1 bt383.2.1 bt389.1 bt389.2.1).bind fun t413 => (if t413 = true then (if (bt383.2.2 != bt389.2.2) = true then (drawbridgelaw23_LinkDoes.j2 k x2 true x370000 x370001 x373000 x373001) else ((drawbridgeref23_Same.f k bt395.1 bt395.2.1 bt404.1 bt404.2.1).bind fun t414 => (if t414 = true then ((drawbridgeref01_Same.f bt395.2.2.1 bt404.2.2.1).bind fun t415 => (if t415 = true then (drawbridgelaw23_LinkDoes.j2 k x2 (bt395.2.2.2 != bt404.2.2.2) x370000 x370001 x373000 x373001) else (drawbridgelaw23_LinkDoes.j2 k x2 true x370000 x370001 x373000 x373001))) else (drawbridgelaw23_LinkDoes.j2 k x2 true x370000 x370001 x373000 x373001)))) else (drawbridgelaw23_LinkDoes.j2 k x2 true x370000 x370001 x373000 x373001)))))))
def drawbridgelaw23_LinkDoes.j2 : Nat → Int → Bool → List (List Int) → Int → List (List Int) → Int → Option (Bool)
 | 0, _, _, _, _, _, _ => none
 | k + 1, x2, x99, x370000, x370001, x373000, x373001 => if x99 = true then (some false) else ((link_Drop.f k x373000 x373001 x2).bind fun bt416 => ((drawbridgeref23_Drop.f k x370000 x370001 x2).bind fun bt420 => ((drawbridgeref23_Same.f k bt416.1 bt416.2 bt420.1 bt420.2).bind fun t424 => (if t424 = true then ((link_Twice.f k x373000 x373001 x2).bind fun bt425 => ((drawbridgeref23_Twice.f k x370000 x370001 x2).bind fun bt429 => ((drawbridgeref23_Same.f k bt425.1 bt425.2 bt429.1 bt429.2).bind fun t433 => (if t433 = true then ((link_Swap.f k x373000 x373001 x2).bind fun bt434 => ((drawbridgeref23_Swap.f k x370000 x370001 x2).bind fun bt438 => ((drawbridgeref23_Same.f k bt434.1 bt434.2 bt438.1 bt438.2).bind fun t442 => (if t442 = true then ((link_Check.f x373000 x373001).bind fun t443 => ((drawbridgeref23_Check.f k x370000 x370001).bind fun t444 => (if (t443 == t444) = true then ((drawbridgeref23_Same.f k x373000 x373001 x370000 x370001).bind fun t445 => (if t445 = true then ((drawbridgelaw23_heads.f k).bind fun t446 => (some t446)) else (some false))) else (some false)))) else (some false))))) else (some false))))) else (some false)))))
end
def drawbridgelaw23_LinkDoes.f (k : Nat) (l0_0 : List (List Int)) (a0_1 : Int) (l1 : List Int) (a2 : Int) : Option (Bool) := (drawbridgelaw23_small.f k l0_0 a0_1).bind fun t370 => (if t370 = true then (drawbridgelaw23_LinkDoes.j0 k l1 a2 (decide ((l1.length : Int) > 3000)) l0_0 a0_1) else (drawbridgelaw23_LinkDoes.j0 k l1 a2 true l0_0 a0_1))
theorem drawbridgelaw23_LinkDoes.mono_l : ∀ k, (∀ y0 y1 y2 y3 y4, LeO (drawbridgelaw23_LinkDoes.j0 k y0 y1 y2 y3 y4) (drawbridgelaw23_LinkDoes.j0 (k + 1) y0 y1 y2 y3 y4)) ∧ (∀ y0 y1 y2 y3 y4 y5 y6, LeO (drawbridgelaw23_LinkDoes.l0 k y0 y1 y2 y3 y4 y5 y6) (drawbridgelaw23_LinkDoes.l0 (k + 1) y0 y1 y2 y3 y4 y5 y6)) ∧ (∀ y0 y1 y2 y3 y4 y5, LeO (drawbridgelaw23_LinkDoes.j2 k y0 y1 y2 y3 y4 y5) (drawbridgelaw23_LinkDoes.j2 (k + 1) y0 y1 y2 y3 y4 y5))
 | 0 => ⟨fun _ _ _ _ _ r h => by simp [drawbridgelaw23_LinkDoes.j0] at h, fun _ _ _ _ _ _ _ r h => by simp [drawbridgelaw23_LinkDoes.l0] at h, fun _ _ _ _ _ _ r h => by simp [drawbridgelaw23_LinkDoes.j2] at h⟩
 | k + 1 => by
  obtain ⟨ih0, ih1, ih2⟩ := drawbridgelaw23_LinkDoes.mono_l k
  refine ⟨?_, ?_, ?_⟩
  ·intro y0 y1 y2 y3 y4
   unfold drawbridgelaw23_LinkDoes.j0
   repeat' first
   | (with_reducible exact ih0 _ _ _ _ _)
   | (with_reducible exact ih1 _ _ _ _ _ _ _)
   | (with_reducible exact ih2 _ _ _ _ _ _)
   | (with_reducible exact drawbridgelaw23_heads.mono _)
   | (with_reducible exact drawbridgelaw23_small.mono _ _ _)
   | (with_reducible exact drawbridgeref23_Check.mono _ _ _)
   | (with_reducible exact drawbridgeref23_Drop.mono _ _ _ _)
   | (with_reducible exact drawbridgeref23_Pop.mono _ _ _)
   | (with_reducible exact drawbridgeref23_Push.mono _ _ _ _)
   | (with_reducible exact drawbridgeref23_Same.mono _ _ _ _ _)
   | (with_reducible exact drawbridgeref23_Swap.mono _ _ _ _)
   | (with_reducible exact drawbridgeref23_Twice.mono _ _ _ _)
   | (with_reducible exact link_Drop.mono _ _ _ _)
   | (with_reducible exact link_Pop.mono _ _ _)
   | (with_reducible exact link_Push.mono _ _ _ _)
   | (with_reducible exact link_Swap.mono _ _ _ _)
   | (with_reducible exact link_Twice.mono _ _ _ _)
   | (with_reducible exact LeO.refl _)
   | (with_reducible exact LeO.none _)
   | (with_reducible refine LeO.ite ?_ ?_)
   | (with_reducible refine LeO.bind ?_ (fun _ => ?_))
   | exact ih0 _ _ _ _ _
   | exact ih1 _ _ _ _ _ _ _
   | exact ih2 _ _ _ _ _ _
   | exact drawbridgelaw23_heads.mono _
   | exact drawbridgelaw23_small.mono _ _ _
   | exact drawbridgeref23_Check.mono _ _ _
   | exact drawbridgeref23_Drop.mono _ _ _ _
   | exact drawbridgeref23_Pop.mono _ _ _
   | exact drawbridgeref23_Push.mono _ _ _ _
   | exact drawbridgeref23_Same.mono _ _ _ _ _
   | exact drawbridgeref23_Swap.mono _ _ _ _
   | exact drawbridgeref23_Twice.mono _ _ _ _
   | exact link_Drop.mono _ _ _ _
   | exact link_Pop.mono _ _ _
   | exact link_Push.mono _ _ _ _
   | exact link_Swap.mono _ _ _ _
   | exact link_Twice.mono _ _ _ _
   | exact LeO.none _
   | refine LeO.ite ?_ ?_
   | refine LeO.bind ?_ (fun _ => ?_)
  ·intro y0 y1 y2 y3 y4 y5 y6
   unfold drawbridgelaw23_LinkDoes.l0
   repeat' first
   | (with_reducible exact ih0 _ _ _ _ _)
   | (with_reducible exact ih1 _ _ _ _ _ _ _)
   | (with_reducible exact ih2 _ _ _ _ _ _)
   | (with_reducible exact drawbridgelaw23_heads.mono _)
   | (with_reducible exact drawbridgelaw23_small.mono _ _ _)
   | (with_reducible exact drawbridgeref23_Check.mono _ _ _)
   | (with_reducible exact drawbridgeref23_Drop.mono _ _ _ _)
   | (with_reducible exact drawbridgeref23_Pop.mono _ _ _)
   | (with_reducible exact drawbridgeref23_Push.mono _ _ _ _)
   | (with_reducible exact drawbridgeref23_Same.mono _ _ _ _ _)
   | (with_reducible exact drawbridgeref23_Swap.mono _ _ _ _)
   | (with_reducible exact drawbridgeref23_Twice.mono _ _ _ _)
   | (with_reducible exact link_Drop.mono _ _ _ _)
   | (with_reducible exact link_Pop.mono _ _ _)
   | (with_reducible exact link_Push.mono _ _ _ _)
   | (with_reducible exact link_Swap.mono _ _ _ _)
   | (with_reducible exact link_Twice.mono _ _ _ _)
   | (with_reducible exact LeO.refl _)
   | (with_reducible exact LeO.none _)
   | (with_reducible refine LeO.ite ?_ ?_)
   | (with_reducible refine LeO.bind ?_ (fun _ => ?_))
   | exact ih0 _ _ _ _ _
   | exact ih1 _ _ _ _ _ _ _
   | exact ih2 _ _ _ _ _ _
   | exact drawbridgelaw23_heads.mono _
   | exact drawbridgelaw23_small.mono _ _ _
   | exact drawbridgeref23_Check.mono _ _ _
   | exact drawbridgeref23_Drop.mono _ _ _ _
   | exact drawbridgeref23_Pop.mono _ _ _
   | exact drawbridgeref23_Push.mono _ _ _ _
   | exact drawbridgeref23_Same.mono _ _ _ _ _
   | exact drawbridgeref23_Swap.mono _ _ _ _
   | exact drawbridgeref23_Twice.mono _ _ _ _
   | exact link_Drop.mono _ _ _ _
   | exact link_Pop.mono _ _ _
   | exact link_Push.mono _ _ _ _
   | exact link_Swap.mono _ _ _ _
   | exact link_Twice.mono _ _ _ _
   | exact LeO.none _
   | refine LeO.ite ?_ ?_
   | refine LeO.bind ?_ (fun _ => ?_)
  ·intro y0 y1 y2 y3 y4 y5
   unfold drawbridgelaw23_LinkDoes.j2
   repeat' first
   | (with_reducible exact ih0 _ _ _ _ _)
   | (with_reducible exact ih1 _ _ _ _ _ _ _)
   | (with_reducible exact ih2 _ _ _ _ _ _)
   | (with_reducible exact drawbridgelaw23_heads.mono _)
   | (with_reducible exact drawbridgelaw23_small.mono _ _ _)
   | (with_reducible exact drawbridgeref23_Check.mono _ _ _)
   | (with_reducible exact drawbridgeref23_Drop.mono _ _ _ _)
   | (with_reducible exact drawbridgeref23_Pop.mono _ _ _)
   | (with_reducible exact drawbridgeref23_Push.mono _ _ _ _)
   | (with_reducible exact drawbridgeref23_Same.mono _ _ _ _ _)
   | (with_reducible exact drawbridgeref23_Swap.mono _ _ _ _)
   | (with_reducible exact drawbridgeref23_Twice.mono _ _ _ _)
   | (with_reducible exact link_Drop.mono _ _ _ _)
   | (with_reducible exact link_Pop.mono _ _ _)
   | (with_reducible exact link_Push.mono _ _ _ _)
   | (with_reducible exact link_Swap.mono _ _ _ _)
   | (with_reducible exact link_Twice.mono _ _ _ _)
   | (with_reducible exact LeO.refl _)
   | (with_reducible exact LeO.none _)
   | (with_reducible refine LeO.ite ?_ ?_)
   | (with_reducible refine LeO.bind ?_ (fun _ => ?_))
   | exact ih0 _ _ _ _ _
   | exact ih1 _ _ _ _ _ _ _
   | exact ih2 _ _ _ _ _ _
   | exact drawbridgelaw23_heads.mono _
   | exact drawbridgelaw23_small.mono _ _ _
   | exact drawbridgeref23_Check.mono _ _ _
   | exact drawbridgeref23_Drop.mono _ _ _ _
   | exact drawbridgeref23_Pop.mono _ _ _
   | exact drawbridgeref23_Push.mono _ _ _ _
   | exact drawbridgeref23_Same.mono _ _ _ _ _
   | exact drawbridgeref23_Swap.mono _ _ _ _
   | exact drawbridgeref23_Twice.mono _ _ _ _
   | exact link_Drop.mono _ _ _ _
   | exact link_Pop.mono _ _ _
   | exact link_Push.mono _ _ _ _
   | exact link_Swap.mono _ _ _ _
   | exact link_Twice.mono _ _ _ _
   | exact LeO.none _
   | refine LeO.ite ?_ ?_
   | refine LeO.bind ?_ (fun _ => ?_)
theorem drawbridgelaw23_LinkDoes.mono : ∀ a0 a1 a2 a3 k, LeO (drawbridgelaw23_LinkDoes.f k a0 a1 a2 a3) (drawbridgelaw23_LinkDoes.f (k + 1) a0 a1 a2 a3) := by
 intro a0 a1 a2 a3 k
 obtain ⟨ih0, ih1, ih2⟩ := drawbridgelaw23_LinkDoes.mono_l k
 unfold drawbridgelaw23_LinkDoes.f
 repeat' first
   | (with_reducible exact ih0 _ _ _ _ _)
   | (with_reducible exact ih1 _ _ _ _ _ _ _)
   | (with_reducible exact ih2 _ _ _ _ _ _)
   | (with_reducible exact drawbridgelaw23_heads.mono _)
   | (with_reducible exact drawbridgelaw23_small.mono _ _ _)
   | (with_reducible exact drawbridgeref23_Check.mono _ _ _)
   | (with_reducible exact drawbridgeref23_Drop.mono _ _ _ _)
   | (with_reducible exact drawbridgeref23_Pop.mono _ _ _)
   | (with_reducible exact drawbridgeref23_Push.mono _ _ _ _)
   | (with_reducible exact drawbridgeref23_Same.mono _ _ _ _ _)
   | (with_reducible exact drawbridgeref23_Swap.mono _ _ _ _)
   | (with_reducible exact drawbridgeref23_Twice.mono _ _ _ _)
   | (with_reducible exact link_Drop.mono _ _ _ _)
   | (with_reducible exact link_Pop.mono _ _ _)
   | (with_reducible exact link_Push.mono _ _ _ _)
   | (with_reducible exact link_Swap.mono _ _ _ _)
   | (with_reducible exact link_Twice.mono _ _ _ _)
   | (with_reducible exact LeO.refl _)
   | (with_reducible exact LeO.none _)
   | (with_reducible refine LeO.ite ?_ ?_)
   | (with_reducible refine LeO.bind ?_ (fun _ => ?_))
   | exact ih0 _ _ _ _ _
   | exact ih1 _ _ _ _ _ _ _
   | exact ih2 _ _ _ _ _ _
   | exact drawbridgelaw23_heads.mono _
   | exact drawbridgelaw23_small.mono _ _ _
   | exact drawbridgeref23_Check.mono _ _ _
   | exact drawbridgeref23_Drop.mono _ _ _ _
   | exact drawbridgeref23_Pop.mono _ _ _
   | exact drawbridgeref23_Push.mono _ _ _ _
   | exact drawbridgeref23_Same.mono _ _ _ _ _
   | exact drawbridgeref23_Swap.mono _ _ _ _
   | exact drawbridgeref23_Twice.mono _ _ _ _
   | exact link_Drop.mono _ _ _ _
   | exact link_Pop.mono _ _ _
   | exact link_Push.mono _ _ _ _
   | exact link_Swap.mono _ _ _ _
   | exact link_Twice.mono _ _ _ _
   | exact LeO.none _
   | refine LeO.ite ?_ ?_
   | refine LeO.bind ?_ (fun _ => ?_)
def drawbridgelaw23_LinkDoes.T7 : Bool × List (List Nat × List Nat) := (true, [([], []), ([0], [0]), ([], []), ([], []), ([3], [3]), ([], []), ([4, 5], [4, 5]), ([6], [6]), ([2, 7], [2, 7]), ([8], [8]), ([1, 9, 8], [1, 9]), ([0, 1, 2, 3, 4, 5, 6, 7, 8, 9, 10], []), ([11, 10, 10, 0, 1, 2, 3, 4, 5, 6, 7, 8, 9, 10], [10, 11])])
def drawbridgelaw23_LinkDoes.B7 : List Nat := [0, 1, 0, 0, 8, 0, 56, 120, 252, 508, 1023, 2047, 4095]
theorem drawbridgelaw23_LinkDoes.tab7 : rtab .any (opsOf Try.f3 7) = drawbridgelaw23_LinkDoes.T7 := by kernel_rfl
theorem drawbridgelaw23_LinkDoes.bits7 : waitsOk drawbridgelaw23_LinkDoes.T7.2 drawbridgelaw23_LinkDoes.B7 = true := by kernel_rfl
def drawbridgelaw23_LinkDoes.T14 : Bool × List (List Nat × List Nat) := (true, [([], []), ([], []), ([0, 1], [0, 1]), ([], []), ([], []), ([3, 4, 2], [3, 4]), ([2, 5, 5], [2, 5]), ([6, 6], [6]), ([7], [7]), ([7], [7]), ([8, 9, 7, 7], [7, 8, 9]), ([7], [7]), ([7], [7]), ([11, 12, 10, 7], [7, 11, 12]), ([10, 13, 13, 7], [7, 10, 13]), ([7, 14], [7, 14]), ([15, 14], [15]), ([16], [16]), ([16], [16]), ([17, 18, 16, 16], [16, 17, 18]), ([16], [16]), ([16], [16]), ([20, 21, 19, 16], [16, 20, 21]), ([19, 22, 22, 16], [16, 19, 22]), ([16, 23], [16, 23]), ([24, 23], [24]), ([25], [25]), ([26, 25, 25], [25, 26]), ([25], [25]), ([28, 27, 25], [25, 28]), ([27, 29, 25], [25, 27, 29]), ([25, 30], [25, 30]), ([31, 29], [31]), ([32], [32]), ([32], [32]), ([33, 34, 32, 32], [32, 33, 34]), ([32, 35], [32, 35]), ([36, 35], [36]), ([37, 37], [37]), ([37, 38], [37, 38]), ([39, 38, 0, 1, 2, 3, 4, 5, 6, 7, 8, 9, 10, 11, 12, 13, 14, 15, 16, 17, 18, 19, 20, 21, 22, 23, 24, 25, 26, 27, 28, 29, 30, 31, 32, 33, 34, 35, 36, 37, 38, 39], [39])])
def drawbridgelaw23_LinkDoes.B14 : List Nat := [0, 0, 3, 0, 0, 31, 63, 127, 255, 255, 1023, 255, 255, 8191, 16383, 32767, 65535, 131071, 131071, 524287, 131071, 131071, 4194303, 8388607, 16777215, 33554431, 67108863, 134217727, 67108863, 536870911, 1073741823, 2147483647, 4294967295, 8589934591, 8589934591, 34359738367, 68719476735, 137438953471, 274877906943, 549755813887, 1099511627775]
theorem drawbridgelaw23_LinkDoes.tab14 : rtab .any (opsOf Try.f3 14) = drawbridgelaw23_LinkDoes.T14 := by kernel_rfl
theorem drawbridgelaw23_LinkDoes.bits14 : waitsOk drawbridgelaw23_LinkDoes.T14.2 drawbridgelaw23_LinkDoes.B14 = true := by kernel_rfl
set_option maxHeartbeats 8000000 in
set_option maxRecDepth 100000 in
theorem drawbridgelaw23_LinkDoes.calls (k : Nat) (A0_0 : Option Addr) (c0_0 : Nat) (l0_0 : List (List Int)) (a0_1 : Int) (A1 : Option Addr) (c1 : Nat) (l1 : List Int) (a2 : Int) (r : Bool) (w : World) (hr0_0 : Kd.C (Kd.slice 5 (Kd.int .u8)) w A0_0 l0_0.length l0_0) (hc0_0 : l0_0.length ≤ c0_0) (hr1 : Kd.C (Kd.int .u8) w A1 l1.length l1) (hc1 : l1.length ≤ c1) (hT_ : r = true) (h : drawbridgelaw23_LinkDoes.f k l0_0 a0_1 l1 a2 = some r) :
  Calls Try.prog 3 #[.agg #[.slice A0_0 l0_0.length c0_0, .int .i64 a0_1], .slice A1 l1.length c1, .int .i64 a2] w fun e w' => e = .returned (.bool r) ∧ Below w.heap.size w w' := by
 have HTr_:=mK hT_
 clear hT_
 have hu24:=Try.underlying24
 have HR0_0:=mK hr0_0
 have HC0_0:=mK hc0_0
 clear hr0_0 hc0_0
 have HR1:=mK hr1
 have HC1:=mK hc1
 clear hr1 hc1
 have HB:=mK (Below.refl w.heap.size w)
 have H : ((drawbridgelaw23_small.f k l0_0 a0_1).bind fun t370=>(if t370 = true then (drawbridgelaw23_LinkDoes.j0 k l1 a2 (decide ((l1.length : Int) > 3000)) l0_0 a0_1) else (drawbridgelaw23_LinkDoes.j0 k l1 a2 true l0_0 a0_1))) = some r:=h
 clear h
 have HC4:=mK H
 clear H
 go_enter Try.func3,Try.ntmps3
 go_upto_region 1 with (first|((with_reducible refine gate_dst (N:=3) rfl ?_);(try (refine gate_guard (by rfl) ?_;dsimp only));refine box_event ?hg (N:=3) ?hd (cs:=#[.slice A0_0 l0_0.length c0_0,.int .i64 a0_1]) (t:=24) ?hr ?_;(case hd=>rfl);(case hg=>rfl);(case hr=>first|(go_simp;done)|(go_simp;rfl));intro gb369 hg w5 hbox hb;have n0_:=mK (below_step (by repeat (first|(with_reducible first|exact HB.out|apply lA|apply lN|apply lD)|exact HB.out)) hb);have n1_:=mK (hbox);have n2_:=mK ((by rw [hg];exact (below_size (by repeat (first|(with_reducible first|exact HB.out|apply lA|apply lN|apply lD)|exact HB.out))) : w.heap.size ≤ gb369));have n3_:=mK ((by rw [hg];exact (below_size (by repeat (first|(with_reducible first|exact HB.out|apply lA|apply lN|apply lD)|exact HB.out))) : w.heap.size ≤ gb369));clear HB;have HB:=n0_;have BK369:=n1_;have GW369:=n2_;have GE369:=n3_;clear n0_ n1_ n2_ n3_;clear hb hbox hg))
 (try simp only [Act.put,sT,sZ,sS])
 go_cut [26] (fun v26 wc=>∃ (kq : Nat) (x26_3 : Bool),v26 = .bool x26_3∧Aside0 (drawbridgelaw23_LinkDoes.j0 kq l1 a2 x26_3 l0_0 a0_1 = some r)∧Aside0 (kq ≤ k)∧Aside0 (wc.heap[gb369]? = some (.cells #[(.slice A0_0 l0_0.length c0_0),.int .i64 a0_1] 24 (0,0)))∧Aside0 (Below w.heap.size w wc))
 case first =>
  have H:=HC4.out
  clear HC4
  replace H:=Option.bind_eq_some_iff.mp H
  obtain ⟨t370,A60,H⟩:=H
  replace H : (if t370 = true then (drawbridgelaw23_LinkDoes.j0 k l1 a2 (decide ((l1.length : Int) > 3000)) l0_0 a0_1) else (drawbridgelaw23_LinkDoes.j0 k l1 a2 true l0_0 a0_1)) = some r:=H
  have A6:=mK A60
  clear A60
  by_cases c7 : t370 = true
  ·subst c7
   have H1 : (drawbridgelaw23_LinkDoes.j0 k l1 a2 (decide ((l1.length : Int) > 3000)) l0_0 a0_1) = some r:= by rw [if_pos rfl] at H;exact H
   clear H
   have H:=H1
   clear H1
   have H':=mK H
   clear H
   have hcz8_0 : w5.cell? ⟨gb369,0,none⟩ = some (.slice A0_0 l0_0.length c0_0):=(blk_cell BK369.out 0).trans rfl
   have hcz8_1 : w5.cell? ⟨gb369,1,none⟩ = some (.int .i64 a0_1):=(blk_cell BK369.out 1).trans rfl
   have hfz8_0:=blk_frozen BK369.out 0
   have hfz8_1:=blk_frozen BK369.out 1
   go_wp2_with (first|((with_reducible refine gate_callee (f:=6) rfl ?_);refine goesL_ (some 20) rfl rfl Try.func6 (by kernel_rfl) rfl #[.agg #[.slice A0_0 l0_0.length c0_0,.int .i64 a0_1]] rfl (by (try simp only [List.map_toArray,List.map_cons,List.map_nil]);first|done|rfl|(simp only [List.length_drop,List.length_take];rfl)) ?_;(with_reducible refine (drawbridgelaw23_small.calls k _ _ l0_0 a0_1 true _ ?side1 ?side2 A6.out).mono ?_);(case side1=>repeat (first|exact (Kd.C_below HR0_0.out HB.out)|(with_reducible refine Kd.C_alloc ?_ _)|(with_reducible refine Kd.C_drewN ?_ _)|(with_reducible refine Kd.C_drew ?_)));(case side2=>exact HC0_0.out);rintro e w9 ⟨rfl,hb⟩;refine ⟨_,rfl,?_⟩;have n0_:=mK (blk_below (g:=gb369) (o:=.cells #[.slice A0_0 l0_0.length c0_0,.int .i64 a0_1] 24 (0,0)) (by (with_reducible repeat (first|apply bN|apply bD|apply bA));exact BK369.out) hb);have n1_:=mK (below_step (by repeat (first|(with_reducible first|exact HB.out|apply lA|apply lN|apply lD|refine lS ?_ GE369.out)|exact HB.out)) hb);clear BK369;clear HB;have BK369:=n0_;have HB:=n1_;clear n0_ n1_;(try clear hb);(try clear hb2);(try clear hk);(try clear hi)))
   go_meet
   case rel=>exact ⟨_,(decide ((l1.length : Int) > 3000)),(by first|rfl|(simp;done)|(simp [*];done)),H',⟨by first|omega|exact Nat.le_refl _⟩,⟨by (with_reducible repeat (first|apply bN|apply bD|apply bA));exact BK369.out⟩,⟨by repeat (first|(with_reducible first|exact HB.out|apply lA|apply lN|apply lD|refine lS ?_ GE369.out)|exact HB.out)⟩⟩
  ·replace c7:=Bool.eq_false_iff.mpr c7
   subst c7
   have H1 : (drawbridgelaw23_LinkDoes.j0 k l1 a2 true l0_0 a0_1) = some r:= by rw [if_neg (show ¬ (false = true) by decide)] at H;exact H
   clear H
   have H:=H1
   clear H1
   have H':=mK H
   clear H
   have hcz10_0 : w5.cell? ⟨gb369,0,none⟩ = some (.slice A0_0 l0_0.length c0_0):=(blk_cell BK369.out 0).trans rfl
   have hcz10_1 : w5.cell? ⟨gb369,1,none⟩ = some (.int .i64 a0_1):=(blk_cell BK369.out 1).trans rfl
   have hfz10_0:=blk_frozen BK369.out 0
   have hfz10_1:=blk_frozen BK369.out 1
   go_wp2_with (first|((with_reducible refine gate_callee (f:=6) rfl ?_);refine goesL_ (some 20) rfl rfl Try.func6 (by kernel_rfl) rfl #[.agg #[.slice A0_0 l0_0.length c0_0,.int .i64 a0_1]] rfl (by (try simp only [List.map_toArray,List.map_cons,List.map_nil]);first|done|rfl|(simp only [List.length_drop,List.length_take];rfl)) ?_;(with_reducible refine (drawbridgelaw23_small.calls k _ _ l0_0 a0_1 false _ ?side1 ?side2 A6.out).mono ?_);(case side1=>repeat (first|exact (Kd.C_below HR0_0.out HB.out)|(with_reducible refine Kd.C_alloc ?_ _)|(with_reducible refine Kd.C_drewN ?_ _)|(with_reducible refine Kd.C_drew ?_)));(case side2=>exact HC0_0.out);rintro e w11 ⟨rfl,hb⟩;refine ⟨_,rfl,?_⟩;have n0_:=mK (blk_below (g:=gb369) (o:=.cells #[.slice A0_0 l0_0.length c0_0,.int .i64 a0_1] 24 (0,0)) (by (with_reducible repeat (first|apply bN|apply bD|apply bA));exact BK369.out) hb);have n1_:=mK (below_step (by repeat (first|(with_reducible first|exact HB.out|apply lA|apply lN|apply lD|refine lS ?_ GE369.out)|exact HB.out)) hb);clear BK369;clear HB;have BK369:=n0_;have HB:=n1_;clear n0_ n1_;(try clear hb);(try clear hb2);(try clear hk);(try clear hi)))
   go_meet
   case rel=>exact ⟨_,(true),(by first|rfl|(simp;done)|(simp [*];done)),H',⟨by first|omega|exact Nat.le_refl _⟩,⟨by (with_reducible repeat (first|apply bN|apply bD|apply bA));exact BK369.out⟩,⟨by repeat (first|(with_reducible first|exact HB.out|apply lA|apply lN|apply lD|refine lS ?_ GE369.out)|exact HB.out)⟩⟩
 case rest =>
  clear HC4
  try clear c1
  try clear p2
  try clear c3
  try clear c6
  try clear c7
  try clear hcz10_0
  try clear hcz10_1
  try clear hcz8_0
  try clear hcz8_1
  try clear hfz10_0
  try clear hfz10_1
  try clear hfz8_0
  try clear hfz8_1
  obtain ⟨kq,x26_3,rfl,HA,HJ3,BK369,HB⟩:=hcut
  cases kq with
  |zero=>exact absurd HA.out (by simp [drawbridgelaw23_LinkDoes.j0])
  |succ kj3 =>
   have H:=HA.out
   clear HA
   simp only [drawbridgelaw23_LinkDoes.j0] at H
   by_cases c12 : x26_3 = true
   ·subst c12
    have H1 : ((drawbridgelaw23_heads.f kj3).bind fun t371=>(some t371)) = some r:= by rw [if_pos rfl] at H;exact H
    clear H
    have H:=H1
    clear H1
    replace H:=Option.bind_eq_some_iff.mp H
    obtain ⟨t371,A130,H⟩:=H
    replace H : (some t371) = some r:=H
    have A13:=mK A130
    clear A130
    obtain rfl:=Option.some.inj H
    go_wp2_with (first|((with_reducible refine gate_callee (f:=7) rfl ?_);refine goesL_ (some 27) rfl rfl Try.func7 (by kernel_rfl) rfl #[] rfl (by (try simp only [List.map_toArray,List.map_cons,List.map_nil]);first|done|rfl|(simp only [List.length_drop,List.length_take];rfl)) ?_;(with_reducible refine (drawbridgelaw23_heads.calls kj3  t371 _ (by first|exact HTr_.out|assumption) A13.out).mono ?_);rintro e w14 ⟨rfl,hb⟩;refine ⟨_,rfl,?_⟩;have n1_:=mK (below_step (by repeat (first|(with_reducible first|exact HB.out|apply lA|apply lN|apply lD|refine lS ?_ GE369.out)|exact HB.out)) hb);clear HB;have HB:=n1_;clear n1_;(try clear hb);(try clear hb2);(try clear hk);(try clear hi)))
    go_ret
    exact ⟨by first|rfl|(simp [errW_none,errW_some] <;> rfl)|(simp [*,errW_none,errW_some] <;> rfl),by repeat (first|(with_reducible first|exact HB.out|apply lA|apply lN|apply lD|refine lS ?_ GE369.out)|exact HB.out)⟩
   ·replace c12:=Bool.eq_false_iff.mpr c12
    subst c12
    have H1 : (drawbridgelaw23_LinkDoes.l0 kj3 l1 a2 0 l0_0 a0_1 ([] : List (List Int)) a0_1) = some r:= by rw [if_neg (show ¬ (false = true) by decide)] at H;exact H
    clear H
    have H:=H1
    clear H1
    have H':=mK H
    clear H
    have hcz15_0 : wc.cell? ⟨gb369,0,none⟩ = some (.slice A0_0 l0_0.length c0_0):=(blk_cell BK369.out 0).trans rfl
    have hcz15_1 : wc.cell? ⟨gb369,1,none⟩ = some (.int .i64 a0_1):=(blk_cell BK369.out 1).trans rfl
    have hfz15_0:=blk_frozen BK369.out 0
    have hfz15_1:=blk_frozen BK369.out 1
    go_wp2_with (first|((with_reducible refine gate_dst (N:=7) rfl ?_);(try (refine gate_guard (by rfl) ?_;dsimp only));refine box_event ?hg (N:=7) ?hd (cs:=#[.slice none 0 0,.int .i64 0]) (t:=24) ?hr ?_;(case hd=>rfl);(case hg=>rfl);(case hr=>first|(go_simp;done)|(go_simp;rfl));intro gb372 hg w16 hbox hb;have n0_:=mK (blk_below (g:=gb369) (o:=.cells #[.slice A0_0 l0_0.length c0_0,.int .i64 a0_1] 24 (0,0)) (by (with_reducible repeat (first|apply bN|apply bD|apply bA));exact BK369.out) hb);have n1_:=mK (below_step (by repeat (first|(with_reducible first|exact HB.out|apply lA|apply lN|apply lD|refine lS ?_ GE369.out)|exact HB.out)) hb);have n2_:=mK (hbox);have n3_:=mK ((by rw [hg];exact (below_size (by repeat (first|(with_reducible first|exact HB.out|apply lA|apply lN|apply lD|refine lS ?_ GE369.out)|exact HB.out))) : w.heap.size ≤ gb372));have n4_:=mK ((by rw [hg];exact (below_size (by repeat (first|(with_reducible first|exact HB.out|apply lA|apply lN|apply lD|refine lS ?_ GE369.out)|exact HB.out))) : w.heap.size ≤ gb372));have n5_:=mK ((by rw [hg];exact Nat.ne_of_lt (blk_lt (g:=gb369) (o:=.cells #[.slice A0_0 l0_0.length c0_0,.int .i64 a0_1] 24 (0,0)) (by (with_reducible repeat (first|apply bN|apply bD|apply bA));exact BK369.out)) : gb369 ≠ gb372));have n6_:=mK ((by rw [hg];exact Nat.ne_of_gt (blk_lt (g:=gb369) (o:=.cells #[.slice A0_0 l0_0.length c0_0,.int .i64 a0_1] 24 (0,0)) (by (with_reducible repeat (first|apply bN|apply bD|apply bA));exact BK369.out)) : gb372 ≠ gb369));clear BK369;clear HB;have BK369:=n0_;have HB:=n1_;have BK372:=n2_;have GW372:=n3_;have GE372:=n4_;have NB369_372:=n5_;have NB372_369:=n6_;clear n0_ n1_ n2_ n3_ n4_ n5_ n6_;clear hb hbox hg;have hnb17:=NB372_369.out;have hnc17:=NB369_372.out;have hcz18_0 : w16.cell? ⟨gb372,0,none⟩ = some (.slice none 0 0):=(blk_cell BK372.out 0).trans rfl;have hcz18_1 : w16.cell? ⟨gb372,1,none⟩ = some (.int .i64 0):=(blk_cell BK372.out 1).trans rfl;have hfz18_0:=blk_frozen BK372.out 0;have hfz18_1:=blk_frozen BK372.out 1))
    go_loopg [8] kj3 (fun kq v8 w'=>∃ (x8_2 : Int) (x373000_2 : List (List Int)) (u373000 : Value),v8 = .int .i64 x8_2∧Aside0 (drawbridgelaw23_LinkDoes.l0 kq l1 a2 x8_2 l0_0 a0_1 x373000_2 a0_1 = some r)∧Aside0 (kq ≤ kj3)∧Aside0 (Kd.S (Kd.slice 5 (Kd.int .u8)) 25 w' w.heap.size (fun _=>True) u373000 x373000_2)∧Aside0 (w'.heap[gb369]? = some (.cells #[(.slice A0_0 l0_0.length c0_0),.int .i64 a0_1] 24 (0,0)))∧Aside0 (w'.heap[gb372]? = some (.cells #[u373000,.int .i64 a0_1] 24 (0,0)))∧Aside0 (Below w.heap.size w w'))
    case atStart=>exact ⟨(0),(([] : List (List Int))),(.slice none 0 0),(by first|rfl|(simp;done)|(simp [*];done)),H',⟨Nat.le_refl _⟩,⟨by first|exact Kd.S_nil _ _ _ _ _|exact Kd.N_nil _ _ _ _ _|exact Kd.V_nil _ _ _ _ _|exact Kd.Q_nil _ _ _ _ _|exact Kd.R_nil _ _ _ _ _⟩,⟨by (with_reducible repeat (first|apply bN|apply bD|apply bA));refine blk_far ?_ NB369_372.out _;(with_reducible repeat (first|apply bN|apply bD|apply bA));refine blk_far ?_ NB369_372.out _;(with_reducible repeat (first|apply bN|apply bD|apply bA));exact BK369.out⟩,⟨by (with_reducible repeat (first|apply bN|apply bD|apply bA));refine blk_put (cs:=#[.slice none 0 0,.int .i64 0]) ?_ 1 _ rfl;(with_reducible repeat (first|apply bN|apply bD|apply bA));refine blk_put (cs:=#[.slice none 0 0,.int .i64 0]) ?_ 0 _ rfl;(with_reducible repeat (first|apply bN|apply bD|apply bA));exact BK372.out⟩,⟨by repeat (first|(with_reducible first|exact HB.out|apply lA|apply lN|apply lD|refine lS ?_ GE369.out|refine lS ?_ GE372.out)|exact HB.out)⟩⟩
    case round =>
     clear H'
     try clear c1
     try clear p2
     try clear c3
     try clear c6
     try clear c7
     try clear c12
     try clear c17
     try clear hcz10_0
     try clear hcz10_1
     try clear hcz15_0
     try clear hcz15_1
     try clear hcz18_0
     try clear hcz18_1
     try clear hcz8_0
     try clear hcz8_1
     try clear hfz10_0
     try clear hfz10_1
     try clear hfz15_0
     try clear hfz15_1
     try clear hfz18_0
     try clear hfz18_1
     try clear hfz8_0
     try clear hfz8_1
     try clear p2
     obtain ⟨x8_2,x373000_2,u373000,rfl,HA,HK2,HO_373000,BK369,BK372,HB⟩:=hrel
     cases gk with
     |zero=>exact absurd HA.out (by simp [drawbridgelaw23_LinkDoes.l0])
     |succ k2 =>
      have H:=HA.out
      clear HA
      simp only [drawbridgelaw23_LinkDoes.l0] at H
      by_cases c19 : x8_2 < (l0_0.length : Int)
      ·rw [if_pos c19] at H
       have c19b0 : decide (x8_2 < (l0_0.length : Int)) = true:=decide_eq_true c19
       clear c19
       obtain ⟨y373,hy373⟩ : ∃ y_ : List Int,y_ = (([] : List Int)):=⟨_,rfl⟩
       replace H : (if 0 ≤ x8_2 then (if y373.length + (rd_L1 l0_0 x8_2).length < 140737488355328 then (if x373000_2.length < 5864062014805 then (drawbridgelaw23_LinkDoes.l0 k2 l1 a2 (wrap64 (x8_2 + 1)) l0_0 a0_1 (x373000_2 ++ [(y373 ++ (rd_L1 l0_0 x8_2))]) a0_1) else (none)) else (none)) else (none)) = some r:= by first|(rw [hy373];with_reducible exact H)|(have H2_:=(Option.bind_some _ _).symm.trans H;rw [hy373];with_reducible exact H2_)|(have H2_:=(Option.bind_some _ _).symm.trans H;with_reducible exact H2_)|with_reducible exact H|(rw [hy373];exact H)|exact H
       have Ny373:=mK hy373
       clear hy373
       by_cases c20 : 0 ≤ x8_2
       ·rw [if_pos c20] at H
        have c20b0 : decide (0 ≤ x8_2) = true:=decide_eq_true c20
        clear c20
        by_cases c21 : y373.length + (rd_L1 l0_0 x8_2).length < 140737488355328
        ·rw [if_pos c21] at H
         have LMc21:=mK c21
         clear c21
         obtain ⟨y377,hy377⟩ : ∃ y_ : List Int,y_ = (y373 ++ (rd_L1 l0_0 x8_2)):=⟨_,rfl⟩
         replace H : (if x373000_2.length < 5864062014805 then (drawbridgelaw23_LinkDoes.l0 k2 l1 a2 (wrap64 (x8_2 + 1)) l0_0 a0_1 (x373000_2 ++ [y377]) a0_1) else (none)) = some r:= by first|(rw [hy377];with_reducible exact H)|(have H2_:=(Option.bind_some _ _).symm.trans H;rw [hy377];with_reducible exact H2_)|(have H2_:=(Option.bind_some _ _).symm.trans H;with_reducible exact H2_)|with_reducible exact H|(rw [hy377];exact H)|exact H
         have Ny377:=mK hy377
         clear hy377
         by_cases c22 : x373000_2.length < 5864062014805
         ·rw [if_pos c22] at H
          have LMc22:=mK c22
          clear c22
          obtain ⟨y380,hy380⟩ : ∃ y_ : List (List Int),y_ = (x373000_2 ++ [y377]):=⟨_,rfl⟩
          replace H : (drawbridgelaw23_LinkDoes.l0 k2 l1 a2 (wrap64 (x8_2 + 1)) l0_0 a0_1 y380 a0_1) = some r:= by first|(rw [hy380];with_reducible exact H)|(have H2_:=(Option.bind_some _ _).symm.trans H;rw [hy380];with_reducible exact H2_)|(have H2_:=(Option.bind_some _ _).symm.trans H;with_reducible exact H2_)|with_reducible exact H|(rw [hy380];exact H)|exact H
          have Ny380:=mK hy380
          clear hy380
          have H':=mK H
          clear H
          have hnb23:=NB369_372.out
          have hnc23:=NB372_369.out
          have hcz24_0 : wr.cell? ⟨gb369,0,none⟩ = some (.slice A0_0 l0_0.length c0_0):=(blk_cell BK369.out 0).trans rfl
          have hcz24_1 : wr.cell? ⟨gb369,1,none⟩ = some (.int .i64 a0_1):=(blk_cell BK369.out 1).trans rfl
          have hfz24_0:=blk_frozen BK369.out 0
          have hfz24_1:=blk_frozen BK369.out 1
          try go_wp2
          have n0_:=mK (Kd.S_drew HO_373000.out)
          have n1_:=mK (blk_drew BK369.out)
          have n2_:=mK (blk_drew BK372.out)
          have n3_:=mK (below_drew1 HB.out)
          clear HO_373000
          clear BK369
          clear BK372
          clear HB
          have HO_373000:=n0_
          have BK369:=n1_
          have BK372:=n2_
          have HB:=n3_
          clear n0_ n1_ n2_ n3_
          have p376 : 0 ≤ (x8_2 : Int):=of_decide_eq_true (by first|(with_reducible assumption)|assumption)
          have q376 : x8_2 < (l0_0.length : Int):=of_decide_eq_true (by first|(with_reducible assumption)|assumption)
          obtain ⟨ad376,A376_0,c376_0,e376,hx376_0,hl376_0,hi376_0⟩:=at_L1 HR0_0.out x8_2 p376 q376
          have hw376_0:=hx376_0
          cases e376
          replace hx376_0:=(HB.out.cell (World.block_lt_of_cell? w _ hx376_0)).trans hx376_0
          have HR376_0:=mK hi376_0
          have HC376_0:=mK hl376_0
          clear hi376_0 hl376_0
          replace p376:=eq_true p376
          replace q376:=eq_true q376
          refine start_ (n:=13) (S:= fun w'=>w'.cell? ⟨gb372,0,none⟩ = some (u373000)∧w'.cell? ⟨gb372,1,none⟩ = some (.int .i64 a0_1)∧w'.cell? ⟨gb369,0,none⟩ = some (.slice (some ad376) l0_0.length c0_0)∧w'.cell? ⟨gb369,1,none⟩ = some (.int .i64 a0_1)∧w'.cell? (ad376.add (x8_2).toNat) = some (.slice A376_0 (rd_L1 l0_0 x8_2).length c376_0)) (ds:=[12]) #[φ,φ,φ,φ,φ,φ,φ,φ,φ,φ,φ,φ,φ] (by kernel_rfl) rfl rfl ⟨(blk_cell BK372.out 0).trans rfl,(blk_cell BK372.out 1).trans rfl,(blk_cell BK369.out 0).trans rfl,(blk_cell BK369.out 1).trans rfl,((HB.out.cell (World.block_lt_of_cell? w _ hw376_0)).trans hw376_0)⟩ (fun hHeld=>?_);refine with_tabW drawbridgelaw23_LinkDoes.tab7 drawbridgelaw23_LinkDoes.bits7 (fun HT_ HW_=>?_)
          generalize wr.drew = w25 at HO_373000 BK369 BK372 HB HR376_0 hx376_0 hHeld ⊢
          refine pure_ (i:=0) (N:=some 38) (v:=?_) (a':=?_) #[τ,φ,φ,φ,φ,φ,φ,φ,φ,φ,φ,φ,φ] rfl rfl (any_of HT_.out (by kernel_rfl)) (fun _ _ _ h=>h) (Or.inl ⟨by rfl,?_⟩) ?_ ?_
          rotate_left
          ·intro w'
           go_simp
           with_reducible rfl
          rotate_left
          ·simp only [Act.put,sT,sZ,sS,i64_w,i32_w]
           rfl
          refine pure_ (i:=3) (N:=some 41) (v:=?_) (a':=?_) #[τ,φ,φ,τ,φ,φ,φ,φ,φ,φ,φ,φ,φ] rfl rfl (any_of HT_.out (by kernel_rfl)) (fun _ _ _ h=>h) (Or.inl ⟨by rfl,?_⟩) ?_ ?_
          rotate_left
          ·intro w'
           go_simp
           with_reducible rfl
          rotate_left
          ·simp only [Act.put,sT,sZ,sS,i64_w,i32_w]
           rfl
          refine pure_ (i:=5) (N:=some 43) (v:=?_) (a':=?_) #[τ,φ,φ,τ,φ,τ,φ,φ,φ,φ,φ,φ,φ] rfl rfl (any_of HT_.out (by kernel_rfl)) (fun _ _ _ h=>h) (Or.inl ⟨by rfl,?_⟩) ?_ ?_
          rotate_left
          ·intro w'
           go_simp
           with_reducible rfl
          rotate_left
          ·simp only [Act.put,sT,sZ,sS,i64_w,i32_w]
           rfl
          refine take_ (i:=1) (N:=some 39) (v:=?_) (a':=?_) #[τ,τ,φ,τ,φ,τ,φ,φ,φ,φ,φ,φ,φ] rfl rfl (take_ofW HT_.out HW_.out (by kernel_rfl)) (fun _ _ _ h=>h) (Or.inl ⟨by rfl,?_⟩) hHeld ?_ ?_
          rotate_left
          ·rintro w' ⟨s0,s1,s2,s3,s4⟩
           go_simp
           with_reducible rfl
          rotate_left
          ·simp only [Act.put,sT,sZ,sS,i64_w,i32_w]
           rfl
          refine take_ (i:=4) (N:=some 42) (v:=?_) (a':=?_) #[τ,τ,φ,τ,τ,τ,φ,φ,φ,φ,φ,φ,φ] rfl rfl (take_ofW HT_.out HW_.out (by kernel_rfl)) (fun _ _ _ h=>h) (Or.inl ⟨by rfl,?_⟩) hHeld ?_ ?_
          rotate_left
          ·rintro w' ⟨s0,s1,s2,s3,s4⟩
           go_simp
           with_reducible rfl
          rotate_left
          ·simp only [Act.put,sT,sZ,sS,i64_w,i32_w]
           rfl
          refine pure_ (i:=6) (N:=some 44) (v:=?_) (a':=?_) #[τ,τ,φ,τ,τ,τ,τ,φ,φ,φ,φ,φ,φ] rfl rfl (any_of HT_.out (by kernel_rfl)) (fun _ _ _ h=>h) (Or.inl ⟨by rfl,?_⟩) ?_ ?_
          rotate_left
          ·intro w'
           go_simp
           with_reducible rfl
          rotate_left
          ·simp only [Act.put,sT,sZ,sS,i64_w,i32_w]
           rfl
          refine take_ (i:=7) (N:=some 45) (v:=?_) (a':=?_) #[τ,τ,φ,τ,τ,τ,τ,τ,φ,φ,φ,φ,φ] rfl rfl (take_ofW HT_.out HW_.out (by kernel_rfl)) (fun _ _ _ h=>h) (Or.inl ⟨by rfl,?_⟩) hHeld ?_ ?_
          rotate_left
          ·rintro w' ⟨s0,s1,s2,s3,s4⟩
           go_simp
           with_reducible rfl
          rotate_left
          ·simp only [Act.put,sT,sZ,sS,i64_w,i32_w]
           rfl
          refine one_ (i:=2) (N:=some 40) #[τ,τ,τ,τ,τ,τ,τ,τ,φ,φ,φ,φ,φ] rfl rfl (one_of HT_.out (by kernel_rfl)) (by decide) (fun K hK=>?_)
          refine Kd.R_lit_step (Kd.int .u8) _ 5 ?hg (N:=40) ?hd (xs:=([] : List Int)) (inner:=[]) (ok:= fun _=>True) (okp:= fun _=>True) ?hr ?hp (fun _ hk=>hk) trivial (Below.refl _ _) (Nat.le_refl _) (by simp) ?_;(case hd=>rfl);(case hg=>rfl);(case hr=>first|(go_simp;done)|(go_simp;rfl));(case hp=>exact (Reps.none _ _))
          intro v374 w26 ho27 hb hg_ hnew_
          clear hg_ hnew_
          (first|rw [← Ny373.out] at ho27|(simp only [Int.reduceToNat] at ho27;rw [← Ny373.out] at ho27))
          have n0_:=mK (Kd.S_elder' (by (with_reducible repeat (first|apply Kd.S_alloc|apply Kd.S_drewN|apply Kd.S_drew));exact HO_373000.out) (Kd.R_base ho27) hb)
          have n1_:=mK (Kd.R_lower ho27 (below_size (by repeat (first|(with_reducible first|exact HB.out|apply lA|apply lN|apply lD|refine lS ?_ GE369.out|refine lS ?_ GE372.out)|exact HB.out))))
          have n2_:=mK (blk_below (g:=gb369) (o:=.cells #[.slice (some ad376) l0_0.length c0_0,.int .i64 a0_1] 24 (0,0)) (by (with_reducible repeat (first|apply bN|apply bD|apply bA));exact BK369.out) hb)
          have n3_:=mK (blk_below (g:=gb372) (o:=.cells #[u373000,.int .i64 a0_1] 24 (0,0)) (by (with_reducible repeat (first|apply bN|apply bD|apply bA));exact BK372.out) hb)
          have n4_:=mK (below_step (by repeat (first|(with_reducible first|exact HB.out|apply lA|apply lN|apply lD|refine lS ?_ GE369.out|refine lS ?_ GE372.out)|exact HB.out)) hb)
          clear HO_373000
          clear BK369
          clear BK372
          clear HB
          have HO_373000:=n0_
          have HO375:=n1_
          have BK369:=n2_
          have BK372:=n3_
          have HB:=n4_
          clear n0_ n1_ n2_ n3_ n4_
          clear hb ho27
          refine hK.out _ _ ⟨(blk_cell BK372.out 0).trans rfl,(blk_cell BK372.out 1).trans rfl,(blk_cell BK369.out 0).trans rfl,(blk_cell BK369.out 1).trans rfl,((HB.out.cell (World.block_lt_of_cell? w _ hw376_0)).trans hw376_0)⟩ (fun hHeld=>?_)
          clear hK K
          refine norm_ (a':=?_) ?_ ?_
          rotate_left
          ·show Act.put _ (some 40) _ = _
           simp only [Act.put,sT,sZ,sS,i64_w,i32_w]
           rfl
          refine one_ (i:=8) (N:=some 46) #[τ,τ,τ,τ,τ,τ,τ,τ,τ,φ,φ,φ,φ] rfl rfl (one_of HT_.out (by kernel_rfl)) (by decide) (fun K hK=>?_)
          refine Kd.R_append_rows_step (Kd.int .u8) (w0:=w) w.heap.size (by rfl) (.tmp 40) (.tmp 45) 25 5 (.int .u8 0) 1 rfl Try.underlying25 info5 rfl (by decide) (by omega) v374 y373 (rd_L1 l0_0 x8_2) _ _ _ (fun _=>True) (fun _=>False) rfl rfl ?aO ?aR (fun _ _ h=>h) (fun _ h=>h.elim) ?aF ?aB ?aS ?aL ?_
          (case aR=>repeat (first|exact (Kd.C_below HR376_0.out HB.out)|(with_reducible refine Kd.C_alloc ?_ _)|(with_reducible refine Kd.C_drewN ?_ _)|(with_reducible refine Kd.C_drew ?_)))
          (case aB=>exact (by repeat (first|(with_reducible first|exact HB.out|apply lA|apply lN|apply lD|refine lS ?_ GE369.out|refine lS ?_ GE372.out)|exact HB.out)))
          (case aF=>exact (fun _ _=>trivial))
          (case aO=>exact (by (with_reducible repeat (first|apply rA|apply rN|apply rD));exact HO375.out))
          (case aS=>exact (below_size (by repeat (first|(with_reducible first|exact HB.out|apply lA|apply lN|apply lD|refine lS ?_ GE369.out|refine lS ?_ GE372.out)|exact HB.out))))
          (case aL=>have:=LMc21.out;omega)
          intro v378 w28 ho hb hg hat
          rw [← Ny377.out] at ho
          have n0_:=mK (Kd.S_after (ok:=(fun _=>True)) (by (with_reducible repeat (first|apply Kd.S_alloc|apply Kd.S_drewN|apply Kd.S_drew));exact HO_373000.out) hg hat)
          have n1_:=mK (blk_grown (g:=gb369) (o:=.cells #[.slice (some ad376) l0_0.length c0_0,.int .i64 a0_1] 24 (0,0)) (by (with_reducible repeat (first|apply bN|apply bD|apply bA));exact BK369.out) hg (Kd.R_ne HO375.out BK369.out (by decide)))
          have n2_:=mK (blk_grown (g:=gb372) (o:=.cells #[u373000,.int .i64 a0_1] 24 (0,0)) (by (with_reducible repeat (first|apply bN|apply bD|apply bA));exact BK372.out) hg (Kd.R_ne HO375.out BK372.out (by decide)))
          have n3_:=mK (hb)
          have n4_:=mK (ho)
          clear HO_373000
          clear BK369
          clear BK372
          clear HB
          clear HO375
          have HO_373000:=n0_
          have BK369:=n1_
          have BK372:=n2_
          have HB:=n3_
          have HO379:=n4_
          clear n0_ n1_ n2_ n3_ n4_
          clear ho hb hg hat
          obtain ⟨Ao30,co30,eo30⟩:=Kd.R_slice HO379.out
          (first|subst eo30|(injection eo30 with f1_ f2_ f3_;have f4_:=f1_.symm;have f5_:=f3_.symm;clear f1_ f2_ f3_;subst f4_;subst f5_))
          refine hK.out _ _ ⟨(blk_cell BK372.out 0).trans rfl,(blk_cell BK372.out 1).trans rfl,(blk_cell BK369.out 0).trans rfl,(blk_cell BK369.out 1).trans rfl,((HB.out.cell (World.block_lt_of_cell? w _ hw376_0)).trans hw376_0)⟩ (fun hHeld=>?_)
          clear hK K
          refine norm_ (a':=?_) ?_ ?_
          rotate_left
          ·show Act.put _ (some 46) _ = _
           simp only [Act.put,sT,sZ,sS,i64_w,i32_w]
           rfl
          refine one_ (i:=9) (N:=some 47) #[τ,τ,τ,τ,τ,τ,τ,τ,τ,τ,φ,φ,φ] rfl rfl (one_of HT_.out (by kernel_rfl)) (by decide) (fun K hK=>?_)
          refine value_ (w1:=?_) (v:=?_) (by rfl) rfl ?_ ?_
          rotate_left 2
          ·go_simp
           constructor
           ·rfl
           ·rfl
          refine hK.out _ _ ⟨(blk_cell (blk_alloc BK372.out _) 0).trans rfl,(blk_cell (blk_alloc BK372.out _) 1).trans rfl,(blk_cell (blk_alloc BK369.out _) 0).trans rfl,(blk_cell (blk_alloc BK369.out _) 1).trans rfl,(World.cell?_alloc_lt _ _ _ (World.block_lt_of_cell? _ _ (((HB.out.cell (World.block_lt_of_cell? w _ hw376_0)).trans hw376_0)))).trans (((HB.out.cell (World.block_lt_of_cell? w _ hw376_0)).trans hw376_0))⟩ (fun hHeld=>?_)
          clear hK K
          refine norm_ (a':=?_) ?_ ?_
          rotate_left
          ·show Act.put _ (some 47) _ = _
           simp only [Act.put,sT,sZ,sS,i64_w,i32_w]
           rfl
          refine one_ (i:=10) (N:=some 48) #[τ,τ,τ,τ,τ,τ,τ,τ,τ,τ,τ,φ,φ] rfl rfl (one_of HT_.out (by kernel_rfl)) (by decide) (fun K hK=>?_)
          refine Kd.S_append_step (Kd.slice 5 (Kd.int .u8)) (w0:=w) w.heap.size (by rfl) (.tmp 39) (.tmp 47) 22 25 (.slice none 0 0) 24 rfl Try.underlying22 info25 rfl (by decide) (by omega) u373000 x373000_2 y377 [.slice Ao30 y377.length co30] (fun _=>True) (fun k_=>some k_ = (.slice Ao30 y377.length co30 : Value).ownBlock) rfl rfl ?aP (fun k_ hk_=>((Kd.R_mono (ok':= fun k_=>((fun _=>True)) k_∧some k_ ≠ (u373000 : Value).ownBlock) (Kd.R_apart' (HO379.out) (Kd.S_typed HO_373000.out) (by decide)) (fun k_ hk=>⟨trivial,hk.2⟩))).1 k_ hk_.symm) ?aF ?aO ?aB ?aS ?aL ?_
          (case aP=>exact Kd.M_row (Kd.R_mono (Kd.R_tight rfl (Kd.R_mono (ok':= fun k_=>((fun _=>True)) k_∧some k_ ≠ (u373000 : Value).ownBlock) (Kd.R_apart' (HO379.out) (Kd.S_typed HO_373000.out) (by decide)) (fun k_ hk=>⟨trivial,hk.2⟩))) (fun _ h_=>h_)))
          (case aB=>exact (by repeat (first|(with_reducible first|exact HB.out|apply lA|apply lN|apply lD|refine lS ?_ GE369.out|refine lS ?_ GE372.out)|exact HB.out)))
          (case aF=>exact (fun _ _=>trivial))
          (case aO=>exact (by (with_reducible repeat (first|apply Kd.S_alloc|apply Kd.S_drewN|apply Kd.S_drew));exact Kd.S_mono HO_373000.out (fun k_ hk=>⟨trivial,fun e_=>hk.2 e_⟩)))
          (case aS=>exact (below_size (by repeat (first|(with_reducible first|exact HB.out|apply lA|apply lN|apply lD|refine lS ?_ GE369.out|refine lS ?_ GE372.out)|exact HB.out))))
          (case aL=>have:=LMc22.out;omega)
          intro v381 w29 ho hb hg hat
          rw [← Ny380.out] at ho
          have n0_:=mK (blk_grown (g:=gb369) (o:=.cells #[.slice (some ad376) l0_0.length c0_0,.int .i64 a0_1] 24 (0,0)) (by (with_reducible repeat (first|apply bN|apply bD|apply bA));exact BK369.out) hg (Kd.S_ne HO_373000.out BK369.out (by decide)))
          have n1_:=mK (blk_grown (g:=gb372) (o:=.cells #[u373000,.int .i64 a0_1] 24 (0,0)) (by (with_reducible repeat (first|apply bN|apply bD|apply bA));exact BK372.out) hg (Kd.S_ne HO_373000.out BK372.out (by decide)))
          have n2_:=mK (hb)
          have n3_:=mK (ho)
          clear BK369
          clear BK372
          clear HB
          clear HO_373000
          clear HO379
          have BK369:=n0_
          have BK372:=n1_
          have HB:=n2_
          have HO382:=n3_
          clear n0_ n1_ n2_ n3_
          clear ho hb hg hat
          obtain ⟨Ao31,co31,eo31⟩:=Kd.S_slice HO382.out
          (first|subst eo31|(injection eo31 with f1_ f2_ f3_;have f4_:=f1_.symm;have f5_:=f3_.symm;clear f1_ f2_ f3_;subst f4_;subst f5_))
          refine hK.out _ _ ⟨(blk_cell BK372.out 0).trans rfl,(blk_cell BK372.out 1).trans rfl,(blk_cell BK369.out 0).trans rfl,(blk_cell BK369.out 1).trans rfl,((HB.out.cell (World.block_lt_of_cell? w _ hw376_0)).trans hw376_0)⟩ (fun hHeld=>?_)
          clear hK K
          refine norm_ (a':=?_) ?_ ?_
          rotate_left
          ·show Act.put _ (some 48) _ = _
           simp only [Act.put,sT,sZ,sS,i64_w,i32_w]
           rfl
          refine pure_ (i:=11) (N:=some 49) (v:=?_) (a':=?_) #[τ,τ,τ,τ,τ,τ,τ,τ,τ,τ,τ,τ,φ] rfl rfl (any_of HT_.out (by kernel_rfl)) (fun _ _ _ h=>h) (Or.inl ⟨by rfl,?_⟩) ?_ ?_
          rotate_left
          ·intro w'
           go_simp
           with_reducible rfl
          rotate_left
          ·simp only [Act.put,sT,sZ,sS,i64_w,i32_w]
           rfl
          refine last_ (i:=12) (N:=none) #[τ,τ,τ,τ,τ,τ,τ,τ,τ,τ,τ,τ,τ] rfl rfl (one_of HT_.out (by kernel_rfl)) (by decide) (fun K hK=>?_)
          have hs32 : w29.cell? ⟨gb372,0,none⟩ = some (u373000):=(blk_cell BK372.out 0).trans rfl
          have hfs32:=blk_frozen BK372.out 0
          have hns32_0:=NB369_372.out
          have hms32_0:=NB372_369.out
          refine skip_ (w1:=?_) (by rfl) rfl ?_ ?_
          rotate_left
          ·go_simp
           rfl
          refine hK.out _ _ ?_
          clear hK K
          refine done_ (done_of HT_.out (by kernel_rfl)) ?_
          try go_wp2
          go_roundg k2
          case measure=>have:=HJ3.out;have:=HK2.out;omega
          case rel=>exact ⟨(wrap64 (x8_2 + 1)),(y380),(.slice Ao31 y380.length co31),(by first|rfl|(simp;done)|(simp [*];done)),H',⟨by have:=HJ3.out;have:=HK2.out;omega⟩,⟨by (with_reducible repeat (first|apply Kd.S_alloc|apply Kd.S_drewN|apply Kd.S_drew));exact Kd.S_mono (Kd.S_far (p:=⟨gb372,0,none⟩) (Kd.S_types HO382.out BK372.out (by decide)) (fun _ hk=>hk.2) (.slice Ao31 y380.length co31)) (fun _ hk=>trivial)⟩,⟨by (with_reducible repeat (first|apply bN|apply bD|apply bA));refine blk_far ?_ NB369_372.out _;(with_reducible repeat (first|apply bN|apply bD|apply bA));exact BK369.out⟩,⟨by (with_reducible repeat (first|apply bN|apply bD|apply bA));refine blk_put (cs:=#[u373000,.int .i64 a0_1]) ?_ 0 _ rfl;(with_reducible repeat (first|apply bN|apply bD|apply bA));exact BK372.out⟩,⟨by repeat (first|(with_reducible first|exact HB.out|apply lA|apply lN|apply lD|refine lS ?_ GE369.out|refine lS ?_ GE372.out)|exact HB.out)⟩⟩
         ·rw [if_neg c22] at H
          exact absurd H (by simp)
        ·rw [if_neg c21] at H
         exact absurd H (by simp)
       ·rw [if_neg c20] at H
        exact absurd H (by simp)
      ·rw [if_neg c19] at H
       have c19b0 : decide (x8_2 < (l0_0.length : Int)) = false:=decide_eq_false c19
       clear c19
       replace H:=Option.bind_eq_some_iff.mp H
       obtain ⟨⟨t383,t386,t387⟩,A330,H⟩:=H
       replace H : ((drawbridgeref23_Push.f k2 l0_0 a0_1 l1).bind fun bt389=>((link_Pop.f k2 x373000_2 a0_1).bind fun bt395=>((drawbridgeref23_Pop.f k2 l0_0 a0_1).bind fun bt404=>((drawbridgeref23_Same.f k2 t383 t386 bt389.1 bt389.2.1).bind fun t413=>(if t413 = true then (if (t387 != bt389.2.2) = true then (drawbridgelaw23_LinkDoes.j2 k2 a2 true l0_0 a0_1 x373000_2 a0_1) else ((drawbridgeref23_Same.f k2 bt395.1 bt395.2.1 bt404.1 bt404.2.1).bind fun t414=>(if t414 = true then ((drawbridgeref01_Same.f bt395.2.2.1 bt404.2.2.1).bind fun t415=>(if t415 = true then (drawbridgelaw23_LinkDoes.j2 k2 a2 (bt395.2.2.2 != bt404.2.2.2) l0_0 a0_1 x373000_2 a0_1) else (drawbridgelaw23_LinkDoes.j2 k2 a2 true l0_0 a0_1 x373000_2 a0_1))) else (drawbridgelaw23_LinkDoes.j2 k2 a2 true l0_0 a0_1 x373000_2 a0_1)))) else (drawbridgelaw23_LinkDoes.j2 k2 a2 true l0_0 a0_1 x373000_2 a0_1)))))) = some r:=H
       have A33:=mK A330
       clear A330
       replace H:=Option.bind_eq_some_iff.mp H
       obtain ⟨⟨t389,t392,t393⟩,A340,H⟩:=H
       replace H : ((link_Pop.f k2 x373000_2 a0_1).bind fun bt395=>((drawbridgeref23_Pop.f k2 l0_0 a0_1).bind fun bt404=>((drawbridgeref23_Same.f k2 t383 t386 t389 t392).bind fun t413=>(if t413 = true then (if (t387 != t393) = true then (drawbridgelaw23_LinkDoes.j2 k2 a2 true l0_0 a0_1 x373000_2 a0_1) else ((drawbridgeref23_Same.f k2 bt395.1 bt395.2.1 bt404.1 bt404.2.1).bind fun t414=>(if t414 = true then ((drawbridgeref01_Same.f bt395.2.2.1 bt404.2.2.1).bind fun t415=>(if t415 = true then (drawbridgelaw23_LinkDoes.j2 k2 a2 (bt395.2.2.2 != bt404.2.2.2) l0_0 a0_1 x373000_2 a0_1) else (drawbridgelaw23_LinkDoes.j2 k2 a2 true l0_0 a0_1 x373000_2 a0_1))) else (drawbridgelaw23_LinkDoes.j2 k2 a2 true l0_0 a0_1 x373000_2 a0_1)))) else (drawbridgelaw23_LinkDoes.j2 k2 a2 true l0_0 a0_1 x373000_2 a0_1))))) = some r:=H
       have A34:=mK A340
       clear A340
       replace H:=Option.bind_eq_some_iff.mp H
       obtain ⟨⟨t395,t398,t399,t402⟩,A350,H⟩:=H
       replace H : ((drawbridgeref23_Pop.f k2 l0_0 a0_1).bind fun bt404=>((drawbridgeref23_Same.f k2 t383 t386 t389 t392).bind fun t413=>(if t413 = true then (if (t387 != t393) = true then (drawbridgelaw23_LinkDoes.j2 k2 a2 true l0_0 a0_1 x373000_2 a0_1) else ((drawbridgeref23_Same.f k2 t395 t398 bt404.1 bt404.2.1).bind fun t414=>(if t414 = true then ((drawbridgeref01_Same.f t399 bt404.2.2.1).bind fun t415=>(if t415 = true then (drawbridgelaw23_LinkDoes.j2 k2 a2 (t402 != bt404.2.2.2) l0_0 a0_1 x373000_2 a0_1) else (drawbridgelaw23_LinkDoes.j2 k2 a2 true l0_0 a0_1 x373000_2 a0_1))) else (drawbridgelaw23_LinkDoes.j2 k2 a2 true l0_0 a0_1 x373000_2 a0_1)))) else (drawbridgelaw23_LinkDoes.j2 k2 a2 true l0_0 a0_1 x373000_2 a0_1)))) = some r:=H
       have A35:=mK A350
       clear A350
       replace H:=Option.bind_eq_some_iff.mp H
       obtain ⟨⟨t404,t407,t408,t411⟩,A360,H⟩:=H
       replace H : ((drawbridgeref23_Same.f k2 t383 t386 t389 t392).bind fun t413=>(if t413 = true then (if (t387 != t393) = true then (drawbridgelaw23_LinkDoes.j2 k2 a2 true l0_0 a0_1 x373000_2 a0_1) else ((drawbridgeref23_Same.f k2 t395 t398 t404 t407).bind fun t414=>(if t414 = true then ((drawbridgeref01_Same.f t399 t408).bind fun t415=>(if t415 = true then (drawbridgelaw23_LinkDoes.j2 k2 a2 (t402 != t411) l0_0 a0_1 x373000_2 a0_1) else (drawbridgelaw23_LinkDoes.j2 k2 a2 true l0_0 a0_1 x373000_2 a0_1))) else (drawbridgelaw23_LinkDoes.j2 k2 a2 true l0_0 a0_1 x373000_2 a0_1)))) else (drawbridgelaw23_LinkDoes.j2 k2 a2 true l0_0 a0_1 x373000_2 a0_1))) = some r:=H
       have A36:=mK A360
       clear A360
       have HC37:=mK H
       clear H
       have hnb38:=NB369_372.out
       have hnc38:=NB372_369.out
       have hcz39_0 : wr.cell? ⟨gb369,0,none⟩ = some (.slice A0_0 l0_0.length c0_0):=(blk_cell BK369.out 0).trans rfl
       have hcz39_1 : wr.cell? ⟨gb369,1,none⟩ = some (.int .i64 a0_1):=(blk_cell BK369.out 1).trans rfl
       have hfz39_0:=blk_frozen BK369.out 0
       have hfz39_1:=blk_frozen BK369.out 1
       have hcz40_0 : wr.cell? ⟨gb372,0,none⟩ = some (u373000):=(blk_cell BK372.out 0).trans rfl
       have hcz40_1 : wr.cell? ⟨gb372,1,none⟩ = some (.int .i64 a0_1):=(blk_cell BK372.out 1).trans rfl
       have hfz40_0:=blk_frozen BK372.out 0
       have hfz40_1:=blk_frozen BK372.out 1
       obtain ⟨Ao41,co41,eo41⟩:=Kd.S_slice HO_373000.out
       subst eo41
       go_upto_region 12 with (first|((with_reducible refine gate_callee (f:=8) rfl ?_);refine goesL_ (some 53) rfl rfl Try.func8 (by kernel_rfl) rfl #[.agg #[.slice Ao41 x373000_2.length co41,.int .i64 a0_1],.slice A1 l1.length c1] rfl (by (try simp only [List.map_toArray,List.map_cons,List.map_nil]);first|done|rfl|(simp only [List.length_drop,List.length_take];rfl)) ?_;(with_reducible refine (link_Push.calls k2 (fun k_=>((True∧k_ ≠ gb369)∧k_ ≠ gb372)) _ _ x373000_2 a0_1 (fun k_=>k_ < w.heap.size) _ _ l1 t383 t386 t387 _ ?side1 ?side2 A33.out).mono ?_);(case side1=>exact Kd.S_V (Kd.S_types (Kd.S_types (HO_373000.out) BK369.out (by decide)) BK372.out (by decide)));(case side2=>exact Kd.V_mk HC1.out (Kd.F_below (Kd.C_F (Kd.heap_int .u8) HR1.out) (by repeat (first|(with_reducible first|exact HB.out|apply lA|apply lN|apply lD|refine lS ?_ GE369.out|refine lS ?_ GE372.out)|exact HB.out))));rintro e w42 ⟨v384,rfl,ho0,hb⟩;refine ⟨_,rfl,?_⟩;have n0_:=mK (Kd.S_below (by (with_reducible repeat (first|apply Kd.S_alloc|apply Kd.S_drewN|apply Kd.S_drew));exact HO_373000.out) hb);have n1_:=mK (Kd.V_lower (Kd.V_mono (ok':= fun k_=>k_ ≠ gb369∧k_ ≠ gb372) ho0 (fun k_ hk_=>⟨Or.elim hk_ (fun hs_=>Or.elim hs_ (fun hs_=>hs_.1.2) (fun hs_=>fun e_=>Nat.not_le.2 hs_ (by rw [e_];exact GW369.out))) (fun hn_=>(Kd.freshB (g:=gb369) (o:=.cells #[.slice A0_0 l0_0.length c0_0,.int .i64 a0_1] 24 (0,0)) (by (with_reducible repeat (first|apply bN|apply bD|apply bA));exact BK369.out) k_ hn_)),Or.elim hk_ (fun hs_=>Or.elim hs_ (fun hs_=>hs_.2) (fun hs_=>fun e_=>Nat.not_le.2 hs_ (by rw [e_];exact GW372.out))) (fun hn_=>(Kd.freshB (g:=gb372) (o:=.cells #[.slice Ao41 x373000_2.length co41,.int .i64 a0_1] 24 (0,0)) (by (with_reducible repeat (first|apply bN|apply bD|apply bA));exact BK372.out) k_ hn_))⟩)) (below_size (by repeat (first|(with_reducible first|exact HB.out|apply lA|apply lN|apply lD|refine lS ?_ GE369.out|refine lS ?_ GE372.out)|exact HB.out))));have n2_:=mK (blk_below (g:=gb369) (o:=.cells #[.slice A0_0 l0_0.length c0_0,.int .i64 a0_1] 24 (0,0)) (by (with_reducible repeat (first|apply bN|apply bD|apply bA));exact BK369.out) hb);have n3_:=mK (blk_below (g:=gb372) (o:=.cells #[.slice Ao41 x373000_2.length co41,.int .i64 a0_1] 24 (0,0)) (by (with_reducible repeat (first|apply bN|apply bD|apply bA));exact BK372.out) hb);have n4_:=mK (below_step (by repeat (first|(with_reducible first|exact HB.out|apply lA|apply lN|apply lD|refine lS ?_ GE369.out|refine lS ?_ GE372.out)|exact HB.out)) hb);clear HO_373000;clear BK369;clear BK372;clear HB;have HO_373000:=n0_;have HO385:=n1_;have BK369:=n2_;have BK372:=n3_;have HB:=n4_;clear n0_ n1_ n2_ n3_ n4_;(try clear hb);(try clear hb2);(try clear hk);(try clear hi);(try clear ho0))|((with_reducible refine gate_dst (N:=9) rfl ?_);(try (refine gate_guard (by rfl) ?_;dsimp only));refine box_event ?hg (N:=9) ?hd (cs:=#[.slice none 0 0,.int .i64 0]) (t:=24) ?hr ?_;(case hd=>rfl);(case hg=>rfl);(case hr=>first|(go_simp;done)|(go_simp;rfl));intro gb388 hg w43 hbox hb;have n0_:=mK (Kd.S_below (by (with_reducible repeat (first|apply Kd.S_alloc|apply Kd.S_drewN|apply Kd.S_drew));exact HO_373000.out) hb);have n1_:=mK (Kd.V_below (Kd.V_elderB (by (with_reducible repeat (first|apply vA|apply vN|apply vD));exact HO385.out) gb388 (Nat.le_of_eq hg.symm)) hb);have n2_:=mK (blk_below (g:=gb369) (o:=.cells #[.slice A0_0 l0_0.length c0_0,.int .i64 a0_1] 24 (0,0)) (by (with_reducible repeat (first|apply bN|apply bD|apply bA));exact BK369.out) hb);have n3_:=mK (blk_below (g:=gb372) (o:=.cells #[.slice Ao41 x373000_2.length co41,.int .i64 a0_1] 24 (0,0)) (by (with_reducible repeat (first|apply bN|apply bD|apply bA));exact BK372.out) hb);have n4_:=mK (below_step (by repeat (first|(with_reducible first|exact HB.out|apply lA|apply lN|apply lD|refine lS ?_ GE369.out|refine lS ?_ GE372.out)|exact HB.out)) hb);have n5_:=mK (hbox);have n6_:=mK ((by rw [hg];exact (below_size (by repeat (first|(with_reducible first|exact HB.out|apply lA|apply lN|apply lD|refine lS ?_ GE369.out|refine lS ?_ GE372.out)|exact HB.out))) : w.heap.size ≤ gb388));have n7_:=mK ((by rw [hg];exact (below_size (by repeat (first|(with_reducible first|exact HB.out|apply lA|apply lN|apply lD|refine lS ?_ GE369.out|refine lS ?_ GE372.out)|exact HB.out))) : w.heap.size ≤ gb388));have n8_:=mK ((by rw [hg];exact Nat.ne_of_lt (blk_lt (g:=gb369) (o:=.cells #[.slice A0_0 l0_0.length c0_0,.int .i64 a0_1] 24 (0,0)) (by (with_reducible repeat (first|apply bN|apply bD|apply bA));exact BK369.out)) : gb369 ≠ gb388));have n9_:=mK ((by rw [hg];exact Nat.ne_of_gt (blk_lt (g:=gb369) (o:=.cells #[.slice A0_0 l0_0.length c0_0,.int .i64 a0_1] 24 (0,0)) (by (with_reducible repeat (first|apply bN|apply bD|apply bA));exact BK369.out)) : gb388 ≠ gb369));have n10_:=mK ((by rw [hg];exact Nat.ne_of_lt (blk_lt (g:=gb372) (o:=.cells #[.slice Ao41 x373000_2.length co41,.int .i64 a0_1] 24 (0,0)) (by (with_reducible repeat (first|apply bN|apply bD|apply bA));exact BK372.out)) : gb372 ≠ gb388));have n11_:=mK ((by rw [hg];exact Nat.ne_of_gt (blk_lt (g:=gb372) (o:=.cells #[.slice Ao41 x373000_2.length co41,.int .i64 a0_1] 24 (0,0)) (by (with_reducible repeat (first|apply bN|apply bD|apply bA));exact BK372.out)) : gb388 ≠ gb372));clear HO_373000;clear HO385;clear BK369;clear BK372;clear HB;have HO_373000:=n0_;have HO385:=n1_;have BK369:=n2_;have BK372:=n3_;have HB:=n4_;have BK388:=n5_;have GW388:=n6_;have GE388:=n7_;have NB369_388:=n8_;have NB388_369:=n9_;have NB372_388:=n10_;have NB388_372:=n11_;clear n0_ n1_ n2_ n3_ n4_ n5_ n6_ n7_ n8_ n9_ n10_ n11_;clear hb hbox hg;obtain ⟨Ao44,co44,eo44⟩:=Kd.V_slice HO385.out;subst eo44;have hnb45:=NB388_369.out;have hnc45:=NB369_388.out;have hnb46:=NB388_372.out;have hnc46:=NB372_388.out;have hcz47_0 : w43.cell? ⟨gb388,0,none⟩ = some (.slice none 0 0):=(blk_cell BK388.out 0).trans rfl;have hcz47_1 : w43.cell? ⟨gb388,1,none⟩ = some (.int .i64 0):=(blk_cell BK388.out 1).trans rfl;have hfz47_0:=blk_frozen BK388.out 0;have hfz47_1:=blk_frozen BK388.out 1)|((with_reducible refine gate_store (t:=24) (p:=9) rfl ?_);refine store_event (t:=24) (p:=9) (v:=?vo_w48) (w1:=((w43.setCell ⟨gb388,0,none⟩ (.slice Ao44 t383.length co44)).setCell ⟨gb388,1,none⟩ (.int .i64 t386))) ?hg ?ho ?hn ?hr ?_;(case ho=>rfl);(case hg=>rfl);(case hn=>rfl);(case hr=>first|(go_simp;done)|(go_simp;rfl));intro w48 hw;have n0_ : Aside0 (Kd.S (Kd.slice 5 (Kd.int .u8)) 25 w48 w.heap.size (fun _=>True) (.slice Ao41 x373000_2.length co41) x373000_2):=⟨(by rw [hw];exact (by (with_reducible repeat (first|apply Kd.S_alloc|apply Kd.S_drewN|apply Kd.S_drew));exact Kd.S_mono (Kd.S_far (p:=⟨gb388,1,none⟩) (Kd.S_far (p:=⟨gb388,0,none⟩) (Kd.S_types HO_373000.out BK388.out (by decide)) (fun _ hk=>hk.2) (.slice Ao44 t383.length co44)) (fun _ hk=>hk.2) (.int .i64 t386)) (fun _ hk=>trivial)))⟩;have n1_ : Aside0 (Kd.V (Kd.slice 5 (Kd.int .u8)) 25 w48 w.heap.size (fun k_=>k_ ≠ gb369∧k_ ≠ gb372∧k_ ≠ gb388) (.slice Ao44 t383.length co44) t383):=⟨(by rw [hw];exact (by (with_reducible repeat (first|apply vA|apply vN|apply vD));exact Kd.V_mono (Kd.V_far (p:=⟨gb388,1,none⟩) (Kd.V_far (p:=⟨gb388,0,none⟩) (Kd.V_mono HO385.out (fun k_ hk=>(⟨hk,hk.2⟩ : _∧k_ ≠ gb388))) (fun _ hk=>hk.2) (.slice Ao44 t383.length co44)) (fun _ hk=>hk.2) (.int .i64 t386)) (fun _ hk=>⟨hk.1.1.1,⟨hk.1.1.2,hk.1.2⟩⟩)))⟩;have n2_ : Aside0 (w48.heap[gb369]? = some (.cells #[.slice A0_0 l0_0.length c0_0,.int .i64 a0_1] 24 (0,0))):=⟨(by rw [hw];exact (by (with_reducible repeat (first|apply bN|apply bD|apply bA));refine blk_far ?_ NB369_388.out _;(with_reducible repeat (first|apply bN|apply bD|apply bA));refine blk_far ?_ NB369_388.out _;(with_reducible repeat (first|apply bN|apply bD|apply bA));exact BK369.out))⟩;have n3_ : Aside0 (w48.heap[gb372]? = some (.cells #[.slice Ao41 x373000_2.length co41,.int .i64 a0_1] 24 (0,0))):=⟨(by rw [hw];exact (by (with_reducible repeat (first|apply bN|apply bD|apply bA));refine blk_far ?_ NB372_388.out _;(with_reducible repeat (first|apply bN|apply bD|apply bA));refine blk_far ?_ NB372_388.out _;(with_reducible repeat (first|apply bN|apply bD|apply bA));exact BK372.out))⟩;have n4_ : Aside0 (w48.heap[gb388]? = some (.cells #[.slice Ao44 t383.length co44,.int .i64 t386] 24 (0,0))):=⟨(by rw [hw];exact (by (with_reducible repeat (first|apply bN|apply bD|apply bA));refine blk_put (cs:=#[.slice Ao44 t383.length co44,.int .i64 0]) ?_ 1 _ rfl;(with_reducible repeat (first|apply bN|apply bD|apply bA));refine blk_put (cs:=#[.slice none 0 0,.int .i64 0]) ?_ 0 _ rfl;(with_reducible repeat (first|apply bN|apply bD|apply bA));exact BK388.out))⟩;have n5_ : Aside0 (Below w.heap.size w w48):=⟨(by rw [hw];exact (by repeat (first|(with_reducible first|exact HB.out|apply lA|apply lN|apply lD|refine lS ?_ GE369.out|refine lS ?_ GE372.out|refine lS ?_ GE388.out)|exact HB.out)))⟩;clear hw;clear HO_373000;clear HO385;clear BK369;clear BK372;clear BK388;clear HB;have HO_373000:=n0_;have HO385:=n1_;have BK369:=n2_;have BK372:=n3_;have BK388:=n4_;have HB:=n5_;clear n0_ n1_ n2_ n3_ n4_ n5_;have hcz49_0 : w48.cell? ⟨gb369,0,none⟩ = some (.slice A0_0 l0_0.length c0_0):=(blk_cell BK369.out 0).trans rfl;have hcz49_1 : w48.cell? ⟨gb369,1,none⟩ = some (.int .i64 a0_1):=(blk_cell BK369.out 1).trans rfl;have hfz49_0:=blk_frozen BK369.out 0;have hfz49_1:=blk_frozen BK369.out 1)|((with_reducible refine gate_callee (f:=9) rfl ?_);refine goesL_ (some 59) rfl rfl Try.func9 (by kernel_rfl) rfl #[.agg #[.slice A0_0 l0_0.length c0_0,.int .i64 a0_1],.slice A1 l1.length c1] rfl (by (try simp only [List.map_toArray,List.map_cons,List.map_nil]);first|done|rfl|(simp only [List.length_drop,List.length_take];rfl)) ?_;(with_reducible refine (drawbridgeref23_Push.calls k2 (fun k_=>k_ < w.heap.size) _ _ l0_0 a0_1 _ _ l1 t389 t392 t393 _ ?side1 ?side2 ?side3 A34.out).mono ?_);(case side1=>exact Kd.V_mk HC0_0.out (Kd.F_below (Kd.C_F (Kd.heap_slice 5 (Kd.heap_int .u8)) HR0_0.out) (by repeat (first|(with_reducible first|exact HB.out|apply lA|apply lN|apply lD|refine lS ?_ GE369.out|refine lS ?_ GE372.out|refine lS ?_ GE388.out)|exact HB.out))));(case side2=>repeat (first|exact (Kd.C_below HR1.out HB.out)|(with_reducible refine Kd.C_alloc ?_ _)|(with_reducible refine Kd.C_drewN ?_ _)|(with_reducible refine Kd.C_drew ?_)));(case side3=>exact HC1.out);rintro e w50 ⟨v390,rfl,ho0,hb⟩;refine ⟨_,rfl,?_⟩;have n0_:=mK (Kd.S_below (by (with_reducible repeat (first|apply Kd.S_alloc|apply Kd.S_drewN|apply Kd.S_drew));exact HO_373000.out) hb);have n1_:=mK (Kd.V_below (by (with_reducible repeat (first|apply vA|apply vN|apply vD));exact HO385.out) hb);have n2_:=mK (Kd.V_lower (Kd.V_mono (ok':= fun k_=>some k_ ≠ (.slice Ao41 x373000_2.length co41 : Value).ownBlock∧k_ ≠ gb369∧k_ ≠ gb372∧k_ ≠ gb388) ho0 (fun k_ hk_=>⟨Or.elim hk_ (fun hs_=>fun e_=>Nat.not_le.2 hs_ (Kd.S_base HO_373000.out k_ e_.symm)) (fun hn_=>(Kd.fresh' (Kd.S_lt (by (with_reducible repeat (first|apply Kd.S_alloc|apply Kd.S_drewN|apply Kd.S_drew));exact HO_373000.out)) k_ hn_)),Or.elim hk_ (fun hs_=>fun e_=>Nat.not_le.2 hs_ (by rw [e_];exact GW369.out)) (fun hn_=>(Kd.freshB (g:=gb369) (o:=.cells #[.slice A0_0 l0_0.length c0_0,.int .i64 a0_1] 24 (0,0)) (by (with_reducible repeat (first|apply bN|apply bD|apply bA));exact BK369.out) k_ hn_)),Or.elim hk_ (fun hs_=>fun e_=>Nat.not_le.2 hs_ (by rw [e_];exact GW372.out)) (fun hn_=>(Kd.freshB (g:=gb372) (o:=.cells #[.slice Ao41 x373000_2.length co41,.int .i64 a0_1] 24 (0,0)) (by (with_reducible repeat (first|apply bN|apply bD|apply bA));exact BK372.out) k_ hn_)),Or.elim hk_ (fun hs_=>fun e_=>Nat.not_le.2 hs_ (by rw [e_];exact GW388.out)) (fun hn_=>(Kd.freshB (g:=gb388) (o:=.cells #[.slice Ao44 t383.length co44,.int .i64 t386] 24 (0,0)) (by (with_reducible repeat (first|apply bN|apply bD|apply bA));exact BK388.out) k_ hn_))⟩)) (below_size (by repeat (first|(with_reducible first|exact HB.out|apply lA|apply lN|apply lD|refine lS ?_ GE369.out|refine lS ?_ GE372.out|refine lS ?_ GE388.out)|exact HB.out))));have n3_:=mK (blk_below (g:=gb369) (o:=.cells #[.slice A0_0 l0_0.length c0_0,.int .i64 a0_1] 24 (0,0)) (by (with_reducible repeat (first|apply bN|apply bD|apply bA));exact BK369.out) hb);have n4_:=mK (blk_below (g:=gb372) (o:=.cells #[.slice Ao41 x373000_2.length co41,.int .i64 a0_1] 24 (0,0)) (by (with_reducible repeat (first|apply bN|apply bD|apply bA));exact BK372.out) hb);have n5_:=mK (blk_below (g:=gb388) (o:=.cells #[.slice Ao44 t383.length co44,.int .i64 t386] 24 (0,0)) (by (with_reducible repeat (first|apply bN|apply bD|apply bA));exact BK388.out) hb);have n6_:=mK (below_step (by repeat (first|(with_reducible first|exact HB.out|apply lA|apply lN|apply lD|refine lS ?_ GE369.out|refine lS ?_ GE372.out|refine lS ?_ GE388.out)|exact HB.out)) hb);clear HO_373000;clear HO385;clear BK369;clear BK372;clear BK388;clear HB;have HO_373000:=n0_;have HO385:=n1_;have HO391:=n2_;have BK369:=n3_;have BK372:=n4_;have BK388:=n5_;have HB:=n6_;clear n0_ n1_ n2_ n3_ n4_ n5_ n6_;(try clear hb);(try clear hb2);(try clear hk);(try clear hi);(try clear ho0))|((with_reducible refine gate_dst (N:=11) rfl ?_);(try (refine gate_guard (by rfl) ?_;dsimp only));refine box_event ?hg (N:=11) ?hd (cs:=#[.slice none 0 0,.int .i64 0]) (t:=24) ?hr ?_;(case hd=>rfl);(case hg=>rfl);(case hr=>first|(go_simp;done)|(go_simp;rfl));intro gb394 hg w51 hbox hb;have n0_:=mK (Kd.S_below (by (with_reducible repeat (first|apply Kd.S_alloc|apply Kd.S_drewN|apply Kd.S_drew));exact HO_373000.out) hb);have n1_:=mK (Kd.V_below (Kd.V_elderB (by (with_reducible repeat (first|apply vA|apply vN|apply vD));exact HO385.out) gb394 (Nat.le_of_eq hg.symm)) hb);have n2_:=mK (Kd.V_below (Kd.V_elderB (by (with_reducible repeat (first|apply vA|apply vN|apply vD));exact HO391.out) gb394 (Nat.le_of_eq hg.symm)) hb);have n3_:=mK (blk_below (g:=gb369) (o:=.cells #[.slice A0_0 l0_0.length c0_0,.int .i64 a0_1] 24 (0,0)) (by (with_reducible repeat (first|apply bN|apply bD|apply bA));exact BK369.out) hb);have n4_:=mK (blk_below (g:=gb372) (o:=.cells #[.slice Ao41 x373000_2.length co41,.int .i64 a0_1] 24 (0,0)) (by (with_reducible repeat (first|apply bN|apply bD|apply bA));exact BK372.out) hb);have n5_:=mK (blk_below (g:=gb388) (o:=.cells #[.slice Ao44 t383.length co44,.int .i64 t386] 24 (0,0)) (by (with_reducible repeat (first|apply bN|apply bD|apply bA));exact BK388.out) hb);have n6_:=mK (below_step (by repeat (first|(with_reducible first|exact HB.out|apply lA|apply lN|apply lD|refine lS ?_ GE369.out|refine lS ?_ GE372.out|refine lS ?_ GE388.out)|exact HB.out)) hb);have n7_:=mK (hbox);have n8_:=mK ((by rw [hg];exact (below_size (by repeat (first|(with_reducible first|exact HB.out|apply lA|apply lN|apply lD|refine lS ?_ GE369.out|refine lS ?_ GE372.out|refine lS ?_ GE388.out)|exact HB.out))) : w.heap.size ≤ gb394));have n9_:=mK ((by rw [hg];exact (below_size (by repeat (first|(with_reducible first|exact HB.out|apply lA|apply lN|apply lD|refine lS ?_ GE369.out|refine lS ?_ GE372.out|refine lS ?_ GE388.out)|exact HB.out))) : w.heap.size ≤ gb394));have n10_:=mK ((by rw [hg];exact Nat.ne_of_lt (blk_lt (g:=gb369) (o:=.cells #[.slice A0_0 l0_0.length c0_0,.int .i64 a0_1] 24 (0,0)) (by (with_reducible repeat (first|apply bN|apply bD|apply bA));exact BK369.out)) : gb369 ≠ gb394));have n11_:=mK ((by rw [hg];exact Nat.ne_of_gt (blk_lt (g:=gb369) (o:=.cells #[.slice A0_0 l0_0.length c0_0,.int .i64 a0_1] 24 (0,0)) (by (with_reducible repeat (first|apply bN|apply bD|apply bA));exact BK369.out)) : gb394 ≠ gb369));have n12_:=mK ((by rw [hg];exact Nat.ne_of_lt (blk_lt (g:=gb372) (o:=.cells #[.slice Ao41 x373000_2.length co41,.int .i64 a0_1] 24 (0,0)) (by (with_reducible repeat (first|apply bN|apply bD|apply bA));exact BK372.out)) : gb372 ≠ gb394));have n13_:=mK ((by rw [hg];exact Nat.ne_of_gt (blk_lt (g:=gb372) (o:=.cells #[.slice Ao41 x373000_2.length co41,.int .i64 a0_1] 24 (0,0)) (by (with_reducible repeat (first|apply bN|apply bD|apply bA));exact BK372.out)) : gb394 ≠ gb372));have n14_:=mK ((by rw [hg];exact Nat.ne_of_lt (blk_lt (g:=gb388) (o:=.cells #[.slice Ao44 t383.length co44,.int .i64 t386] 24 (0,0)) (by (with_reducible repeat (first|apply bN|apply bD|apply bA));exact BK388.out)) : gb388 ≠ gb394));have n15_:=mK ((by rw [hg];exact Nat.ne_of_gt (blk_lt (g:=gb388) (o:=.cells #[.slice Ao44 t383.length co44,.int .i64 t386] 24 (0,0)) (by (with_reducible repeat (first|apply bN|apply bD|apply bA));exact BK388.out)) : gb394 ≠ gb388));clear HO_373000;clear HO385;clear HO391;clear BK369;clear BK372;clear BK388;clear HB;have HO_373000:=n0_;have HO385:=n1_;have HO391:=n2_;have BK369:=n3_;have BK372:=n4_;have BK388:=n5_;have HB:=n6_;have BK394:=n7_;have GW394:=n8_;have GE394:=n9_;have NB369_394:=n10_;have NB394_369:=n11_;have NB372_394:=n12_;have NB394_372:=n13_;have NB388_394:=n14_;have NB394_388:=n15_;clear n0_ n1_ n2_ n3_ n4_ n5_ n6_ n7_ n8_ n9_ n10_ n11_ n12_ n13_ n14_ n15_;clear hb hbox hg;obtain ⟨Ao52,co52,eo52⟩:=Kd.V_slice HO391.out;subst eo52;have hnb53:=NB394_369.out;have hnc53:=NB369_394.out;have hnb54:=NB394_372.out;have hnc54:=NB372_394.out;have hnb55:=NB394_388.out;have hnc55:=NB388_394.out;have hcz56_0 : w51.cell? ⟨gb394,0,none⟩ = some (.slice none 0 0):=(blk_cell BK394.out 0).trans rfl;have hcz56_1 : w51.cell? ⟨gb394,1,none⟩ = some (.int .i64 0):=(blk_cell BK394.out 1).trans rfl;have hfz56_0:=blk_frozen BK394.out 0;have hfz56_1:=blk_frozen BK394.out 1)|((with_reducible refine gate_store (t:=24) (p:=11) rfl ?_);refine store_event (t:=24) (p:=11) (v:=?vo_w57) (w1:=((w51.setCell ⟨gb394,0,none⟩ (.slice Ao52 t389.length co52)).setCell ⟨gb394,1,none⟩ (.int .i64 t392))) ?hg ?ho ?hn ?hr ?_;(case ho=>rfl);(case hg=>rfl);(case hn=>rfl);(case hr=>first|(go_simp;done)|(go_simp;rfl));intro w57 hw;have n0_ : Aside0 (Kd.S (Kd.slice 5 (Kd.int .u8)) 25 w57 w.heap.size (fun _=>True) (.slice Ao41 x373000_2.length co41) x373000_2):=⟨(by rw [hw];exact (by (with_reducible repeat (first|apply Kd.S_alloc|apply Kd.S_drewN|apply Kd.S_drew));exact Kd.S_mono (Kd.S_far (p:=⟨gb394,1,none⟩) (Kd.S_far (p:=⟨gb394,0,none⟩) (Kd.S_types HO_373000.out BK394.out (by decide)) (fun _ hk=>hk.2) (.slice Ao52 t389.length co52)) (fun _ hk=>hk.2) (.int .i64 t392)) (fun _ hk=>trivial)))⟩;have n1_ : Aside0 (Kd.V (Kd.slice 5 (Kd.int .u8)) 25 w57 w.heap.size (fun k_=>k_ ≠ gb369∧k_ ≠ gb372∧k_ ≠ gb388∧k_ ≠ gb394) (.slice Ao44 t383.length co44) t383):=⟨(by rw [hw];exact (by (with_reducible repeat (first|apply vA|apply vN|apply vD));exact Kd.V_mono (Kd.V_far (p:=⟨gb394,1,none⟩) (Kd.V_far (p:=⟨gb394,0,none⟩) (Kd.V_mono HO385.out (fun k_ hk=>(⟨hk,hk.2⟩ : _∧k_ ≠ gb394))) (fun _ hk=>hk.2) (.slice Ao52 t389.length co52)) (fun _ hk=>hk.2) (.int .i64 t392)) (fun _ hk=>⟨hk.1.1.1,⟨hk.1.1.2.1,⟨hk.1.1.2.2,hk.1.2⟩⟩⟩)))⟩;have n2_ : Aside0 (Kd.V (Kd.slice 5 (Kd.int .u8)) 25 w57 w.heap.size (fun k_=>some k_ ≠ (.slice Ao41 x373000_2.length co41 : Value).ownBlock∧k_ ≠ gb369∧k_ ≠ gb372∧k_ ≠ gb388∧k_ ≠ gb394) (.slice Ao52 t389.length co52) t389):=⟨(by rw [hw];exact (by (with_reducible repeat (first|apply vA|apply vN|apply vD));exact Kd.V_mono (Kd.V_far (p:=⟨gb394,1,none⟩) (Kd.V_far (p:=⟨gb394,0,none⟩) (Kd.V_mono HO391.out (fun k_ hk=>(⟨hk,hk.2⟩ : _∧k_ ≠ gb394))) (fun _ hk=>hk.2) (.slice Ao52 t389.length co52)) (fun _ hk=>hk.2) (.int .i64 t392)) (fun _ hk=>⟨hk.1.1.1,⟨hk.1.1.2.1,⟨hk.1.1.2.2.1,⟨hk.1.1.2.2.2,hk.1.2⟩⟩⟩⟩)))⟩;have n3_ : Aside0 (w57.heap[gb369]? = some (.cells #[.slice A0_0 l0_0.length c0_0,.int .i64 a0_1] 24 (0,0))):=⟨(by rw [hw];exact (by (with_reducible repeat (first|apply bN|apply bD|apply bA));refine blk_far ?_ NB369_394.out _;(with_reducible repeat (first|apply bN|apply bD|apply bA));refine blk_far ?_ NB369_394.out _;(with_reducible repeat (first|apply bN|apply bD|apply bA));exact BK369.out))⟩;have n4_ : Aside0 (w57.heap[gb372]? = some (.cells #[.slice Ao41 x373000_2.length co41,.int .i64 a0_1] 24 (0,0))):=⟨(by rw [hw];exact (by (with_reducible repeat (first|apply bN|apply bD|apply bA));refine blk_far ?_ NB372_394.out _;(with_reducible repeat (first|apply bN|apply bD|apply bA));refine blk_far ?_ NB372_394.out _;(with_reducible repeat (first|apply bN|apply bD|apply bA));exact BK372.out))⟩;have n5_ : Aside0 (w57.heap[gb388]? = some (.cells #[.slice Ao44 t383.length co44,.int .i64 t386] 24 (0,0))):=⟨(by rw [hw];exact (by (with_reducible repeat (first|apply bN|apply bD|apply bA));refine blk_far ?_ NB388_394.out _;(with_reducible repeat (first|apply bN|apply bD|apply bA));refine blk_far ?_ NB388_394.out _;(with_reducible repeat (first|apply bN|apply bD|apply bA));exact BK388.out))⟩;have n6_ : Aside0 (w57.heap[gb394]? = some (.cells #[.slice Ao52 t389.length co52,.int .i64 t392] 24 (0,0))):=⟨(by rw [hw];exact (by (with_reducible repeat (first|apply bN|apply bD|apply bA));refine blk_put (cs:=#[.slice Ao52 t389.length co52,.int .i64 0]) ?_ 1 _ rfl;(with_reducible repeat (first|apply bN|apply bD|apply bA));refine blk_put (cs:=#[.slice none 0 0,.int .i64 0]) ?_ 0 _ rfl;(with_reducible repeat (first|apply bN|apply bD|apply bA));exact BK394.out))⟩;have n7_ : Aside0 (Below w.heap.size w w57):=⟨(by rw [hw];exact (by repeat (first|(with_reducible first|exact HB.out|apply lA|apply lN|apply lD|refine lS ?_ GE369.out|refine lS ?_ GE372.out|refine lS ?_ GE388.out|refine lS ?_ GE394.out)|exact HB.out)))⟩;clear hw;clear HO_373000;clear HO385;clear HO391;clear BK369;clear BK372;clear BK388;clear BK394;clear HB;have HO_373000:=n0_;have HO385:=n1_;have HO391:=n2_;have BK369:=n3_;have BK372:=n4_;have BK388:=n5_;have BK394:=n6_;have HB:=n7_;clear n0_ n1_ n2_ n3_ n4_ n5_ n6_ n7_;have hcz58_0 : w57.cell? ⟨gb372,0,none⟩ = some (.slice Ao41 x373000_2.length co41):=(blk_cell BK372.out 0).trans rfl;have hcz58_1 : w57.cell? ⟨gb372,1,none⟩ = some (.int .i64 a0_1):=(blk_cell BK372.out 1).trans rfl;have hfz58_0:=blk_frozen BK372.out 0;have hfz58_1:=blk_frozen BK372.out 1)|((with_reducible refine gate_callee (f:=10) rfl ?_);refine goesL_ (some 64) rfl rfl Try.func10 (by kernel_rfl) rfl #[.agg #[.slice Ao41 x373000_2.length co41,.int .i64 a0_1]] rfl (by (try simp only [List.map_toArray,List.map_cons,List.map_nil]);first|done|rfl|(simp only [List.length_drop,List.length_take];rfl)) ?_;(with_reducible refine (link_Pop.calls k2 (fun k_=>((((True∧k_ ≠ gb369)∧k_ ≠ gb372)∧k_ ≠ gb388)∧k_ ≠ gb394)) _ _ x373000_2 a0_1 t395 t398 t399 t402 _ ?side1 A35.out).mono ?_);(case side1=>exact Kd.S_V (Kd.S_types (Kd.S_types (Kd.S_types (Kd.S_types (HO_373000.out) BK369.out (by decide)) BK372.out (by decide)) BK388.out (by decide)) BK394.out (by decide)));rintro e w59 ⟨v396,v400,rfl,ho0,ho1,hb⟩;refine ⟨_,rfl,?_⟩;have n0_:=mK (Kd.S_elder' (by (with_reducible repeat (first|apply Kd.S_alloc|apply Kd.S_drewN|apply Kd.S_drew));exact HO_373000.out) (Kd.R_base ho1) hb);have n1_:=mK (Kd.V_elder' (by (with_reducible repeat (first|apply vA|apply vN|apply vD));exact HO385.out) (Kd.R_base ho1) hb);have n2_:=mK (Kd.V_elder' (by (with_reducible repeat (first|apply vA|apply vN|apply vD));exact HO391.out) (Kd.R_base ho1) hb);have n3_:=mK (Kd.V_lower (Kd.V_mono (ok':= fun k_=>some k_ ≠ (v400 : Value).ownBlock∧k_ ≠ gb369∧k_ ≠ gb372∧k_ ≠ gb388∧k_ ≠ gb394) ho0 (fun k_ hk_=>⟨hk_.2,Or.elim hk_.1 (fun hs_=>hs_.1.1.1.2) (fun hn_=>(Kd.freshB (g:=gb369) (o:=.cells #[.slice A0_0 l0_0.length c0_0,.int .i64 a0_1] 24 (0,0)) (by (with_reducible repeat (first|apply bN|apply bD|apply bA));exact BK369.out) k_ hn_)),Or.elim hk_.1 (fun hs_=>hs_.1.1.2) (fun hn_=>(Kd.freshB (g:=gb372) (o:=.cells #[.slice Ao41 x373000_2.length co41,.int .i64 a0_1] 24 (0,0)) (by (with_reducible repeat (first|apply bN|apply bD|apply bA));exact BK372.out) k_ hn_)),Or.elim hk_.1 (fun hs_=>hs_.1.2) (fun hn_=>(Kd.freshB (g:=gb388) (o:=.cells #[.slice Ao44 t383.length co44,.int .i64 t386] 24 (0,0)) (by (with_reducible repeat (first|apply bN|apply bD|apply bA));exact BK388.out) k_ hn_)),Or.elim hk_.1 (fun hs_=>hs_.2) (fun hn_=>(Kd.freshB (g:=gb394) (o:=.cells #[.slice Ao52 t389.length co52,.int .i64 t392] 24 (0,0)) (by (with_reducible repeat (first|apply bN|apply bD|apply bA));exact BK394.out) k_ hn_))⟩)) (below_size (by repeat (first|(with_reducible first|exact HB.out|apply lA|apply lN|apply lD|refine lS ?_ GE369.out|refine lS ?_ GE372.out|refine lS ?_ GE388.out|refine lS ?_ GE394.out)|exact HB.out))));have n4_:=mK (Kd.R_lower (Kd.R_mono (ok':= fun k_=>True) ho1 (fun _ hk_=>trivial)) (below_size (by repeat (first|(with_reducible first|exact HB.out|apply lA|apply lN|apply lD|refine lS ?_ GE369.out|refine lS ?_ GE372.out|refine lS ?_ GE388.out|refine lS ?_ GE394.out)|exact HB.out))));have n5_:=mK (blk_below (g:=gb369) (o:=.cells #[.slice A0_0 l0_0.length c0_0,.int .i64 a0_1] 24 (0,0)) (by (with_reducible repeat (first|apply bN|apply bD|apply bA));exact BK369.out) hb);have n6_:=mK (blk_below (g:=gb372) (o:=.cells #[.slice Ao41 x373000_2.length co41,.int .i64 a0_1] 24 (0,0)) (by (with_reducible repeat (first|apply bN|apply bD|apply bA));exact BK372.out) hb);have n7_:=mK (blk_below (g:=gb388) (o:=.cells #[.slice Ao44 t383.length co44,.int .i64 t386] 24 (0,0)) (by (with_reducible repeat (first|apply bN|apply bD|apply bA));exact BK388.out) hb);have n8_:=mK (blk_below (g:=gb394) (o:=.cells #[.slice Ao52 t389.length co52,.int .i64 t392] 24 (0,0)) (by (with_reducible repeat (first|apply bN|apply bD|apply bA));exact BK394.out) hb);have n9_:=mK (below_step (by repeat (first|(with_reducible first|exact HB.out|apply lA|apply lN|apply lD|refine lS ?_ GE369.out|refine lS ?_ GE372.out|refine lS ?_ GE388.out|refine lS ?_ GE394.out)|exact HB.out)) hb);clear HO_373000;clear HO385;clear HO391;clear BK369;clear BK372;clear BK388;clear BK394;clear HB;have HO_373000:=n0_;have HO385:=n1_;have HO391:=n2_;have HO397:=n3_;have HO401:=n4_;have BK369:=n5_;have BK372:=n6_;have BK388:=n7_;have BK394:=n8_;have HB:=n9_;clear n0_ n1_ n2_ n3_ n4_ n5_ n6_ n7_ n8_ n9_;(try clear hb);(try clear hb2);(try clear hk);(try clear hi);(try clear ho0);(try clear ho1))|((with_reducible refine gate_dst (N:=13) rfl ?_);(try (refine gate_guard (by rfl) ?_;dsimp only));refine box_event ?hg (N:=13) ?hd (cs:=#[.slice none 0 0,.int .i64 0]) (t:=24) ?hr ?_;(case hd=>rfl);(case hg=>rfl);(case hr=>first|(go_simp;done)|(go_simp;rfl));intro gb403 hg w60 hbox hb;have n0_:=mK (Kd.S_below (by (with_reducible repeat (first|apply Kd.S_alloc|apply Kd.S_drewN|apply Kd.S_drew));exact HO_373000.out) hb);have n1_:=mK (Kd.V_below (Kd.V_elderB (by (with_reducible repeat (first|apply vA|apply vN|apply vD));exact HO385.out) gb403 (Nat.le_of_eq hg.symm)) hb);have n2_:=mK (Kd.V_below (Kd.V_elderB (by (with_reducible repeat (first|apply vA|apply vN|apply vD));exact HO391.out) gb403 (Nat.le_of_eq hg.symm)) hb);have n3_:=mK (Kd.V_below (Kd.V_elderB (by (with_reducible repeat (first|apply vA|apply vN|apply vD));exact HO397.out) gb403 (Nat.le_of_eq hg.symm)) hb);have n4_:=mK (Kd.R_below (by (with_reducible repeat (first|apply rA|apply rN|apply rD));exact HO401.out) hb);have n5_:=mK (blk_below (g:=gb369) (o:=.cells #[.slice A0_0 l0_0.length c0_0,.int .i64 a0_1] 24 (0,0)) (by (with_reducible repeat (first|apply bN|apply bD|apply bA));exact BK369.out) hb);have n6_:=mK (blk_below (g:=gb372) (o:=.cells #[.slice Ao41 x373000_2.length co41,.int .i64 a0_1] 24 (0,0)) (by (with_reducible repeat (first|apply bN|apply bD|apply bA));exact BK372.out) hb);have n7_:=mK (blk_below (g:=gb388) (o:=.cells #[.slice Ao44 t383.length co44,.int .i64 t386] 24 (0,0)) (by (with_reducible repeat (first|apply bN|apply bD|apply bA));exact BK388.out) hb);have n8_:=mK (blk_below (g:=gb394) (o:=.cells #[.slice Ao52 t389.length co52,.int .i64 t392] 24 (0,0)) (by (with_reducible repeat (first|apply bN|apply bD|apply bA));exact BK394.out) hb);have n9_:=mK (below_step (by repeat (first|(with_reducible first|exact HB.out|apply lA|apply lN|apply lD|refine lS ?_ GE369.out|refine lS ?_ GE372.out|refine lS ?_ GE388.out|refine lS ?_ GE394.out)|exact HB.out)) hb);have n10_:=mK (hbox);have n11_:=mK ((by rw [hg];exact (below_size (by repeat (first|(with_reducible first|exact HB.out|apply lA|apply lN|apply lD|refine lS ?_ GE369.out|refine lS ?_ GE372.out|refine lS ?_ GE388.out|refine lS ?_ GE394.out)|exact HB.out))) : w.heap.size ≤ gb403));have n12_:=mK ((by rw [hg];exact (below_size (by repeat (first|(with_reducible first|exact HB.out|apply lA|apply lN|apply lD|refine lS ?_ GE369.out|refine lS ?_ GE372.out|refine lS ?_ GE388.out|refine lS ?_ GE394.out)|exact HB.out))) : w.heap.size ≤ gb403));have n13_:=mK ((by rw [hg];exact Nat.ne_of_lt (blk_lt (g:=gb369) (o:=.cells #[.slice A0_0 l0_0.length c0_0,.int .i64 a0_1] 24 (0,0)) (by (with_reducible repeat (first|apply bN|apply bD|apply bA));exact BK369.out)) : gb369 ≠ gb403));have n14_:=mK ((by rw [hg];exact Nat.ne_of_gt (blk_lt (g:=gb369) (o:=.cells #[.slice A0_0 l0_0.length c0_0,.int .i64 a0_1] 24 (0,0)) (by (with_reducible repeat (first|apply bN|apply bD|apply bA));exact BK369.out)) : gb403 ≠ gb369));have n15_:=mK ((by rw [hg];exact Nat.ne_of_lt (blk_lt (g:=gb372) (o:=.cells #[.slice Ao41 x373000_2.length co41,.int .i64 a0_1] 24 (0,0)) (by (with_reducible repeat (first|apply bN|apply bD|apply bA));exact BK372.out)) : gb372 ≠ gb403));have n16_:=mK ((by rw [hg];exact Nat.ne_of_gt (blk_lt (g:=gb372) (o:=.cells #[.slice Ao41 x373000_2.length co41,.int .i64 a0_1] 24 (0,0)) (by (with_reducible repeat (first|apply bN|apply bD|apply bA));exact BK372.out)) : gb403 ≠ gb372));have n17_:=mK ((by rw [hg];exact Nat.ne_of_lt (blk_lt (g:=gb388) (o:=.cells #[.slice Ao44 t383.length co44,.int .i64 t386] 24 (0,0)) (by (with_reducible repeat (first|apply bN|apply bD|apply bA));exact BK388.out)) : gb388 ≠ gb403));have n18_:=mK ((by rw [hg];exact Nat.ne_of_gt (blk_lt (g:=gb388) (o:=.cells #[.slice Ao44 t383.length co44,.int .i64 t386] 24 (0,0)) (by (with_reducible repeat (first|apply bN|apply bD|apply bA));exact BK388.out)) : gb403 ≠ gb388));have n19_:=mK ((by rw [hg];exact Nat.ne_of_lt (blk_lt (g:=gb394) (o:=.cells #[.slice Ao52 t389.length co52,.int .i64 t392] 24 (0,0)) (by (with_reducible repeat (first|apply bN|apply bD|apply bA));exact BK394.out)) : gb394 ≠ gb403));have n20_:=mK ((by rw [hg];exact Nat.ne_of_gt (blk_lt (g:=gb394) (o:=.cells #[.slice Ao52 t389.length co52,.int .i64 t392] 24 (0,0)) (by (with_reducible repeat (first|apply bN|apply bD|apply bA));exact BK394.out)) : gb403 ≠ gb394));clear HO_373000;clear HO385;clear HO391;clear HO397;clear HO401;clear BK369;clear BK372;clear BK388;clear BK394;clear HB;have HO_373000:=n0_;have HO385:=n1_;have HO391:=n2_;have HO397:=n3_;have HO401:=n4_;have BK369:=n5_;have BK372:=n6_;have BK388:=n7_;have BK394:=n8_;have HB:=n9_;have BK403:=n10_;have GW403:=n11_;have GE403:=n12_;have NB369_403:=n13_;have NB403_369:=n14_;have NB372_403:=n15_;have NB403_372:=n16_;have NB388_403:=n17_;have NB403_388:=n18_;have NB394_403:=n19_;have NB403_394:=n20_;clear n0_ n1_ n2_ n3_ n4_ n5_ n6_ n7_ n8_ n9_ n10_ n11_ n12_ n13_ n14_ n15_ n16_ n17_ n18_ n19_ n20_;clear hb hbox hg;obtain ⟨Ao61,co61,eo61⟩:=Kd.V_slice HO397.out;subst eo61;have hnb62:=NB403_369.out;have hnc62:=NB369_403.out;have hnb63:=NB403_372.out;have hnc63:=NB372_403.out;have hnb64:=NB403_388.out;have hnc64:=NB388_403.out;have hnb65:=NB403_394.out;have hnc65:=NB394_403.out;have hcz66_0 : w60.cell? ⟨gb403,0,none⟩ = some (.slice none 0 0):=(blk_cell BK403.out 0).trans rfl;have hcz66_1 : w60.cell? ⟨gb403,1,none⟩ = some (.int .i64 0):=(blk_cell BK403.out 1).trans rfl;have hfz66_0:=blk_frozen BK403.out 0;have hfz66_1:=blk_frozen BK403.out 1)|((with_reducible refine gate_store (t:=24) (p:=13) rfl ?_);refine store_event (t:=24) (p:=13) (v:=?vo_w67) (w1:=((w60.setCell ⟨gb403,0,none⟩ (.slice Ao61 t395.length co61)).setCell ⟨gb403,1,none⟩ (.int .i64 t398))) ?hg ?ho ?hn ?hr ?_;(case ho=>rfl);(case hg=>rfl);(case hn=>rfl);(case hr=>first|(go_simp;done)|(go_simp;rfl));intro w67 hw;have n0_ : Aside0 (Kd.S (Kd.slice 5 (Kd.int .u8)) 25 w67 w.heap.size (fun k_=>some k_ ≠ (v400 : Value).ownBlock) (.slice Ao41 x373000_2.length co41) x373000_2):=⟨(by rw [hw];exact (by (with_reducible repeat (first|apply Kd.S_alloc|apply Kd.S_drewN|apply Kd.S_drew));exact Kd.S_mono (Kd.S_far (p:=⟨gb403,1,none⟩) (Kd.S_far (p:=⟨gb403,0,none⟩) (Kd.S_types HO_373000.out BK403.out (by decide)) (fun _ hk=>hk.2) (.slice Ao61 t395.length co61)) (fun _ hk=>hk.2) (.int .i64 t398)) (fun _ hk=>hk.1.2)))⟩;have n1_ : Aside0 (Kd.V (Kd.slice 5 (Kd.int .u8)) 25 w67 w.heap.size (fun k_=>some k_ ≠ (v400 : Value).ownBlock∧k_ ≠ gb369∧k_ ≠ gb372∧k_ ≠ gb388∧k_ ≠ gb394∧k_ ≠ gb403) (.slice Ao44 t383.length co44) t383):=⟨(by rw [hw];exact (by (with_reducible repeat (first|apply vA|apply vN|apply vD));exact Kd.V_mono (Kd.V_far (p:=⟨gb403,1,none⟩) (Kd.V_far (p:=⟨gb403,0,none⟩) (Kd.V_mono HO385.out (fun k_ hk=>(⟨hk,hk.2⟩ : _∧k_ ≠ gb403))) (fun _ hk=>hk.2) (.slice Ao61 t395.length co61)) (fun _ hk=>hk.2) (.int .i64 t398)) (fun _ hk=>⟨hk.1.1.2,⟨hk.1.1.1.1,⟨hk.1.1.1.2.1,⟨hk.1.1.1.2.2.1,⟨hk.1.1.1.2.2.2,hk.1.2⟩⟩⟩⟩⟩)))⟩;have n2_ : Aside0 (Kd.V (Kd.slice 5 (Kd.int .u8)) 25 w67 w.heap.size (fun k_=>some k_ ≠ (.slice Ao41 x373000_2.length co41 : Value).ownBlock∧some k_ ≠ (v400 : Value).ownBlock∧k_ ≠ gb369∧k_ ≠ gb372∧k_ ≠ gb388∧k_ ≠ gb394∧k_ ≠ gb403) (.slice Ao52 t389.length co52) t389):=⟨(by rw [hw];exact (by (with_reducible repeat (first|apply vA|apply vN|apply vD));exact Kd.V_mono (Kd.V_far (p:=⟨gb403,1,none⟩) (Kd.V_far (p:=⟨gb403,0,none⟩) (Kd.V_mono HO391.out (fun k_ hk=>(⟨hk,hk.2⟩ : _∧k_ ≠ gb403))) (fun _ hk=>hk.2) (.slice Ao61 t395.length co61)) (fun _ hk=>hk.2) (.int .i64 t398)) (fun _ hk=>⟨hk.1.1.1.1,⟨hk.1.1.2,⟨hk.1.1.1.2.1,⟨hk.1.1.1.2.2.1,⟨hk.1.1.1.2.2.2.1,⟨hk.1.1.1.2.2.2.2,hk.1.2⟩⟩⟩⟩⟩⟩)))⟩;have n3_ : Aside0 (Kd.V (Kd.slice 5 (Kd.int .u8)) 25 w67 w.heap.size (fun k_=>some k_ ≠ (v400 : Value).ownBlock∧k_ ≠ gb369∧k_ ≠ gb372∧k_ ≠ gb388∧k_ ≠ gb394∧k_ ≠ gb403) (.slice Ao61 t395.length co61) t395):=⟨(by rw [hw];exact (by (with_reducible repeat (first|apply vA|apply vN|apply vD));exact Kd.V_mono (Kd.V_far (p:=⟨gb403,1,none⟩) (Kd.V_far (p:=⟨gb403,0,none⟩) (Kd.V_mono HO397.out (fun k_ hk=>(⟨hk,hk.2⟩ : _∧k_ ≠ gb403))) (fun _ hk=>hk.2) (.slice Ao61 t395.length co61)) (fun _ hk=>hk.2) (.int .i64 t398)) (fun _ hk=>⟨hk.1.1.1,⟨hk.1.1.2.1,⟨hk.1.1.2.2.1,⟨hk.1.1.2.2.2.1,⟨hk.1.1.2.2.2.2,hk.1.2⟩⟩⟩⟩⟩)))⟩;have n4_ : Aside0 (Kd.R (Kd.int .u8) 5 w67 w.heap.size (fun _=>True) v400 t399):=⟨(by rw [hw];exact (by (with_reducible repeat (first|apply rA|apply rN|apply rD));exact Kd.R_mono (Kd.R_far (p:=⟨gb403,1,none⟩) (Kd.R_far (p:=⟨gb403,0,none⟩) (Kd.R_types HO401.out BK403.out (by decide)) (fun _ hk=>hk.2) (.slice Ao61 t395.length co61)) (fun _ hk=>hk.2) (.int .i64 t398)) (fun _ hk=>trivial)))⟩;have n5_ : Aside0 (w67.heap[gb369]? = some (.cells #[.slice A0_0 l0_0.length c0_0,.int .i64 a0_1] 24 (0,0))):=⟨(by rw [hw];exact (by (with_reducible repeat (first|apply bN|apply bD|apply bA));refine blk_far ?_ NB369_403.out _;(with_reducible repeat (first|apply bN|apply bD|apply bA));refine blk_far ?_ NB369_403.out _;(with_reducible repeat (first|apply bN|apply bD|apply bA));exact BK369.out))⟩;have n6_ : Aside0 (w67.heap[gb372]? = some (.cells #[.slice Ao41 x373000_2.length co41,.int .i64 a0_1] 24 (0,0))):=⟨(by rw [hw];exact (by (with_reducible repeat (first|apply bN|apply bD|apply bA));refine blk_far ?_ NB372_403.out _;(with_reducible repeat (first|apply bN|apply bD|apply bA));refine blk_far ?_ NB372_403.out _;(with_reducible repeat (first|apply bN|apply bD|apply bA));exact BK372.out))⟩;have n7_ : Aside0 (w67.heap[gb388]? = some (.cells #[.slice Ao44 t383.length co44,.int .i64 t386] 24 (0,0))):=⟨(by rw [hw];exact (by (with_reducible repeat (first|apply bN|apply bD|apply bA));refine blk_far ?_ NB388_403.out _;(with_reducible repeat (first|apply bN|apply bD|apply bA));refine blk_far ?_ NB388_403.out _;(with_reducible repeat (first|apply bN|apply bD|apply bA));exact BK388.out))⟩;have n8_ : Aside0 (w67.heap[gb394]? = some (.cells #[.slice Ao52 t389.length co52,.int .i64 t392] 24 (0,0))):=⟨(by rw [hw];exact (by (with_reducible repeat (first|apply bN|apply bD|apply bA));refine blk_far ?_ NB394_403.out _;(with_reducible repeat (first|apply bN|apply bD|apply bA));refine blk_far ?_ NB394_403.out _;(with_reducible repeat (first|apply bN|apply bD|apply bA));exact BK394.out))⟩;have n9_ : Aside0 (w67.heap[gb403]? = some (.cells #[.slice Ao61 t395.length co61,.int .i64 t398] 24 (0,0))):=⟨(by rw [hw];exact (by (with_reducible repeat (first|apply bN|apply bD|apply bA));refine blk_put (cs:=#[.slice Ao61 t395.length co61,.int .i64 0]) ?_ 1 _ rfl;(with_reducible repeat (first|apply bN|apply bD|apply bA));refine blk_put (cs:=#[.slice none 0 0,.int .i64 0]) ?_ 0 _ rfl;(with_reducible repeat (first|apply bN|apply bD|apply bA));exact BK403.out))⟩;have n10_ : Aside0 (Below w.heap.size w w67):=⟨(by rw [hw];exact (by repeat (first|(with_reducible first|exact HB.out|apply lA|apply lN|apply lD|refine lS ?_ GE369.out|refine lS ?_ GE372.out|refine lS ?_ GE388.out|refine lS ?_ GE394.out|refine lS ?_ GE403.out)|exact HB.out)))⟩;clear hw;clear HO_373000;clear HO385;clear HO391;clear HO397;clear HO401;clear BK369;clear BK372;clear BK388;clear BK394;clear BK403;clear HB;have HO_373000:=n0_;have HO385:=n1_;have HO391:=n2_;have HO397:=n3_;have HO401:=n4_;have BK369:=n5_;have BK372:=n6_;have BK388:=n7_;have BK394:=n8_;have BK403:=n9_;have HB:=n10_;clear n0_ n1_ n2_ n3_ n4_ n5_ n6_ n7_ n8_ n9_ n10_;have hcz68_0 : w67.cell? ⟨gb369,0,none⟩ = some (.slice A0_0 l0_0.length c0_0):=(blk_cell BK369.out 0).trans rfl;have hcz68_1 : w67.cell? ⟨gb369,1,none⟩ = some (.int .i64 a0_1):=(blk_cell BK369.out 1).trans rfl;have hfz68_0:=blk_frozen BK369.out 0;have hfz68_1:=blk_frozen BK369.out 1)|((with_reducible refine gate_callee (f:=11) rfl ?_);refine goesL_ (some 70) rfl rfl Try.func11 (by kernel_rfl) rfl #[.agg #[.slice A0_0 l0_0.length c0_0,.int .i64 a0_1]] rfl (by (try simp only [List.map_toArray,List.map_cons,List.map_nil]);first|done|rfl|(simp only [List.length_drop,List.length_take];rfl)) ?_;(with_reducible refine (drawbridgeref23_Pop.calls k2 (fun k_=>k_ < w.heap.size) _ _ l0_0 a0_1 t404 t407 t408 t411 _ ?side1 A36.out).mono ?_);(case side1=>exact Kd.V_mk HC0_0.out (Kd.F_below (Kd.C_F (Kd.heap_slice 5 (Kd.heap_int .u8)) HR0_0.out) (by repeat (first|(with_reducible first|exact HB.out|apply lA|apply lN|apply lD|refine lS ?_ GE369.out|refine lS ?_ GE372.out|refine lS ?_ GE388.out|refine lS ?_ GE394.out|refine lS ?_ GE403.out)|exact HB.out))));rintro e w69 ⟨v405,v409,rfl,ho0,ho1,hb⟩;refine ⟨_,rfl,?_⟩;have n0_:=mK (Kd.S_elder' (by (with_reducible repeat (first|apply Kd.S_alloc|apply Kd.S_drewN|apply Kd.S_drew));exact HO_373000.out) (Kd.R_base ho1) hb);have n1_:=mK (Kd.V_elder' (by (with_reducible repeat (first|apply vA|apply vN|apply vD));exact HO385.out) (Kd.R_base ho1) hb);have n2_:=mK (Kd.V_elder' (by (with_reducible repeat (first|apply vA|apply vN|apply vD));exact HO391.out) (Kd.R_base ho1) hb);have n3_:=mK (Kd.V_elder' (by (with_reducible repeat (first|apply vA|apply vN|apply vD));exact HO397.out) (Kd.R_base ho1) hb);have n4_:=mK (Kd.R_elder' (by (with_reducible repeat (first|apply rA|apply rN|apply rD));exact HO401.out) (Kd.R_base ho1) hb);have n5_:=mK (Kd.V_lower (Kd.V_mono (ok':= fun k_=>some k_ ≠ (v409 : Value).ownBlock∧some k_ ≠ (.slice Ao41 x373000_2.length co41 : Value).ownBlock∧some k_ ≠ (v400 : Value).ownBlock∧k_ ≠ gb369∧k_ ≠ gb372∧k_ ≠ gb388∧k_ ≠ gb394∧k_ ≠ gb403) ho0 (fun k_ hk_=>⟨hk_.2,Or.elim hk_.1 (fun hs_=>fun e_=>Nat.not_le.2 hs_ (Kd.S_base HO_373000.out k_ e_.symm)) (fun hn_=>(Kd.fresh' (Kd.S_lt (by (with_reducible repeat (first|apply Kd.S_alloc|apply Kd.S_drewN|apply Kd.S_drew));exact HO_373000.out)) k_ hn_)),Or.elim hk_.1 (fun hs_=>fun e_=>Nat.not_le.2 hs_ (Kd.R_base HO401.out k_ e_.symm)) (fun hn_=>(Kd.fresh' (Kd.R_lt (by (with_reducible repeat (first|apply rA|apply rN|apply rD));exact HO401.out)) k_ hn_)),Or.elim hk_.1 (fun hs_=>fun e_=>Nat.not_le.2 hs_ (by rw [e_];exact GW369.out)) (fun hn_=>(Kd.freshB (g:=gb369) (o:=.cells #[.slice A0_0 l0_0.length c0_0,.int .i64 a0_1] 24 (0,0)) (by (with_reducible repeat (first|apply bN|apply bD|apply bA));exact BK369.out) k_ hn_)),Or.elim hk_.1 (fun hs_=>fun e_=>Nat.not_le.2 hs_ (by rw [e_];exact GW372.out)) (fun hn_=>(Kd.freshB (g:=gb372) (o:=.cells #[.slice Ao41 x373000_2.length co41,.int .i64 a0_1] 24 (0,0)) (by (with_reducible repeat (first|apply bN|apply bD|apply bA));exact BK372.out) k_ hn_)),Or.elim hk_.1 (fun hs_=>fun e_=>Nat.not_le.2 hs_ (by rw [e_];exact GW388.out)) (fun hn_=>(Kd.freshB (g:=gb388) (o:=.cells #[.slice Ao44 t383.length co44,.int .i64 t386] 24 (0,0)) (by (with_reducible repeat (first|apply bN|apply bD|apply bA));exact BK388.out) k_ hn_)),Or.elim hk_.1 (fun hs_=>fun e_=>Nat.not_le.2 hs_ (by rw [e_];exact GW394.out)) (fun hn_=>(Kd.freshB (g:=gb394) (o:=.cells #[.slice Ao52 t389.length co52,.int .i64 t392] 24 (0,0)) (by (with_reducible repeat (first|apply bN|apply bD|apply bA));exact BK394.out) k_ hn_)),Or.elim hk_.1 (fun hs_=>fun e_=>Nat.not_le.2 hs_ (by rw [e_];exact GW403.out)) (fun hn_=>(Kd.freshB (g:=gb403) (o:=.cells #[.slice Ao61 t395.length co61,.int .i64 t398] 24 (0,0)) (by (with_reducible repeat (first|apply bN|apply bD|apply bA));exact BK403.out) k_ hn_))⟩)) (below_size (by repeat (first|(with_reducible first|exact HB.out|apply lA|apply lN|apply lD|refine lS ?_ GE369.out|refine lS ?_ GE372.out|refine lS ?_ GE388.out|refine lS ?_ GE394.out|refine lS ?_ GE403.out)|exact HB.out))));have n6_:=mK (Kd.R_lower (Kd.R_new' (Kd.R_mono (ok':= fun k_=>True) ho1 (fun _ hk_=>trivial)) (Kd.R_lt (by (with_reducible repeat (first|apply rA|apply rN|apply rD));exact HO401.out))) (below_size (by repeat (first|(with_reducible first|exact HB.out|apply lA|apply lN|apply lD|refine lS ?_ GE369.out|refine lS ?_ GE372.out|refine lS ?_ GE388.out|refine lS ?_ GE394.out|refine lS ?_ GE403.out)|exact HB.out))));have n7_:=mK (blk_below (g:=gb369) (o:=.cells #[.slice A0_0 l0_0.length c0_0,.int .i64 a0_1] 24 (0,0)) (by (with_reducible repeat (first|apply bN|apply bD|apply bA));exact BK369.out) hb);have n8_:=mK (blk_below (g:=gb372) (o:=.cells #[.slice Ao41 x373000_2.length co41,.int .i64 a0_1] 24 (0,0)) (by (with_reducible repeat (first|apply bN|apply bD|apply bA));exact BK372.out) hb);have n9_:=mK (blk_below (g:=gb388) (o:=.cells #[.slice Ao44 t383.length co44,.int .i64 t386] 24 (0,0)) (by (with_reducible repeat (first|apply bN|apply bD|apply bA));exact BK388.out) hb);have n10_:=mK (blk_below (g:=gb394) (o:=.cells #[.slice Ao52 t389.length co52,.int .i64 t392] 24 (0,0)) (by (with_reducible repeat (first|apply bN|apply bD|apply bA));exact BK394.out) hb);have n11_:=mK (blk_below (g:=gb403) (o:=.cells #[.slice Ao61 t395.length co61,.int .i64 t398] 24 (0,0)) (by (with_reducible repeat (first|apply bN|apply bD|apply bA));exact BK403.out) hb);have n12_:=mK (below_step (by repeat (first|(with_reducible first|exact HB.out|apply lA|apply lN|apply lD|refine lS ?_ GE369.out|refine lS ?_ GE372.out|refine lS ?_ GE388.out|refine lS ?_ GE394.out|refine lS ?_ GE403.out)|exact HB.out)) hb);clear HO_373000;clear HO385;clear HO391;clear HO397;clear HO401;clear BK369;clear BK372;clear BK388;clear BK394;clear BK403;clear HB;have HO_373000:=n0_;have HO385:=n1_;have HO391:=n2_;have HO397:=n3_;have HO401:=n4_;have HO406:=n5_;have HO410:=n6_;have BK369:=n7_;have BK372:=n8_;have BK388:=n9_;have BK394:=n10_;have BK403:=n11_;have HB:=n12_;clear n0_ n1_ n2_ n3_ n4_ n5_ n6_ n7_ n8_ n9_ n10_ n11_ n12_;(try clear hb);(try clear hb2);(try clear hk);(try clear hi);(try clear ho0);(try clear ho1))|((with_reducible refine gate_dst (N:=16) rfl ?_);(try (refine gate_guard (by rfl) ?_;dsimp only));refine box_event ?hg (N:=16) ?hd (cs:=#[.slice none 0 0,.int .i64 0]) (t:=24) ?hr ?_;(case hd=>rfl);(case hg=>rfl);(case hr=>first|(go_simp;done)|(go_simp;rfl));intro gb412 hg w70 hbox hb;have n0_:=mK (Kd.S_below (by (with_reducible repeat (first|apply Kd.S_alloc|apply Kd.S_drewN|apply Kd.S_drew));exact HO_373000.out) hb);have n1_:=mK (Kd.V_below (Kd.V_elderB (by (with_reducible repeat (first|apply vA|apply vN|apply vD));exact HO385.out) gb412 (Nat.le_of_eq hg.symm)) hb);have n2_:=mK (Kd.V_below (Kd.V_elderB (by (with_reducible repeat (first|apply vA|apply vN|apply vD));exact HO391.out) gb412 (Nat.le_of_eq hg.symm)) hb);have n3_:=mK (Kd.V_below (Kd.V_elderB (by (with_reducible repeat (first|apply vA|apply vN|apply vD));exact HO397.out) gb412 (Nat.le_of_eq hg.symm)) hb);have n4_:=mK (Kd.R_below (by (with_reducible repeat (first|apply rA|apply rN|apply rD));exact HO401.out) hb);have n5_:=mK (Kd.V_below (Kd.V_elderB (by (with_reducible repeat (first|apply vA|apply vN|apply vD));exact HO406.out) gb412 (Nat.le_of_eq hg.symm)) hb);have n6_:=mK (Kd.R_below (by (with_reducible repeat (first|apply rA|apply rN|apply rD));exact HO410.out) hb);have n7_:=mK (blk_below (g:=gb369) (o:=.cells #[.slice A0_0 l0_0.length c0_0,.int .i64 a0_1] 24 (0,0)) (by (with_reducible repeat (first|apply bN|apply bD|apply bA));exact BK369.out) hb);have n8_:=mK (blk_below (g:=gb372) (o:=.cells #[.slice Ao41 x373000_2.length co41,.int .i64 a0_1] 24 (0,0)) (by (with_reducible repeat (first|apply bN|apply bD|apply bA));exact BK372.out) hb);have n9_:=mK (blk_below (g:=gb388) (o:=.cells #[.slice Ao44 t383.length co44,.int .i64 t386] 24 (0,0)) (by (with_reducible repeat (first|apply bN|apply bD|apply bA));exact BK388.out) hb);have n10_:=mK (blk_below (g:=gb394) (o:=.cells #[.slice Ao52 t389.length co52,.int .i64 t392] 24 (0,0)) (by (with_reducible repeat (first|apply bN|apply bD|apply bA));exact BK394.out) hb);have n11_:=mK (blk_below (g:=gb403) (o:=.cells #[.slice Ao61 t395.length co61,.int .i64 t398] 24 (0,0)) (by (with_reducible repeat (first|apply bN|apply bD|apply bA));exact BK403.out) hb);have n12_:=mK (below_step (by repeat (first|(with_reducible first|exact HB.out|apply lA|apply lN|apply lD|refine lS ?_ GE369.out|refine lS ?_ GE372.out|refine lS ?_ GE388.out|refine lS ?_ GE394.out|refine lS ?_ GE403.out)|exact HB.out)) hb);have n13_:=mK (hbox);have n14_:=mK ((by rw [hg];exact (below_size (by repeat (first|(with_reducible first|exact HB.out|apply lA|apply lN|apply lD|refine lS ?_ GE369.out|refine lS ?_ GE372.out|refine lS ?_ GE388.out|refine lS ?_ GE394.out|refine lS ?_ GE403.out)|exact HB.out))) : w.heap.size ≤ gb412));have n15_:=mK ((by rw [hg];exact (below_size (by repeat (first|(with_reducible first|exact HB.out|apply lA|apply lN|apply lD|refine lS ?_ GE369.out|refine lS ?_ GE372.out|refine lS ?_ GE388.out|refine lS ?_ GE394.out|refine lS ?_ GE403.out)|exact HB.out))) : w.heap.size ≤ gb412));have n16_:=mK ((by rw [hg];exact Nat.ne_of_lt (blk_lt (g:=gb369) (o:=.cells #[.slice A0_0 l0_0.length c0_0,.int .i64 a0_1] 24 (0,0)) (by (with_reducible repeat (first|apply bN|apply bD|apply bA));exact BK369.out)) : gb369 ≠ gb412));have n17_:=mK ((by rw [hg];exact Nat.ne_of_gt (blk_lt (g:=gb369) (o:=.cells #[.slice A0_0 l0_0.length c0_0,.int .i64 a0_1] 24 (0,0)) (by (with_reducible repeat (first|apply bN|apply bD|apply bA));exact BK369.out)) : gb412 ≠ gb369));have n18_:=mK ((by rw [hg];exact Nat.ne_of_lt (blk_lt (g:=gb372) (o:=.cells #[.slice Ao41 x373000_2.length co41,.int .i64 a0_1] 24 (0,0)) (by (with_reducible repeat (first|apply bN|apply bD|apply bA));exact BK372.out)) : gb372 ≠ gb412));have n19_:=mK ((by rw [hg];exact Nat.ne_of_gt (blk_lt (g:=gb372) (o:=.cells #[.slice Ao41 x373000_2.length co41,.int .i64 a0_1] 24 (0,0)) (by (with_reducible repeat (first|apply bN|apply bD|apply bA));exact BK372.out)) : gb412 ≠ gb372));have n20_:=mK ((by rw [hg];exact Nat.ne_of_lt (blk_lt (g:=gb388) (o:=.cells #[.slice Ao44 t383.length co44,.int .i64 t386] 24 (0,0)) (by (with_reducible repeat (first|apply bN|apply bD|apply bA));exact BK388.out)) : gb388 ≠ gb412));have n21_:=mK ((by rw [hg];exact Nat.ne_of_gt (blk_lt (g:=gb388) (o:=.cells #[.slice Ao44 t383.length co44,.int .i64 t386] 24 (0,0)) (by (with_reducible repeat (first|apply bN|apply bD|apply bA));exact BK388.out)) : gb412 ≠ gb388));have n22_:=mK ((by rw [hg];exact Nat.ne_of_lt (blk_lt (g:=gb394) (o:=.cells #[.slice Ao52 t389.length co52,.int .i64 t392] 24 (0,0)) (by (with_reducible repeat (first|apply bN|apply bD|apply bA));exact BK394.out)) : gb394 ≠ gb412));have n23_:=mK ((by rw [hg];exact Nat.ne_of_gt (blk_lt (g:=gb394) (o:=.cells #[.slice Ao52 t389.length co52,.int .i64 t392] 24 (0,0)) (by (with_reducible repeat (first|apply bN|apply bD|apply bA));exact BK394.out)) : gb412 ≠ gb394));have n24_:=mK ((by rw [hg];exact Nat.ne_of_lt (blk_lt (g:=gb403) (o:=.cells #[.slice Ao61 t395.length co61,.int .i64 t398] 24 (0,0)) (by (with_reducible repeat (first|apply bN|apply bD|apply bA));exact BK403.out)) : gb403 ≠ gb412));have n25_:=mK ((by rw [hg];exact Nat.ne_of_gt (blk_lt (g:=gb403) (o:=.cells #[.slice Ao61 t395.length co61,.int .i64 t398] 24 (0,0)) (by (with_reducible repeat (first|apply bN|apply bD|apply bA));exact BK403.out)) : gb412 ≠ gb403));clear HO_373000;clear HO385;clear HO391;clear HO397;clear HO401;clear HO406;clear HO410;clear BK369;clear BK372;clear BK388;clear BK394;clear BK403;clear HB;have HO_373000:=n0_;have HO385:=n1_;have HO391:=n2_;have HO397:=n3_;have HO401:=n4_;have HO406:=n5_;have HO410:=n6_;have BK369:=n7_;have BK372:=n8_;have BK388:=n9_;have BK394:=n10_;have BK403:=n11_;have HB:=n12_;have BK412:=n13_;have GW412:=n14_;have GE412:=n15_;have NB369_412:=n16_;have NB412_369:=n17_;have NB372_412:=n18_;have NB412_372:=n19_;have NB388_412:=n20_;have NB412_388:=n21_;have NB394_412:=n22_;have NB412_394:=n23_;have NB403_412:=n24_;have NB412_403:=n25_;clear n0_ n1_ n2_ n3_ n4_ n5_ n6_ n7_ n8_ n9_ n10_ n11_ n12_ n13_ n14_ n15_ n16_ n17_ n18_ n19_ n20_ n21_ n22_ n23_ n24_ n25_;clear hb hbox hg;obtain ⟨Ao71,co71,eo71⟩:=Kd.V_slice HO406.out;subst eo71;have hnb72:=NB412_369.out;have hnc72:=NB369_412.out;have hnb73:=NB412_372.out;have hnc73:=NB372_412.out;have hnb74:=NB412_388.out;have hnc74:=NB388_412.out;have hnb75:=NB412_394.out;have hnc75:=NB394_412.out;have hnb76:=NB412_403.out;have hnc76:=NB403_412.out;have hcz77_0 : w70.cell? ⟨gb412,0,none⟩ = some (.slice none 0 0):=(blk_cell BK412.out 0).trans rfl;have hcz77_1 : w70.cell? ⟨gb412,1,none⟩ = some (.int .i64 0):=(blk_cell BK412.out 1).trans rfl;have hfz77_0:=blk_frozen BK412.out 0;have hfz77_1:=blk_frozen BK412.out 1))
       (try simp only [Act.put,sT,sZ,sS])
       go_cut [99] (fun v99 wc=>∃ (kq : Nat) (x99_36 : Bool),v99 = .bool x99_36∧Aside0 (drawbridgelaw23_LinkDoes.j2 kq a2 x99_36 l0_0 a0_1 x373000_2 a0_1 = some r)∧Aside0 (kq ≤ k2)∧Aside0 (Kd.S (Kd.slice 5 (Kd.int .u8)) 25 wc w.heap.size (fun _=>True) (.slice Ao41 x373000_2.length co41) x373000_2)∧Aside0 (Kd.V (Kd.slice 5 (Kd.int .u8)) 25 wc w.heap.size (fun k_=>k_ ≠ gb369∧k_ ≠ gb372∧k_ ≠ gb388∧k_ ≠ gb394∧k_ ≠ gb403∧k_ ≠ gb412) (.slice Ao44 t383.length co44) t383)∧Aside0 (Kd.V (Kd.slice 5 (Kd.int .u8)) 25 wc w.heap.size (fun k_=>some k_ ≠ ((.slice Ao41 x373000_2.length co41) : Value).ownBlock∧k_ ≠ gb369∧k_ ≠ gb372∧k_ ≠ gb388∧k_ ≠ gb394∧k_ ≠ gb403∧k_ ≠ gb412) (.slice Ao52 t389.length co52) t389)∧Aside0 (Kd.V (Kd.slice 5 (Kd.int .u8)) 25 wc w.heap.size (fun k_=>k_ ≠ gb369∧k_ ≠ gb372∧k_ ≠ gb388∧k_ ≠ gb394∧k_ ≠ gb403∧k_ ≠ gb412) (.slice Ao61 t395.length co61) t395)∧Aside0 (Kd.V (Kd.slice 5 (Kd.int .u8)) 25 wc w.heap.size (fun k_=>some k_ ≠ ((.slice Ao41 x373000_2.length co41) : Value).ownBlock∧k_ ≠ gb369∧k_ ≠ gb372∧k_ ≠ gb388∧k_ ≠ gb394∧k_ ≠ gb403∧k_ ≠ gb412) (.slice Ao71 t404.length co71) t404)∧Aside0 (wc.heap[gb369]? = some (.cells #[(.slice A0_0 l0_0.length c0_0),.int .i64 a0_1] 24 (0,0)))∧Aside0 (wc.heap[gb372]? = some (.cells #[(.slice Ao41 x373000_2.length co41),.int .i64 a0_1] 24 (0,0)))∧Aside0 (wc.heap[gb388]? = some (.cells #[(.slice Ao44 t383.length co44),.int .i64 t386] 24 (0,0)))∧Aside0 (wc.heap[gb394]? = some (.cells #[(.slice Ao52 t389.length co52),.int .i64 t392] 24 (0,0)))∧Aside0 (wc.heap[gb403]? = some (.cells #[(.slice Ao61 t395.length co61),.int .i64 t398] 24 (0,0)))∧Aside0 (wc.heap[gb412]? = some (.cells #[(.slice Ao71 t404.length co71),.int .i64 t407] 24 (0,0)))∧Aside0 (Below w.heap.size w wc))
       case first =>
        have H:=HC37.out
        clear HC37
        replace H:=Option.bind_eq_some_iff.mp H
        obtain ⟨t413,A780,H⟩:=H
        replace H : (if t413 = true then (if (t387 != t393) = true then (drawbridgelaw23_LinkDoes.j2 k2 a2 true l0_0 a0_1 x373000_2 a0_1) else ((drawbridgeref23_Same.f k2 t395 t398 t404 t407).bind fun t414=>(if t414 = true then ((drawbridgeref01_Same.f t399 t408).bind fun t415=>(if t415 = true then (drawbridgelaw23_LinkDoes.j2 k2 a2 (t402 != t411) l0_0 a0_1 x373000_2 a0_1) else (drawbridgelaw23_LinkDoes.j2 k2 a2 true l0_0 a0_1 x373000_2 a0_1))) else (drawbridgelaw23_LinkDoes.j2 k2 a2 true l0_0 a0_1 x373000_2 a0_1)))) else (drawbridgelaw23_LinkDoes.j2 k2 a2 true l0_0 a0_1 x373000_2 a0_1)) = some r:=H
        have A78:=mK A780
        clear A780
        by_cases c79 : t413 = true
        ·subst c79
         have H1 : (if (t387 != t393) = true then (drawbridgelaw23_LinkDoes.j2 k2 a2 true l0_0 a0_1 x373000_2 a0_1) else ((drawbridgeref23_Same.f k2 t395 t398 t404 t407).bind fun t414=>(if t414 = true then ((drawbridgeref01_Same.f t399 t408).bind fun t415=>(if t415 = true then (drawbridgelaw23_LinkDoes.j2 k2 a2 (t402 != t411) l0_0 a0_1 x373000_2 a0_1) else (drawbridgelaw23_LinkDoes.j2 k2 a2 true l0_0 a0_1 x373000_2 a0_1))) else (drawbridgelaw23_LinkDoes.j2 k2 a2 true l0_0 a0_1 x373000_2 a0_1)))) = some r:= by rw [if_pos rfl] at H;exact H
         clear H
         have H:=H1
         clear H1
         by_cases c80 : (t387 != t393) = true
         ·rw [if_pos c80] at H
          have c80b0 : (t387 != t393) = true:=c80
          (try (have c80b1 : decide (t387 = t393) = false:= by simpa using c80))
          (try (have c80b2 : (t387 == t393) = false:= by simpa using c80))
          (try (have c80b3 : ¬ (t387 = t393):= by simpa using c80))
          clear c80
          (first|rw [c80b0]|(simp only [i64_w,i32_w];rw [c80b0])|skip)
          have H':=mK H
          clear H
          have hnb81:=NB388_369.out
          have hnc81:=NB369_388.out
          have hnb82:=NB388_372.out
          have hnc82:=NB372_388.out
          have hnb83:=NB388_394.out
          have hnc83:=NB394_388.out
          have hnb84:=NB388_403.out
          have hnc84:=NB403_388.out
          have hnb85:=NB388_412.out
          have hnc85:=NB412_388.out
          have hcz86_0 : w70.cell? ⟨gb388,0,none⟩ = some (.slice Ao44 t383.length co44):=(blk_cell BK388.out 0).trans rfl
          have hcz86_1 : w70.cell? ⟨gb388,1,none⟩ = some (.int .i64 t386):=(blk_cell BK388.out 1).trans rfl
          have hfz86_0:=blk_frozen BK388.out 0
          have hfz86_1:=blk_frozen BK388.out 1
          have hnb87:=NB394_369.out
          have hnc87:=NB369_394.out
          have hnb88:=NB394_372.out
          have hnc88:=NB372_394.out
          have hnb89:=NB394_403.out
          have hnc89:=NB403_394.out
          have hnb90:=NB394_412.out
          have hnc90:=NB412_394.out
          have hcz91_0 : w70.cell? ⟨gb394,0,none⟩ = some (.slice Ao52 t389.length co52):=(blk_cell BK394.out 0).trans rfl
          have hcz91_1 : w70.cell? ⟨gb394,1,none⟩ = some (.int .i64 t392):=(blk_cell BK394.out 1).trans rfl
          have hfz91_0:=blk_frozen BK394.out 0
          have hfz91_1:=blk_frozen BK394.out 1
          go_wp2_with (first|((with_reducible refine gate_callee (f:=12) rfl ?_);refine goesL_ (some 76) rfl rfl Try.func12 (by kernel_rfl) rfl #[.agg #[.slice Ao44 t383.length co44,.int .i64 t386],.agg #[.slice Ao52 t389.length co52,.int .i64 t392]] rfl (by (try simp only [List.map_toArray,List.map_cons,List.map_nil]);first|done|rfl|(simp only [List.length_drop,List.length_take];rfl)) ?_;(with_reducible refine (drawbridgeref23_Same.calls k2 _ _ t383 t386 _ _ t389 t392 true _ ?side1 ?side2 ?side3 ?side4 A78.out).mono ?_);(case side1=>refine (Kd.V_reads' (e:=25) (base:=w.heap.size) (ok:= fun k_=>(((some k_ ≠ (v400 : Value).ownBlock∧(k_ ≠ gb369∧(k_ ≠ gb372∧(k_ ≠ gb388∧(k_ ≠ gb394∧k_ ≠ gb403)))))∧some k_ ≠ (v409 : Value).ownBlock)∧k_ ≠ gb412)) (n:=t383.length) (c:=co44) ?_).2.2;exact (by (with_reducible repeat (first|apply vA|apply vN|apply vD));exact (Kd.V_mono (Kd.V_far (p:=⟨gb412,1,none⟩) (Kd.V_far (p:=⟨gb412,0,none⟩) (Kd.V_mono HO385.out (fun k_ hk=>(⟨hk,hk.2⟩ : _∧k_ ≠ gb412))) (fun _ hk=>hk.2) (.slice Ao71 t404.length co71)) (fun _ hk=>hk.2) (.int .i64 t407)) (fun _ h_=>h_.1))));(case side2=>exact (Kd.V_reads' HO385.out).2.1);(case side3=>refine (Kd.V_reads' (e:=25) (base:=w.heap.size) (ok:= fun k_=>(((some k_ ≠ (.slice Ao41 x373000_2.length co41 : Value).ownBlock∧(some k_ ≠ (v400 : Value).ownBlock∧(k_ ≠ gb369∧(k_ ≠ gb372∧(k_ ≠ gb388∧(k_ ≠ gb394∧k_ ≠ gb403))))))∧some k_ ≠ (v409 : Value).ownBlock)∧k_ ≠ gb412)) (n:=t389.length) (c:=co52) ?_).2.2;exact (by (with_reducible repeat (first|apply vA|apply vN|apply vD));exact (Kd.V_mono (Kd.V_far (p:=⟨gb412,1,none⟩) (Kd.V_far (p:=⟨gb412,0,none⟩) (Kd.V_mono HO391.out (fun k_ hk=>(⟨hk,hk.2⟩ : _∧k_ ≠ gb412))) (fun _ hk=>hk.2) (.slice Ao71 t404.length co71)) (fun _ hk=>hk.2) (.int .i64 t407)) (fun _ h_=>h_.1))));(case side4=>exact (Kd.V_reads' HO391.out).2.1);rintro e w92 ⟨rfl,hb⟩;refine ⟨_,rfl,?_⟩;have n0_:=mK (Kd.S_below (by (with_reducible repeat (first|apply Kd.S_alloc|apply Kd.S_drewN|apply Kd.S_drew));exact (Kd.S_mono (Kd.S_far (p:=⟨gb412,1,none⟩) (Kd.S_far (p:=⟨gb412,0,none⟩) (Kd.S_types HO_373000.out BK412.out (by decide)) (fun _ hk=>hk.2) (.slice Ao71 t404.length co71)) (fun _ hk=>hk.2) (.int .i64 t407)) (fun _ h_=>h_.1))) hb);have n1_:=mK (Kd.V_below (by (with_reducible repeat (first|apply vA|apply vN|apply vD));exact (Kd.V_mono (Kd.V_far (p:=⟨gb412,1,none⟩) (Kd.V_far (p:=⟨gb412,0,none⟩) (Kd.V_mono HO385.out (fun k_ hk=>(⟨hk,hk.2⟩ : _∧k_ ≠ gb412))) (fun _ hk=>hk.2) (.slice Ao71 t404.length co71)) (fun _ hk=>hk.2) (.int .i64 t407)) (fun _ h_=>h_.1))) hb);have n2_:=mK (Kd.V_below (by (with_reducible repeat (first|apply vA|apply vN|apply vD));exact (Kd.V_mono (Kd.V_far (p:=⟨gb412,1,none⟩) (Kd.V_far (p:=⟨gb412,0,none⟩) (Kd.V_mono HO391.out (fun k_ hk=>(⟨hk,hk.2⟩ : _∧k_ ≠ gb412))) (fun _ hk=>hk.2) (.slice Ao71 t404.length co71)) (fun _ hk=>hk.2) (.int .i64 t407)) (fun _ h_=>h_.1))) hb);have n3_:=mK (Kd.V_below (by (with_reducible repeat (first|apply vA|apply vN|apply vD));exact (Kd.V_mono (Kd.V_far (p:=⟨gb412,1,none⟩) (Kd.V_far (p:=⟨gb412,0,none⟩) (Kd.V_mono HO397.out (fun k_ hk=>(⟨hk,hk.2⟩ : _∧k_ ≠ gb412))) (fun _ hk=>hk.2) (.slice Ao71 t404.length co71)) (fun _ hk=>hk.2) (.int .i64 t407)) (fun _ h_=>h_.1))) hb);have n5_:=mK (Kd.V_below (by (with_reducible repeat (first|apply vA|apply vN|apply vD));exact (Kd.V_mono (Kd.V_far (p:=⟨gb412,1,none⟩) (Kd.V_far (p:=⟨gb412,0,none⟩) (Kd.V_mono HO406.out (fun k_ hk=>(⟨hk,hk.2⟩ : _∧k_ ≠ gb412))) (fun _ hk=>hk.2) (.slice Ao71 t404.length co71)) (fun _ hk=>hk.2) (.int .i64 t407)) (fun _ h_=>h_.1))) hb);have n7_:=mK (blk_below (g:=gb369) (o:=.cells #[.slice A0_0 l0_0.length c0_0,.int .i64 a0_1] 24 (0,0)) (by (with_reducible repeat (first|apply bN|apply bD|apply bA));refine blk_far ?_ NB369_412.out _;(with_reducible repeat (first|apply bN|apply bD|apply bA));refine blk_far ?_ NB369_412.out _;(with_reducible repeat (first|apply bN|apply bD|apply bA));exact BK369.out) hb);have n8_:=mK (blk_below (g:=gb372) (o:=.cells #[.slice Ao41 x373000_2.length co41,.int .i64 a0_1] 24 (0,0)) (by (with_reducible repeat (first|apply bN|apply bD|apply bA));refine blk_far ?_ NB372_412.out _;(with_reducible repeat (first|apply bN|apply bD|apply bA));refine blk_far ?_ NB372_412.out _;(with_reducible repeat (first|apply bN|apply bD|apply bA));exact BK372.out) hb);have n9_:=mK (blk_below (g:=gb388) (o:=.cells #[.slice Ao44 t383.length co44,.int .i64 t386] 24 (0,0)) (by (with_reducible repeat (first|apply bN|apply bD|apply bA));refine blk_far ?_ NB388_412.out _;(with_reducible repeat (first|apply bN|apply bD|apply bA));refine blk_far ?_ NB388_412.out _;(with_reducible repeat (first|apply bN|apply bD|apply bA));exact BK388.out) hb);have n10_:=mK (blk_below (g:=gb394) (o:=.cells #[.slice Ao52 t389.length co52,.int .i64 t392] 24 (0,0)) (by (with_reducible repeat (first|apply bN|apply bD|apply bA));refine blk_far ?_ NB394_412.out _;(with_reducible repeat (first|apply bN|apply bD|apply bA));refine blk_far ?_ NB394_412.out _;(with_reducible repeat (first|apply bN|apply bD|apply bA));exact BK394.out) hb);have n11_:=mK (blk_below (g:=gb403) (o:=.cells #[.slice Ao61 t395.length co61,.int .i64 t398] 24 (0,0)) (by (with_reducible repeat (first|apply bN|apply bD|apply bA));refine blk_far ?_ NB403_412.out _;(with_reducible repeat (first|apply bN|apply bD|apply bA));refine blk_far ?_ NB403_412.out _;(with_reducible repeat (first|apply bN|apply bD|apply bA));exact BK403.out) hb);have n12_:=mK (blk_below (g:=gb412) (o:=.cells #[.slice Ao71 t404.length co71,.int .i64 t407] 24 (0,0)) (by (with_reducible repeat (first|apply bN|apply bD|apply bA));refine blk_put (cs:=#[.slice Ao71 t404.length co71,.int .i64 0]) ?_ 1 _ rfl;(with_reducible repeat (first|apply bN|apply bD|apply bA));refine blk_put (cs:=#[.slice none 0 0,.int .i64 0]) ?_ 0 _ rfl;(with_reducible repeat (first|apply bN|apply bD|apply bA));exact BK412.out) hb);have n13_:=mK (below_step (by repeat (first|(with_reducible first|exact HB.out|apply lA|apply lN|apply lD|refine lS ?_ GE369.out|refine lS ?_ GE372.out|refine lS ?_ GE388.out|refine lS ?_ GE394.out|refine lS ?_ GE403.out|refine lS ?_ GE412.out)|exact HB.out)) hb);clear HO_373000;clear HO385;clear HO391;clear HO397;clear HO406;clear BK369;clear BK372;clear BK388;clear BK394;clear BK403;clear BK412;clear HB;have HO_373000:=n0_;have HO385:=n1_;have HO391:=n2_;have HO397:=n3_;have HO406:=n5_;have BK369:=n7_;have BK372:=n8_;have BK388:=n9_;have BK394:=n10_;have BK403:=n11_;have BK412:=n12_;have HB:=n13_;clear n0_ n1_ n2_ n3_ n5_ n7_ n8_ n9_ n10_ n11_ n12_ n13_;(try clear hb);(try clear hb2);(try clear hk);(try clear hi)))
          go_meet
          case rel=>exact ⟨_,(true),(by first|rfl|(simp;done)|(simp [*];done)),H',⟨by have:=HJ3.out;have:=HK2.out;first|omega|exact Nat.le_refl _⟩,⟨by (with_reducible repeat (first|apply Kd.S_alloc|apply Kd.S_drewN|apply Kd.S_drew));exact Kd.S_mono HO_373000.out (fun _ hk=>trivial)⟩,⟨by (with_reducible repeat (first|apply vA|apply vN|apply vD));exact Kd.V_mono HO385.out (fun _ hk=>⟨hk.1.1.2.1,⟨hk.1.1.2.2.1,⟨hk.1.1.2.2.2.1,⟨hk.1.1.2.2.2.2.1,⟨hk.1.1.2.2.2.2.2,hk.2⟩⟩⟩⟩⟩)⟩,⟨by (with_reducible repeat (first|apply vA|apply vN|apply vD));exact Kd.V_mono HO391.out (fun _ hk=>⟨hk.1.1.1,⟨hk.1.1.2.2.1,⟨hk.1.1.2.2.2.1,⟨hk.1.1.2.2.2.2.1,⟨hk.1.1.2.2.2.2.2.1,⟨hk.1.1.2.2.2.2.2.2,hk.2⟩⟩⟩⟩⟩⟩)⟩,⟨by (with_reducible repeat (first|apply vA|apply vN|apply vD));exact Kd.V_mono HO397.out (fun _ hk=>⟨hk.1.1.2.1,⟨hk.1.1.2.2.1,⟨hk.1.1.2.2.2.1,⟨hk.1.1.2.2.2.2.1,⟨hk.1.1.2.2.2.2.2,hk.2⟩⟩⟩⟩⟩)⟩,⟨by (with_reducible repeat (first|apply vA|apply vN|apply vD));exact Kd.V_mono HO406.out (fun _ hk=>⟨hk.1.2.1,⟨hk.1.2.2.2.1,⟨hk.1.2.2.2.2.1,⟨hk.1.2.2.2.2.2.1,⟨hk.1.2.2.2.2.2.2.1,⟨hk.1.2.2.2.2.2.2.2,hk.2⟩⟩⟩⟩⟩⟩)⟩,⟨by (with_reducible repeat (first|apply bN|apply bD|apply bA));exact BK369.out⟩,⟨by (with_reducible repeat (first|apply bN|apply bD|apply bA));exact BK372.out⟩,⟨by (with_reducible repeat (first|apply bN|apply bD|apply bA));exact BK388.out⟩,⟨by (with_reducible repeat (first|apply bN|apply bD|apply bA));exact BK394.out⟩,⟨by (with_reducible repeat (first|apply bN|apply bD|apply bA));exact BK403.out⟩,⟨by (with_reducible repeat (first|apply bN|apply bD|apply bA));exact BK412.out⟩,⟨by repeat (first|(with_reducible first|exact HB.out|apply lA|apply lN|apply lD|refine lS ?_ GE369.out|refine lS ?_ GE372.out|refine lS ?_ GE388.out|refine lS ?_ GE394.out|refine lS ?_ GE403.out|refine lS ?_ GE412.out)|exact HB.out)⟩⟩
         ·rw [if_neg c80] at H
          have c80b0 : (t387 != t393) = false:= by simpa using c80
          (try (have c80b1 : decide (t387 = t393) = true:= by simpa using c80))
          (try (have c80b2 : (t387 == t393) = true:= by simpa using c80))
          clear c80
          (first|rw [c80b0]|(simp only [i64_w,i32_w];rw [c80b0])|skip)
          replace H:=Option.bind_eq_some_iff.mp H
          obtain ⟨t414,A930,H⟩:=H
          replace H : (if t414 = true then ((drawbridgeref01_Same.f t399 t408).bind fun t415=>(if t415 = true then (drawbridgelaw23_LinkDoes.j2 k2 a2 (t402 != t411) l0_0 a0_1 x373000_2 a0_1) else (drawbridgelaw23_LinkDoes.j2 k2 a2 true l0_0 a0_1 x373000_2 a0_1))) else (drawbridgelaw23_LinkDoes.j2 k2 a2 true l0_0 a0_1 x373000_2 a0_1)) = some r:=H
          have A93:=mK A930
          clear A930
          by_cases c94 : t414 = true
          ·subst c94
           have H1 : ((drawbridgeref01_Same.f t399 t408).bind fun t415=>(if t415 = true then (drawbridgelaw23_LinkDoes.j2 k2 a2 (t402 != t411) l0_0 a0_1 x373000_2 a0_1) else (drawbridgelaw23_LinkDoes.j2 k2 a2 true l0_0 a0_1 x373000_2 a0_1))) = some r:= by rw [if_pos rfl] at H;exact H
           clear H
           have H:=H1
           clear H1
           replace H:=Option.bind_eq_some_iff.mp H
           obtain ⟨t415,A950,H⟩:=H
           replace H : (if t415 = true then (drawbridgelaw23_LinkDoes.j2 k2 a2 (t402 != t411) l0_0 a0_1 x373000_2 a0_1) else (drawbridgelaw23_LinkDoes.j2 k2 a2 true l0_0 a0_1 x373000_2 a0_1)) = some r:=H
           have A95:=mK A950
           clear A950
           by_cases c96 : t415 = true
           ·subst c96
            have H1 : (drawbridgelaw23_LinkDoes.j2 k2 a2 (t402 != t411) l0_0 a0_1 x373000_2 a0_1) = some r:= by rw [if_pos rfl] at H;exact H
            clear H
            have H:=H1
            clear H1
            have H':=mK H
            clear H
            have hnb97:=NB388_369.out
            have hnc97:=NB369_388.out
            have hnb98:=NB388_372.out
            have hnc98:=NB372_388.out
            have hnb99:=NB388_394.out
            have hnc99:=NB394_388.out
            have hnb100:=NB388_403.out
            have hnc100:=NB403_388.out
            have hnb101:=NB388_412.out
            have hnc101:=NB412_388.out
            have hcz102_0 : w70.cell? ⟨gb388,0,none⟩ = some (.slice Ao44 t383.length co44):=(blk_cell BK388.out 0).trans rfl
            have hcz102_1 : w70.cell? ⟨gb388,1,none⟩ = some (.int .i64 t386):=(blk_cell BK388.out 1).trans rfl
            have hfz102_0:=blk_frozen BK388.out 0
            have hfz102_1:=blk_frozen BK388.out 1
            have hnb103:=NB394_369.out
            have hnc103:=NB369_394.out
            have hnb104:=NB394_372.out
            have hnc104:=NB372_394.out
            have hnb105:=NB394_403.out
            have hnc105:=NB403_394.out
            have hnb106:=NB394_412.out
            have hnc106:=NB412_394.out
            have hcz107_0 : w70.cell? ⟨gb394,0,none⟩ = some (.slice Ao52 t389.length co52):=(blk_cell BK394.out 0).trans rfl
            have hcz107_1 : w70.cell? ⟨gb394,1,none⟩ = some (.int .i64 t392):=(blk_cell BK394.out 1).trans rfl
            have hfz107_0:=blk_frozen BK394.out 0
            have hfz107_1:=blk_frozen BK394.out 1
            go_wp2_with (first|((with_reducible refine gate_callee (f:=12) rfl ?_);refine goesL_ (some 76) rfl rfl Try.func12 (by kernel_rfl) rfl #[.agg #[.slice Ao44 t383.length co44,.int .i64 t386],.agg #[.slice Ao52 t389.length co52,.int .i64 t392]] rfl (by (try simp only [List.map_toArray,List.map_cons,List.map_nil]);first|done|rfl|(simp only [List.length_drop,List.length_take];rfl)) ?_;(with_reducible refine (drawbridgeref23_Same.calls k2 _ _ t383 t386 _ _ t389 t392 true _ ?side1 ?side2 ?side3 ?side4 A78.out).mono ?_);(case side1=>refine (Kd.V_reads' (e:=25) (base:=w.heap.size) (ok:= fun k_=>(((some k_ ≠ (v400 : Value).ownBlock∧(k_ ≠ gb369∧(k_ ≠ gb372∧(k_ ≠ gb388∧(k_ ≠ gb394∧k_ ≠ gb403)))))∧some k_ ≠ (v409 : Value).ownBlock)∧k_ ≠ gb412)) (n:=t383.length) (c:=co44) ?_).2.2;exact (by (with_reducible repeat (first|apply vA|apply vN|apply vD));exact (Kd.V_mono (Kd.V_far (p:=⟨gb412,1,none⟩) (Kd.V_far (p:=⟨gb412,0,none⟩) (Kd.V_mono HO385.out (fun k_ hk=>(⟨hk,hk.2⟩ : _∧k_ ≠ gb412))) (fun _ hk=>hk.2) (.slice Ao71 t404.length co71)) (fun _ hk=>hk.2) (.int .i64 t407)) (fun _ h_=>h_.1))));(case side2=>exact (Kd.V_reads' HO385.out).2.1);(case side3=>refine (Kd.V_reads' (e:=25) (base:=w.heap.size) (ok:= fun k_=>(((some k_ ≠ (.slice Ao41 x373000_2.length co41 : Value).ownBlock∧(some k_ ≠ (v400 : Value).ownBlock∧(k_ ≠ gb369∧(k_ ≠ gb372∧(k_ ≠ gb388∧(k_ ≠ gb394∧k_ ≠ gb403))))))∧some k_ ≠ (v409 : Value).ownBlock)∧k_ ≠ gb412)) (n:=t389.length) (c:=co52) ?_).2.2;exact (by (with_reducible repeat (first|apply vA|apply vN|apply vD));exact (Kd.V_mono (Kd.V_far (p:=⟨gb412,1,none⟩) (Kd.V_far (p:=⟨gb412,0,none⟩) (Kd.V_mono HO391.out (fun k_ hk=>(⟨hk,hk.2⟩ : _∧k_ ≠ gb412))) (fun _ hk=>hk.2) (.slice Ao71 t404.length co71)) (fun _ hk=>hk.2) (.int .i64 t407)) (fun _ h_=>h_.1))));(case side4=>exact (Kd.V_reads' HO391.out).2.1);rintro e w108 ⟨rfl,hb⟩;refine ⟨_,rfl,?_⟩;have n0_:=mK (Kd.S_below (by (with_reducible repeat (first|apply Kd.S_alloc|apply Kd.S_drewN|apply Kd.S_drew));exact (Kd.S_mono (Kd.S_far (p:=⟨gb412,1,none⟩) (Kd.S_far (p:=⟨gb412,0,none⟩) (Kd.S_types HO_373000.out BK412.out (by decide)) (fun _ hk=>hk.2) (.slice Ao71 t404.length co71)) (fun _ hk=>hk.2) (.int .i64 t407)) (fun _ h_=>h_.1))) hb);have n1_:=mK (Kd.V_below (by (with_reducible repeat (first|apply vA|apply vN|apply vD));exact (Kd.V_mono (Kd.V_far (p:=⟨gb412,1,none⟩) (Kd.V_far (p:=⟨gb412,0,none⟩) (Kd.V_mono HO385.out (fun k_ hk=>(⟨hk,hk.2⟩ : _∧k_ ≠ gb412))) (fun _ hk=>hk.2) (.slice Ao71 t404.length co71)) (fun _ hk=>hk.2) (.int .i64 t407)) (fun _ h_=>h_.1))) hb);have n2_:=mK (Kd.V_below (by (with_reducible repeat (first|apply vA|apply vN|apply vD));exact (Kd.V_mono (Kd.V_far (p:=⟨gb412,1,none⟩) (Kd.V_far (p:=⟨gb412,0,none⟩) (Kd.V_mono HO391.out (fun k_ hk=>(⟨hk,hk.2⟩ : _∧k_ ≠ gb412))) (fun _ hk=>hk.2) (.slice Ao71 t404.length co71)) (fun _ hk=>hk.2) (.int .i64 t407)) (fun _ h_=>h_.1))) hb);have n3_:=mK (Kd.V_below (by (with_reducible repeat (first|apply vA|apply vN|apply vD));exact (Kd.V_mono (Kd.V_far (p:=⟨gb412,1,none⟩) (Kd.V_far (p:=⟨gb412,0,none⟩) (Kd.V_mono HO397.out (fun k_ hk=>(⟨hk,hk.2⟩ : _∧k_ ≠ gb412))) (fun _ hk=>hk.2) (.slice Ao71 t404.length co71)) (fun _ hk=>hk.2) (.int .i64 t407)) (fun _ h_=>h_.1))) hb);have n4_:=mK (Kd.R_below (by (with_reducible repeat (first|apply rA|apply rN|apply rD));exact (Kd.R_mono (Kd.R_far (p:=⟨gb412,1,none⟩) (Kd.R_far (p:=⟨gb412,0,none⟩) (Kd.R_types HO401.out BK412.out (by decide)) (fun _ hk=>hk.2) (.slice Ao71 t404.length co71)) (fun _ hk=>hk.2) (.int .i64 t407)) (fun _ h_=>h_.1))) hb);have n5_:=mK (Kd.V_below (by (with_reducible repeat (first|apply vA|apply vN|apply vD));exact (Kd.V_mono (Kd.V_far (p:=⟨gb412,1,none⟩) (Kd.V_far (p:=⟨gb412,0,none⟩) (Kd.V_mono HO406.out (fun k_ hk=>(⟨hk,hk.2⟩ : _∧k_ ≠ gb412))) (fun _ hk=>hk.2) (.slice Ao71 t404.length co71)) (fun _ hk=>hk.2) (.int .i64 t407)) (fun _ h_=>h_.1))) hb);have n6_:=mK (Kd.R_below (by (with_reducible repeat (first|apply rA|apply rN|apply rD));exact (Kd.R_mono (Kd.R_far (p:=⟨gb412,1,none⟩) (Kd.R_far (p:=⟨gb412,0,none⟩) (Kd.R_types HO410.out BK412.out (by decide)) (fun _ hk=>hk.2) (.slice Ao71 t404.length co71)) (fun _ hk=>hk.2) (.int .i64 t407)) (fun _ h_=>h_.1))) hb);have n7_:=mK (blk_below (g:=gb369) (o:=.cells #[.slice A0_0 l0_0.length c0_0,.int .i64 a0_1] 24 (0,0)) (by (with_reducible repeat (first|apply bN|apply bD|apply bA));refine blk_far ?_ NB369_412.out _;(with_reducible repeat (first|apply bN|apply bD|apply bA));refine blk_far ?_ NB369_412.out _;(with_reducible repeat (first|apply bN|apply bD|apply bA));exact BK369.out) hb);have n8_:=mK (blk_below (g:=gb372) (o:=.cells #[.slice Ao41 x373000_2.length co41,.int .i64 a0_1] 24 (0,0)) (by (with_reducible repeat (first|apply bN|apply bD|apply bA));refine blk_far ?_ NB372_412.out _;(with_reducible repeat (first|apply bN|apply bD|apply bA));refine blk_far ?_ NB372_412.out _;(with_reducible repeat (first|apply bN|apply bD|apply bA));exact BK372.out) hb);have n9_:=mK (blk_below (g:=gb388) (o:=.cells #[.slice Ao44 t383.length co44,.int .i64 t386] 24 (0,0)) (by (with_reducible repeat (first|apply bN|apply bD|apply bA));refine blk_far ?_ NB388_412.out _;(with_reducible repeat (first|apply bN|apply bD|apply bA));refine blk_far ?_ NB388_412.out _;(with_reducible repeat (first|apply bN|apply bD|apply bA));exact BK388.out) hb);have n10_:=mK (blk_below (g:=gb394) (o:=.cells #[.slice Ao52 t389.length co52,.int .i64 t392] 24 (0,0)) (by (with_reducible repeat (first|apply bN|apply bD|apply bA));refine blk_far ?_ NB394_412.out _;(with_reducible repeat (first|apply bN|apply bD|apply bA));refine blk_far ?_ NB394_412.out _;(with_reducible repeat (first|apply bN|apply bD|apply bA));exact BK394.out) hb);have n11_:=mK (blk_below (g:=gb403) (o:=.cells #[.slice Ao61 t395.length co61,.int .i64 t398] 24 (0,0)) (by (with_reducible repeat (first|apply bN|apply bD|apply bA));refine blk_far ?_ NB403_412.out _;(with_reducible repeat (first|apply bN|apply bD|apply bA));refine blk_far ?_ NB403_412.out _;(with_reducible repeat (first|apply bN|apply bD|apply bA));exact BK403.out) hb);have n12_:=mK (blk_below (g:=gb412) (o:=.cells #[.slice Ao71 t404.length co71,.int .i64 t407] 24 (0,0)) (by (with_reducible repeat (first|apply bN|apply bD|apply bA));refine blk_put (cs:=#[.slice Ao71 t404.length co71,.int .i64 0]) ?_ 1 _ rfl;(with_reducible repeat (first|apply bN|apply bD|apply bA));refine blk_put (cs:=#[.slice none 0 0,.int .i64 0]) ?_ 0 _ rfl;(with_reducible repeat (first|apply bN|apply bD|apply bA));exact BK412.out) hb);have n13_:=mK (below_step (by repeat (first|(with_reducible first|exact HB.out|apply lA|apply lN|apply lD|refine lS ?_ GE369.out|refine lS ?_ GE372.out|refine lS ?_ GE388.out|refine lS ?_ GE394.out|refine lS ?_ GE403.out|refine lS ?_ GE412.out)|exact HB.out)) hb);clear HO_373000;clear HO385;clear HO391;clear HO397;clear HO401;clear HO406;clear HO410;clear BK369;clear BK372;clear BK388;clear BK394;clear BK403;clear BK412;clear HB;have HO_373000:=n0_;have HO385:=n1_;have HO391:=n2_;have HO397:=n3_;have HO401:=n4_;have HO406:=n5_;have HO410:=n6_;have BK369:=n7_;have BK372:=n8_;have BK388:=n9_;have BK394:=n10_;have BK403:=n11_;have BK412:=n12_;have HB:=n13_;clear n0_ n1_ n2_ n3_ n4_ n5_ n6_ n7_ n8_ n9_ n10_ n11_ n12_ n13_;(try clear hb);(try clear hb2);(try clear hk);(try clear hi);have hnb109:=NB403_369.out;have hnc109:=NB369_403.out;have hnb110:=NB403_372.out;have hnc110:=NB372_403.out;have hnb111:=NB403_412.out;have hnc111:=NB412_403.out;have hcz112_0 : w108.cell? ⟨gb403,0,none⟩ = some (.slice Ao61 t395.length co61):=(blk_cell BK403.out 0).trans rfl;have hcz112_1 : w108.cell? ⟨gb403,1,none⟩ = some (.int .i64 t398):=(blk_cell BK403.out 1).trans rfl;have hfz112_0:=blk_frozen BK403.out 0;have hfz112_1:=blk_frozen BK403.out 1;have hnb113:=NB412_369.out;have hnc113:=NB369_412.out;have hnb114:=NB412_372.out;have hnc114:=NB372_412.out;have hcz115_0 : w108.cell? ⟨gb412,0,none⟩ = some (.slice Ao71 t404.length co71):=(blk_cell BK412.out 0).trans rfl;have hcz115_1 : w108.cell? ⟨gb412,1,none⟩ = some (.int .i64 t407):=(blk_cell BK412.out 1).trans rfl;have hfz115_0:=blk_frozen BK412.out 0;have hfz115_1:=blk_frozen BK412.out 1)|(go_at_call 12;(with_reducible refine (drawbridgeref23_Same.calls k2 _ _ t395 t398 _ _ t404 t407 true _ ?side1 ?side2 ?side3 ?side4 A93.out).mono ?_);(case side1=>repeat (first|exact (Kd.V_reads' HO397.out).2.2|(with_reducible refine Kd.C_alloc ?_ _)|(with_reducible refine Kd.C_drewN ?_ _)|(with_reducible refine Kd.C_drew ?_)));(case side2=>exact (Kd.V_reads' HO397.out).2.1);(case side3=>repeat (first|exact (Kd.V_reads' HO406.out).2.2|(with_reducible refine Kd.C_alloc ?_ _)|(with_reducible refine Kd.C_drewN ?_ _)|(with_reducible refine Kd.C_drew ?_)));(case side4=>exact (Kd.V_reads' HO406.out).2.1);rintro e w116 ⟨rfl,hb⟩;have n0_:=mK (Kd.S_below (by (with_reducible repeat (first|apply Kd.S_alloc|apply Kd.S_drewN|apply Kd.S_drew));exact HO_373000.out) hb);have n1_:=mK (Kd.V_below (by (with_reducible repeat (first|apply vA|apply vN|apply vD));exact HO385.out) hb);have n2_:=mK (Kd.V_below (by (with_reducible repeat (first|apply vA|apply vN|apply vD));exact HO391.out) hb);have n3_:=mK (Kd.V_below (by (with_reducible repeat (first|apply vA|apply vN|apply vD));exact HO397.out) hb);have n4_:=mK (Kd.R_below (by (with_reducible repeat (first|apply rA|apply rN|apply rD));exact HO401.out) hb);have n5_:=mK (Kd.V_below (by (with_reducible repeat (first|apply vA|apply vN|apply vD));exact HO406.out) hb);have n6_:=mK (Kd.R_below (by (with_reducible repeat (first|apply rA|apply rN|apply rD));exact HO410.out) hb);have n7_:=mK (blk_below (g:=gb369) (o:=.cells #[.slice A0_0 l0_0.length c0_0,.int .i64 a0_1] 24 (0,0)) (by (with_reducible repeat (first|apply bN|apply bD|apply bA));exact BK369.out) hb);have n8_:=mK (blk_below (g:=gb372) (o:=.cells #[.slice Ao41 x373000_2.length co41,.int .i64 a0_1] 24 (0,0)) (by (with_reducible repeat (first|apply bN|apply bD|apply bA));exact BK372.out) hb);have n9_:=mK (blk_below (g:=gb388) (o:=.cells #[.slice Ao44 t383.length co44,.int .i64 t386] 24 (0,0)) (by (with_reducible repeat (first|apply bN|apply bD|apply bA));exact BK388.out) hb);have n10_:=mK (blk_below (g:=gb394) (o:=.cells #[.slice Ao52 t389.length co52,.int .i64 t392] 24 (0,0)) (by (with_reducible repeat (first|apply bN|apply bD|apply bA));exact BK394.out) hb);have n11_:=mK (blk_below (g:=gb403) (o:=.cells #[.slice Ao61 t395.length co61,.int .i64 t398] 24 (0,0)) (by (with_reducible repeat (first|apply bN|apply bD|apply bA));exact BK403.out) hb);have n12_:=mK (blk_below (g:=gb412) (o:=.cells #[.slice Ao71 t404.length co71,.int .i64 t407] 24 (0,0)) (by (with_reducible repeat (first|apply bN|apply bD|apply bA));exact BK412.out) hb);have n13_:=mK (below_step (by repeat (first|(with_reducible first|exact HB.out|apply lA|apply lN|apply lD|refine lS ?_ GE369.out|refine lS ?_ GE372.out|refine lS ?_ GE388.out|refine lS ?_ GE394.out|refine lS ?_ GE403.out|refine lS ?_ GE412.out)|exact HB.out)) hb);clear HO_373000;clear HO385;clear HO391;clear HO397;clear HO401;clear HO406;clear HO410;clear BK369;clear BK372;clear BK388;clear BK394;clear BK403;clear BK412;clear HB;have HO_373000:=n0_;have HO385:=n1_;have HO391:=n2_;have HO397:=n3_;have HO401:=n4_;have HO406:=n5_;have HO410:=n6_;have BK369:=n7_;have BK372:=n8_;have BK388:=n9_;have BK394:=n10_;have BK403:=n11_;have BK412:=n12_;have HB:=n13_;clear n0_ n1_ n2_ n3_ n4_ n5_ n6_ n7_ n8_ n9_ n10_ n11_ n12_ n13_;(try clear hb);(try clear hb2);(try clear hk);(try clear hi);obtain ⟨Ao117,co117,eo117⟩:=Kd.R_slice HO401.out;subst eo117;obtain ⟨Ao118,co118,eo118⟩:=Kd.R_slice HO410.out;subst eo118)|(go_at_call 13;(with_reducible refine (drawbridgeref01_Same.calls _ _ t399 _ _ t408 true _ ?side1 ?side2 ?side3 ?side4 A95.out).mono ?_);(case side1=>repeat (first|exact (Kd.R_reads' HO401.out).2.2|(with_reducible refine Kd.C_alloc ?_ _)|(with_reducible refine Kd.C_drewN ?_ _)|(with_reducible refine Kd.C_drew ?_)));(case side2=>exact (Kd.R_reads' HO401.out).2.1);(case side3=>repeat (first|exact (Kd.R_reads' HO410.out).2.2|(with_reducible refine Kd.C_alloc ?_ _)|(with_reducible refine Kd.C_drewN ?_ _)|(with_reducible refine Kd.C_drew ?_)));(case side4=>exact (Kd.R_reads' HO410.out).2.1);rintro e w' ⟨rfl,⟨nd,rfl⟩⟩))
            go_meet
            case rel=>exact ⟨_,((t402 != t411)),(by first|rfl|(simp;done)|(simp [*];done)),H',⟨by have:=HJ3.out;have:=HK2.out;first|omega|exact Nat.le_refl _⟩,⟨by (with_reducible repeat (first|apply Kd.S_alloc|apply Kd.S_drewN|apply Kd.S_drew));exact Kd.S_mono HO_373000.out (fun _ hk=>trivial)⟩,⟨by (with_reducible repeat (first|apply vA|apply vN|apply vD));exact Kd.V_mono HO385.out (fun _ hk=>⟨hk.1.1.2.1,⟨hk.1.1.2.2.1,⟨hk.1.1.2.2.2.1,⟨hk.1.1.2.2.2.2.1,⟨hk.1.1.2.2.2.2.2,hk.2⟩⟩⟩⟩⟩)⟩,⟨by (with_reducible repeat (first|apply vA|apply vN|apply vD));exact Kd.V_mono HO391.out (fun _ hk=>⟨hk.1.1.1,⟨hk.1.1.2.2.1,⟨hk.1.1.2.2.2.1,⟨hk.1.1.2.2.2.2.1,⟨hk.1.1.2.2.2.2.2.1,⟨hk.1.1.2.2.2.2.2.2,hk.2⟩⟩⟩⟩⟩⟩)⟩,⟨by (with_reducible repeat (first|apply vA|apply vN|apply vD));exact Kd.V_mono HO397.out (fun _ hk=>⟨hk.1.1.2.1,⟨hk.1.1.2.2.1,⟨hk.1.1.2.2.2.1,⟨hk.1.1.2.2.2.2.1,⟨hk.1.1.2.2.2.2.2,hk.2⟩⟩⟩⟩⟩)⟩,⟨by (with_reducible repeat (first|apply vA|apply vN|apply vD));exact Kd.V_mono HO406.out (fun _ hk=>⟨hk.1.2.1,⟨hk.1.2.2.2.1,⟨hk.1.2.2.2.2.1,⟨hk.1.2.2.2.2.2.1,⟨hk.1.2.2.2.2.2.2.1,⟨hk.1.2.2.2.2.2.2.2,hk.2⟩⟩⟩⟩⟩⟩)⟩,⟨by (with_reducible repeat (first|apply bN|apply bD|apply bA));exact BK369.out⟩,⟨by (with_reducible repeat (first|apply bN|apply bD|apply bA));exact BK372.out⟩,⟨by (with_reducible repeat (first|apply bN|apply bD|apply bA));exact BK388.out⟩,⟨by (with_reducible repeat (first|apply bN|apply bD|apply bA));exact BK394.out⟩,⟨by (with_reducible repeat (first|apply bN|apply bD|apply bA));exact BK403.out⟩,⟨by (with_reducible repeat (first|apply bN|apply bD|apply bA));exact BK412.out⟩,⟨by repeat (first|(with_reducible first|exact HB.out|apply lA|apply lN|apply lD|refine lS ?_ GE369.out|refine lS ?_ GE372.out|refine lS ?_ GE388.out|refine lS ?_ GE394.out|refine lS ?_ GE403.out|refine lS ?_ GE412.out)|exact HB.out)⟩⟩
           ·replace c96:=Bool.eq_false_iff.mpr c96
            subst c96
            have H1 : (drawbridgelaw23_LinkDoes.j2 k2 a2 true l0_0 a0_1 x373000_2 a0_1) = some r:= by rw [if_neg (show ¬ (false = true) by decide)] at H;exact H
            clear H
            have H:=H1
            clear H1
            have H':=mK H
            clear H
            have hnb119:=NB388_369.out
            have hnc119:=NB369_388.out
            have hnb120:=NB388_372.out
            have hnc120:=NB372_388.out
            have hnb121:=NB388_394.out
            have hnc121:=NB394_388.out
            have hnb122:=NB388_403.out
            have hnc122:=NB403_388.out
            have hnb123:=NB388_412.out
            have hnc123:=NB412_388.out
            have hcz124_0 : w70.cell? ⟨gb388,0,none⟩ = some (.slice Ao44 t383.length co44):=(blk_cell BK388.out 0).trans rfl
            have hcz124_1 : w70.cell? ⟨gb388,1,none⟩ = some (.int .i64 t386):=(blk_cell BK388.out 1).trans rfl
            have hfz124_0:=blk_frozen BK388.out 0
            have hfz124_1:=blk_frozen BK388.out 1
            have hnb125:=NB394_369.out
            have hnc125:=NB369_394.out
            have hnb126:=NB394_372.out
            have hnc126:=NB372_394.out
            have hnb127:=NB394_403.out
            have hnc127:=NB403_394.out
            have hnb128:=NB394_412.out
            have hnc128:=NB412_394.out
            have hcz129_0 : w70.cell? ⟨gb394,0,none⟩ = some (.slice Ao52 t389.length co52):=(blk_cell BK394.out 0).trans rfl
            have hcz129_1 : w70.cell? ⟨gb394,1,none⟩ = some (.int .i64 t392):=(blk_cell BK394.out 1).trans rfl
            have hfz129_0:=blk_frozen BK394.out 0
            have hfz129_1:=blk_frozen BK394.out 1
            go_wp2_with (first|((with_reducible refine gate_callee (f:=12) rfl ?_);refine goesL_ (some 76) rfl rfl Try.func12 (by kernel_rfl) rfl #[.agg #[.slice Ao44 t383.length co44,.int .i64 t386],.agg #[.slice Ao52 t389.length co52,.int .i64 t392]] rfl (by (try simp only [List.map_toArray,List.map_cons,List.map_nil]);first|done|rfl|(simp only [List.length_drop,List.length_take];rfl)) ?_;(with_reducible refine (drawbridgeref23_Same.calls k2 _ _ t383 t386 _ _ t389 t392 true _ ?side1 ?side2 ?side3 ?side4 A78.out).mono ?_);(case side1=>refine (Kd.V_reads' (e:=25) (base:=w.heap.size) (ok:= fun k_=>(((some k_ ≠ (v400 : Value).ownBlock∧(k_ ≠ gb369∧(k_ ≠ gb372∧(k_ ≠ gb388∧(k_ ≠ gb394∧k_ ≠ gb403)))))∧some k_ ≠ (v409 : Value).ownBlock)∧k_ ≠ gb412)) (n:=t383.length) (c:=co44) ?_).2.2;exact (by (with_reducible repeat (first|apply vA|apply vN|apply vD));exact (Kd.V_mono (Kd.V_far (p:=⟨gb412,1,none⟩) (Kd.V_far (p:=⟨gb412,0,none⟩) (Kd.V_mono HO385.out (fun k_ hk=>(⟨hk,hk.2⟩ : _∧k_ ≠ gb412))) (fun _ hk=>hk.2) (.slice Ao71 t404.length co71)) (fun _ hk=>hk.2) (.int .i64 t407)) (fun _ h_=>h_.1))));(case side2=>exact (Kd.V_reads' HO385.out).2.1);(case side3=>refine (Kd.V_reads' (e:=25) (base:=w.heap.size) (ok:= fun k_=>(((some k_ ≠ (.slice Ao41 x373000_2.length co41 : Value).ownBlock∧(some k_ ≠ (v400 : Value).ownBlock∧(k_ ≠ gb369∧(k_ ≠ gb372∧(k_ ≠ gb388∧(k_ ≠ gb394∧k_ ≠ gb403))))))∧some k_ ≠ (v409 : Value).ownBlock)∧k_ ≠ gb412)) (n:=t389.length) (c:=co52) ?_).2.2;exact (by (with_reducible repeat (first|apply vA|apply vN|apply vD));exact (Kd.V_mono (Kd.V_far (p:=⟨gb412,1,none⟩) (Kd.V_far (p:=⟨gb412,0,none⟩) (Kd.V_mono HO391.out (fun k_ hk=>(⟨hk,hk.2⟩ : _∧k_ ≠ gb412))) (fun _ hk=>hk.2) (.slice Ao71 t404.length co71)) (fun _ hk=>hk.2) (.int .i64 t407)) (fun _ h_=>h_.1))));(case side4=>exact (Kd.V_reads' HO391.out).2.1);rintro e w130 ⟨rfl,hb⟩;refine ⟨_,rfl,?_⟩;have n0_:=mK (Kd.S_below (by (with_reducible repeat (first|apply Kd.S_alloc|apply Kd.S_drewN|apply Kd.S_drew));exact (Kd.S_mono (Kd.S_far (p:=⟨gb412,1,none⟩) (Kd.S_far (p:=⟨gb412,0,none⟩) (Kd.S_types HO_373000.out BK412.out (by decide)) (fun _ hk=>hk.2) (.slice Ao71 t404.length co71)) (fun _ hk=>hk.2) (.int .i64 t407)) (fun _ h_=>h_.1))) hb);have n1_:=mK (Kd.V_below (by (with_reducible repeat (first|apply vA|apply vN|apply vD));exact (Kd.V_mono (Kd.V_far (p:=⟨gb412,1,none⟩) (Kd.V_far (p:=⟨gb412,0,none⟩) (Kd.V_mono HO385.out (fun k_ hk=>(⟨hk,hk.2⟩ : _∧k_ ≠ gb412))) (fun _ hk=>hk.2) (.slice Ao71 t404.length co71)) (fun _ hk=>hk.2) (.int .i64 t407)) (fun _ h_=>h_.1))) hb);have n2_:=mK (Kd.V_below (by (with_reducible repeat (first|apply vA|apply vN|apply vD));exact (Kd.V_mono (Kd.V_far (p:=⟨gb412,1,none⟩) (Kd.V_far (p:=⟨gb412,0,none⟩) (Kd.V_mono HO391.out (fun k_ hk=>(⟨hk,hk.2⟩ : _∧k_ ≠ gb412))) (fun _ hk=>hk.2) (.slice Ao71 t404.length co71)) (fun _ hk=>hk.2) (.int .i64 t407)) (fun _ h_=>h_.1))) hb);have n3_:=mK (Kd.V_below (by (with_reducible repeat (first|apply vA|apply vN|apply vD));exact (Kd.V_mono (Kd.V_far (p:=⟨gb412,1,none⟩) (Kd.V_far (p:=⟨gb412,0,none⟩) (Kd.V_mono HO397.out (fun k_ hk=>(⟨hk,hk.2⟩ : _∧k_ ≠ gb412))) (fun _ hk=>hk.2) (.slice Ao71 t404.length co71)) (fun _ hk=>hk.2) (.int .i64 t407)) (fun _ h_=>h_.1))) hb);have n4_:=mK (Kd.R_below (by (with_reducible repeat (first|apply rA|apply rN|apply rD));exact (Kd.R_mono (Kd.R_far (p:=⟨gb412,1,none⟩) (Kd.R_far (p:=⟨gb412,0,none⟩) (Kd.R_types HO401.out BK412.out (by decide)) (fun _ hk=>hk.2) (.slice Ao71 t404.length co71)) (fun _ hk=>hk.2) (.int .i64 t407)) (fun _ h_=>h_.1))) hb);have n5_:=mK (Kd.V_below (by (with_reducible repeat (first|apply vA|apply vN|apply vD));exact (Kd.V_mono (Kd.V_far (p:=⟨gb412,1,none⟩) (Kd.V_far (p:=⟨gb412,0,none⟩) (Kd.V_mono HO406.out (fun k_ hk=>(⟨hk,hk.2⟩ : _∧k_ ≠ gb412))) (fun _ hk=>hk.2) (.slice Ao71 t404.length co71)) (fun _ hk=>hk.2) (.int .i64 t407)) (fun _ h_=>h_.1))) hb);have n6_:=mK (Kd.R_below (by (with_reducible repeat (first|apply rA|apply rN|apply rD));exact (Kd.R_mono (Kd.R_far (p:=⟨gb412,1,none⟩) (Kd.R_far (p:=⟨gb412,0,none⟩) (Kd.R_types HO410.out BK412.out (by decide)) (fun _ hk=>hk.2) (.slice Ao71 t404.length co71)) (fun _ hk=>hk.2) (.int .i64 t407)) (fun _ h_=>h_.1))) hb);have n7_:=mK (blk_below (g:=gb369) (o:=.cells #[.slice A0_0 l0_0.length c0_0,.int .i64 a0_1] 24 (0,0)) (by (with_reducible repeat (first|apply bN|apply bD|apply bA));refine blk_far ?_ NB369_412.out _;(with_reducible repeat (first|apply bN|apply bD|apply bA));refine blk_far ?_ NB369_412.out _;(with_reducible repeat (first|apply bN|apply bD|apply bA));exact BK369.out) hb);have n8_:=mK (blk_below (g:=gb372) (o:=.cells #[.slice Ao41 x373000_2.length co41,.int .i64 a0_1] 24 (0,0)) (by (with_reducible repeat (first|apply bN|apply bD|apply bA));refine blk_far ?_ NB372_412.out _;(with_reducible repeat (first|apply bN|apply bD|apply bA));refine blk_far ?_ NB372_412.out _;(with_reducible repeat (first|apply bN|apply bD|apply bA));exact BK372.out) hb);have n9_:=mK (blk_below (g:=gb388) (o:=.cells #[.slice Ao44 t383.length co44,.int .i64 t386] 24 (0,0)) (by (with_reducible repeat (first|apply bN|apply bD|apply bA));refine blk_far ?_ NB388_412.out _;(with_reducible repeat (first|apply bN|apply bD|apply bA));refine blk_far ?_ NB388_412.out _;(with_reducible repeat (first|apply bN|apply bD|apply bA));exact BK388.out) hb);have n10_:=mK (blk_below (g:=gb394) (o:=.cells #[.slice Ao52 t389.length co52,.int .i64 t392] 24 (0,0)) (by (with_reducible repeat (first|apply bN|apply bD|apply bA));refine blk_far ?_ NB394_412.out _;(with_reducible repeat (first|apply bN|apply bD|apply bA));refine blk_far ?_ NB394_412.out _;(with_reducible repeat (first|apply bN|apply bD|apply bA));exact BK394.out) hb);have n11_:=mK (blk_below (g:=gb403) (o:=.cells #[.slice Ao61 t395.length co61,.int .i64 t398] 24 (0,0)) (by (with_reducible repeat (first|apply bN|apply bD|apply bA));refine blk_far ?_ NB403_412.out _;(with_reducible repeat (first|apply bN|apply bD|apply bA));refine blk_far ?_ NB403_412.out _;(with_reducible repeat (first|apply bN|apply bD|apply bA));exact BK403.out) hb);have n12_:=mK (blk_below (g:=gb412) (o:=.cells #[.slice Ao71 t404.length co71,.int .i64 t407] 24 (0,0)) (by (with_reducible repeat (first|apply bN|apply bD|apply bA));refine blk_put (cs:=#[.slice Ao71 t404.length co71,.int .i64 0]) ?_ 1 _ rfl;(with_reducible repeat (first|apply bN|apply bD|apply bA));refine blk_put (cs:=#[.slice none 0 0,.int .i64 0]) ?_ 0 _ rfl;(with_reducible repeat (first|apply bN|apply bD|apply bA));exact BK412.out) hb);have n13_:=mK (below_step (by repeat (first|(with_reducible first|exact HB.out|apply lA|apply lN|apply lD|refine lS ?_ GE369.out|refine lS ?_ GE372.out|refine lS ?_ GE388.out|refine lS ?_ GE394.out|refine lS ?_ GE403.out|refine lS ?_ GE412.out)|exact HB.out)) hb);clear HO_373000;clear HO385;clear HO391;clear HO397;clear HO401;clear HO406;clear HO410;clear BK369;clear BK372;clear BK388;clear BK394;clear BK403;clear BK412;clear HB;have HO_373000:=n0_;have HO385:=n1_;have HO391:=n2_;have HO397:=n3_;have HO401:=n4_;have HO406:=n5_;have HO410:=n6_;have BK369:=n7_;have BK372:=n8_;have BK388:=n9_;have BK394:=n10_;have BK403:=n11_;have BK412:=n12_;have HB:=n13_;clear n0_ n1_ n2_ n3_ n4_ n5_ n6_ n7_ n8_ n9_ n10_ n11_ n12_ n13_;(try clear hb);(try clear hb2);(try clear hk);(try clear hi);have hnb131:=NB403_369.out;have hnc131:=NB369_403.out;have hnb132:=NB403_372.out;have hnc132:=NB372_403.out;have hnb133:=NB403_412.out;have hnc133:=NB412_403.out;have hcz134_0 : w130.cell? ⟨gb403,0,none⟩ = some (.slice Ao61 t395.length co61):=(blk_cell BK403.out 0).trans rfl;have hcz134_1 : w130.cell? ⟨gb403,1,none⟩ = some (.int .i64 t398):=(blk_cell BK403.out 1).trans rfl;have hfz134_0:=blk_frozen BK403.out 0;have hfz134_1:=blk_frozen BK403.out 1;have hnb135:=NB412_369.out;have hnc135:=NB369_412.out;have hnb136:=NB412_372.out;have hnc136:=NB372_412.out;have hcz137_0 : w130.cell? ⟨gb412,0,none⟩ = some (.slice Ao71 t404.length co71):=(blk_cell BK412.out 0).trans rfl;have hcz137_1 : w130.cell? ⟨gb412,1,none⟩ = some (.int .i64 t407):=(blk_cell BK412.out 1).trans rfl;have hfz137_0:=blk_frozen BK412.out 0;have hfz137_1:=blk_frozen BK412.out 1)|(go_at_call 12;(with_reducible refine (drawbridgeref23_Same.calls k2 _ _ t395 t398 _ _ t404 t407 true _ ?side1 ?side2 ?side3 ?side4 A93.out).mono ?_);(case side1=>repeat (first|exact (Kd.V_reads' HO397.out).2.2|(with_reducible refine Kd.C_alloc ?_ _)|(with_reducible refine Kd.C_drewN ?_ _)|(with_reducible refine Kd.C_drew ?_)));(case side2=>exact (Kd.V_reads' HO397.out).2.1);(case side3=>repeat (first|exact (Kd.V_reads' HO406.out).2.2|(with_reducible refine Kd.C_alloc ?_ _)|(with_reducible refine Kd.C_drewN ?_ _)|(with_reducible refine Kd.C_drew ?_)));(case side4=>exact (Kd.V_reads' HO406.out).2.1);rintro e w138 ⟨rfl,hb⟩;have n0_:=mK (Kd.S_below (by (with_reducible repeat (first|apply Kd.S_alloc|apply Kd.S_drewN|apply Kd.S_drew));exact HO_373000.out) hb);have n1_:=mK (Kd.V_below (by (with_reducible repeat (first|apply vA|apply vN|apply vD));exact HO385.out) hb);have n2_:=mK (Kd.V_below (by (with_reducible repeat (first|apply vA|apply vN|apply vD));exact HO391.out) hb);have n3_:=mK (Kd.V_below (by (with_reducible repeat (first|apply vA|apply vN|apply vD));exact HO397.out) hb);have n4_:=mK (Kd.R_below (by (with_reducible repeat (first|apply rA|apply rN|apply rD));exact HO401.out) hb);have n5_:=mK (Kd.V_below (by (with_reducible repeat (first|apply vA|apply vN|apply vD));exact HO406.out) hb);have n6_:=mK (Kd.R_below (by (with_reducible repeat (first|apply rA|apply rN|apply rD));exact HO410.out) hb);have n7_:=mK (blk_below (g:=gb369) (o:=.cells #[.slice A0_0 l0_0.length c0_0,.int .i64 a0_1] 24 (0,0)) (by (with_reducible repeat (first|apply bN|apply bD|apply bA));exact BK369.out) hb);have n8_:=mK (blk_below (g:=gb372) (o:=.cells #[.slice Ao41 x373000_2.length co41,.int .i64 a0_1] 24 (0,0)) (by (with_reducible repeat (first|apply bN|apply bD|apply bA));exact BK372.out) hb);have n9_:=mK (blk_below (g:=gb388) (o:=.cells #[.slice Ao44 t383.length co44,.int .i64 t386] 24 (0,0)) (by (with_reducible repeat (first|apply bN|apply bD|apply bA));exact BK388.out) hb);have n10_:=mK (blk_below (g:=gb394) (o:=.cells #[.slice Ao52 t389.length co52,.int .i64 t392] 24 (0,0)) (by (with_reducible repeat (first|apply bN|apply bD|apply bA));exact BK394.out) hb);have n11_:=mK (blk_below (g:=gb403) (o:=.cells #[.slice Ao61 t395.length co61,.int .i64 t398] 24 (0,0)) (by (with_reducible repeat (first|apply bN|apply bD|apply bA));exact BK403.out) hb);have n12_:=mK (blk_below (g:=gb412) (o:=.cells #[.slice Ao71 t404.length co71,.int .i64 t407] 24 (0,0)) (by (with_reducible repeat (first|apply bN|apply bD|apply bA));exact BK412.out) hb);have n13_:=mK (below_step (by repeat (first|(with_reducible first|exact HB.out|apply lA|apply lN|apply lD|refine lS ?_ GE369.out|refine lS ?_ GE372.out|refine lS ?_ GE388.out|refine lS ?_ GE394.out|refine lS ?_ GE403.out|refine lS ?_ GE412.out)|exact HB.out)) hb);clear HO_373000;clear HO385;clear HO391;clear HO397;clear HO401;clear HO406;clear HO410;clear BK369;clear BK372;clear BK388;clear BK394;clear BK403;clear BK412;clear HB;have HO_373000:=n0_;have HO385:=n1_;have HO391:=n2_;have HO397:=n3_;have HO401:=n4_;have HO406:=n5_;have HO410:=n6_;have BK369:=n7_;have BK372:=n8_;have BK388:=n9_;have BK394:=n10_;have BK403:=n11_;have BK412:=n12_;have HB:=n13_;clear n0_ n1_ n2_ n3_ n4_ n5_ n6_ n7_ n8_ n9_ n10_ n11_ n12_ n13_;(try clear hb);(try clear hb2);(try clear hk);(try clear hi);obtain ⟨Ao139,co139,eo139⟩:=Kd.R_slice HO401.out;subst eo139;obtain ⟨Ao140,co140,eo140⟩:=Kd.R_slice HO410.out;subst eo140)|(go_at_call 13;(with_reducible refine (drawbridgeref01_Same.calls _ _ t399 _ _ t408 false _ ?side1 ?side2 ?side3 ?side4 A95.out).mono ?_);(case side1=>repeat (first|exact (Kd.R_reads' HO401.out).2.2|(with_reducible refine Kd.C_alloc ?_ _)|(with_reducible refine Kd.C_drewN ?_ _)|(with_reducible refine Kd.C_drew ?_)));(case side2=>exact (Kd.R_reads' HO401.out).2.1);(case side3=>repeat (first|exact (Kd.R_reads' HO410.out).2.2|(with_reducible refine Kd.C_alloc ?_ _)|(with_reducible refine Kd.C_drewN ?_ _)|(with_reducible refine Kd.C_drew ?_)));(case side4=>exact (Kd.R_reads' HO410.out).2.1);rintro e w' ⟨rfl,⟨nd,rfl⟩⟩))
            go_meet
            case rel=>exact ⟨_,(true),(by first|rfl|(simp;done)|(simp [*];done)),H',⟨by have:=HJ3.out;have:=HK2.out;first|omega|exact Nat.le_refl _⟩,⟨by (with_reducible repeat (first|apply Kd.S_alloc|apply Kd.S_drewN|apply Kd.S_drew));exact Kd.S_mono HO_373000.out (fun _ hk=>trivial)⟩,⟨by (with_reducible repeat (first|apply vA|apply vN|apply vD));exact Kd.V_mono HO385.out (fun _ hk=>⟨hk.1.1.2.1,⟨hk.1.1.2.2.1,⟨hk.1.1.2.2.2.1,⟨hk.1.1.2.2.2.2.1,⟨hk.1.1.2.2.2.2.2,hk.2⟩⟩⟩⟩⟩)⟩,⟨by (with_reducible repeat (first|apply vA|apply vN|apply vD));exact Kd.V_mono HO391.out (fun _ hk=>⟨hk.1.1.1,⟨hk.1.1.2.2.1,⟨hk.1.1.2.2.2.1,⟨hk.1.1.2.2.2.2.1,⟨hk.1.1.2.2.2.2.2.1,⟨hk.1.1.2.2.2.2.2.2,hk.2⟩⟩⟩⟩⟩⟩)⟩,⟨by (with_reducible repeat (first|apply vA|apply vN|apply vD));exact Kd.V_mono HO397.out (fun _ hk=>⟨hk.1.1.2.1,⟨hk.1.1.2.2.1,⟨hk.1.1.2.2.2.1,⟨hk.1.1.2.2.2.2.1,⟨hk.1.1.2.2.2.2.2,hk.2⟩⟩⟩⟩⟩)⟩,⟨by (with_reducible repeat (first|apply vA|apply vN|apply vD));exact Kd.V_mono HO406.out (fun _ hk=>⟨hk.1.2.1,⟨hk.1.2.2.2.1,⟨hk.1.2.2.2.2.1,⟨hk.1.2.2.2.2.2.1,⟨hk.1.2.2.2.2.2.2.1,⟨hk.1.2.2.2.2.2.2.2,hk.2⟩⟩⟩⟩⟩⟩)⟩,⟨by (with_reducible repeat (first|apply bN|apply bD|apply bA));exact BK369.out⟩,⟨by (with_reducible repeat (first|apply bN|apply bD|apply bA));exact BK372.out⟩,⟨by (with_reducible repeat (first|apply bN|apply bD|apply bA));exact BK388.out⟩,⟨by (with_reducible repeat (first|apply bN|apply bD|apply bA));exact BK394.out⟩,⟨by (with_reducible repeat (first|apply bN|apply bD|apply bA));exact BK403.out⟩,⟨by (with_reducible repeat (first|apply bN|apply bD|apply bA));exact BK412.out⟩,⟨by repeat (first|(with_reducible first|exact HB.out|apply lA|apply lN|apply lD|refine lS ?_ GE369.out|refine lS ?_ GE372.out|refine lS ?_ GE388.out|refine lS ?_ GE394.out|refine lS ?_ GE403.out|refine lS ?_ GE412.out)|exact HB.out)⟩⟩
          ·replace c94:=Bool.eq_false_iff.mpr c94
           subst c94
           have H1 : (drawbridgelaw23_LinkDoes.j2 k2 a2 true l0_0 a0_1 x373000_2 a0_1) = some r:= by rw [if_neg (show ¬ (false = true) by decide)] at H;exact H
           clear H
           have H:=H1
           clear H1
           have H':=mK H
           clear H
           have hnb141:=NB388_369.out
           have hnc141:=NB369_388.out
           have hnb142:=NB388_372.out
           have hnc142:=NB372_388.out
           have hnb143:=NB388_394.out
           have hnc143:=NB394_388.out
           have hnb144:=NB388_403.out
           have hnc144:=NB403_388.out
           have hnb145:=NB388_412.out
           have hnc145:=NB412_388.out
           have hcz146_0 : w70.cell? ⟨gb388,0,none⟩ = some (.slice Ao44 t383.length co44):=(blk_cell BK388.out 0).trans rfl
           have hcz146_1 : w70.cell? ⟨gb388,1,none⟩ = some (.int .i64 t386):=(blk_cell BK388.out 1).trans rfl
           have hfz146_0:=blk_frozen BK388.out 0
           have hfz146_1:=blk_frozen BK388.out 1
           have hnb147:=NB394_369.out
           have hnc147:=NB369_394.out
           have hnb148:=NB394_372.out
           have hnc148:=NB372_394.out
           have hnb149:=NB394_403.out
           have hnc149:=NB403_394.out
           have hnb150:=NB394_412.out
           have hnc150:=NB412_394.out
           have hcz151_0 : w70.cell? ⟨gb394,0,none⟩ = some (.slice Ao52 t389.length co52):=(blk_cell BK394.out 0).trans rfl
           have hcz151_1 : w70.cell? ⟨gb394,1,none⟩ = some (.int .i64 t392):=(blk_cell BK394.out 1).trans rfl
           have hfz151_0:=blk_frozen BK394.out 0
           have hfz151_1:=blk_frozen BK394.out 1
           go_wp2_with (first|((with_reducible refine gate_callee (f:=12) rfl ?_);refine goesL_ (some 76) rfl rfl Try.func12 (by kernel_rfl) rfl #[.agg #[.slice Ao44 t383.length co44,.int .i64 t386],.agg #[.slice Ao52 t389.length co52,.int .i64 t392]] rfl (by (try simp only [List.map_toArray,List.map_cons,List.map_nil]);first|done|rfl|(simp only [List.length_drop,List.length_take];rfl)) ?_;(with_reducible refine (drawbridgeref23_Same.calls k2 _ _ t383 t386 _ _ t389 t392 true _ ?side1 ?side2 ?side3 ?side4 A78.out).mono ?_);(case side1=>refine (Kd.V_reads' (e:=25) (base:=w.heap.size) (ok:= fun k_=>(((some k_ ≠ (v400 : Value).ownBlock∧(k_ ≠ gb369∧(k_ ≠ gb372∧(k_ ≠ gb388∧(k_ ≠ gb394∧k_ ≠ gb403)))))∧some k_ ≠ (v409 : Value).ownBlock)∧k_ ≠ gb412)) (n:=t383.length) (c:=co44) ?_).2.2;exact (by (with_reducible repeat (first|apply vA|apply vN|apply vD));exact (Kd.V_mono (Kd.V_far (p:=⟨gb412,1,none⟩) (Kd.V_far (p:=⟨gb412,0,none⟩) (Kd.V_mono HO385.out (fun k_ hk=>(⟨hk,hk.2⟩ : _∧k_ ≠ gb412))) (fun _ hk=>hk.2) (.slice Ao71 t404.length co71)) (fun _ hk=>hk.2) (.int .i64 t407)) (fun _ h_=>h_.1))));(case side2=>exact (Kd.V_reads' HO385.out).2.1);(case side3=>refine (Kd.V_reads' (e:=25) (base:=w.heap.size) (ok:= fun k_=>(((some k_ ≠ (.slice Ao41 x373000_2.length co41 : Value).ownBlock∧(some k_ ≠ (v400 : Value).ownBlock∧(k_ ≠ gb369∧(k_ ≠ gb372∧(k_ ≠ gb388∧(k_ ≠ gb394∧k_ ≠ gb403))))))∧some k_ ≠ (v409 : Value).ownBlock)∧k_ ≠ gb412)) (n:=t389.length) (c:=co52) ?_).2.2;exact (by (with_reducible repeat (first|apply vA|apply vN|apply vD));exact (Kd.V_mono (Kd.V_far (p:=⟨gb412,1,none⟩) (Kd.V_far (p:=⟨gb412,0,none⟩) (Kd.V_mono HO391.out (fun k_ hk=>(⟨hk,hk.2⟩ : _∧k_ ≠ gb412))) (fun _ hk=>hk.2) (.slice Ao71 t404.length co71)) (fun _ hk=>hk.2) (.int .i64 t407)) (fun _ h_=>h_.1))));(case side4=>exact (Kd.V_reads' HO391.out).2.1);rintro e w152 ⟨rfl,hb⟩;refine ⟨_,rfl,?_⟩;have n0_:=mK (Kd.S_below (by (with_reducible repeat (first|apply Kd.S_alloc|apply Kd.S_drewN|apply Kd.S_drew));exact (Kd.S_mono (Kd.S_far (p:=⟨gb412,1,none⟩) (Kd.S_far (p:=⟨gb412,0,none⟩) (Kd.S_types HO_373000.out BK412.out (by decide)) (fun _ hk=>hk.2) (.slice Ao71 t404.length co71)) (fun _ hk=>hk.2) (.int .i64 t407)) (fun _ h_=>h_.1))) hb);have n1_:=mK (Kd.V_below (by (with_reducible repeat (first|apply vA|apply vN|apply vD));exact (Kd.V_mono (Kd.V_far (p:=⟨gb412,1,none⟩) (Kd.V_far (p:=⟨gb412,0,none⟩) (Kd.V_mono HO385.out (fun k_ hk=>(⟨hk,hk.2⟩ : _∧k_ ≠ gb412))) (fun _ hk=>hk.2) (.slice Ao71 t404.length co71)) (fun _ hk=>hk.2) (.int .i64 t407)) (fun _ h_=>h_.1))) hb);have n2_:=mK (Kd.V_below (by (with_reducible repeat (first|apply vA|apply vN|apply vD));exact (Kd.V_mono (Kd.V_far (p:=⟨gb412,1,none⟩) (Kd.V_far (p:=⟨gb412,0,none⟩) (Kd.V_mono HO391.out (fun k_ hk=>(⟨hk,hk.2⟩ : _∧k_ ≠ gb412))) (fun _ hk=>hk.2) (.slice Ao71 t404.length co71)) (fun _ hk=>hk.2) (.int .i64 t407)) (fun _ h_=>h_.1))) hb);have n3_:=mK (Kd.V_below (by (with_reducible repeat (first|apply vA|apply vN|apply vD));exact (Kd.V_mono (Kd.V_far (p:=⟨gb412,1,none⟩) (Kd.V_far (p:=⟨gb412,0,none⟩) (Kd.V_mono HO397.out (fun k_ hk=>(⟨hk,hk.2⟩ : _∧k_ ≠ gb412))) (fun _ hk=>hk.2) (.slice Ao71 t404.length co71)) (fun _ hk=>hk.2) (.int .i64 t407)) (fun _ h_=>h_.1))) hb);have n5_:=mK (Kd.V_below (by (with_reducible repeat (first|apply vA|apply vN|apply vD));exact (Kd.V_mono (Kd.V_far (p:=⟨gb412,1,none⟩) (Kd.V_far (p:=⟨gb412,0,none⟩) (Kd.V_mono HO406.out (fun k_ hk=>(⟨hk,hk.2⟩ : _∧k_ ≠ gb412))) (fun _ hk=>hk.2) (.slice Ao71 t404.length co71)) (fun _ hk=>hk.2) (.int .i64 t407)) (fun _ h_=>h_.1))) hb);have n7_:=mK (blk_below (g:=gb369) (o:=.cells #[.slice A0_0 l0_0.length c0_0,.int .i64 a0_1] 24 (0,0)) (by (with_reducible repeat (first|apply bN|apply bD|apply bA));refine blk_far ?_ NB369_412.out _;(with_reducible repeat (first|apply bN|apply bD|apply bA));refine blk_far ?_ NB369_412.out _;(with_reducible repeat (first|apply bN|apply bD|apply bA));exact BK369.out) hb);have n8_:=mK (blk_below (g:=gb372) (o:=.cells #[.slice Ao41 x373000_2.length co41,.int .i64 a0_1] 24 (0,0)) (by (with_reducible repeat (first|apply bN|apply bD|apply bA));refine blk_far ?_ NB372_412.out _;(with_reducible repeat (first|apply bN|apply bD|apply bA));refine blk_far ?_ NB372_412.out _;(with_reducible repeat (first|apply bN|apply bD|apply bA));exact BK372.out) hb);have n9_:=mK (blk_below (g:=gb388) (o:=.cells #[.slice Ao44 t383.length co44,.int .i64 t386] 24 (0,0)) (by (with_reducible repeat (first|apply bN|apply bD|apply bA));refine blk_far ?_ NB388_412.out _;(with_reducible repeat (first|apply bN|apply bD|apply bA));refine blk_far ?_ NB388_412.out _;(with_reducible repeat (first|apply bN|apply bD|apply bA));exact BK388.out) hb);have n10_:=mK (blk_below (g:=gb394) (o:=.cells #[.slice Ao52 t389.length co52,.int .i64 t392] 24 (0,0)) (by (with_reducible repeat (first|apply bN|apply bD|apply bA));refine blk_far ?_ NB394_412.out _;(with_reducible repeat (first|apply bN|apply bD|apply bA));refine blk_far ?_ NB394_412.out _;(with_reducible repeat (first|apply bN|apply bD|apply bA));exact BK394.out) hb);have n11_:=mK (blk_below (g:=gb403) (o:=.cells #[.slice Ao61 t395.length co61,.int .i64 t398] 24 (0,0)) (by (with_reducible repeat (first|apply bN|apply bD|apply bA));refine blk_far ?_ NB403_412.out _;(with_reducible repeat (first|apply bN|apply bD|apply bA));refine blk_far ?_ NB403_412.out _;(with_reducible repeat (first|apply bN|apply bD|apply bA));exact BK403.out) hb);have n12_:=mK (blk_below (g:=gb412) (o:=.cells #[.slice Ao71 t404.length co71,.int .i64 t407] 24 (0,0)) (by (with_reducible repeat (first|apply bN|apply bD|apply bA));refine blk_put (cs:=#[.slice Ao71 t404.length co71,.int .i64 0]) ?_ 1 _ rfl;(with_reducible repeat (first|apply bN|apply bD|apply bA));refine blk_put (cs:=#[.slice none 0 0,.int .i64 0]) ?_ 0 _ rfl;(with_reducible repeat (first|apply bN|apply bD|apply bA));exact BK412.out) hb);have n13_:=mK (below_step (by repeat (first|(with_reducible first|exact HB.out|apply lA|apply lN|apply lD|refine lS ?_ GE369.out|refine lS ?_ GE372.out|refine lS ?_ GE388.out|refine lS ?_ GE394.out|refine lS ?_ GE403.out|refine lS ?_ GE412.out)|exact HB.out)) hb);clear HO_373000;clear HO385;clear HO391;clear HO397;clear HO406;clear BK369;clear BK372;clear BK388;clear BK394;clear BK403;clear BK412;clear HB;have HO_373000:=n0_;have HO385:=n1_;have HO391:=n2_;have HO397:=n3_;have HO406:=n5_;have BK369:=n7_;have BK372:=n8_;have BK388:=n9_;have BK394:=n10_;have BK403:=n11_;have BK412:=n12_;have HB:=n13_;clear n0_ n1_ n2_ n3_ n5_ n7_ n8_ n9_ n10_ n11_ n12_ n13_;(try clear hb);(try clear hb2);(try clear hk);(try clear hi);have hnb153:=NB403_369.out;have hnc153:=NB369_403.out;have hnb154:=NB403_372.out;have hnc154:=NB372_403.out;have hnb155:=NB403_412.out;have hnc155:=NB412_403.out;have hcz156_0 : w152.cell? ⟨gb403,0,none⟩ = some (.slice Ao61 t395.length co61):=(blk_cell BK403.out 0).trans rfl;have hcz156_1 : w152.cell? ⟨gb403,1,none⟩ = some (.int .i64 t398):=(blk_cell BK403.out 1).trans rfl;have hfz156_0:=blk_frozen BK403.out 0;have hfz156_1:=blk_frozen BK403.out 1;have hnb157:=NB412_369.out;have hnc157:=NB369_412.out;have hnb158:=NB412_372.out;have hnc158:=NB372_412.out;have hcz159_0 : w152.cell? ⟨gb412,0,none⟩ = some (.slice Ao71 t404.length co71):=(blk_cell BK412.out 0).trans rfl;have hcz159_1 : w152.cell? ⟨gb412,1,none⟩ = some (.int .i64 t407):=(blk_cell BK412.out 1).trans rfl;have hfz159_0:=blk_frozen BK412.out 0;have hfz159_1:=blk_frozen BK412.out 1)|(go_at_call 12;(with_reducible refine (drawbridgeref23_Same.calls k2 _ _ t395 t398 _ _ t404 t407 false _ ?side1 ?side2 ?side3 ?side4 A93.out).mono ?_);(case side1=>repeat (first|exact (Kd.V_reads' HO397.out).2.2|(with_reducible refine Kd.C_alloc ?_ _)|(with_reducible refine Kd.C_drewN ?_ _)|(with_reducible refine Kd.C_drew ?_)));(case side2=>exact (Kd.V_reads' HO397.out).2.1);(case side3=>repeat (first|exact (Kd.V_reads' HO406.out).2.2|(with_reducible refine Kd.C_alloc ?_ _)|(with_reducible refine Kd.C_drewN ?_ _)|(with_reducible refine Kd.C_drew ?_)));(case side4=>exact (Kd.V_reads' HO406.out).2.1);rintro e w160 ⟨rfl,hb⟩;have n0_:=mK (Kd.S_below (by (with_reducible repeat (first|apply Kd.S_alloc|apply Kd.S_drewN|apply Kd.S_drew));exact HO_373000.out) hb);have n1_:=mK (Kd.V_below (by (with_reducible repeat (first|apply vA|apply vN|apply vD));exact HO385.out) hb);have n2_:=mK (Kd.V_below (by (with_reducible repeat (first|apply vA|apply vN|apply vD));exact HO391.out) hb);have n3_:=mK (Kd.V_below (by (with_reducible repeat (first|apply vA|apply vN|apply vD));exact HO397.out) hb);have n5_:=mK (Kd.V_below (by (with_reducible repeat (first|apply vA|apply vN|apply vD));exact HO406.out) hb);have n7_:=mK (blk_below (g:=gb369) (o:=.cells #[.slice A0_0 l0_0.length c0_0,.int .i64 a0_1] 24 (0,0)) (by (with_reducible repeat (first|apply bN|apply bD|apply bA));exact BK369.out) hb);have n8_:=mK (blk_below (g:=gb372) (o:=.cells #[.slice Ao41 x373000_2.length co41,.int .i64 a0_1] 24 (0,0)) (by (with_reducible repeat (first|apply bN|apply bD|apply bA));exact BK372.out) hb);have n9_:=mK (blk_below (g:=gb388) (o:=.cells #[.slice Ao44 t383.length co44,.int .i64 t386] 24 (0,0)) (by (with_reducible repeat (first|apply bN|apply bD|apply bA));exact BK388.out) hb);have n10_:=mK (blk_below (g:=gb394) (o:=.cells #[.slice Ao52 t389.length co52,.int .i64 t392] 24 (0,0)) (by (with_reducible repeat (first|apply bN|apply bD|apply bA));exact BK394.out) hb);have n11_:=mK (blk_below (g:=gb403) (o:=.cells #[.slice Ao61 t395.length co61,.int .i64 t398] 24 (0,0)) (by (with_reducible repeat (first|apply bN|apply bD|apply bA));exact BK403.out) hb);have n12_:=mK (blk_below (g:=gb412) (o:=.cells #[.slice Ao71 t404.length co71,.int .i64 t407] 24 (0,0)) (by (with_reducible repeat (first|apply bN|apply bD|apply bA));exact BK412.out) hb);have n13_:=mK (below_step (by repeat (first|(with_reducible first|exact HB.out|apply lA|apply lN|apply lD|refine lS ?_ GE369.out|refine lS ?_ GE372.out|refine lS ?_ GE388.out|refine lS ?_ GE394.out|refine lS ?_ GE403.out|refine lS ?_ GE412.out)|exact HB.out)) hb);clear HO_373000;clear HO385;clear HO391;clear HO397;clear HO406;clear BK369;clear BK372;clear BK388;clear BK394;clear BK403;clear BK412;clear HB;have HO_373000:=n0_;have HO385:=n1_;have HO391:=n2_;have HO397:=n3_;have HO406:=n5_;have BK369:=n7_;have BK372:=n8_;have BK388:=n9_;have BK394:=n10_;have BK403:=n11_;have BK412:=n12_;have HB:=n13_;clear n0_ n1_ n2_ n3_ n5_ n7_ n8_ n9_ n10_ n11_ n12_ n13_;(try clear hb);(try clear hb2);(try clear hk);(try clear hi)))
           go_meet
           case rel=>exact ⟨_,(true),(by first|rfl|(simp;done)|(simp [*];done)),H',⟨by have:=HJ3.out;have:=HK2.out;first|omega|exact Nat.le_refl _⟩,⟨by (with_reducible repeat (first|apply Kd.S_alloc|apply Kd.S_drewN|apply Kd.S_drew));exact Kd.S_mono HO_373000.out (fun _ hk=>trivial)⟩,⟨by (with_reducible repeat (first|apply vA|apply vN|apply vD));exact Kd.V_mono HO385.out (fun _ hk=>⟨hk.1.1.2.1,⟨hk.1.1.2.2.1,⟨hk.1.1.2.2.2.1,⟨hk.1.1.2.2.2.2.1,⟨hk.1.1.2.2.2.2.2,hk.2⟩⟩⟩⟩⟩)⟩,⟨by (with_reducible repeat (first|apply vA|apply vN|apply vD));exact Kd.V_mono HO391.out (fun _ hk=>⟨hk.1.1.1,⟨hk.1.1.2.2.1,⟨hk.1.1.2.2.2.1,⟨hk.1.1.2.2.2.2.1,⟨hk.1.1.2.2.2.2.2.1,⟨hk.1.1.2.2.2.2.2.2,hk.2⟩⟩⟩⟩⟩⟩)⟩,⟨by (with_reducible repeat (first|apply vA|apply vN|apply vD));exact Kd.V_mono HO397.out (fun _ hk=>⟨hk.1.1.2.1,⟨hk.1.1.2.2.1,⟨hk.1.1.2.2.2.1,⟨hk.1.1.2.2.2.2.1,⟨hk.1.1.2.2.2.2.2,hk.2⟩⟩⟩⟩⟩)⟩,⟨by (with_reducible repeat (first|apply vA|apply vN|apply vD));exact Kd.V_mono HO406.out (fun _ hk=>⟨hk.1.2.1,⟨hk.1.2.2.2.1,⟨hk.1.2.2.2.2.1,⟨hk.1.2.2.2.2.2.1,⟨hk.1.2.2.2.2.2.2.1,⟨hk.1.2.2.2.2.2.2.2,hk.2⟩⟩⟩⟩⟩⟩)⟩,⟨by (with_reducible repeat (first|apply bN|apply bD|apply bA));exact BK369.out⟩,⟨by (with_reducible repeat (first|apply bN|apply bD|apply bA));exact BK372.out⟩,⟨by (with_reducible repeat (first|apply bN|apply bD|apply bA));exact BK388.out⟩,⟨by (with_reducible repeat (first|apply bN|apply bD|apply bA));exact BK394.out⟩,⟨by (with_reducible repeat (first|apply bN|apply bD|apply bA));exact BK403.out⟩,⟨by (with_reducible repeat (first|apply bN|apply bD|apply bA));exact BK412.out⟩,⟨by repeat (first|(with_reducible first|exact HB.out|apply lA|apply lN|apply lD|refine lS ?_ GE369.out|refine lS ?_ GE372.out|refine lS ?_ GE388.out|refine lS ?_ GE394.out|refine lS ?_ GE403.out|refine lS ?_ GE412.out)|exact HB.out)⟩⟩
        ·replace c79:=Bool.eq_false_iff.mpr c79
         subst c79
         have H1 : (drawbridgelaw23_LinkDoes.j2 k2 a2 true l0_0 a0_1 x373000_2 a0_1) = some r:= by rw [if_neg (show ¬ (false = true) by decide)] at H;exact H
         clear H
         have H:=H1
         clear H1
         have H':=mK H
         clear H
         have hnb161:=NB388_369.out
         have hnc161:=NB369_388.out
         have hnb162:=NB388_372.out
         have hnc162:=NB372_388.out
         have hnb163:=NB388_394.out
         have hnc163:=NB394_388.out
         have hnb164:=NB388_403.out
         have hnc164:=NB403_388.out
         have hnb165:=NB388_412.out
         have hnc165:=NB412_388.out
         have hcz166_0 : w70.cell? ⟨gb388,0,none⟩ = some (.slice Ao44 t383.length co44):=(blk_cell BK388.out 0).trans rfl
         have hcz166_1 : w70.cell? ⟨gb388,1,none⟩ = some (.int .i64 t386):=(blk_cell BK388.out 1).trans rfl
         have hfz166_0:=blk_frozen BK388.out 0
         have hfz166_1:=blk_frozen BK388.out 1
         have hnb167:=NB394_369.out
         have hnc167:=NB369_394.out
         have hnb168:=NB394_372.out
         have hnc168:=NB372_394.out
         have hnb169:=NB394_403.out
         have hnc169:=NB403_394.out
         have hnb170:=NB394_412.out
         have hnc170:=NB412_394.out
         have hcz171_0 : w70.cell? ⟨gb394,0,none⟩ = some (.slice Ao52 t389.length co52):=(blk_cell BK394.out 0).trans rfl
         have hcz171_1 : w70.cell? ⟨gb394,1,none⟩ = some (.int .i64 t392):=(blk_cell BK394.out 1).trans rfl
         have hfz171_0:=blk_frozen BK394.out 0
         have hfz171_1:=blk_frozen BK394.out 1
         go_wp2_with (first|((with_reducible refine gate_callee (f:=12) rfl ?_);refine goesL_ (some 76) rfl rfl Try.func12 (by kernel_rfl) rfl #[.agg #[.slice Ao44 t383.length co44,.int .i64 t386],.agg #[.slice Ao52 t389.length co52,.int .i64 t392]] rfl (by (try simp only [List.map_toArray,List.map_cons,List.map_nil]);first|done|rfl|(simp only [List.length_drop,List.length_take];rfl)) ?_;(with_reducible refine (drawbridgeref23_Same.calls k2 _ _ t383 t386 _ _ t389 t392 false _ ?side1 ?side2 ?side3 ?side4 A78.out).mono ?_);(case side1=>refine (Kd.V_reads' (e:=25) (base:=w.heap.size) (ok:= fun k_=>(((some k_ ≠ (v400 : Value).ownBlock∧(k_ ≠ gb369∧(k_ ≠ gb372∧(k_ ≠ gb388∧(k_ ≠ gb394∧k_ ≠ gb403)))))∧some k_ ≠ (v409 : Value).ownBlock)∧k_ ≠ gb412)) (n:=t383.length) (c:=co44) ?_).2.2;exact (by (with_reducible repeat (first|apply vA|apply vN|apply vD));exact (Kd.V_mono (Kd.V_far (p:=⟨gb412,1,none⟩) (Kd.V_far (p:=⟨gb412,0,none⟩) (Kd.V_mono HO385.out (fun k_ hk=>(⟨hk,hk.2⟩ : _∧k_ ≠ gb412))) (fun _ hk=>hk.2) (.slice Ao71 t404.length co71)) (fun _ hk=>hk.2) (.int .i64 t407)) (fun _ h_=>h_.1))));(case side2=>exact (Kd.V_reads' HO385.out).2.1);(case side3=>refine (Kd.V_reads' (e:=25) (base:=w.heap.size) (ok:= fun k_=>(((some k_ ≠ (.slice Ao41 x373000_2.length co41 : Value).ownBlock∧(some k_ ≠ (v400 : Value).ownBlock∧(k_ ≠ gb369∧(k_ ≠ gb372∧(k_ ≠ gb388∧(k_ ≠ gb394∧k_ ≠ gb403))))))∧some k_ ≠ (v409 : Value).ownBlock)∧k_ ≠ gb412)) (n:=t389.length) (c:=co52) ?_).2.2;exact (by (with_reducible repeat (first|apply vA|apply vN|apply vD));exact (Kd.V_mono (Kd.V_far (p:=⟨gb412,1,none⟩) (Kd.V_far (p:=⟨gb412,0,none⟩) (Kd.V_mono HO391.out (fun k_ hk=>(⟨hk,hk.2⟩ : _∧k_ ≠ gb412))) (fun _ hk=>hk.2) (.slice Ao71 t404.length co71)) (fun _ hk=>hk.2) (.int .i64 t407)) (fun _ h_=>h_.1))));(case side4=>exact (Kd.V_reads' HO391.out).2.1);rintro e w172 ⟨rfl,hb⟩;refine ⟨_,rfl,?_⟩;have n0_:=mK (Kd.S_below (by (with_reducible repeat (first|apply Kd.S_alloc|apply Kd.S_drewN|apply Kd.S_drew));exact (Kd.S_mono (Kd.S_far (p:=⟨gb412,1,none⟩) (Kd.S_far (p:=⟨gb412,0,none⟩) (Kd.S_types HO_373000.out BK412.out (by decide)) (fun _ hk=>hk.2) (.slice Ao71 t404.length co71)) (fun _ hk=>hk.2) (.int .i64 t407)) (fun _ h_=>h_.1))) hb);have n1_:=mK (Kd.V_below (by (with_reducible repeat (first|apply vA|apply vN|apply vD));exact (Kd.V_mono (Kd.V_far (p:=⟨gb412,1,none⟩) (Kd.V_far (p:=⟨gb412,0,none⟩) (Kd.V_mono HO385.out (fun k_ hk=>(⟨hk,hk.2⟩ : _∧k_ ≠ gb412))) (fun _ hk=>hk.2) (.slice Ao71 t404.length co71)) (fun _ hk=>hk.2) (.int .i64 t407)) (fun _ h_=>h_.1))) hb);have n2_:=mK (Kd.V_below (by (with_reducible repeat (first|apply vA|apply vN|apply vD));exact (Kd.V_mono (Kd.V_far (p:=⟨gb412,1,none⟩) (Kd.V_far (p:=⟨gb412,0,none⟩) (Kd.V_mono HO391.out (fun k_ hk=>(⟨hk,hk.2⟩ : _∧k_ ≠ gb412))) (fun _ hk=>hk.2) (.slice Ao71 t404.length co71)) (fun _ hk=>hk.2) (.int .i64 t407)) (fun _ h_=>h_.1))) hb);have n3_:=mK (Kd.V_below (by (with_reducible repeat (first|apply vA|apply vN|apply vD));exact (Kd.V_mono (Kd.V_far (p:=⟨gb412,1,none⟩) (Kd.V_far (p:=⟨gb412,0,none⟩) (Kd.V_mono HO397.out (fun k_ hk=>(⟨hk,hk.2⟩ : _∧k_ ≠ gb412))) (fun _ hk=>hk.2) (.slice Ao71 t404.length co71)) (fun _ hk=>hk.2) (.int .i64 t407)) (fun _ h_=>h_.1))) hb);have n5_:=mK (Kd.V_below (by (with_reducible repeat (first|apply vA|apply vN|apply vD));exact (Kd.V_mono (Kd.V_far (p:=⟨gb412,1,none⟩) (Kd.V_far (p:=⟨gb412,0,none⟩) (Kd.V_mono HO406.out (fun k_ hk=>(⟨hk,hk.2⟩ : _∧k_ ≠ gb412))) (fun _ hk=>hk.2) (.slice Ao71 t404.length co71)) (fun _ hk=>hk.2) (.int .i64 t407)) (fun _ h_=>h_.1))) hb);have n7_:=mK (blk_below (g:=gb369) (o:=.cells #[.slice A0_0 l0_0.length c0_0,.int .i64 a0_1] 24 (0,0)) (by (with_reducible repeat (first|apply bN|apply bD|apply bA));refine blk_far ?_ NB369_412.out _;(with_reducible repeat (first|apply bN|apply bD|apply bA));refine blk_far ?_ NB369_412.out _;(with_reducible repeat (first|apply bN|apply bD|apply bA));exact BK369.out) hb);have n8_:=mK (blk_below (g:=gb372) (o:=.cells #[.slice Ao41 x373000_2.length co41,.int .i64 a0_1] 24 (0,0)) (by (with_reducible repeat (first|apply bN|apply bD|apply bA));refine blk_far ?_ NB372_412.out _;(with_reducible repeat (first|apply bN|apply bD|apply bA));refine blk_far ?_ NB372_412.out _;(with_reducible repeat (first|apply bN|apply bD|apply bA));exact BK372.out) hb);have n9_:=mK (blk_below (g:=gb388) (o:=.cells #[.slice Ao44 t383.length co44,.int .i64 t386] 24 (0,0)) (by (with_reducible repeat (first|apply bN|apply bD|apply bA));refine blk_far ?_ NB388_412.out _;(with_reducible repeat (first|apply bN|apply bD|apply bA));refine blk_far ?_ NB388_412.out _;(with_reducible repeat (first|apply bN|apply bD|apply bA));exact BK388.out) hb);have n10_:=mK (blk_below (g:=gb394) (o:=.cells #[.slice Ao52 t389.length co52,.int .i64 t392] 24 (0,0)) (by (with_reducible repeat (first|apply bN|apply bD|apply bA));refine blk_far ?_ NB394_412.out _;(with_reducible repeat (first|apply bN|apply bD|apply bA));refine blk_far ?_ NB394_412.out _;(with_reducible repeat (first|apply bN|apply bD|apply bA));exact BK394.out) hb);have n11_:=mK (blk_below (g:=gb403) (o:=.cells #[.slice Ao61 t395.length co61,.int .i64 t398] 24 (0,0)) (by (with_reducible repeat (first|apply bN|apply bD|apply bA));refine blk_far ?_ NB403_412.out _;(with_reducible repeat (first|apply bN|apply bD|apply bA));refine blk_far ?_ NB403_412.out _;(with_reducible repeat (first|apply bN|apply bD|apply bA));exact BK403.out) hb);have n12_:=mK (blk_below (g:=gb412) (o:=.cells #[.slice Ao71 t404.length co71,.int .i64 t407] 24 (0,0)) (by (with_reducible repeat (first|apply bN|apply bD|apply bA));refine blk_put (cs:=#[.slice Ao71 t404.length co71,.int .i64 0]) ?_ 1 _ rfl;(with_reducible repeat (first|apply bN|apply bD|apply bA));refine blk_put (cs:=#[.slice none 0 0,.int .i64 0]) ?_ 0 _ rfl;(with_reducible repeat (first|apply bN|apply bD|apply bA));exact BK412.out) hb);have n13_:=mK (below_step (by repeat (first|(with_reducible first|exact HB.out|apply lA|apply lN|apply lD|refine lS ?_ GE369.out|refine lS ?_ GE372.out|refine lS ?_ GE388.out|refine lS ?_ GE394.out|refine lS ?_ GE403.out|refine lS ?_ GE412.out)|exact HB.out)) hb);clear HO_373000;clear HO385;clear HO391;clear HO397;clear HO406;clear BK369;clear BK372;clear BK388;clear BK394;clear BK403;clear BK412;clear HB;have HO_373000:=n0_;have HO385:=n1_;have HO391:=n2_;have HO397:=n3_;have HO406:=n5_;have BK369:=n7_;have BK372:=n8_;have BK388:=n9_;have BK394:=n10_;have BK403:=n11_;have BK412:=n12_;have HB:=n13_;clear n0_ n1_ n2_ n3_ n5_ n7_ n8_ n9_ n10_ n11_ n12_ n13_;(try clear hb);(try clear hb2);(try clear hk);(try clear hi)))
         go_meet
         case rel=>exact ⟨_,(true),(by first|rfl|(simp;done)|(simp [*];done)),H',⟨by have:=HJ3.out;have:=HK2.out;first|omega|exact Nat.le_refl _⟩,⟨by (with_reducible repeat (first|apply Kd.S_alloc|apply Kd.S_drewN|apply Kd.S_drew));exact Kd.S_mono HO_373000.out (fun _ hk=>trivial)⟩,⟨by (with_reducible repeat (first|apply vA|apply vN|apply vD));exact Kd.V_mono HO385.out (fun _ hk=>⟨hk.1.1.2.1,⟨hk.1.1.2.2.1,⟨hk.1.1.2.2.2.1,⟨hk.1.1.2.2.2.2.1,⟨hk.1.1.2.2.2.2.2,hk.2⟩⟩⟩⟩⟩)⟩,⟨by (with_reducible repeat (first|apply vA|apply vN|apply vD));exact Kd.V_mono HO391.out (fun _ hk=>⟨hk.1.1.1,⟨hk.1.1.2.2.1,⟨hk.1.1.2.2.2.1,⟨hk.1.1.2.2.2.2.1,⟨hk.1.1.2.2.2.2.2.1,⟨hk.1.1.2.2.2.2.2.2,hk.2⟩⟩⟩⟩⟩⟩)⟩,⟨by (with_reducible repeat (first|apply vA|apply vN|apply vD));exact Kd.V_mono HO397.out (fun _ hk=>⟨hk.1.1.2.1,⟨hk.1.1.2.2.1,⟨hk.1.1.2.2.2.1,⟨hk.1.1.2.2.2.2.1,⟨hk.1.1.2.2.2.2.2,hk.2⟩⟩⟩⟩⟩)⟩,⟨by (with_reducible repeat (first|apply vA|apply vN|apply vD));exact Kd.V_mono HO406.out (fun _ hk=>⟨hk.1.2.1,⟨hk.1.2.2.2.1,⟨hk.1.2.2.2.2.1,⟨hk.1.2.2.2.2.2.1,⟨hk.1.2.2.2.2.2.2.1,⟨hk.1.2.2.2.2.2.2.2,hk.2⟩⟩⟩⟩⟩⟩)⟩,⟨by (with_reducible repeat (first|apply bN|apply bD|apply bA));exact BK369.out⟩,⟨by (with_reducible repeat (first|apply bN|apply bD|apply bA));exact BK372.out⟩,⟨by (with_reducible repeat (first|apply bN|apply bD|apply bA));exact BK388.out⟩,⟨by (with_reducible repeat (first|apply bN|apply bD|apply bA));exact BK394.out⟩,⟨by (with_reducible repeat (first|apply bN|apply bD|apply bA));exact BK403.out⟩,⟨by (with_reducible repeat (first|apply bN|apply bD|apply bA));exact BK412.out⟩,⟨by repeat (first|(with_reducible first|exact HB.out|apply lA|apply lN|apply lD|refine lS ?_ GE369.out|refine lS ?_ GE372.out|refine lS ?_ GE388.out|refine lS ?_ GE394.out|refine lS ?_ GE403.out|refine lS ?_ GE412.out)|exact HB.out)⟩⟩
       case rest =>
        clear HC37
        try clear c1
        try clear c2
        try clear p2
        try clear c3
        try clear p3
        try clear q3
        try clear hx3
        try clear c4
        try clear c5
        try clear c6
        try clear p6
        try clear c7
        try clear c8
        try clear c9
        try clear c10
        try clear c11
        try clear c12
        try clear c13
        try clear c14
        try clear c15
        try clear c16
        try clear c17
        try clear c19
        try clear c19b0
        try clear c20
        try clear c20b0
        try clear c21
        try clear c22
        try clear c23
        try clear c37
        try clear p37
        try clear q37
        try clear hx37
        try clear c38
        try clear c45
        try clear c46
        try clear c53
        try clear c54
        try clear c55
        try clear c62
        try clear c63
        try clear c64
        try clear p64
        try clear c65
        try clear c72
        try clear c73
        try clear c74
        try clear c75
        try clear c76
        try clear c79
        try clear c80
        try clear c80b0
        try clear c80b1
        try clear c80b2
        try clear c81
        try clear c82
        try clear c83
        try clear c84
        try clear c85
        try clear c87
        try clear c88
        try clear c89
        try clear c90
        try clear c94
        try clear c96
        try clear c97
        try clear c98
        try clear c99
        try clear c100
        try clear c101
        try clear c103
        try clear c104
        try clear c105
        try clear c106
        try clear c109
        try clear c110
        try clear c111
        try clear c113
        try clear c114
        try clear c119
        try clear c120
        try clear c121
        try clear c122
        try clear c123
        try clear c125
        try clear c126
        try clear c127
        try clear c128
        try clear c131
        try clear c132
        try clear c133
        try clear c135
        try clear c136
        try clear c141
        try clear c142
        try clear c143
        try clear c144
        try clear c145
        try clear c147
        try clear c148
        try clear c149
        try clear c150
        try clear c153
        try clear c154
        try clear c155
        try clear c157
        try clear c158
        try clear c161
        try clear c162
        try clear c163
        try clear c164
        try clear c165
        try clear c167
        try clear c168
        try clear c169
        try clear c170
        try clear hcz102_0
        try clear hcz102_1
        try clear hcz107_0
        try clear hcz107_1
        try clear hcz10_0
        try clear hcz10_1
        try clear hcz112_0
        try clear hcz112_1
        try clear hcz115_0
        try clear hcz115_1
        try clear hcz124_0
        try clear hcz124_1
        try clear hcz129_0
        try clear hcz129_1
        try clear hcz134_0
        try clear hcz134_1
        try clear hcz137_0
        try clear hcz137_1
        try clear hcz146_0
        try clear hcz146_1
        try clear hcz151_0
        try clear hcz151_1
        try clear hcz156_0
        try clear hcz156_1
        try clear hcz159_0
        try clear hcz159_1
        try clear hcz15_0
        try clear hcz15_1
        try clear hcz166_0
        try clear hcz166_1
        try clear hcz171_0
        try clear hcz171_1
        try clear hcz18_0
        try clear hcz18_1
        try clear hcz24_0
        try clear hcz24_1
        try clear hcz39_0
        try clear hcz39_1
        try clear hcz40_0
        try clear hcz40_1
        try clear hcz47_0
        try clear hcz47_1
        try clear hcz49_0
        try clear hcz49_1
        try clear hcz56_0
        try clear hcz56_1
        try clear hcz58_0
        try clear hcz58_1
        try clear hcz66_0
        try clear hcz66_1
        try clear hcz68_0
        try clear hcz68_1
        try clear hcz77_0
        try clear hcz77_1
        try clear hcz86_0
        try clear hcz86_1
        try clear hcz8_0
        try clear hcz8_1
        try clear hcz91_0
        try clear hcz91_1
        try clear hfz102_0
        try clear hfz102_1
        try clear hfz107_0
        try clear hfz107_1
        try clear hfz10_0
        try clear hfz10_1
        try clear hfz112_0
        try clear hfz112_1
        try clear hfz115_0
        try clear hfz115_1
        try clear hfz124_0
        try clear hfz124_1
        try clear hfz129_0
        try clear hfz129_1
        try clear hfz134_0
        try clear hfz134_1
        try clear hfz137_0
        try clear hfz137_1
        try clear hfz146_0
        try clear hfz146_1
        try clear hfz151_0
        try clear hfz151_1
        try clear hfz156_0
        try clear hfz156_1
        try clear hfz159_0
        try clear hfz159_1
        try clear hfz15_0
        try clear hfz15_1
        try clear hfz166_0
        try clear hfz166_1
        try clear hfz171_0
        try clear hfz171_1
        try clear hfz18_0
        try clear hfz18_1
        try clear hfz24_0
        try clear hfz24_1
        try clear hfz39_0
        try clear hfz39_1
        try clear hfz40_0
        try clear hfz40_1
        try clear hfz47_0
        try clear hfz47_1
        try clear hfz49_0
        try clear hfz49_1
        try clear hfz56_0
        try clear hfz56_1
        try clear hfz58_0
        try clear hfz58_1
        try clear hfz66_0
        try clear hfz66_1
        try clear hfz68_0
        try clear hfz68_1
        try clear hfz77_0
        try clear hfz77_1
        try clear hfz86_0
        try clear hfz86_1
        try clear hfz8_0
        try clear hfz8_1
        try clear hfz91_0
        try clear hfz91_1
        try clear hx376_0
        try clear p2
        try clear p376
        try clear q376
        obtain ⟨kq,x99_36,rfl,HA,HJ36,HO_373000,HO_389000,HO_395000,HO_404000,HO_413000,BK369,BK372,BK388,BK394,BK403,BK412,HB⟩:=hcut
        cases kq with
        |zero=>exact absurd HA.out (by simp [drawbridgelaw23_LinkDoes.j2])
        |succ kj36 =>
         have H:=HA.out
         clear HA
         simp only [drawbridgelaw23_LinkDoes.j2] at H
         by_cases c173 : x99_36 = true
         ·subst c173
          have H1 : (some false) = some r:= by rw [if_pos rfl] at H;exact H
          clear H
          have H:=H1
          clear H1
          exact absurd (H.trans (congrArg some HTr_.out)) (by simp)
         ·replace c173:=Bool.eq_false_iff.mpr c173
          subst c173
          have H1 : ((link_Drop.f kj36 x373000_2 a0_1 a2).bind fun bt416=>((drawbridgeref23_Drop.f kj36 l0_0 a0_1 a2).bind fun bt420=>((drawbridgeref23_Same.f kj36 bt416.1 bt416.2 bt420.1 bt420.2).bind fun t424=>(if t424 = true then ((link_Twice.f kj36 x373000_2 a0_1 a2).bind fun bt425=>((drawbridgeref23_Twice.f kj36 l0_0 a0_1 a2).bind fun bt429=>((drawbridgeref23_Same.f kj36 bt425.1 bt425.2 bt429.1 bt429.2).bind fun t433=>(if t433 = true then ((link_Swap.f kj36 x373000_2 a0_1 a2).bind fun bt434=>((drawbridgeref23_Swap.f kj36 l0_0 a0_1 a2).bind fun bt438=>((drawbridgeref23_Same.f kj36 bt434.1 bt434.2 bt438.1 bt438.2).bind fun t442=>(if t442 = true then ((link_Check.f x373000_2 a0_1).bind fun t443=>((drawbridgeref23_Check.f kj36 l0_0 a0_1).bind fun t444=>(if (t443 == t444) = true then ((drawbridgeref23_Same.f kj36 x373000_2 a0_1 l0_0 a0_1).bind fun t445=>(if t445 = true then ((drawbridgelaw23_heads.f kj36).bind fun t446=>(some t446)) else (some false))) else (some false)))) else (some false))))) else (some false))))) else (some false))))) = some r:= by rw [if_neg (show ¬ (false = true) by decide)] at H;exact H
          clear H
          have H:=H1
          clear H1
          replace H:=Option.bind_eq_some_iff.mp H
          obtain ⟨⟨t416,t419⟩,A1740,H⟩:=H
          replace H : ((drawbridgeref23_Drop.f kj36 l0_0 a0_1 a2).bind fun bt420=>((drawbridgeref23_Same.f kj36 t416 t419 bt420.1 bt420.2).bind fun t424=>(if t424 = true then ((link_Twice.f kj36 x373000_2 a0_1 a2).bind fun bt425=>((drawbridgeref23_Twice.f kj36 l0_0 a0_1 a2).bind fun bt429=>((drawbridgeref23_Same.f kj36 bt425.1 bt425.2 bt429.1 bt429.2).bind fun t433=>(if t433 = true then ((link_Swap.f kj36 x373000_2 a0_1 a2).bind fun bt434=>((drawbridgeref23_Swap.f kj36 l0_0 a0_1 a2).bind fun bt438=>((drawbridgeref23_Same.f kj36 bt434.1 bt434.2 bt438.1 bt438.2).bind fun t442=>(if t442 = true then ((link_Check.f x373000_2 a0_1).bind fun t443=>((drawbridgeref23_Check.f kj36 l0_0 a0_1).bind fun t444=>(if (t443 == t444) = true then ((drawbridgeref23_Same.f kj36 x373000_2 a0_1 l0_0 a0_1).bind fun t445=>(if t445 = true then ((drawbridgelaw23_heads.f kj36).bind fun t446=>(some t446)) else (some false))) else (some false)))) else (some false))))) else (some false))))) else (some false)))) = some r:=H
          have A174:=mK A1740
          clear A1740
          replace H:=Option.bind_eq_some_iff.mp H
          obtain ⟨⟨t420,t423⟩,A1750,H⟩:=H
          replace H : ((drawbridgeref23_Same.f kj36 t416 t419 t420 t423).bind fun t424=>(if t424 = true then ((link_Twice.f kj36 x373000_2 a0_1 a2).bind fun bt425=>((drawbridgeref23_Twice.f kj36 l0_0 a0_1 a2).bind fun bt429=>((drawbridgeref23_Same.f kj36 bt425.1 bt425.2 bt429.1 bt429.2).bind fun t433=>(if t433 = true then ((link_Swap.f kj36 x373000_2 a0_1 a2).bind fun bt434=>((drawbridgeref23_Swap.f kj36 l0_0 a0_1 a2).bind fun bt438=>((drawbridgeref23_Same.f kj36 bt434.1 bt434.2 bt438.1 bt438.2).bind fun t442=>(if t442 = true then ((link_Check.f x373000_2 a0_1).bind fun t443=>((drawbridgeref23_Check.f kj36 l0_0 a0_1).bind fun t444=>(if (t443 == t444) = true then ((drawbridgeref23_Same.f kj36 x373000_2 a0_1 l0_0 a0_1).bind fun t445=>(if t445 = true then ((drawbridgelaw23_heads.f kj36).bind fun t446=>(some t446)) else (some false))) else (some false)))) else (some false))))) else (some false))))) else (some false))) = some r:=H
          have A175:=mK A1750
          clear A1750
          replace H:=Option.bind_eq_some_iff.mp H
          obtain ⟨t424,A1760,H⟩:=H
          replace H : (if t424 = true then ((link_Twice.f kj36 x373000_2 a0_1 a2).bind fun bt425=>((drawbridgeref23_Twice.f kj36 l0_0 a0_1 a2).bind fun bt429=>((drawbridgeref23_Same.f kj36 bt425.1 bt425.2 bt429.1 bt429.2).bind fun t433=>(if t433 = true then ((link_Swap.f kj36 x373000_2 a0_1 a2).bind fun bt434=>((drawbridgeref23_Swap.f kj36 l0_0 a0_1 a2).bind fun bt438=>((drawbridgeref23_Same.f kj36 bt434.1 bt434.2 bt438.1 bt438.2).bind fun t442=>(if t442 = true then ((link_Check.f x373000_2 a0_1).bind fun t443=>((drawbridgeref23_Check.f kj36 l0_0 a0_1).bind fun t444=>(if (t443 == t444) = true then ((drawbridgeref23_Same.f kj36 x373000_2 a0_1 l0_0 a0_1).bind fun t445=>(if t445 = true then ((drawbridgelaw23_heads.f kj36).bind fun t446=>(some t446)) else (some false))) else (some false)))) else (some false))))) else (some false))))) else (some false)) = some r:=H
          have A176:=mK A1760
          clear A1760
          by_cases c177 : t424 = true
          ·subst c177
           have H1 : ((link_Twice.f kj36 x373000_2 a0_1 a2).bind fun bt425=>((drawbridgeref23_Twice.f kj36 l0_0 a0_1 a2).bind fun bt429=>((drawbridgeref23_Same.f kj36 bt425.1 bt425.2 bt429.1 bt429.2).bind fun t433=>(if t433 = true then ((link_Swap.f kj36 x373000_2 a0_1 a2).bind fun bt434=>((drawbridgeref23_Swap.f kj36 l0_0 a0_1 a2).bind fun bt438=>((drawbridgeref23_Same.f kj36 bt434.1 bt434.2 bt438.1 bt438.2).bind fun t442=>(if t442 = true then ((link_Check.f x373000_2 a0_1).bind fun t443=>((drawbridgeref23_Check.f kj36 l0_0 a0_1).bind fun t444=>(if (t443 == t444) = true then ((drawbridgeref23_Same.f kj36 x373000_2 a0_1 l0_0 a0_1).bind fun t445=>(if t445 = true then ((drawbridgelaw23_heads.f kj36).bind fun t446=>(some t446)) else (some false))) else (some false)))) else (some false))))) else (some false))))) = some r:= by rw [if_pos rfl] at H;exact H
           clear H
           have H:=H1
           clear H1
           replace H:=Option.bind_eq_some_iff.mp H
           obtain ⟨⟨t425,t428⟩,A1780,H⟩:=H
           replace H : ((drawbridgeref23_Twice.f kj36 l0_0 a0_1 a2).bind fun bt429=>((drawbridgeref23_Same.f kj36 t425 t428 bt429.1 bt429.2).bind fun t433=>(if t433 = true then ((link_Swap.f kj36 x373000_2 a0_1 a2).bind fun bt434=>((drawbridgeref23_Swap.f kj36 l0_0 a0_1 a2).bind fun bt438=>((drawbridgeref23_Same.f kj36 bt434.1 bt434.2 bt438.1 bt438.2).bind fun t442=>(if t442 = true then ((link_Check.f x373000_2 a0_1).bind fun t443=>((drawbridgeref23_Check.f kj36 l0_0 a0_1).bind fun t444=>(if (t443 == t444) = true then ((drawbridgeref23_Same.f kj36 x373000_2 a0_1 l0_0 a0_1).bind fun t445=>(if t445 = true then ((drawbridgelaw23_heads.f kj36).bind fun t446=>(some t446)) else (some false))) else (some false)))) else (some false))))) else (some false)))) = some r:=H
           have A178:=mK A1780
           clear A1780
           replace H:=Option.bind_eq_some_iff.mp H
           obtain ⟨⟨t429,t432⟩,A1790,H⟩:=H
           replace H : ((drawbridgeref23_Same.f kj36 t425 t428 t429 t432).bind fun t433=>(if t433 = true then ((link_Swap.f kj36 x373000_2 a0_1 a2).bind fun bt434=>((drawbridgeref23_Swap.f kj36 l0_0 a0_1 a2).bind fun bt438=>((drawbridgeref23_Same.f kj36 bt434.1 bt434.2 bt438.1 bt438.2).bind fun t442=>(if t442 = true then ((link_Check.f x373000_2 a0_1).bind fun t443=>((drawbridgeref23_Check.f kj36 l0_0 a0_1).bind fun t444=>(if (t443 == t444) = true then ((drawbridgeref23_Same.f kj36 x373000_2 a0_1 l0_0 a0_1).bind fun t445=>(if t445 = true then ((drawbridgelaw23_heads.f kj36).bind fun t446=>(some t446)) else (some false))) else (some false)))) else (some false))))) else (some false))) = some r:=H
           have A179:=mK A1790
           clear A1790
           replace H:=Option.bind_eq_some_iff.mp H
           obtain ⟨t433,A1800,H⟩:=H
           replace H : (if t433 = true then ((link_Swap.f kj36 x373000_2 a0_1 a2).bind fun bt434=>((drawbridgeref23_Swap.f kj36 l0_0 a0_1 a2).bind fun bt438=>((drawbridgeref23_Same.f kj36 bt434.1 bt434.2 bt438.1 bt438.2).bind fun t442=>(if t442 = true then ((link_Check.f x373000_2 a0_1).bind fun t443=>((drawbridgeref23_Check.f kj36 l0_0 a0_1).bind fun t444=>(if (t443 == t444) = true then ((drawbridgeref23_Same.f kj36 x373000_2 a0_1 l0_0 a0_1).bind fun t445=>(if t445 = true then ((drawbridgelaw23_heads.f kj36).bind fun t446=>(some t446)) else (some false))) else (some false)))) else (some false))))) else (some false)) = some r:=H
           have A180:=mK A1800
           clear A1800
           by_cases c181 : t433 = true
           ·subst c181
            have H1 : ((link_Swap.f kj36 x373000_2 a0_1 a2).bind fun bt434=>((drawbridgeref23_Swap.f kj36 l0_0 a0_1 a2).bind fun bt438=>((drawbridgeref23_Same.f kj36 bt434.1 bt434.2 bt438.1 bt438.2).bind fun t442=>(if t442 = true then ((link_Check.f x373000_2 a0_1).bind fun t443=>((drawbridgeref23_Check.f kj36 l0_0 a0_1).bind fun t444=>(if (t443 == t444) = true then ((drawbridgeref23_Same.f kj36 x373000_2 a0_1 l0_0 a0_1).bind fun t445=>(if t445 = true then ((drawbridgelaw23_heads.f kj36).bind fun t446=>(some t446)) else (some false))) else (some false)))) else (some false))))) = some r:= by rw [if_pos rfl] at H;exact H
            clear H
            have H:=H1
            clear H1
            replace H:=Option.bind_eq_some_iff.mp H
            obtain ⟨⟨t434,t437⟩,A1820,H⟩:=H
            replace H : ((drawbridgeref23_Swap.f kj36 l0_0 a0_1 a2).bind fun bt438=>((drawbridgeref23_Same.f kj36 t434 t437 bt438.1 bt438.2).bind fun t442=>(if t442 = true then ((link_Check.f x373000_2 a0_1).bind fun t443=>((drawbridgeref23_Check.f kj36 l0_0 a0_1).bind fun t444=>(if (t443 == t444) = true then ((drawbridgeref23_Same.f kj36 x373000_2 a0_1 l0_0 a0_1).bind fun t445=>(if t445 = true then ((drawbridgelaw23_heads.f kj36).bind fun t446=>(some t446)) else (some false))) else (some false)))) else (some false)))) = some r:=H
            have A182:=mK A1820
            clear A1820
            replace H:=Option.bind_eq_some_iff.mp H
            obtain ⟨⟨t438,t441⟩,A1830,H⟩:=H
            replace H : ((drawbridgeref23_Same.f kj36 t434 t437 t438 t441).bind fun t442=>(if t442 = true then ((link_Check.f x373000_2 a0_1).bind fun t443=>((drawbridgeref23_Check.f kj36 l0_0 a0_1).bind fun t444=>(if (t443 == t444) = true then ((drawbridgeref23_Same.f kj36 x373000_2 a0_1 l0_0 a0_1).bind fun t445=>(if t445 = true then ((drawbridgelaw23_heads.f kj36).bind fun t446=>(some t446)) else (some false))) else (some false)))) else (some false))) = some r:=H
            have A183:=mK A1830
            clear A1830
            replace H:=Option.bind_eq_some_iff.mp H
            obtain ⟨t442,A1840,H⟩:=H
            replace H : (if t442 = true then ((link_Check.f x373000_2 a0_1).bind fun t443=>((drawbridgeref23_Check.f kj36 l0_0 a0_1).bind fun t444=>(if (t443 == t444) = true then ((drawbridgeref23_Same.f kj36 x373000_2 a0_1 l0_0 a0_1).bind fun t445=>(if t445 = true then ((drawbridgelaw23_heads.f kj36).bind fun t446=>(some t446)) else (some false))) else (some false)))) else (some false)) = some r:=H
            have A184:=mK A1840
            clear A1840
            by_cases c185 : t442 = true
            ·subst c185
             have H1 : ((link_Check.f x373000_2 a0_1).bind fun t443=>((drawbridgeref23_Check.f kj36 l0_0 a0_1).bind fun t444=>(if (t443 == t444) = true then ((drawbridgeref23_Same.f kj36 x373000_2 a0_1 l0_0 a0_1).bind fun t445=>(if t445 = true then ((drawbridgelaw23_heads.f kj36).bind fun t446=>(some t446)) else (some false))) else (some false)))) = some r:= by rw [if_pos rfl] at H;exact H
             clear H
             have H:=H1
             clear H1
             replace H:=Option.bind_eq_some_iff.mp H
             obtain ⟨t443,A1860,H⟩:=H
             replace H : ((drawbridgeref23_Check.f kj36 l0_0 a0_1).bind fun t444=>(if (t443 == t444) = true then ((drawbridgeref23_Same.f kj36 x373000_2 a0_1 l0_0 a0_1).bind fun t445=>(if t445 = true then ((drawbridgelaw23_heads.f kj36).bind fun t446=>(some t446)) else (some false))) else (some false))) = some r:=H
             have A186:=mK A1860
             clear A1860
             replace H:=Option.bind_eq_some_iff.mp H
             obtain ⟨t444,A1870,H⟩:=H
             replace H : (if (t443 == t444) = true then ((drawbridgeref23_Same.f kj36 x373000_2 a0_1 l0_0 a0_1).bind fun t445=>(if t445 = true then ((drawbridgelaw23_heads.f kj36).bind fun t446=>(some t446)) else (some false))) else (some false)) = some r:=H
             have A187:=mK A1870
             clear A1870
             by_cases c188 : (t443 == t444) = true
             ·rw [if_pos c188] at H
              have c188b0 : (t443 == t444) = true:=c188
              (try (have c188b1 : decide (t443 = t444) = true:= by simpa using c188))
              (try (have c188b2 : (t443 == t444) = true:= by simpa using c188))
              clear c188
              replace H:=Option.bind_eq_some_iff.mp H
              obtain ⟨t445,A1890,H⟩:=H
              replace H : (if t445 = true then ((drawbridgelaw23_heads.f kj36).bind fun t446=>(some t446)) else (some false)) = some r:=H
              have A189:=mK A1890
              clear A1890
              by_cases c190 : t445 = true
              ·subst c190
               have H1 : ((drawbridgelaw23_heads.f kj36).bind fun t446=>(some t446)) = some r:= by rw [if_pos rfl] at H;exact H
               clear H
               have H:=H1
               clear H1
               replace H:=Option.bind_eq_some_iff.mp H
               obtain ⟨t446,A1910,H⟩:=H
               replace H : (some t446) = some r:=H
               have A191:=mK A1910
               clear A1910
               obtain rfl:=Option.some.inj H
               try go_wp2
               have n0_:=mK (Kd.S_drew HO_373000.out)
               have n1_:=mK (Kd.V_drew HO_389000.out)
               have n2_:=mK (Kd.V_drew HO_395000.out)
               have n3_:=mK (Kd.V_drew HO_404000.out)
               have n4_:=mK (Kd.V_drew HO_413000.out)
               have n5_:=mK (blk_drew BK369.out)
               have n6_:=mK (blk_drew BK372.out)
               have n7_:=mK (blk_drew BK388.out)
               have n8_:=mK (blk_drew BK394.out)
               have n9_:=mK (blk_drew BK403.out)
               have n10_:=mK (blk_drew BK412.out)
               have n11_:=mK (below_drew1 HB.out)
               clear HO_373000
               clear HO_389000
               clear HO_395000
               clear HO_404000
               clear HO_413000
               clear BK369
               clear BK372
               clear BK388
               clear BK394
               clear BK403
               clear BK412
               clear HB
               have HO_373000:=n0_
               have HO_389000:=n1_
               have HO_395000:=n2_
               have HO_404000:=n3_
               have HO_413000:=n4_
               have BK369:=n5_
               have BK372:=n6_
               have BK388:=n7_
               have BK394:=n8_
               have BK403:=n9_
               have BK412:=n10_
               have HB:=n11_
               clear n0_ n1_ n2_ n3_ n4_ n5_ n6_ n7_ n8_ n9_ n10_ n11_
               refine start_ (n:=41) (S:= fun w'=>w'.cell? ⟨gb372,0,none⟩ = some (.slice Ao41 x373000_2.length co41)∧w'.cell? ⟨gb372,1,none⟩ = some (.int .i64 a0_1)∧w'.cell? ⟨gb369,0,none⟩ = some (.slice A0_0 l0_0.length c0_0)∧w'.cell? ⟨gb369,1,none⟩ = some (.int .i64 a0_1)) (ds:=[]) #[φ,φ,φ,φ,φ,φ,φ,φ,φ,φ,φ,φ,φ,φ,φ,φ,φ,φ,φ,φ,φ,φ,φ,φ,φ,φ,φ,φ,φ,φ,φ,φ,φ,φ,φ,φ,φ,φ,φ,φ,φ] (by kernel_rfl) rfl rfl ⟨(blk_cell BK372.out 0).trans rfl,(blk_cell BK372.out 1).trans rfl,(blk_cell BK369.out 0).trans rfl,(blk_cell BK369.out 1).trans rfl⟩ (fun hHeld=>?_);refine with_tabW drawbridgelaw23_LinkDoes.tab14 drawbridgelaw23_LinkDoes.bits14 (fun HT_ HW_=>?_)
               generalize wc.drew = w192 at HO_373000 HO_389000 HO_395000 HO_404000 HO_413000 BK369 BK372 BK388 BK394 BK403 BK412 HB hHeld ⊢
               refine pure_ (i:=1) (N:=some 101) (v:=?_) (a':=?_) #[φ,τ,φ,φ,φ,φ,φ,φ,φ,φ,φ,φ,φ,φ,φ,φ,φ,φ,φ,φ,φ,φ,φ,φ,φ,φ,φ,φ,φ,φ,φ,φ,φ,φ,φ,φ,φ,φ,φ,φ,φ] rfl rfl (any_of HT_.out (by kernel_rfl)) (fun _ _ _ h=>h) (Or.inl ⟨by rfl,?_⟩) ?_ ?_
               rotate_left
               ·intro w'
                go_simp
                with_reducible rfl
               rotate_left
               ·simp only [Act.put,sT,sZ,sS,i64_w,i32_w]
                rfl
               refine pure_ (i:=4) (N:=some 104) (v:=?_) (a':=?_) #[φ,τ,φ,φ,τ,φ,φ,φ,φ,φ,φ,φ,φ,φ,φ,φ,φ,φ,φ,φ,φ,φ,φ,φ,φ,φ,φ,φ,φ,φ,φ,φ,φ,φ,φ,φ,φ,φ,φ,φ,φ] rfl rfl (any_of HT_.out (by kernel_rfl)) (fun _ _ _ h=>h) (Or.inl ⟨by rfl,?_⟩) ?_ ?_
               rotate_left
               ·intro w'
                go_simp
                with_reducible rfl
               rotate_left
               ·simp only [Act.put,sT,sZ,sS,i64_w,i32_w]
                rfl
               refine take_ (i:=0) (N:=some 100) (v:=?_) (a':=?_) #[τ,τ,φ,φ,τ,φ,φ,φ,φ,φ,φ,φ,φ,φ,φ,φ,φ,φ,φ,φ,φ,φ,φ,φ,φ,φ,φ,φ,φ,φ,φ,φ,φ,φ,φ,φ,φ,φ,φ,φ,φ] rfl rfl (take_ofW HT_.out HW_.out (by kernel_rfl)) (fun _ _ _ h=>h) (Or.inl ⟨by rfl,?_⟩) hHeld ?_ ?_
               rotate_left
               ·rintro w' ⟨s0,s1,s2,s3⟩
                go_simp
                with_reducible rfl
               rotate_left
               ·simp only [Act.put,sT,sZ,sS,i64_w,i32_w]
                rfl
               refine take_ (i:=3) (N:=some 103) (v:=?_) (a':=?_) #[τ,τ,φ,τ,τ,φ,φ,φ,φ,φ,φ,φ,φ,φ,φ,φ,φ,φ,φ,φ,φ,φ,φ,φ,φ,φ,φ,φ,φ,φ,φ,φ,φ,φ,φ,φ,φ,φ,φ,φ,φ] rfl rfl (take_ofW HT_.out HW_.out (by kernel_rfl)) (fun _ _ _ h=>h) (Or.inl ⟨by rfl,?_⟩) hHeld ?_ ?_
               rotate_left
               ·rintro w' ⟨s0,s1,s2,s3⟩
                go_simp
                with_reducible rfl
               rotate_left
               ·simp only [Act.put,sT,sZ,sS,i64_w,i32_w]
                rfl
               refine one_ (i:=2) (N:=some 102) #[τ,τ,τ,τ,τ,φ,φ,φ,φ,φ,φ,φ,φ,φ,φ,φ,φ,φ,φ,φ,φ,φ,φ,φ,φ,φ,φ,φ,φ,φ,φ,φ,φ,φ,φ,φ,φ,φ,φ,φ,φ] rfl rfl (one_of HT_.out (by kernel_rfl)) (by decide) (fun K hK=>?_)
               refine goes_ Try.func14 (by kernel_rfl) rfl #[.agg #[.slice Ao41 x373000_2.length co41,.int .i64 a0_1],.int .i64 a2] (by rfl) rfl rfl (by (try simp only [List.map_toArray,List.map_cons,List.map_nil]);first|done|rfl|(simp only [List.length_drop,List.length_take];rfl)) ?_
               with_reducible refine (link_Drop.calls kj36 (fun k_=>((((((True∧k_ ≠ gb369)∧k_ ≠ gb372)∧k_ ≠ gb388)∧k_ ≠ gb394)∧k_ ≠ gb403)∧k_ ≠ gb412)) _ _ x373000_2 a0_1 a2 t416 t419 _ ?side1 A174.out).mono ?_
               (case side1=>exact Kd.S_V (Kd.S_types (Kd.S_types (Kd.S_types (Kd.S_types (Kd.S_types (Kd.S_types (HO_373000.out) BK369.out (by decide)) BK372.out (by decide)) BK388.out (by decide)) BK394.out (by decide)) BK403.out (by decide)) BK412.out (by decide)))
               rintro e w193 ⟨v417,rfl,ho0,hb⟩
               refine ⟨_,rfl,?_⟩
               have n0_:=mK (Kd.S_below (by (with_reducible repeat (first|apply Kd.S_alloc|apply Kd.S_drewN|apply Kd.S_drew));exact HO_373000.out) hb)
               have n5_:=mK (Kd.V_lower (Kd.V_mono (ok':= fun k_=>k_ ≠ gb369∧k_ ≠ gb372∧k_ ≠ gb388∧k_ ≠ gb394∧k_ ≠ gb403∧k_ ≠ gb412) ho0 (fun k_ hk_=>⟨Or.elim hk_ (fun hs_=>hs_.1.1.1.1.1.2) (fun hn_=>(Kd.freshB (g:=gb369) (o:=.cells #[.slice A0_0 l0_0.length c0_0,.int .i64 a0_1] 24 (0,0)) (by (with_reducible repeat (first|apply bN|apply bD|apply bA));exact BK369.out) k_ hn_)),Or.elim hk_ (fun hs_=>hs_.1.1.1.1.2) (fun hn_=>(Kd.freshB (g:=gb372) (o:=.cells #[.slice Ao41 x373000_2.length co41,.int .i64 a0_1] 24 (0,0)) (by (with_reducible repeat (first|apply bN|apply bD|apply bA));exact BK372.out) k_ hn_)),Or.elim hk_ (fun hs_=>hs_.1.1.1.2) (fun hn_=>(Kd.freshB (g:=gb388) (o:=.cells #[.slice Ao44 t383.length co44,.int .i64 t386] 24 (0,0)) (by (with_reducible repeat (first|apply bN|apply bD|apply bA));exact BK388.out) k_ hn_)),Or.elim hk_ (fun hs_=>hs_.1.1.2) (fun hn_=>(Kd.freshB (g:=gb394) (o:=.cells #[.slice Ao52 t389.length co52,.int .i64 t392] 24 (0,0)) (by (with_reducible repeat (first|apply bN|apply bD|apply bA));exact BK394.out) k_ hn_)),Or.elim hk_ (fun hs_=>hs_.1.2) (fun hn_=>(Kd.freshB (g:=gb403) (o:=.cells #[.slice Ao61 t395.length co61,.int .i64 t398] 24 (0,0)) (by (with_reducible repeat (first|apply bN|apply bD|apply bA));exact BK403.out) k_ hn_)),Or.elim hk_ (fun hs_=>hs_.2) (fun hn_=>(Kd.freshB (g:=gb412) (o:=.cells #[.slice Ao71 t404.length co71,.int .i64 t407] 24 (0,0)) (by (with_reducible repeat (first|apply bN|apply bD|apply bA));exact BK412.out) k_ hn_))⟩)) (below_size (by repeat (first|(with_reducible first|exact HB.out|apply lA|apply lN|apply lD|refine lS ?_ GE369.out|refine lS ?_ GE372.out|refine lS ?_ GE388.out|refine lS ?_ GE394.out|refine lS ?_ GE403.out|refine lS ?_ GE412.out)|exact HB.out))))
               have n6_:=mK (blk_below (g:=gb369) (o:=.cells #[.slice A0_0 l0_0.length c0_0,.int .i64 a0_1] 24 (0,0)) (by (with_reducible repeat (first|apply bN|apply bD|apply bA));exact BK369.out) hb)
               have n7_:=mK (blk_below (g:=gb372) (o:=.cells #[.slice Ao41 x373000_2.length co41,.int .i64 a0_1] 24 (0,0)) (by (with_reducible repeat (first|apply bN|apply bD|apply bA));exact BK372.out) hb)
               have n8_:=mK (blk_below (g:=gb388) (o:=.cells #[.slice Ao44 t383.length co44,.int .i64 t386] 24 (0,0)) (by (with_reducible repeat (first|apply bN|apply bD|apply bA));exact BK388.out) hb)
               have n9_:=mK (blk_below (g:=gb394) (o:=.cells #[.slice Ao52 t389.length co52,.int .i64 t392] 24 (0,0)) (by (with_reducible repeat (first|apply bN|apply bD|apply bA));exact BK394.out) hb)
               have n10_:=mK (blk_below (g:=gb403) (o:=.cells #[.slice Ao61 t395.length co61,.int .i64 t398] 24 (0,0)) (by (with_reducible repeat (first|apply bN|apply bD|apply bA));exact BK403.out) hb)
               have n11_:=mK (blk_below (g:=gb412) (o:=.cells #[.slice Ao71 t404.length co71,.int .i64 t407] 24 (0,0)) (by (with_reducible repeat (first|apply bN|apply bD|apply bA));exact BK412.out) hb)
               have n12_:=mK (below_step (by repeat (first|(with_reducible first|exact HB.out|apply lA|apply lN|apply lD|refine lS ?_ GE369.out|refine lS ?_ GE372.out|refine lS ?_ GE388.out|refine lS ?_ GE394.out|refine lS ?_ GE403.out|refine lS ?_ GE412.out)|exact HB.out)) hb)
               clear HO_373000
               clear BK369
               clear BK372
               clear BK388
               clear BK394
               clear BK403
               clear BK412
               clear HB
               have HO_373000:=n0_
               have HO418:=n5_
               have BK369:=n6_
               have BK372:=n7_
               have BK388:=n8_
               have BK394:=n9_
               have BK403:=n10_
               have BK412:=n11_
               have HB:=n12_
               clear n0_ n5_ n6_ n7_ n8_ n9_ n10_ n11_ n12_
               (try clear hb)
               (try clear hb2)
               (try clear hk)
               (try clear hi)
               (try clear ho0)
               refine hK.out _ _ ⟨(blk_cell BK372.out 0).trans rfl,(blk_cell BK372.out 1).trans rfl,(blk_cell BK369.out 0).trans rfl,(blk_cell BK369.out 1).trans rfl⟩ (fun hHeld=>?_)
               clear hK K
               refine norm_ (a':=?_) ?_ ?_
               rotate_left
               ·show Act.put _ (some 102) _ = _
                simp only [Act.put,sT,sZ,sS,i64_w,i32_w]
                rfl
               refine one_ (i:=5) (N:=some 105) #[τ,τ,τ,τ,τ,τ,φ,φ,φ,φ,φ,φ,φ,φ,φ,φ,φ,φ,φ,φ,φ,φ,φ,φ,φ,φ,φ,φ,φ,φ,φ,φ,φ,φ,φ,φ,φ,φ,φ,φ,φ] rfl rfl (one_of HT_.out (by kernel_rfl)) (by decide) (fun K hK=>?_)
               refine goes_ Try.func15 (by kernel_rfl) rfl #[.agg #[.slice A0_0 l0_0.length c0_0,.int .i64 a0_1],.int .i64 a2] (by rfl) rfl rfl (by (try simp only [List.map_toArray,List.map_cons,List.map_nil]);first|done|rfl|(simp only [List.length_drop,List.length_take];rfl)) ?_
               with_reducible refine (drawbridgeref23_Drop.calls kj36 (fun k_=>k_ < w.heap.size) _ _ l0_0 a0_1 a2 t420 t423 _ ?side1 A175.out).mono ?_
               (case side1=>exact Kd.V_mk HC0_0.out (Kd.F_below (Kd.C_F (Kd.heap_slice 5 (Kd.heap_int .u8)) HR0_0.out) (by repeat (first|(with_reducible first|exact HB.out|apply lA|apply lN|apply lD|refine lS ?_ GE369.out|refine lS ?_ GE372.out|refine lS ?_ GE388.out|refine lS ?_ GE394.out|refine lS ?_ GE403.out|refine lS ?_ GE412.out)|exact HB.out))))
               rintro e w194 ⟨v421,rfl,ho0,hb⟩
               refine ⟨_,rfl,?_⟩
               have n0_:=mK (Kd.S_below (by (with_reducible repeat (first|apply Kd.S_alloc|apply Kd.S_drewN|apply Kd.S_drew));exact HO_373000.out) hb)
               have n5_:=mK (Kd.V_below (by (with_reducible repeat (first|apply vA|apply vN|apply vD));exact HO418.out) hb)
               have n6_:=mK (Kd.V_lower (Kd.V_mono (ok':= fun k_=>some k_ ≠ (.slice Ao41 x373000_2.length co41 : Value).ownBlock∧k_ ≠ gb369∧k_ ≠ gb372∧k_ ≠ gb388∧k_ ≠ gb394∧k_ ≠ gb403∧k_ ≠ gb412) ho0 (fun k_ hk_=>⟨Or.elim hk_ (fun hs_=>fun e_=>Nat.not_le.2 hs_ (Kd.S_base HO_373000.out k_ e_.symm)) (fun hn_=>(Kd.fresh' (Kd.S_lt (by (with_reducible repeat (first|apply Kd.S_alloc|apply Kd.S_drewN|apply Kd.S_drew));exact HO_373000.out)) k_ hn_)),Or.elim hk_ (fun hs_=>fun e_=>Nat.not_le.2 hs_ (by rw [e_];exact GW369.out)) (fun hn_=>(Kd.freshB (g:=gb369) (o:=.cells #[.slice A0_0 l0_0.length c0_0,.int .i64 a0_1] 24 (0,0)) (by (with_reducible repeat (first|apply bN|apply bD|apply bA));exact BK369.out) k_ hn_)),Or.elim hk_ (fun hs_=>fun e_=>Nat.not_le.2 hs_ (by rw [e_];exact GW372.out)) (fun hn_=>(Kd.freshB (g:=gb372) (o:=.cells #[.slice Ao41 x373000_2.length co41,.int .i64 a0_1] 24 (0,0)) (by (with_reducible repeat (first|apply bN|apply bD|apply bA));exact BK372.out) k_ hn_)),Or.elim hk_ (fun hs_=>fun e_=>Nat.not_le.2 hs_ (by rw [e_];exact GW388.out)) (fun hn_=>(Kd.freshB (g:=gb388) (o:=.cells #[.slice Ao44 t383.length co44,.int .i64 t386] 24 (0,0)) (by (with_reducible repeat (first|apply bN|apply bD|apply bA));exact BK388.out) k_ hn_)),Or.elim hk_ (fun hs_=>fun e_=>Nat.not_le.2 hs_ (by rw [e_];exact GW394.out)) (fun hn_=>(Kd.freshB (g:=gb394) (o:=.cells #[.slice Ao52 t389.length co52,.int .i64 t392] 24 (0,0)) (by (with_reducible repeat (first|apply bN|apply bD|apply bA));exact BK394.out) k_ hn_)),Or.elim hk_ (fun hs_=>fun e_=>Nat.not_le.2 hs_ (by rw [e_];exact GW403.out)) (fun hn_=>(Kd.freshB (g:=gb403) (o:=.cells #[.slice Ao61 t395.length co61,.int .i64 t398] 24 (0,0)) (by (with_reducible repeat (first|apply bN|apply bD|apply bA));exact BK403.out) k_ hn_)),Or.elim hk_ (fun hs_=>fun e_=>Nat.not_le.2 hs_ (by rw [e_];exact GW412.out)) (fun hn_=>(Kd.freshB (g:=gb412) (o:=.cells #[.slice Ao71 t404.length co71,.int .i64 t407] 24 (0,0)) (by (with_reducible repeat (first|apply bN|apply bD|apply bA));exact BK412.out) k_ hn_))⟩)) (below_size (by repeat (first|(with_reducible first|exact HB.out|apply lA|apply lN|apply lD|refine lS ?_ GE369.out|refine lS ?_ GE372.out|refine lS ?_ GE388.out|refine lS ?_ GE394.out|refine lS ?_ GE403.out|refine lS ?_ GE412.out)|exact HB.out))))
               have n7_:=mK (blk_below (g:=gb369) (o:=.cells #[.slice A0_0 l0_0.length c0_0,.int .i64 a0_1] 24 (0,0)) (by (with_reducible repeat (first|apply bN|apply bD|apply bA));exact BK369.out) hb)
               have n8_:=mK (blk_below (g:=gb372) (o:=.cells #[.slice Ao41 x373000_2.length co41,.int .i64 a0_1] 24 (0,0)) (by (with_reducible repeat (first|apply bN|apply bD|apply bA));exact BK372.out) hb)
               have n9_:=mK (blk_below (g:=gb388) (o:=.cells #[.slice Ao44 t383.length co44,.int .i64 t386] 24 (0,0)) (by (with_reducible repeat (first|apply bN|apply bD|apply bA));exact BK388.out) hb)
               have n10_:=mK (blk_below (g:=gb394) (o:=.cells #[.slice Ao52 t389.length co52,.int .i64 t392] 24 (0,0)) (by (with_reducible repeat (first|apply bN|apply bD|apply bA));exact BK394.out) hb)
               have n11_:=mK (blk_below (g:=gb403) (o:=.cells #[.slice Ao61 t395.length co61,.int .i64 t398] 24 (0,0)) (by (with_reducible repeat (first|apply bN|apply bD|apply bA));exact BK403.out) hb)
               have n12_:=mK (blk_below (g:=gb412) (o:=.cells #[.slice Ao71 t404.length co71,.int .i64 t407] 24 (0,0)) (by (with_reducible repeat (first|apply bN|apply bD|apply bA));exact BK412.out) hb)
               have n13_:=mK (below_step (by repeat (first|(with_reducible first|exact HB.out|apply lA|apply lN|apply lD|refine lS ?_ GE369.out|refine lS ?_ GE372.out|refine lS ?_ GE388.out|refine lS ?_ GE394.out|refine lS ?_ GE403.out|refine lS ?_ GE412.out)|exact HB.out)) hb)
               clear HO_373000
               clear HO418
               clear BK369
               clear BK372
               clear BK388
               clear BK394
               clear BK403
               clear BK412
               clear HB
               have HO_373000:=n0_
               have HO418:=n5_
               have HO422:=n6_
               have BK369:=n7_
               have BK372:=n8_
               have BK388:=n9_
               have BK394:=n10_
               have BK403:=n11_
               have BK412:=n12_
               have HB:=n13_
               clear n0_ n5_ n6_ n7_ n8_ n9_ n10_ n11_ n12_ n13_
               (try clear hb)
               (try clear hb2)
               (try clear hk)
               (try clear hi)
               (try clear ho0)
               obtain ⟨Ao195,co195,eo195⟩:=Kd.V_slice HO418.out
               (first|subst eo195|(injection eo195 with f1_ f2_ f3_;have f4_:=f1_.symm;have f5_:=f3_.symm;clear f1_ f2_ f3_;subst f4_;subst f5_))
               obtain ⟨Ao196,co196,eo196⟩:=Kd.V_slice HO422.out
               (first|subst eo196|(injection eo196 with f1_ f2_ f3_;have f4_:=f1_.symm;have f5_:=f3_.symm;clear f1_ f2_ f3_;subst f4_;subst f5_))
               refine hK.out _ _ ⟨(blk_cell BK372.out 0).trans rfl,(blk_cell BK372.out 1).trans rfl,(blk_cell BK369.out 0).trans rfl,(blk_cell BK369.out 1).trans rfl⟩ (fun hHeld=>?_)
               clear hK K
               refine norm_ (a':=?_) ?_ ?_
               rotate_left
               ·show Act.put _ (some 105) _ = _
                simp only [Act.put,sT,sZ,sS,i64_w,i32_w]
                rfl
               refine one_ (i:=6) (N:=some 106) #[τ,τ,τ,τ,τ,τ,τ,φ,φ,φ,φ,φ,φ,φ,φ,φ,φ,φ,φ,φ,φ,φ,φ,φ,φ,φ,φ,φ,φ,φ,φ,φ,φ,φ,φ,φ,φ,φ,φ,φ,φ] rfl rfl (one_of HT_.out (by kernel_rfl)) (by decide) (fun K hK=>?_)
               refine goes_ Try.func12 (by kernel_rfl) rfl #[.agg #[.slice Ao195 t416.length co195,.int .i64 t419],.agg #[.slice Ao196 t420.length co196,.int .i64 t423]] (by rfl) rfl rfl (by (try simp only [List.map_toArray,List.map_cons,List.map_nil]);first|done|rfl|(simp only [List.length_drop,List.length_take];rfl)) ?_
               with_reducible refine (drawbridgeref23_Same.calls kj36 _ _ t416 t419 _ _ t420 t423 true _ ?side1 ?side2 ?side3 ?side4 A176.out).mono ?_
               (case side1=>repeat (first|exact (Kd.V_reads' HO418.out).2.2|(with_reducible refine Kd.C_alloc ?_ _)|(with_reducible refine Kd.C_drewN ?_ _)|(with_reducible refine Kd.C_drew ?_)))
               (case side2=>exact (Kd.V_reads' HO418.out).2.1)
               (case side3=>repeat (first|exact (Kd.V_reads' HO422.out).2.2|(with_reducible refine Kd.C_alloc ?_ _)|(with_reducible refine Kd.C_drewN ?_ _)|(with_reducible refine Kd.C_drew ?_)))
               (case side4=>exact (Kd.V_reads' HO422.out).2.1)
               rintro e w197 ⟨rfl,hb⟩
               refine ⟨_,rfl,?_⟩
               have n0_:=mK (Kd.S_below (by (with_reducible repeat (first|apply Kd.S_alloc|apply Kd.S_drewN|apply Kd.S_drew));exact HO_373000.out) hb)
               have n7_:=mK (blk_below (g:=gb369) (o:=.cells #[.slice A0_0 l0_0.length c0_0,.int .i64 a0_1] 24 (0,0)) (by (with_reducible repeat (first|apply bN|apply bD|apply bA));exact BK369.out) hb)
               have n8_:=mK (blk_below (g:=gb372) (o:=.cells #[.slice Ao41 x373000_2.length co41,.int .i64 a0_1] 24 (0,0)) (by (with_reducible repeat (first|apply bN|apply bD|apply bA));exact BK372.out) hb)
               have n9_:=mK (blk_below (g:=gb388) (o:=.cells #[.slice Ao44 t383.length co44,.int .i64 t386] 24 (0,0)) (by (with_reducible repeat (first|apply bN|apply bD|apply bA));exact BK388.out) hb)
               have n10_:=mK (blk_below (g:=gb394) (o:=.cells #[.slice Ao52 t389.length co52,.int .i64 t392] 24 (0,0)) (by (with_reducible repeat (first|apply bN|apply bD|apply bA));exact BK394.out) hb)
               have n11_:=mK (blk_below (g:=gb403) (o:=.cells #[.slice Ao61 t395.length co61,.int .i64 t398] 24 (0,0)) (by (with_reducible repeat (first|apply bN|apply bD|apply bA));exact BK403.out) hb)
               have n12_:=mK (blk_below (g:=gb412) (o:=.cells #[.slice Ao71 t404.length co71,.int .i64 t407] 24 (0,0)) (by (with_reducible repeat (first|apply bN|apply bD|apply bA));exact BK412.out) hb)
               have n13_:=mK (below_step (by repeat (first|(with_reducible first|exact HB.out|apply lA|apply lN|apply lD|refine lS ?_ GE369.out|refine lS ?_ GE372.out|refine lS ?_ GE388.out|refine lS ?_ GE394.out|refine lS ?_ GE403.out|refine lS ?_ GE412.out)|exact HB.out)) hb)
               clear HO_373000
               clear BK369
               clear BK372
               clear BK388
               clear BK394
               clear BK403
               clear BK412
               clear HB
               have HO_373000:=n0_
               have BK369:=n7_
               have BK372:=n8_
               have BK388:=n9_
               have BK394:=n10_
               have BK403:=n11_
               have BK412:=n12_
               have HB:=n13_
               clear n0_ n7_ n8_ n9_ n10_ n11_ n12_ n13_
               (try clear hb)
               (try clear hb2)
               (try clear hk)
               (try clear hi)
               refine hK.out _ _ ⟨(blk_cell BK372.out 0).trans rfl,(blk_cell BK372.out 1).trans rfl,(blk_cell BK369.out 0).trans rfl,(blk_cell BK369.out 1).trans rfl⟩ (fun hHeld=>?_)
               clear hK K
               refine norm_ (a':=?_) ?_ ?_
               rotate_left
               ·show Act.put _ (some 106) _ = _
                simp only [Act.put,sT,sZ,sS,i64_w,i32_w]
                rfl
               refine pure_ (i:=7) (N:=some 107) (v:=?_) (a':=?_) #[τ,τ,τ,τ,τ,τ,τ,τ,φ,φ,φ,φ,φ,φ,φ,φ,φ,φ,φ,φ,φ,φ,φ,φ,φ,φ,φ,φ,φ,φ,φ,φ,φ,φ,φ,φ,φ,φ,φ,φ,φ] rfl rfl (any_of HT_.out (by kernel_rfl)) (fun _ _ _ h=>h) (Or.inl ⟨by rfl,?_⟩) ?_ ?_
               rotate_left
               ·intro w'
                go_simp
                with_reducible rfl
               rotate_left
               ·simp only [Act.put,sT,sZ,sS,i64_w,i32_w]
                rfl
               refine pure_ (i:=9) (N:=some 109) (v:=?_) (a':=?_) #[τ,τ,τ,τ,τ,τ,τ,τ,φ,τ,φ,φ,φ,φ,φ,φ,φ,φ,φ,φ,φ,φ,φ,φ,φ,φ,φ,φ,φ,φ,φ,φ,φ,φ,φ,φ,φ,φ,φ,φ,φ] rfl rfl (any_of HT_.out (by kernel_rfl)) (fun _ _ _ h=>h) (Or.inl ⟨by rfl,?_⟩) ?_ ?_
               rotate_left
               ·intro w'
                go_simp
                with_reducible rfl
               rotate_left
               ·simp only [Act.put,sT,sZ,sS,i64_w,i32_w]
                rfl
               refine pure_ (i:=12) (N:=some 112) (v:=?_) (a':=?_) #[τ,τ,τ,τ,τ,τ,τ,τ,φ,τ,φ,φ,τ,φ,φ,φ,φ,φ,φ,φ,φ,φ,φ,φ,φ,φ,φ,φ,φ,φ,φ,φ,φ,φ,φ,φ,φ,φ,φ,φ,φ] rfl rfl (any_of HT_.out (by kernel_rfl)) (fun _ _ _ h=>h) (Or.inl ⟨by rfl,?_⟩) ?_ ?_
               rotate_left
               ·intro w'
                go_simp
                with_reducible rfl
               rotate_left
               ·simp only [Act.put,sT,sZ,sS,i64_w,i32_w]
                rfl
               refine take_ (i:=8) (N:=some 108) (v:=?_) (a':=?_) #[τ,τ,τ,τ,τ,τ,τ,τ,τ,τ,φ,φ,τ,φ,φ,φ,φ,φ,φ,φ,φ,φ,φ,φ,φ,φ,φ,φ,φ,φ,φ,φ,φ,φ,φ,φ,φ,φ,φ,φ,φ] rfl rfl (take_ofW HT_.out HW_.out (by kernel_rfl)) (fun _ _ _ h=>h) (Or.inl ⟨by rfl,?_⟩) hHeld ?_ ?_
               rotate_left
               ·rintro w' ⟨s0,s1,s2,s3⟩
                go_simp
                with_reducible rfl
               rotate_left
               ·simp only [Act.put,sT,sZ,sS,i64_w,i32_w]
                rfl
               refine take_ (i:=11) (N:=some 111) (v:=?_) (a':=?_) #[τ,τ,τ,τ,τ,τ,τ,τ,τ,τ,φ,τ,τ,φ,φ,φ,φ,φ,φ,φ,φ,φ,φ,φ,φ,φ,φ,φ,φ,φ,φ,φ,φ,φ,φ,φ,φ,φ,φ,φ,φ] rfl rfl (take_ofW HT_.out HW_.out (by kernel_rfl)) (fun _ _ _ h=>h) (Or.inl ⟨by rfl,?_⟩) hHeld ?_ ?_
               rotate_left
               ·rintro w' ⟨s0,s1,s2,s3⟩
                go_simp
                with_reducible rfl
               rotate_left
               ·simp only [Act.put,sT,sZ,sS,i64_w,i32_w]
                rfl
               refine one_ (i:=10) (N:=some 110) #[τ,τ,τ,τ,τ,τ,τ,τ,τ,τ,τ,τ,τ,φ,φ,φ,φ,φ,φ,φ,φ,φ,φ,φ,φ,φ,φ,φ,φ,φ,φ,φ,φ,φ,φ,φ,φ,φ,φ,φ,φ] rfl rfl (one_of HT_.out (by kernel_rfl)) (by decide) (fun K hK=>?_)
               refine goes_ Try.func16 (by kernel_rfl) rfl #[.agg #[.slice Ao41 x373000_2.length co41,.int .i64 a0_1],.int .i64 a2] (by rfl) rfl rfl (by (try simp only [List.map_toArray,List.map_cons,List.map_nil]);first|done|rfl|(simp only [List.length_drop,List.length_take];rfl)) ?_
               with_reducible refine (link_Twice.calls kj36 (fun k_=>((((((True∧k_ ≠ gb369)∧k_ ≠ gb372)∧k_ ≠ gb388)∧k_ ≠ gb394)∧k_ ≠ gb403)∧k_ ≠ gb412)) _ _ x373000_2 a0_1 a2 t425 t428 _ ?side1 A178.out).mono ?_
               (case side1=>exact Kd.S_V (Kd.S_types (Kd.S_types (Kd.S_types (Kd.S_types (Kd.S_types (Kd.S_types (HO_373000.out) BK369.out (by decide)) BK372.out (by decide)) BK388.out (by decide)) BK394.out (by decide)) BK403.out (by decide)) BK412.out (by decide)))
               rintro e w198 ⟨v426,rfl,ho0,hb⟩
               refine ⟨_,rfl,?_⟩
               have n0_:=mK (Kd.S_below (by (with_reducible repeat (first|apply Kd.S_alloc|apply Kd.S_drewN|apply Kd.S_drew));exact HO_373000.out) hb)
               have n7_:=mK (Kd.V_lower (Kd.V_mono (ok':= fun k_=>k_ ≠ gb369∧k_ ≠ gb372∧k_ ≠ gb388∧k_ ≠ gb394∧k_ ≠ gb403∧k_ ≠ gb412) ho0 (fun k_ hk_=>⟨Or.elim hk_ (fun hs_=>hs_.1.1.1.1.1.2) (fun hn_=>(Kd.freshB (g:=gb369) (o:=.cells #[.slice A0_0 l0_0.length c0_0,.int .i64 a0_1] 24 (0,0)) (by (with_reducible repeat (first|apply bN|apply bD|apply bA));exact BK369.out) k_ hn_)),Or.elim hk_ (fun hs_=>hs_.1.1.1.1.2) (fun hn_=>(Kd.freshB (g:=gb372) (o:=.cells #[.slice Ao41 x373000_2.length co41,.int .i64 a0_1] 24 (0,0)) (by (with_reducible repeat (first|apply bN|apply bD|apply bA));exact BK372.out) k_ hn_)),Or.elim hk_ (fun hs_=>hs_.1.1.1.2) (fun hn_=>(Kd.freshB (g:=gb388) (o:=.cells #[.slice Ao44 t383.length co44,.int .i64 t386] 24 (0,0)) (by (with_reducible repeat (first|apply bN|apply bD|apply bA));exact BK388.out) k_ hn_)),Or.elim hk_ (fun hs_=>hs_.1.1.2) (fun hn_=>(Kd.freshB (g:=gb394) (o:=.cells #[.slice Ao52 t389.length co52,.int .i64 t392] 24 (0,0)) (by (with_reducible repeat (first|apply bN|apply bD|apply bA));exact BK394.out) k_ hn_)),Or.elim hk_ (fun hs_=>hs_.1.2) (fun hn_=>(Kd.freshB (g:=gb403) (o:=.cells #[.slice Ao61 t395.length co61,.int .i64 t398] 24 (0,0)) (by (with_reducible repeat (first|apply bN|apply bD|apply bA));exact BK403.out) k_ hn_)),Or.elim hk_ (fun hs_=>hs_.2) (fun hn_=>(Kd.freshB (g:=gb412) (o:=.cells #[.slice Ao71 t404.length co71,.int .i64 t407] 24 (0,0)) (by (with_reducible repeat (first|apply bN|apply bD|apply bA));exact BK412.out) k_ hn_))⟩)) (below_size (by repeat (first|(with_reducible first|exact HB.out|apply lA|apply lN|apply lD|refine lS ?_ GE369.out|refine lS ?_ GE372.out|refine lS ?_ GE388.out|refine lS ?_ GE394.out|refine lS ?_ GE403.out|refine lS ?_ GE412.out)|exact HB.out))))
               have n8_:=mK (blk_below (g:=gb369) (o:=.cells #[.slice A0_0 l0_0.length c0_0,.int .i64 a0_1] 24 (0,0)) (by (with_reducible repeat (first|apply bN|apply bD|apply bA));exact BK369.out) hb)
               have n9_:=mK (blk_below (g:=gb372) (o:=.cells #[.slice Ao41 x373000_2.length co41,.int .i64 a0_1] 24 (0,0)) (by (with_reducible repeat (first|apply bN|apply bD|apply bA));exact BK372.out) hb)
               have n10_:=mK (blk_below (g:=gb388) (o:=.cells #[.slice Ao44 t383.length co44,.int .i64 t386] 24 (0,0)) (by (with_reducible repeat (first|apply bN|apply bD|apply bA));exact BK388.out) hb)
               have n11_:=mK (blk_below (g:=gb394) (o:=.cells #[.slice Ao52 t389.length co52,.int .i64 t392] 24 (0,0)) (by (with_reducible repeat (first|apply bN|apply bD|apply bA));exact BK394.out) hb)
               have n12_:=mK (blk_below (g:=gb403) (o:=.cells #[.slice Ao61 t395.length co61,.int .i64 t398] 24 (0,0)) (by (with_reducible repeat (first|apply bN|apply bD|apply bA));exact BK403.out) hb)
               have n13_:=mK (blk_below (g:=gb412) (o:=.cells #[.slice Ao71 t404.length co71,.int .i64 t407] 24 (0,0)) (by (with_reducible repeat (first|apply bN|apply bD|apply bA));exact BK412.out) hb)
               have n14_:=mK (below_step (by repeat (first|(with_reducible first|exact HB.out|apply lA|apply lN|apply lD|refine lS ?_ GE369.out|refine lS ?_ GE372.out|refine lS ?_ GE388.out|refine lS ?_ GE394.out|refine lS ?_ GE403.out|refine lS ?_ GE412.out)|exact HB.out)) hb)
               clear HO_373000
               clear BK369
               clear BK372
               clear BK388
               clear BK394
               clear BK403
               clear BK412
               clear HB
               have HO_373000:=n0_
               have HO427:=n7_
               have BK369:=n8_
               have BK372:=n9_
               have BK388:=n10_
               have BK394:=n11_
               have BK403:=n12_
               have BK412:=n13_
               have HB:=n14_
               clear n0_ n7_ n8_ n9_ n10_ n11_ n12_ n13_ n14_
               (try clear hb)
               (try clear hb2)
               (try clear hk)
               (try clear hi)
               (try clear ho0)
               refine hK.out _ _ ⟨(blk_cell BK372.out 0).trans rfl,(blk_cell BK372.out 1).trans rfl,(blk_cell BK369.out 0).trans rfl,(blk_cell BK369.out 1).trans rfl⟩ (fun hHeld=>?_)
               clear hK K
               refine norm_ (a':=?_) ?_ ?_
               rotate_left
               ·show Act.put _ (some 110) _ = _
                simp only [Act.put,sT,sZ,sS,i64_w,i32_w]
                rfl
               refine one_ (i:=13) (N:=some 113) #[τ,τ,τ,τ,τ,τ,τ,τ,τ,τ,τ,τ,τ,τ,φ,φ,φ,φ,φ,φ,φ,φ,φ,φ,φ,φ,φ,φ,φ,φ,φ,φ,φ,φ,φ,φ,φ,φ,φ,φ,φ] rfl rfl (one_of HT_.out (by kernel_rfl)) (by decide) (fun K hK=>?_)
               refine goes_ Try.func17 (by kernel_rfl) rfl #[.agg #[.slice A0_0 l0_0.length c0_0,.int .i64 a0_1],.int .i64 a2] (by rfl) rfl rfl (by (try simp only [List.map_toArray,List.map_cons,List.map_nil]);first|done|rfl|(simp only [List.length_drop,List.length_take];rfl)) ?_
               with_reducible refine (drawbridgeref23_Twice.calls kj36 (fun k_=>k_ < w.heap.size) _ _ l0_0 a0_1 a2 t429 t432 _ ?side1 A179.out).mono ?_
               (case side1=>exact Kd.V_mk HC0_0.out (Kd.F_below (Kd.C_F (Kd.heap_slice 5 (Kd.heap_int .u8)) HR0_0.out) (by repeat (first|(with_reducible first|exact HB.out|apply lA|apply lN|apply lD|refine lS ?_ GE369.out|refine lS ?_ GE372.out|refine lS ?_ GE388.out|refine lS ?_ GE394.out|refine lS ?_ GE403.out|refine lS ?_ GE412.out)|exact HB.out))))
               rintro e w199 ⟨v430,rfl,ho0,hb⟩
               refine ⟨_,rfl,?_⟩
               have n0_:=mK (Kd.S_below (by (with_reducible repeat (first|apply Kd.S_alloc|apply Kd.S_drewN|apply Kd.S_drew));exact HO_373000.out) hb)
               have n7_:=mK (Kd.V_below (by (with_reducible repeat (first|apply vA|apply vN|apply vD));exact HO427.out) hb)
               have n8_:=mK (Kd.V_lower (Kd.V_mono (ok':= fun k_=>some k_ ≠ (.slice Ao41 x373000_2.length co41 : Value).ownBlock∧k_ ≠ gb369∧k_ ≠ gb372∧k_ ≠ gb388∧k_ ≠ gb394∧k_ ≠ gb403∧k_ ≠ gb412) ho0 (fun k_ hk_=>⟨Or.elim hk_ (fun hs_=>fun e_=>Nat.not_le.2 hs_ (Kd.S_base HO_373000.out k_ e_.symm)) (fun hn_=>(Kd.fresh' (Kd.S_lt (by (with_reducible repeat (first|apply Kd.S_alloc|apply Kd.S_drewN|apply Kd.S_drew));exact HO_373000.out)) k_ hn_)),Or.elim hk_ (fun hs_=>fun e_=>Nat.not_le.2 hs_ (by rw [e_];exact GW369.out)) (fun hn_=>(Kd.freshB (g:=gb369) (o:=.cells #[.slice A0_0 l0_0.length c0_0,.int .i64 a0_1] 24 (0,0)) (by (with_reducible repeat (first|apply bN|apply bD|apply bA));exact BK369.out) k_ hn_)),Or.elim hk_ (fun hs_=>fun e_=>Nat.not_le.2 hs_ (by rw [e_];exact GW372.out)) (fun hn_=>(Kd.freshB (g:=gb372) (o:=.cells #[.slice Ao41 x373000_2.length co41,.int .i64 a0_1] 24 (0,0)) (by (with_reducible repeat (first|apply bN|apply bD|apply bA));exact BK372.out) k_ hn_)),Or.elim hk_ (fun hs_=>fun e_=>Nat.not_le.2 hs_ (by rw [e_];exact GW388.out)) (fun hn_=>(Kd.freshB (g:=gb388) (o:=.cells #[.slice Ao44 t383.length co44,.int .i64 t386] 24 (0,0)) (by (with_reducible repeat (first|apply bN|apply bD|apply bA));exact BK388.out) k_ hn_)),Or.elim hk_ (fun hs_=>fun e_=>Nat.not_le.2 hs_ (by rw [e_];exact GW394.out)) (fun hn_=>(Kd.freshB (g:=gb394) (o:=.cells #[.slice Ao52 t389.length co52,.int .i64 t392] 24 (0,0)) (by (with_reducible repeat (first|apply bN|apply bD|apply bA));exact BK394.out) k_ hn_)),Or.elim hk_ (fun hs_=>fun e_=>Nat.not_le.2 hs_ (by rw [e_];exact GW403.out)) (fun hn_=>(Kd.freshB (g:=gb403) (o:=.cells #[.slice Ao61 t395.length co61,.int .i64 t398] 24 (0,0)) (by (with_reducible repeat (first|apply bN|apply bD|apply bA));exact BK403.out) k_ hn_)),Or.elim hk_ (fun hs_=>fun e_=>Nat.not_le.2 hs_ (by rw [e_];exact GW412.out)) (fun hn_=>(Kd.freshB (g:=gb412) (o:=.cells #[.slice Ao71 t404.length co71,.int .i64 t407] 24 (0,0)) (by (with_reducible repeat (first|apply bN|apply bD|apply bA));exact BK412.out) k_ hn_))⟩)) (below_size (by repeat (first|(with_reducible first|exact HB.out|apply lA|apply lN|apply lD|refine lS ?_ GE369.out|refine lS ?_ GE372.out|refine lS ?_ GE388.out|refine lS ?_ GE394.out|refine lS ?_ GE403.out|refine lS ?_ GE412.out)|exact HB.out))))
               have n9_:=mK (blk_below (g:=gb369) (o:=.cells #[.slice A0_0 l0_0.length c0_0,.int .i64 a0_1] 24 (0,0)) (by (with_reducible repeat (first|apply bN|apply bD|apply bA));exact BK369.out) hb)
               have n10_:=mK (blk_below (g:=gb372) (o:=.cells #[.slice Ao41 x373000_2.length co41,.int .i64 a0_1] 24 (0,0)) (by (with_reducible repeat (first|apply bN|apply bD|apply bA));exact BK372.out) hb)
               have n11_:=mK (blk_below (g:=gb388) (o:=.cells #[.slice Ao44 t383.length co44,.int .i64 t386] 24 (0,0)) (by (with_reducible repeat (first|apply bN|apply bD|apply bA));exact BK388.out) hb)
               have n12_:=mK (blk_below (g:=gb394) (o:=.cells #[.slice Ao52 t389.length co52,.int .i64 t392] 24 (0,0)) (by (with_reducible repeat (first|apply bN|apply bD|apply bA));exact BK394.out) hb)
               have n13_:=mK (blk_below (g:=gb403) (o:=.cells #[.slice Ao61 t395.length co61,.int .i64 t398] 24 (0,0)) (by (with_reducible repeat (first|apply bN|apply bD|apply bA));exact BK403.out) hb)
               have n14_:=mK (blk_below (g:=gb412) (o:=.cells #[.slice Ao71 t404.length co71,.int .i64 t407] 24 (0,0)) (by (with_reducible repeat (first|apply bN|apply bD|apply bA));exact BK412.out) hb)
               have n15_:=mK (below_step (by repeat (first|(with_reducible first|exact HB.out|apply lA|apply lN|apply lD|refine lS ?_ GE369.out|refine lS ?_ GE372.out|refine lS ?_ GE388.out|refine lS ?_ GE394.out|refine lS ?_ GE403.out|refine lS ?_ GE412.out)|exact HB.out)) hb)
               clear HO_373000
               clear HO427
               clear BK369
               clear BK372
               clear BK388
               clear BK394
               clear BK403
               clear BK412
               clear HB
               have HO_373000:=n0_
               have HO427:=n7_
               have HO431:=n8_
               have BK369:=n9_
               have BK372:=n10_
               have BK388:=n11_
               have BK394:=n12_
               have BK403:=n13_
               have BK412:=n14_
               have HB:=n15_
               clear n0_ n7_ n8_ n9_ n10_ n11_ n12_ n13_ n14_ n15_
               (try clear hb)
               (try clear hb2)
               (try clear hk)
               (try clear hi)
               (try clear ho0)
               obtain ⟨Ao200,co200,eo200⟩:=Kd.V_slice HO427.out
               (first|subst eo200|(injection eo200 with f1_ f2_ f3_;have f4_:=f1_.symm;have f5_:=f3_.symm;clear f1_ f2_ f3_;subst f4_;subst f5_))
               obtain ⟨Ao201,co201,eo201⟩:=Kd.V_slice HO431.out
               (first|subst eo201|(injection eo201 with f1_ f2_ f3_;have f4_:=f1_.symm;have f5_:=f3_.symm;clear f1_ f2_ f3_;subst f4_;subst f5_))
               refine hK.out _ _ ⟨(blk_cell BK372.out 0).trans rfl,(blk_cell BK372.out 1).trans rfl,(blk_cell BK369.out 0).trans rfl,(blk_cell BK369.out 1).trans rfl⟩ (fun hHeld=>?_)
               clear hK K
               refine norm_ (a':=?_) ?_ ?_
               rotate_left
               ·show Act.put _ (some 113) _ = _
                simp only [Act.put,sT,sZ,sS,i64_w,i32_w]
                rfl
               refine one_ (i:=14) (N:=some 114) #[τ,τ,τ,τ,τ,τ,τ,τ,τ,τ,τ,τ,τ,τ,τ,φ,φ,φ,φ,φ,φ,φ,φ,φ,φ,φ,φ,φ,φ,φ,φ,φ,φ,φ,φ,φ,φ,φ,φ,φ,φ] rfl rfl (one_of HT_.out (by kernel_rfl)) (by decide) (fun K hK=>?_)
               refine goes_ Try.func12 (by kernel_rfl) rfl #[.agg #[.slice Ao200 t425.length co200,.int .i64 t428],.agg #[.slice Ao201 t429.length co201,.int .i64 t432]] (by rfl) rfl rfl (by (try simp only [List.map_toArray,List.map_cons,List.map_nil]);first|done|rfl|(simp only [List.length_drop,List.length_take];rfl)) ?_
               with_reducible refine (drawbridgeref23_Same.calls kj36 _ _ t425 t428 _ _ t429 t432 true _ ?side1 ?side2 ?side3 ?side4 A180.out).mono ?_
               (case side1=>repeat (first|exact (Kd.V_reads' HO427.out).2.2|(with_reducible refine Kd.C_alloc ?_ _)|(with_reducible refine Kd.C_drewN ?_ _)|(with_reducible refine Kd.C_drew ?_)))
               (case side2=>exact (Kd.V_reads' HO427.out).2.1)
               (case side3=>repeat (first|exact (Kd.V_reads' HO431.out).2.2|(with_reducible refine Kd.C_alloc ?_ _)|(with_reducible refine Kd.C_drewN ?_ _)|(with_reducible refine Kd.C_drew ?_)))
               (case side4=>exact (Kd.V_reads' HO431.out).2.1)
               rintro e w202 ⟨rfl,hb⟩
               refine ⟨_,rfl,?_⟩
               have n0_:=mK (Kd.S_below (by (with_reducible repeat (first|apply Kd.S_alloc|apply Kd.S_drewN|apply Kd.S_drew));exact HO_373000.out) hb)
               have n9_:=mK (blk_below (g:=gb369) (o:=.cells #[.slice A0_0 l0_0.length c0_0,.int .i64 a0_1] 24 (0,0)) (by (with_reducible repeat (first|apply bN|apply bD|apply bA));exact BK369.out) hb)
               have n10_:=mK (blk_below (g:=gb372) (o:=.cells #[.slice Ao41 x373000_2.length co41,.int .i64 a0_1] 24 (0,0)) (by (with_reducible repeat (first|apply bN|apply bD|apply bA));exact BK372.out) hb)
               have n11_:=mK (blk_below (g:=gb388) (o:=.cells #[.slice Ao44 t383.length co44,.int .i64 t386] 24 (0,0)) (by (with_reducible repeat (first|apply bN|apply bD|apply bA));exact BK388.out) hb)
               have n12_:=mK (blk_below (g:=gb394) (o:=.cells #[.slice Ao52 t389.length co52,.int .i64 t392] 24 (0,0)) (by (with_reducible repeat (first|apply bN|apply bD|apply bA));exact BK394.out) hb)
               have n13_:=mK (blk_below (g:=gb403) (o:=.cells #[.slice Ao61 t395.length co61,.int .i64 t398] 24 (0,0)) (by (with_reducible repeat (first|apply bN|apply bD|apply bA));exact BK403.out) hb)
               have n14_:=mK (blk_below (g:=gb412) (o:=.cells #[.slice Ao71 t404.length co71,.int .i64 t407] 24 (0,0)) (by (with_reducible repeat (first|apply bN|apply bD|apply bA));exact BK412.out) hb)
               have n15_:=mK (below_step (by repeat (first|(with_reducible first|exact HB.out|apply lA|apply lN|apply lD|refine lS ?_ GE369.out|refine lS ?_ GE372.out|refine lS ?_ GE388.out|refine lS ?_ GE394.out|refine lS ?_ GE403.out|refine lS ?_ GE412.out)|exact HB.out)) hb)
               clear HO_373000
               clear BK369
               clear BK372
               clear BK388
               clear BK394
               clear BK403
               clear BK412
               clear HB
               have HO_373000:=n0_
               have BK369:=n9_
               have BK372:=n10_
               have BK388:=n11_
               have BK394:=n12_
               have BK403:=n13_
               have BK412:=n14_
               have HB:=n15_
               clear n0_ n9_ n10_ n11_ n12_ n13_ n14_ n15_
               (try clear hb)
               (try clear hb2)
               (try clear hk)
               (try clear hi)
               refine hK.out _ _ ⟨(blk_cell BK372.out 0).trans rfl,(blk_cell BK372.out 1).trans rfl,(blk_cell BK369.out 0).trans rfl,(blk_cell BK369.out 1).trans rfl⟩ (fun hHeld=>?_)
               clear hK K
               refine norm_ (a':=?_) ?_ ?_
               rotate_left
               ·show Act.put _ (some 114) _ = _
                simp only [Act.put,sT,sZ,sS,i64_w,i32_w]
                rfl
               refine pure_ (i:=15) (N:=some 115) (v:=?_) (a':=?_) #[τ,τ,τ,τ,τ,τ,τ,τ,τ,τ,τ,τ,τ,τ,τ,τ,φ,φ,φ,φ,φ,φ,φ,φ,φ,φ,φ,φ,φ,φ,φ,φ,φ,φ,φ,φ,φ,φ,φ,φ,φ] rfl rfl (any_of HT_.out (by kernel_rfl)) (fun _ _ _ h=>h) (Or.inl ⟨by rfl,?_⟩) ?_ ?_
               rotate_left
               ·intro w'
                go_simp
                with_reducible rfl
               rotate_left
               ·simp only [Act.put,sT,sZ,sS,i64_w,i32_w]
                rfl
               refine pure_ (i:=16) (N:=some 116) (v:=?_) (a':=?_) #[τ,τ,τ,τ,τ,τ,τ,τ,τ,τ,τ,τ,τ,τ,τ,τ,τ,φ,φ,φ,φ,φ,φ,φ,φ,φ,φ,φ,φ,φ,φ,φ,φ,φ,φ,φ,φ,φ,φ,φ,φ] rfl rfl (any_of HT_.out (by kernel_rfl)) (fun _ _ _ h=>h) (Or.inl ⟨by rfl,?_⟩) ?_ ?_
               rotate_left
               ·intro w'
                go_simp
                with_reducible rfl
               rotate_left
               ·simp only [Act.put,sT,sZ,sS,i64_w,i32_w]
                rfl
               refine pure_ (i:=18) (N:=some 118) (v:=?_) (a':=?_) #[τ,τ,τ,τ,τ,τ,τ,τ,τ,τ,τ,τ,τ,τ,τ,τ,τ,φ,τ,φ,φ,φ,φ,φ,φ,φ,φ,φ,φ,φ,φ,φ,φ,φ,φ,φ,φ,φ,φ,φ,φ] rfl rfl (any_of HT_.out (by kernel_rfl)) (fun _ _ _ h=>h) (Or.inl ⟨by rfl,?_⟩) ?_ ?_
               rotate_left
               ·intro w'
                go_simp
                with_reducible rfl
               rotate_left
               ·simp only [Act.put,sT,sZ,sS,i64_w,i32_w]
                rfl
               refine pure_ (i:=21) (N:=some 121) (v:=?_) (a':=?_) #[τ,τ,τ,τ,τ,τ,τ,τ,τ,τ,τ,τ,τ,τ,τ,τ,τ,φ,τ,φ,φ,τ,φ,φ,φ,φ,φ,φ,φ,φ,φ,φ,φ,φ,φ,φ,φ,φ,φ,φ,φ] rfl rfl (any_of HT_.out (by kernel_rfl)) (fun _ _ _ h=>h) (Or.inl ⟨by rfl,?_⟩) ?_ ?_
               rotate_left
               ·intro w'
                go_simp
                with_reducible rfl
               rotate_left
               ·simp only [Act.put,sT,sZ,sS,i64_w,i32_w]
                rfl
               refine take_ (i:=17) (N:=some 117) (v:=?_) (a':=?_) #[τ,τ,τ,τ,τ,τ,τ,τ,τ,τ,τ,τ,τ,τ,τ,τ,τ,τ,τ,φ,φ,τ,φ,φ,φ,φ,φ,φ,φ,φ,φ,φ,φ,φ,φ,φ,φ,φ,φ,φ,φ] rfl rfl (take_ofW HT_.out HW_.out (by kernel_rfl)) (fun _ _ _ h=>h) (Or.inl ⟨by rfl,?_⟩) hHeld ?_ ?_
               rotate_left
               ·rintro w' ⟨s0,s1,s2,s3⟩
                go_simp
                with_reducible rfl
               rotate_left
               ·simp only [Act.put,sT,sZ,sS,i64_w,i32_w]
                rfl
               refine take_ (i:=20) (N:=some 120) (v:=?_) (a':=?_) #[τ,τ,τ,τ,τ,τ,τ,τ,τ,τ,τ,τ,τ,τ,τ,τ,τ,τ,τ,φ,τ,τ,φ,φ,φ,φ,φ,φ,φ,φ,φ,φ,φ,φ,φ,φ,φ,φ,φ,φ,φ] rfl rfl (take_ofW HT_.out HW_.out (by kernel_rfl)) (fun _ _ _ h=>h) (Or.inl ⟨by rfl,?_⟩) hHeld ?_ ?_
               rotate_left
               ·rintro w' ⟨s0,s1,s2,s3⟩
                go_simp
                with_reducible rfl
               rotate_left
               ·simp only [Act.put,sT,sZ,sS,i64_w,i32_w]
                rfl
               refine one_ (i:=19) (N:=some 119) #[τ,τ,τ,τ,τ,τ,τ,τ,τ,τ,τ,τ,τ,τ,τ,τ,τ,τ,τ,τ,τ,τ,φ,φ,φ,φ,φ,φ,φ,φ,φ,φ,φ,φ,φ,φ,φ,φ,φ,φ,φ] rfl rfl (one_of HT_.out (by kernel_rfl)) (by decide) (fun K hK=>?_)
               refine goes_ Try.func18 (by kernel_rfl) rfl #[.agg #[.slice Ao41 x373000_2.length co41,.int .i64 a0_1],.int .i64 a2] (by rfl) rfl rfl (by (try simp only [List.map_toArray,List.map_cons,List.map_nil]);first|done|rfl|(simp only [List.length_drop,List.length_take];rfl)) ?_
               with_reducible refine (link_Swap.calls kj36 (fun k_=>((((((True∧k_ ≠ gb369)∧k_ ≠ gb372)∧k_ ≠ gb388)∧k_ ≠ gb394)∧k_ ≠ gb403)∧k_ ≠ gb412)) _ _ x373000_2 a0_1 a2 t434 t437 _ ?side1 A182.out).mono ?_
               (case side1=>exact Kd.S_V (Kd.S_types (Kd.S_types (Kd.S_types (Kd.S_types (Kd.S_types (Kd.S_types (HO_373000.out) BK369.out (by decide)) BK372.out (by decide)) BK388.out (by decide)) BK394.out (by decide)) BK403.out (by decide)) BK412.out (by decide)))
               rintro e w203 ⟨v435,rfl,ho0,hb⟩
               refine ⟨_,rfl,?_⟩
               have n0_:=mK (Kd.S_below (by (with_reducible repeat (first|apply Kd.S_alloc|apply Kd.S_drewN|apply Kd.S_drew));exact HO_373000.out) hb)
               have n9_:=mK (Kd.V_lower (Kd.V_mono (ok':= fun k_=>k_ ≠ gb369∧k_ ≠ gb372∧k_ ≠ gb388∧k_ ≠ gb394∧k_ ≠ gb403∧k_ ≠ gb412) ho0 (fun k_ hk_=>⟨Or.elim hk_ (fun hs_=>hs_.1.1.1.1.1.2) (fun hn_=>(Kd.freshB (g:=gb369) (o:=.cells #[.slice A0_0 l0_0.length c0_0,.int .i64 a0_1] 24 (0,0)) (by (with_reducible repeat (first|apply bN|apply bD|apply bA));exact BK369.out) k_ hn_)),Or.elim hk_ (fun hs_=>hs_.1.1.1.1.2) (fun hn_=>(Kd.freshB (g:=gb372) (o:=.cells #[.slice Ao41 x373000_2.length co41,.int .i64 a0_1] 24 (0,0)) (by (with_reducible repeat (first|apply bN|apply bD|apply bA));exact BK372.out) k_ hn_)),Or.elim hk_ (fun hs_=>hs_.1.1.1.2) (fun hn_=>(Kd.freshB (g:=gb388) (o:=.cells #[.slice Ao44 t383.length co44,.int .i64 t386] 24 (0,0)) (by (with_reducible repeat (first|apply bN|apply bD|apply bA));exact BK388.out) k_ hn_)),Or.elim hk_ (fun hs_=>hs_.1.1.2) (fun hn_=>(Kd.freshB (g:=gb394) (o:=.cells #[.slice Ao52 t389.length co52,.int .i64 t392] 24 (0,0)) (by (with_reducible repeat (first|apply bN|apply bD|apply bA));exact BK394.out) k_ hn_)),Or.elim hk_ (fun hs_=>hs_.1.2) (fun hn_=>(Kd.freshB (g:=gb403) (o:=.cells #[.slice Ao61 t395.length co61,.int .i64 t398] 24 (0,0)) (by (with_reducible repeat (first|apply bN|apply bD|apply bA));exact BK403.out) k_ hn_)),Or.elim hk_ (fun hs_=>hs_.2) (fun hn_=>(Kd.freshB (g:=gb412) (o:=.cells #[.slice Ao71 t404.length co71,.int .i64 t407] 24 (0,0)) (by (with_reducible repeat (first|apply bN|apply bD|apply bA));exact BK412.out) k_ hn_))⟩)) (below_size (by repeat (first|(with_reducible first|exact HB.out|apply lA|apply lN|apply lD|refine lS ?_ GE369.out|refine lS ?_ GE372.out|refine lS ?_ GE388.out|refine lS ?_ GE394.out|refine lS ?_ GE403.out|refine lS ?_ GE412.out)|exact HB.out))))
               have n10_:=mK (blk_below (g:=gb369) (o:=.cells #[.slice A0_0 l0_0.length c0_0,.int .i64 a0_1] 24 (0,0)) (by (with_reducible repeat (first|apply bN|apply bD|apply bA));exact BK369.out) hb)
               have n11_:=mK (blk_below (g:=gb372) (o:=.cells #[.slice Ao41 x373000_2.length co41,.int .i64 a0_1] 24 (0,0)) (by (with_reducible repeat (first|apply bN|apply bD|apply bA));exact BK372.out) hb)
               have n12_:=mK (blk_below (g:=gb388) (o:=.cells #[.slice Ao44 t383.length co44,.int .i64 t386] 24 (0,0)) (by (with_reducible repeat (first|apply bN|apply bD|apply bA));exact BK388.out) hb)
               have n13_:=mK (blk_below (g:=gb394) (o:=.cells #[.slice Ao52 t389.length co52,.int .i64 t392] 24 (0,0)) (by (with_reducible repeat (first|apply bN|apply bD|apply bA));exact BK394.out) hb)
               have n14_:=mK (blk_below (g:=gb403) (o:=.cells #[.slice Ao61 t395.length co61,.int .i64 t398] 24 (0,0)) (by (with_reducible repeat (first|apply bN|apply bD|apply bA));exact BK403.out) hb)
               have n15_:=mK (blk_below (g:=gb412) (o:=.cells #[.slice Ao71 t404.length co71,.int .i64 t407] 24 (0,0)) (by (with_reducible repeat (first|apply bN|apply bD|apply bA));exact BK412.out) hb)
               have n16_:=mK (below_step (by repeat (first|(with_reducible first|exact HB.out|apply lA|apply lN|apply lD|refine lS ?_ GE369.out|refine lS ?_ GE372.out|refine lS ?_ GE388.out|refine lS ?_ GE394.out|refine lS ?_ GE403.out|refine lS ?_ GE412.out)|exact HB.out)) hb)
               clear HO_373000
               clear BK369
               clear BK372
               clear BK388
               clear BK394
               clear BK403
               clear BK412
               clear HB
               have HO_373000:=n0_
               have HO436:=n9_
               have BK369:=n10_
               have BK372:=n11_
               have BK388:=n12_
               have BK394:=n13_
               have BK403:=n14_
               have BK412:=n15_
               have HB:=n16_
               clear n0_ n9_ n10_ n11_ n12_ n13_ n14_ n15_ n16_
               (try clear hb)
               (try clear hb2)
               (try clear hk)
               (try clear hi)
               (try clear ho0)
               refine hK.out _ _ ⟨(blk_cell BK372.out 0).trans rfl,(blk_cell BK372.out 1).trans rfl,(blk_cell BK369.out 0).trans rfl,(blk_cell BK369.out 1).trans rfl⟩ (fun hHeld=>?_)
               clear hK K
               refine norm_ (a':=?_) ?_ ?_
               rotate_left
               ·show Act.put _ (some 119) _ = _
                simp only [Act.put,sT,sZ,sS,i64_w,i32_w]
                rfl
               refine one_ (i:=22) (N:=some 122) #[τ,τ,τ,τ,τ,τ,τ,τ,τ,τ,τ,τ,τ,τ,τ,τ,τ,τ,τ,τ,τ,τ,τ,φ,φ,φ,φ,φ,φ,φ,φ,φ,φ,φ,φ,φ,φ,φ,φ,φ,φ] rfl rfl (one_of HT_.out (by kernel_rfl)) (by decide) (fun K hK=>?_)
               refine goes_ Try.func19 (by kernel_rfl) rfl #[.agg #[.slice A0_0 l0_0.length c0_0,.int .i64 a0_1],.int .i64 a2] (by rfl) rfl rfl (by (try simp only [List.map_toArray,List.map_cons,List.map_nil]);first|done|rfl|(simp only [List.length_drop,List.length_take];rfl)) ?_
               with_reducible refine (drawbridgeref23_Swap.calls kj36 (fun k_=>k_ < w.heap.size) _ _ l0_0 a0_1 a2 t438 t441 _ ?side1 A183.out).mono ?_
               (case side1=>exact Kd.V_mk HC0_0.out (Kd.F_below (Kd.C_F (Kd.heap_slice 5 (Kd.heap_int .u8)) HR0_0.out) (by repeat (first|(with_reducible first|exact HB.out|apply lA|apply lN|apply lD|refine lS ?_ GE369.out|refine lS ?_ GE372.out|refine lS ?_ GE388.out|refine lS ?_ GE394.out|refine lS ?_ GE403.out|refine lS ?_ GE412.out)|exact HB.out))))
               rintro e w204 ⟨v439,rfl,ho0,hb⟩
               refine ⟨_,rfl,?_⟩
               have n0_:=mK (Kd.S_below (by (with_reducible repeat (first|apply Kd.S_alloc|apply Kd.S_drewN|apply Kd.S_drew));exact HO_373000.out) hb)
               have n9_:=mK (Kd.V_below (by (with_reducible repeat (first|apply vA|apply vN|apply vD));exact HO436.out) hb)
               have n10_:=mK (Kd.V_lower (Kd.V_mono (ok':= fun k_=>some k_ ≠ (.slice Ao41 x373000_2.length co41 : Value).ownBlock∧k_ ≠ gb369∧k_ ≠ gb372∧k_ ≠ gb388∧k_ ≠ gb394∧k_ ≠ gb403∧k_ ≠ gb412) ho0 (fun k_ hk_=>⟨Or.elim hk_ (fun hs_=>fun e_=>Nat.not_le.2 hs_ (Kd.S_base HO_373000.out k_ e_.symm)) (fun hn_=>(Kd.fresh' (Kd.S_lt (by (with_reducible repeat (first|apply Kd.S_alloc|apply Kd.S_drewN|apply Kd.S_drew));exact HO_373000.out)) k_ hn_)),Or.elim hk_ (fun hs_=>fun e_=>Nat.not_le.2 hs_ (by rw [e_];exact GW369.out)) (fun hn_=>(Kd.freshB (g:=gb369) (o:=.cells #[.slice A0_0 l0_0.length c0_0,.int .i64 a0_1] 24 (0,0)) (by (with_reducible repeat (first|apply bN|apply bD|apply bA));exact BK369.out) k_ hn_)),Or.elim hk_ (fun hs_=>fun e_=>Nat.not_le.2 hs_ (by rw [e_];exact GW372.out)) (fun hn_=>(Kd.freshB (g:=gb372) (o:=.cells #[.slice Ao41 x373000_2.length co41,.int .i64 a0_1] 24 (0,0)) (by (with_reducible repeat (first|apply bN|apply bD|apply bA));exact BK372.out) k_ hn_)),Or.elim hk_ (fun hs_=>fun e_=>Nat.not_le.2 hs_ (by rw [e_];exact GW388.out)) (fun hn_=>(Kd.freshB (g:=gb388) (o:=.cells #[.slice Ao44 t383.length co44,.int .i64 t386] 24 (0,0)) (by (with_reducible repeat (first|apply bN|apply bD|apply bA));exact BK388.out) k_ hn_)),Or.elim hk_ (fun hs_=>fun e_=>Nat.not_le.2 hs_ (by rw [e_];exact GW394.out)) (fun hn_=>(Kd.freshB (g:=gb394) (o:=.cells #[.slice Ao52 t389.length co52,.int .i64 t392] 24 (0,0)) (by (with_reducible repeat (first|apply bN|apply bD|apply bA));exact BK394.out) k_ hn_)),Or.elim hk_ (fun hs_=>fun e_=>Nat.not_le.2 hs_ (by rw [e_];exact GW403.out)) (fun hn_=>(Kd.freshB (g:=gb403) (o:=.cells #[.slice Ao61 t395.length co61,.int .i64 t398] 24 (0,0)) (by (with_reducible repeat (first|apply bN|apply bD|apply bA));exact BK403.out) k_ hn_)),Or.elim hk_ (fun hs_=>fun e_=>Nat.not_le.2 hs_ (by rw [e_];exact GW412.out)) (fun hn_=>(Kd.freshB (g:=gb412) (o:=.cells #[.slice Ao71 t404.length co71,.int .i64 t407] 24 (0,0)) (by (with_reducible repeat (first|apply bN|apply bD|apply bA));exact BK412.out) k_ hn_))⟩)) (below_size (by repeat (first|(with_reducible first|exact HB.out|apply lA|apply lN|apply lD|refine lS ?_ GE369.out|refine lS ?_ GE372.out|refine lS ?_ GE388.out|refine lS ?_ GE394.out|refine lS ?_ GE403.out|refine lS ?_ GE412.out)|exact HB.out))))
               have n11_:=mK (blk_below (g:=gb369) (o:=.cells #[.slice A0_0 l0_0.length c0_0,.int .i64 a0_1] 24 (0,0)) (by (with_reducible repeat (first|apply bN|apply bD|apply bA));exact BK369.out) hb)
               have n12_:=mK (blk_below (g:=gb372) (o:=.cells #[.slice Ao41 x373000_2.length co41,.int .i64 a0_1] 24 (0,0)) (by (with_reducible repeat (first|apply bN|apply bD|apply bA));exact BK372.out) hb)
               have n17_:=mK (below_step (by repeat (first|(with_reducible first|exact HB.out|apply lA|apply lN|apply lD|refine lS ?_ GE369.out|refine lS ?_ GE372.out|refine lS ?_ GE388.out|refine lS ?_ GE394.out|refine lS ?_ GE403.out|refine lS ?_ GE412.out)|exact HB.out)) hb)
               clear HO_373000
               clear HO436
               clear BK369
               clear BK372
               clear HB
               have HO_373000:=n0_
               have HO436:=n9_
               have HO440:=n10_
               have BK369:=n11_
               have BK372:=n12_
               have HB:=n17_
               clear n0_ n9_ n10_ n11_ n12_ n17_
               (try clear hb)
               (try clear hb2)
               (try clear hk)
               (try clear hi)
               (try clear ho0)
               obtain ⟨Ao205,co205,eo205⟩:=Kd.V_slice HO436.out
               (first|subst eo205|(injection eo205 with f1_ f2_ f3_;have f4_:=f1_.symm;have f5_:=f3_.symm;clear f1_ f2_ f3_;subst f4_;subst f5_))
               obtain ⟨Ao206,co206,eo206⟩:=Kd.V_slice HO440.out
               (first|subst eo206|(injection eo206 with f1_ f2_ f3_;have f4_:=f1_.symm;have f5_:=f3_.symm;clear f1_ f2_ f3_;subst f4_;subst f5_))
               refine hK.out _ _ ⟨(blk_cell BK372.out 0).trans rfl,(blk_cell BK372.out 1).trans rfl,(blk_cell BK369.out 0).trans rfl,(blk_cell BK369.out 1).trans rfl⟩ (fun hHeld=>?_)
               clear hK K
               refine norm_ (a':=?_) ?_ ?_
               rotate_left
               ·show Act.put _ (some 122) _ = _
                simp only [Act.put,sT,sZ,sS,i64_w,i32_w]
                rfl
               refine one_ (i:=23) (N:=some 123) #[τ,τ,τ,τ,τ,τ,τ,τ,τ,τ,τ,τ,τ,τ,τ,τ,τ,τ,τ,τ,τ,τ,τ,τ,φ,φ,φ,φ,φ,φ,φ,φ,φ,φ,φ,φ,φ,φ,φ,φ,φ] rfl rfl (one_of HT_.out (by kernel_rfl)) (by decide) (fun K hK=>?_)
               refine goes_ Try.func12 (by kernel_rfl) rfl #[.agg #[.slice Ao205 t434.length co205,.int .i64 t437],.agg #[.slice Ao206 t438.length co206,.int .i64 t441]] (by rfl) rfl rfl (by (try simp only [List.map_toArray,List.map_cons,List.map_nil]);first|done|rfl|(simp only [List.length_drop,List.length_take];rfl)) ?_
               with_reducible refine (drawbridgeref23_Same.calls kj36 _ _ t434 t437 _ _ t438 t441 true _ ?side1 ?side2 ?side3 ?side4 A184.out).mono ?_
               (case side1=>repeat (first|exact (Kd.V_reads' HO436.out).2.2|(with_reducible refine Kd.C_alloc ?_ _)|(with_reducible refine Kd.C_drewN ?_ _)|(with_reducible refine Kd.C_drew ?_)))
               (case side2=>exact (Kd.V_reads' HO436.out).2.1)
               (case side3=>repeat (first|exact (Kd.V_reads' HO440.out).2.2|(with_reducible refine Kd.C_alloc ?_ _)|(with_reducible refine Kd.C_drewN ?_ _)|(with_reducible refine Kd.C_drew ?_)))
               (case side4=>exact (Kd.V_reads' HO440.out).2.1)
               rintro e w207 ⟨rfl,hb⟩
               refine ⟨_,rfl,?_⟩
               have n0_:=mK (Kd.S_below (by (with_reducible repeat (first|apply Kd.S_alloc|apply Kd.S_drewN|apply Kd.S_drew));exact HO_373000.out) hb)
               have n11_:=mK (blk_below (g:=gb369) (o:=.cells #[.slice A0_0 l0_0.length c0_0,.int .i64 a0_1] 24 (0,0)) (by (with_reducible repeat (first|apply bN|apply bD|apply bA));exact BK369.out) hb)
               have n12_:=mK (blk_below (g:=gb372) (o:=.cells #[.slice Ao41 x373000_2.length co41,.int .i64 a0_1] 24 (0,0)) (by (with_reducible repeat (first|apply bN|apply bD|apply bA));exact BK372.out) hb)
               have n17_:=mK (below_step (by repeat (first|(with_reducible first|exact HB.out|apply lA|apply lN|apply lD|refine lS ?_ GE369.out|refine lS ?_ GE372.out|refine lS ?_ GE388.out|refine lS ?_ GE394.out|refine lS ?_ GE403.out|refine lS ?_ GE412.out)|exact HB.out)) hb)
               clear HO_373000
               clear BK369
               clear BK372
               clear HB
               have HO_373000:=n0_
               have BK369:=n11_
               have BK372:=n12_
               have HB:=n17_
               clear n0_ n11_ n12_ n17_
               (try clear hb)
               (try clear hb2)
               (try clear hk)
               (try clear hi)
               refine hK.out _ _ ⟨(blk_cell BK372.out 0).trans rfl,(blk_cell BK372.out 1).trans rfl,(blk_cell BK369.out 0).trans rfl,(blk_cell BK369.out 1).trans rfl⟩ (fun hHeld=>?_)
               clear hK K
               refine norm_ (a':=?_) ?_ ?_
               rotate_left
               ·show Act.put _ (some 123) _ = _
                simp only [Act.put,sT,sZ,sS,i64_w,i32_w]
                rfl
               refine pure_ (i:=24) (N:=some 124) (v:=?_) (a':=?_) #[τ,τ,τ,τ,τ,τ,τ,τ,τ,τ,τ,τ,τ,τ,τ,τ,τ,τ,τ,τ,τ,τ,τ,τ,τ,φ,φ,φ,φ,φ,φ,φ,φ,φ,φ,φ,φ,φ,φ,φ,φ] rfl rfl (any_of HT_.out (by kernel_rfl)) (fun _ _ _ h=>h) (Or.inl ⟨by rfl,?_⟩) ?_ ?_
               rotate_left
               ·intro w'
                go_simp
                with_reducible rfl
               rotate_left
               ·simp only [Act.put,sT,sZ,sS,i64_w,i32_w]
                rfl
               refine pure_ (i:=25) (N:=some 125) (v:=?_) (a':=?_) #[τ,τ,τ,τ,τ,τ,τ,τ,τ,τ,τ,τ,τ,τ,τ,τ,τ,τ,τ,τ,τ,τ,τ,τ,τ,τ,φ,φ,φ,φ,φ,φ,φ,φ,φ,φ,φ,φ,φ,φ,φ] rfl rfl (any_of HT_.out (by kernel_rfl)) (fun _ _ _ h=>h) (Or.inl ⟨by rfl,?_⟩) ?_ ?_
               rotate_left
               ·intro w'
                go_simp
                with_reducible rfl
               rotate_left
               ·simp only [Act.put,sT,sZ,sS,i64_w,i32_w]
                rfl
               refine take_ (i:=26) (N:=some 126) (v:=?_) (a':=?_) #[τ,τ,τ,τ,τ,τ,τ,τ,τ,τ,τ,τ,τ,τ,τ,τ,τ,τ,τ,τ,τ,τ,τ,τ,τ,τ,τ,φ,φ,φ,φ,φ,φ,φ,φ,φ,φ,φ,φ,φ,φ] rfl rfl (take_ofW HT_.out HW_.out (by kernel_rfl)) (fun _ _ _ h=>h) (Or.inl ⟨by rfl,?_⟩) hHeld ?_ ?_
               rotate_left
               ·rintro w' ⟨s0,s1,s2,s3⟩
                go_simp
                with_reducible rfl
               rotate_left
               ·simp only [Act.put,sT,sZ,sS,i64_w,i32_w]
                rfl
               refine take_ (i:=28) (N:=some 128) (v:=?_) (a':=?_) #[τ,τ,τ,τ,τ,τ,τ,τ,τ,τ,τ,τ,τ,τ,τ,τ,τ,τ,τ,τ,τ,τ,τ,τ,τ,τ,τ,φ,τ,φ,φ,φ,φ,φ,φ,φ,φ,φ,φ,φ,φ] rfl rfl (take_ofW HT_.out HW_.out (by kernel_rfl)) (fun _ _ _ h=>h) (Or.inl ⟨by rfl,?_⟩) hHeld ?_ ?_
               rotate_left
               ·rintro w' ⟨s0,s1,s2,s3⟩
                go_simp
                with_reducible rfl
               rotate_left
               ·simp only [Act.put,sT,sZ,sS,i64_w,i32_w]
                rfl
               refine one_ (i:=27) (N:=some 127) #[τ,τ,τ,τ,τ,τ,τ,τ,τ,τ,τ,τ,τ,τ,τ,τ,τ,τ,τ,τ,τ,τ,τ,τ,τ,τ,τ,τ,τ,φ,φ,φ,φ,φ,φ,φ,φ,φ,φ,φ,φ] rfl rfl (one_of HT_.out (by kernel_rfl)) (by decide) (fun K hK=>?_)
               refine goes_ Try.func20 (by kernel_rfl) rfl #[.agg #[.slice Ao41 x373000_2.length co41,.int .i64 a0_1]] (by rfl) rfl rfl (by (try simp only [List.map_toArray,List.map_cons,List.map_nil]);first|done|rfl|(simp only [List.length_drop,List.length_take];rfl)) ?_
               with_reducible refine (link_Check.calls _ _ x373000_2 a0_1 t443 _ ?side1 ?side2 A186.out).mono ?_
               (case side1=>repeat (first|exact (Kd.S_reads' HO_373000.out).2.2|(with_reducible refine Kd.C_alloc ?_ _)|(with_reducible refine Kd.C_drewN ?_ _)|(with_reducible refine Kd.C_drew ?_)))
               (case side2=>exact (Kd.S_reads' HO_373000.out).2.1)
               rintro e w208 ⟨rfl,hb⟩
               refine ⟨_,rfl,?_⟩
               have n0_:=mK (Kd.S_below (by (with_reducible repeat (first|apply Kd.S_alloc|apply Kd.S_drewN|apply Kd.S_drew));exact HO_373000.out) hb)
               have n11_:=mK (blk_below (g:=gb369) (o:=.cells #[.slice A0_0 l0_0.length c0_0,.int .i64 a0_1] 24 (0,0)) (by (with_reducible repeat (first|apply bN|apply bD|apply bA));exact BK369.out) hb)
               have n12_:=mK (blk_below (g:=gb372) (o:=.cells #[.slice Ao41 x373000_2.length co41,.int .i64 a0_1] 24 (0,0)) (by (with_reducible repeat (first|apply bN|apply bD|apply bA));exact BK372.out) hb)
               have n17_:=mK (below_step (by repeat (first|(with_reducible first|exact HB.out|apply lA|apply lN|apply lD|refine lS ?_ GE369.out|refine lS ?_ GE372.out|refine lS ?_ GE388.out|refine lS ?_ GE394.out|refine lS ?_ GE403.out|refine lS ?_ GE412.out)|exact HB.out)) hb)
               clear HO_373000
               clear BK369
               clear BK372
               clear HB
               have HO_373000:=n0_
               have BK369:=n11_
               have BK372:=n12_
               have HB:=n17_
               clear n0_ n11_ n12_ n17_
               (try clear hb)
               (try clear hb2)
               (try clear hk)
               (try clear hi)
               refine hK.out _ _ ⟨(blk_cell BK372.out 0).trans rfl,(blk_cell BK372.out 1).trans rfl,(blk_cell BK369.out 0).trans rfl,(blk_cell BK369.out 1).trans rfl⟩ (fun hHeld=>?_)
               clear hK K
               refine norm_ (a':=?_) ?_ ?_
               rotate_left
               ·show Act.put _ (some 127) _ = _
                simp only [Act.put,sT,sZ,sS,i64_w,i32_w]
                rfl
               refine one_ (i:=29) (N:=some 129) #[τ,τ,τ,τ,τ,τ,τ,τ,τ,τ,τ,τ,τ,τ,τ,τ,τ,τ,τ,τ,τ,τ,τ,τ,τ,τ,τ,τ,τ,τ,φ,φ,φ,φ,φ,φ,φ,φ,φ,φ,φ] rfl rfl (one_of HT_.out (by kernel_rfl)) (by decide) (fun K hK=>?_)
               refine goes_ Try.func21 (by kernel_rfl) rfl #[.agg #[.slice A0_0 l0_0.length c0_0,.int .i64 a0_1]] (by rfl) rfl rfl (by (try simp only [List.map_toArray,List.map_cons,List.map_nil]);first|done|rfl|(simp only [List.length_drop,List.length_take];rfl)) ?_
               with_reducible refine (drawbridgeref23_Check.calls kj36 _ _ l0_0 a0_1 t444 _ ?side1 ?side2 A187.out).mono ?_
               (case side1=>repeat (first|exact (Kd.C_below HR0_0.out HB.out)|(with_reducible refine Kd.C_alloc ?_ _)|(with_reducible refine Kd.C_drewN ?_ _)|(with_reducible refine Kd.C_drew ?_)))
               (case side2=>exact HC0_0.out)
               rintro e w209 ⟨rfl,hb⟩
               refine ⟨_,rfl,?_⟩
               have n0_:=mK (Kd.S_below (by (with_reducible repeat (first|apply Kd.S_alloc|apply Kd.S_drewN|apply Kd.S_drew));exact HO_373000.out) hb)
               have n11_:=mK (blk_below (g:=gb369) (o:=.cells #[.slice A0_0 l0_0.length c0_0,.int .i64 a0_1] 24 (0,0)) (by (with_reducible repeat (first|apply bN|apply bD|apply bA));exact BK369.out) hb)
               have n12_:=mK (blk_below (g:=gb372) (o:=.cells #[.slice Ao41 x373000_2.length co41,.int .i64 a0_1] 24 (0,0)) (by (with_reducible repeat (first|apply bN|apply bD|apply bA));exact BK372.out) hb)
               have n17_:=mK (below_step (by repeat (first|(with_reducible first|exact HB.out|apply lA|apply lN|apply lD|refine lS ?_ GE369.out|refine lS ?_ GE372.out|refine lS ?_ GE388.out|refine lS ?_ GE394.out|refine lS ?_ GE403.out|refine lS ?_ GE412.out)|exact HB.out)) hb)
               clear HO_373000
               clear BK369
               clear BK372
               clear HB
               have HO_373000:=n0_
               have BK369:=n11_
               have BK372:=n12_
               have HB:=n17_
               clear n0_ n11_ n12_ n17_
               (try clear hb)
               (try clear hb2)
               (try clear hk)
               (try clear hi)
               refine hK.out _ _ ⟨(blk_cell BK372.out 0).trans rfl,(blk_cell BK372.out 1).trans rfl,(blk_cell BK369.out 0).trans rfl,(blk_cell BK369.out 1).trans rfl⟩ (fun hHeld=>?_)
               clear hK K
               refine norm_ (a':=?_) ?_ ?_
               rotate_left
               ·show Act.put _ (some 129) _ = _
                simp only [Act.put,sT,sZ,sS,i64_w,i32_w]
                rfl
               refine pure_ (i:=30) (N:=some 130) (v:=?_) (a':=?_) #[τ,τ,τ,τ,τ,τ,τ,τ,τ,τ,τ,τ,τ,τ,τ,τ,τ,τ,τ,τ,τ,τ,τ,τ,τ,τ,τ,τ,τ,τ,τ,φ,φ,φ,φ,φ,φ,φ,φ,φ,φ] rfl rfl (any_of HT_.out (by kernel_rfl)) (fun _ _ _ h=>h) (Or.inl ⟨by rfl,?_⟩) ?_ ?_
               rotate_left
               ·intro w'
                go_simp
                with_reducible rfl
               rotate_left
               ·simp only [Act.put,sT,sZ,sS,i64_w,i32_w]
                rfl
               refine pure_ (i:=31) (N:=some 131) (v:=?_) (a':=?_) #[τ,τ,τ,τ,τ,τ,τ,τ,τ,τ,τ,τ,τ,τ,τ,τ,τ,τ,τ,τ,τ,τ,τ,τ,τ,τ,τ,τ,τ,τ,τ,τ,φ,φ,φ,φ,φ,φ,φ,φ,φ] rfl rfl (any_of HT_.out (by kernel_rfl)) (fun _ _ _ h=>h) (Or.inl ⟨by rfl,?_⟩) ?_ ?_
               rotate_left
               ·intro w'
                go_simp
                with_reducible rfl
               rotate_left
               ·simp only [Act.put,sT,sZ,sS,i64_w,i32_w]
                rfl
               refine pure_ (i:=32) (N:=some 132) (v:=?_) (a':=?_) #[τ,τ,τ,τ,τ,τ,τ,τ,τ,τ,τ,τ,τ,τ,τ,τ,τ,τ,τ,τ,τ,τ,τ,τ,τ,τ,τ,τ,τ,τ,τ,τ,τ,φ,φ,φ,φ,φ,φ,φ,φ] rfl rfl (any_of HT_.out (by kernel_rfl)) (fun _ _ _ h=>h) (Or.inl ⟨by rfl,?_⟩) ?_ ?_
               rotate_left
               ·intro w'
                go_simp
                with_reducible rfl
               rotate_left
               ·simp only [Act.put,sT,sZ,sS,i64_w,i32_w]
                rfl
               refine take_ (i:=33) (N:=some 133) (v:=?_) (a':=?_) #[τ,τ,τ,τ,τ,τ,τ,τ,τ,τ,τ,τ,τ,τ,τ,τ,τ,τ,τ,τ,τ,τ,τ,τ,τ,τ,τ,τ,τ,τ,τ,τ,τ,τ,φ,φ,φ,φ,φ,φ,φ] rfl rfl (take_ofW HT_.out HW_.out (by kernel_rfl)) (fun _ _ _ h=>h) (Or.inl ⟨by rfl,?_⟩) hHeld ?_ ?_
               rotate_left
               ·rintro w' ⟨s0,s1,s2,s3⟩
                go_simp
                with_reducible rfl
               rotate_left
               ·simp only [Act.put,sT,sZ,sS,i64_w,i32_w]
                rfl
               refine take_ (i:=34) (N:=some 134) (v:=?_) (a':=?_) #[τ,τ,τ,τ,τ,τ,τ,τ,τ,τ,τ,τ,τ,τ,τ,τ,τ,τ,τ,τ,τ,τ,τ,τ,τ,τ,τ,τ,τ,τ,τ,τ,τ,τ,τ,φ,φ,φ,φ,φ,φ] rfl rfl (take_ofW HT_.out HW_.out (by kernel_rfl)) (fun _ _ _ h=>h) (Or.inl ⟨by rfl,?_⟩) hHeld ?_ ?_
               rotate_left
               ·rintro w' ⟨s0,s1,s2,s3⟩
                go_simp
                with_reducible rfl
               rotate_left
               ·simp only [Act.put,sT,sZ,sS,i64_w,i32_w]
                rfl
               refine one_ (i:=35) (N:=some 135) #[τ,τ,τ,τ,τ,τ,τ,τ,τ,τ,τ,τ,τ,τ,τ,τ,τ,τ,τ,τ,τ,τ,τ,τ,τ,τ,τ,τ,τ,τ,τ,τ,τ,τ,τ,τ,φ,φ,φ,φ,φ] rfl rfl (one_of HT_.out (by kernel_rfl)) (by decide) (fun K hK=>?_)
               refine goes_ Try.func12 (by kernel_rfl) rfl #[.agg #[.slice Ao41 x373000_2.length co41,.int .i64 a0_1],.agg #[.slice A0_0 l0_0.length c0_0,.int .i64 a0_1]] (by rfl) rfl rfl (by (try simp only [List.map_toArray,List.map_cons,List.map_nil]);first|done|rfl|(simp only [List.length_drop,List.length_take];rfl)) ?_
               with_reducible refine (drawbridgeref23_Same.calls kj36 _ _ x373000_2 a0_1 _ _ l0_0 a0_1 true _ ?side1 ?side2 ?side3 ?side4 A189.out).mono ?_
               (case side1=>repeat (first|exact (Kd.S_reads' HO_373000.out).2.2|(with_reducible refine Kd.C_alloc ?_ _)|(with_reducible refine Kd.C_drewN ?_ _)|(with_reducible refine Kd.C_drew ?_)))
               (case side2=>exact (Kd.S_reads' HO_373000.out).2.1)
               (case side3=>repeat (first|exact (Kd.C_below HR0_0.out HB.out)|(with_reducible refine Kd.C_alloc ?_ _)|(with_reducible refine Kd.C_drewN ?_ _)|(with_reducible refine Kd.C_drew ?_)))
               (case side4=>exact HC0_0.out)
               rintro e w210 ⟨rfl,hb⟩
               refine ⟨_,rfl,?_⟩
               have n11_:=mK (blk_below (g:=gb369) (o:=.cells #[.slice A0_0 l0_0.length c0_0,.int .i64 a0_1] 24 (0,0)) (by (with_reducible repeat (first|apply bN|apply bD|apply bA));exact BK369.out) hb)
               have n12_:=mK (blk_below (g:=gb372) (o:=.cells #[.slice Ao41 x373000_2.length co41,.int .i64 a0_1] 24 (0,0)) (by (with_reducible repeat (first|apply bN|apply bD|apply bA));exact BK372.out) hb)
               have n17_:=mK (below_step (by repeat (first|(with_reducible first|exact HB.out|apply lA|apply lN|apply lD|refine lS ?_ GE369.out|refine lS ?_ GE372.out|refine lS ?_ GE388.out|refine lS ?_ GE394.out|refine lS ?_ GE403.out|refine lS ?_ GE412.out)|exact HB.out)) hb)
               clear BK369
               clear BK372
               clear HB
               have BK369:=n11_
               have BK372:=n12_
               have HB:=n17_
               clear n11_ n12_ n17_
               (try clear hb)
               (try clear hb2)
               (try clear hk)
               (try clear hi)
               refine hK.out _ _ ⟨(blk_cell BK372.out 0).trans rfl,(blk_cell BK372.out 1).trans rfl,(blk_cell BK369.out 0).trans rfl,(blk_cell BK369.out 1).trans rfl⟩ (fun hHeld=>?_)
               clear hK K
               refine norm_ (a':=?_) ?_ ?_
               rotate_left
               ·show Act.put _ (some 135) _ = _
                simp only [Act.put,sT,sZ,sS,i64_w,i32_w]
                rfl
               refine pure_ (i:=36) (N:=some 136) (v:=?_) (a':=?_) #[τ,τ,τ,τ,τ,τ,τ,τ,τ,τ,τ,τ,τ,τ,τ,τ,τ,τ,τ,τ,τ,τ,τ,τ,τ,τ,τ,τ,τ,τ,τ,τ,τ,τ,τ,τ,τ,φ,φ,φ,φ] rfl rfl (any_of HT_.out (by kernel_rfl)) (fun _ _ _ h=>h) (Or.inl ⟨by rfl,?_⟩) ?_ ?_
               rotate_left
               ·intro w'
                go_simp
                with_reducible rfl
               rotate_left
               ·simp only [Act.put,sT,sZ,sS,i64_w,i32_w]
                rfl
               refine pure_ (i:=37) (N:=some 137) (v:=?_) (a':=?_) #[τ,τ,τ,τ,τ,τ,τ,τ,τ,τ,τ,τ,τ,τ,τ,τ,τ,τ,τ,τ,τ,τ,τ,τ,τ,τ,τ,τ,τ,τ,τ,τ,τ,τ,τ,τ,τ,τ,φ,φ,φ] rfl rfl (any_of HT_.out (by kernel_rfl)) (fun _ _ _ h=>h) (Or.inl ⟨by rfl,?_⟩) ?_ ?_
               rotate_left
               ·intro w'
                go_simp
                with_reducible rfl
               rotate_left
               ·simp only [Act.put,sT,sZ,sS,i64_w,i32_w]
                rfl
               refine one_ (i:=38) (N:=some 138) #[τ,τ,τ,τ,τ,τ,τ,τ,τ,τ,τ,τ,τ,τ,τ,τ,τ,τ,τ,τ,τ,τ,τ,τ,τ,τ,τ,τ,τ,τ,τ,τ,τ,τ,τ,τ,τ,τ,τ,φ,φ] rfl rfl (one_of HT_.out (by kernel_rfl)) (by decide) (fun K hK=>?_)
               refine goes_ Try.func7 (by kernel_rfl) rfl #[] (by rfl) rfl rfl (by (try simp only [List.map_toArray,List.map_cons,List.map_nil]);first|done|rfl|(simp only [List.length_drop,List.length_take];rfl)) ?_
               with_reducible refine (drawbridgelaw23_heads.calls kj36  t446 _ (by first|exact HTr_.out|assumption) A191.out).mono ?_
               rintro e w211 ⟨rfl,hb⟩
               refine ⟨_,rfl,?_⟩
               have n11_:=mK (blk_below (g:=gb369) (o:=.cells #[.slice A0_0 l0_0.length c0_0,.int .i64 a0_1] 24 (0,0)) (by (with_reducible repeat (first|apply bN|apply bD|apply bA));exact BK369.out) hb)
               have n12_:=mK (blk_below (g:=gb372) (o:=.cells #[.slice Ao41 x373000_2.length co41,.int .i64 a0_1] 24 (0,0)) (by (with_reducible repeat (first|apply bN|apply bD|apply bA));exact BK372.out) hb)
               have n17_:=mK (below_step (by repeat (first|(with_reducible first|exact HB.out|apply lA|apply lN|apply lD|refine lS ?_ GE369.out|refine lS ?_ GE372.out|refine lS ?_ GE388.out|refine lS ?_ GE394.out|refine lS ?_ GE403.out|refine lS ?_ GE412.out)|exact HB.out)) hb)
               clear BK369
               clear BK372
               clear HB
               have BK369:=n11_
               have BK372:=n12_
               have HB:=n17_
               clear n11_ n12_ n17_
               (try clear hb)
               (try clear hb2)
               (try clear hk)
               (try clear hi)
               refine hK.out _ _ ⟨(blk_cell BK372.out 0).trans rfl,(blk_cell BK372.out 1).trans rfl,(blk_cell BK369.out 0).trans rfl,(blk_cell BK369.out 1).trans rfl⟩ (fun hHeld=>?_)
               clear hK K
               refine norm_ (a':=?_) ?_ ?_
               rotate_left
               ·show Act.put _ (some 138) _ = _
                simp only [Act.put,sT,sZ,sS,i64_w,i32_w]
                rfl
               refine pure_ (i:=39) (N:=some 139) (v:=?_) (a':=?_) #[τ,τ,τ,τ,τ,τ,τ,τ,τ,τ,τ,τ,τ,τ,τ,τ,τ,τ,τ,τ,τ,τ,τ,τ,τ,τ,τ,τ,τ,τ,τ,τ,τ,τ,τ,τ,τ,τ,τ,τ,φ] rfl rfl (any_of HT_.out (by kernel_rfl)) (fun _ _ _ h=>h) (Or.inl ⟨by rfl,?_⟩) ?_ ?_
               rotate_left
               ·intro w'
                go_simp
                with_reducible rfl
               rotate_left
               ·simp only [Act.put,sT,sZ,sS,i64_w,i32_w]
                rfl
               refine pure_ (i:=40) (N:=some 6) (v:=?_) (a':=?_) #[τ,τ,τ,τ,τ,τ,τ,τ,τ,τ,τ,τ,τ,τ,τ,τ,τ,τ,τ,τ,τ,τ,τ,τ,τ,τ,τ,τ,τ,τ,τ,τ,τ,τ,τ,τ,τ,τ,τ,τ,τ] rfl rfl (any_of HT_.out (by kernel_rfl)) (fun _ _ _ h=>h) (Or.inl ⟨by rfl,?_⟩) ?_ ?_
               rotate_left
               ·intro w'
                go_simp
                with_reducible rfl
               rotate_left
               ·simp only [Act.put,sT,sZ,sS,i64_w,i32_w]
                rfl
               refine done_ (done_of HT_.out (by kernel_rfl)) ?_
               try go_wp2
               go_ret
               exact ⟨by first|rfl|(simp [errW_none,errW_some] <;> rfl)|(simp [*,errW_none,errW_some] <;> rfl),by repeat (first|(with_reducible first|exact HB.out|apply lA|apply lN|apply lD|refine lS ?_ GE369.out|refine lS ?_ GE372.out|refine lS ?_ GE388.out|refine lS ?_ GE394.out|refine lS ?_ GE403.out|refine lS ?_ GE412.out)|exact HB.out)⟩
              ·replace c190:=Bool.eq_false_iff.mpr c190
               subst c190
               have H1 : (some false) = some r:= by rw [if_neg (show ¬ (false = true) by decide)] at H;exact H
               clear H
               have H:=H1
               clear H1
               exact absurd (H.trans (congrArg some HTr_.out)) (by simp)
             ·rw [if_neg c188] at H
              have c188b0 : (t443 == t444) = false:= by simpa using c188
              (try (have c188b1 : decide (t443 = t444) = false:= by simpa using c188))
              (try (have c188b2 : (t443 == t444) = false:= by simpa using c188))
              (try (have c188b3 : ¬ (t443 = t444):= by simpa using c188))
              clear c188
              exact absurd (H.trans (congrArg some HTr_.out)) (by simp)
            ·replace c185:=Bool.eq_false_iff.mpr c185
             subst c185
             have H1 : (some false) = some r:= by rw [if_neg (show ¬ (false = true) by decide)] at H;exact H
             clear H
             have H:=H1
             clear H1
             exact absurd (H.trans (congrArg some HTr_.out)) (by simp)
           ·replace c181:=Bool.eq_false_iff.mpr c181
            subst c181
            have H1 : (some false) = some r:= by rw [if_neg (show ¬ (false = true) by decide)] at H;exact H
            clear H
            have H:=H1
            clear H1
            exact absurd (H.trans (congrArg some HTr_.out)) (by simp)
          ·replace c177:=Bool.eq_false_iff.mpr c177
           subst c177
           have H1 : (some false) = some r:= by rw [if_neg (show ¬ (false = true) by decide)] at H;exact H
           clear H
           have H:=H1
           clear H1
           exact absurd (H.trans (congrArg some HTr_.out)) (by simp)

end Go.Proofs.Ythfokiabneflpaa.P
