/- Contracts of functions of the seat, written by a program of this session (with the kit's print) for the laws of this claim; no condition beside what each states. -/
import Derived.Test.YthfokiabneflpaaPx0
namespace Go.Proofs.Ythfokiabneflpaa.P
open Go.Proofs.Ythfokiabneflpaa.Aux Go.RowKit Go.Proofs.YthfokiabneflpaaW.PrintWords Go.Proofs.YthfokiabneflpaaW.PrintLast Go.Proofs.YthfokiabneflpaaW.PrintMore
attribute [local go_sem] max2_int min2_int max_two min_two max_three min_three max_four min_four   -- for this text's walks alone
set_option linter.unusedVariables false
set_option linter.unusedSimpArgs false

/-! ### drawbridgeref23_fits: function 26 -/
def drawbridgeref23_fits.f (l0 : List Int) : Option (Bool) := if (l0.length : Int) ≥ 14 then (some (decide ((l0.length : Int) ≤ 1514))) else (some false)
set_option maxHeartbeats 8000000 in
set_option maxRecDepth 100000 in
theorem drawbridgeref23_fits.calls (A0 : Option Addr) (c0 : Nat) (l0 : List Int) (r : Bool) (w : World) (hr0 : Kd.C (Kd.int .u8) w A0 l0.length l0) (hc0 : l0.length ≤ c0) (h : drawbridgeref23_fits.f l0 = some r) :
  Calls Try.prog 26 #[.slice A0 l0.length c0] w fun e w' => e = .returned (.bool r) ∧ Drawn0 w w' := by
 have HR0:=mK hr0
 have HC0:=mK hc0
 clear hr0 hc0
 have H : (if (l0.length : Int) ≥ 14 then (some (decide ((l0.length : Int) ≤ 1514))) else (some false)) = some r:=h
 clear h
 by_cases c2 : (l0.length : Int) ≥ 14
 ·rw [if_pos c2] at H
  have c2b0 : decide (14 ≤ (l0.length : Int)) = true:=decide_eq_true c2
  have c2b1 : decide (14 ≤ l0.length) = true:=decide_eq_true (by omega)
  clear c2
  obtain rfl:=Option.some.inj H
  go_enter Try.func26,Try.ntmps26
  go_wp2
  go_ret
  exact ⟨by first|rfl|(simp;done)|(simp [*];done),by repeat (first|exact Drawn0.refl _|apply Drawn0.step)⟩
 ·rw [if_neg c2] at H
  have c2b0 : decide (14 ≤ (l0.length : Int)) = false:=decide_eq_false c2
  have c2b1 : decide (14 ≤ l0.length) = false:=decide_eq_false (by omega)
  clear c2
  obtain rfl:=Option.some.inj H
  go_enter Try.func26,Try.ntmps26
  go_wp2
  go_ret
  exact ⟨by first|rfl|(simp;done)|(simp [*];done),by repeat (first|exact Drawn0.refl _|apply Drawn0.step)⟩

/-! ### drawbridgeref23_Check: function 21 -/
mutual
def drawbridgeref23_Check.j0 : Nat → Bool → List (List Int) → Int → Option (Bool)
 | 0, _, _, _ => none
 | k + 1, x17, x274000, x274001 => if x17 = true then (some false) else (drawbridgeref23_Check.l0 k 0 x274000 x274001)
def drawbridgeref23_Check.l0 : Nat → Int → List (List Int) → Int → Option (Bool)
 | 0, _, _, _ => none
 | k + 1, x3, x274000, x274001 => if x3 < (x274000.length : Int) then (if 0 ≤ x3 then ((drawbridgeref23_fits.f (rd_L1 x274000 x3)).bind fun t275 => (if t275 = true then (drawbridgeref23_Check.l0 k (wrap64 (x3 + 1)) x274000 x274001) else (some false))) else (none)) else (some true)
end
def drawbridgeref23_Check.f (k : Nat) (l0_0 : List (List Int)) (a0_1 : Int) : Option (Bool) := if (l0_0.length : Int) > 32 then (drawbridgeref23_Check.j0 k true l0_0 a0_1) else (if a0_1 < 0 then (drawbridgeref23_Check.j0 k true l0_0 a0_1) else (drawbridgeref23_Check.j0 k (decide (a0_1 > 2147483648)) l0_0 a0_1))
theorem drawbridgeref23_Check.mono_l : ∀ k, (∀ y0 y1 y2, LeO (drawbridgeref23_Check.j0 k y0 y1 y2) (drawbridgeref23_Check.j0 (k + 1) y0 y1 y2)) ∧ (∀ y0 y1 y2, LeO (drawbridgeref23_Check.l0 k y0 y1 y2) (drawbridgeref23_Check.l0 (k + 1) y0 y1 y2))
 | 0 => ⟨fun _ _ _ r h => by simp [drawbridgeref23_Check.j0] at h, fun _ _ _ r h => by simp [drawbridgeref23_Check.l0] at h⟩
 | k + 1 => by
  obtain ⟨ih0, ih1⟩ := drawbridgeref23_Check.mono_l k
  refine ⟨?_, ?_⟩
  ·intro y0 y1 y2
   unfold drawbridgeref23_Check.j0
   repeat' first
   | (with_reducible exact ih0 _ _ _)
   | (with_reducible exact ih1 _ _ _)
   | (with_reducible exact LeO.refl _)
   | (with_reducible exact LeO.none _)
   | (with_reducible refine LeO.ite ?_ ?_)
   | (with_reducible refine LeO.bind ?_ (fun _ => ?_))
   | exact ih0 _ _ _
   | exact ih1 _ _ _
   | exact LeO.none _
   | refine LeO.ite ?_ ?_
   | refine LeO.bind ?_ (fun _ => ?_)
  ·intro y0 y1 y2
   unfold drawbridgeref23_Check.l0
   repeat' first
   | (with_reducible exact ih0 _ _ _)
   | (with_reducible exact ih1 _ _ _)
   | (with_reducible exact LeO.refl _)
   | (with_reducible exact LeO.none _)
   | (with_reducible refine LeO.ite ?_ ?_)
   | (with_reducible refine LeO.bind ?_ (fun _ => ?_))
   | exact ih0 _ _ _
   | exact ih1 _ _ _
   | exact LeO.none _
   | refine LeO.ite ?_ ?_
   | refine LeO.bind ?_ (fun _ => ?_)
theorem drawbridgeref23_Check.mono : ∀ a0 a1 k, LeO (drawbridgeref23_Check.f k a0 a1) (drawbridgeref23_Check.f (k + 1) a0 a1) := by
 intro a0 a1 k
 obtain ⟨ih0, ih1⟩ := drawbridgeref23_Check.mono_l k
 unfold drawbridgeref23_Check.f
 repeat' first
   | (with_reducible exact ih0 _ _ _)
   | (with_reducible exact ih1 _ _ _)
   | (with_reducible exact LeO.refl _)
   | (with_reducible exact LeO.none _)
   | (with_reducible refine LeO.ite ?_ ?_)
   | (with_reducible refine LeO.bind ?_ (fun _ => ?_))
   | exact ih0 _ _ _
   | exact ih1 _ _ _
   | exact LeO.none _
   | refine LeO.ite ?_ ?_
   | refine LeO.bind ?_ (fun _ => ?_)
set_option maxHeartbeats 8000000 in
set_option maxRecDepth 100000 in
theorem drawbridgeref23_Check.calls (k : Nat) (A0_0 : Option Addr) (c0_0 : Nat) (l0_0 : List (List Int)) (a0_1 : Int) (r : Bool) (w : World) (hr0_0 : Kd.C (Kd.slice 5 (Kd.int .u8)) w A0_0 l0_0.length l0_0) (hc0_0 : l0_0.length ≤ c0_0) (h : drawbridgeref23_Check.f k l0_0 a0_1 = some r) :
  Calls Try.prog 21 #[.agg #[.slice A0_0 l0_0.length c0_0, .int .i64 a0_1]] w fun e w' => e = .returned (.bool r) ∧ Below w.heap.size w w' := by
 have hu24:=Try.underlying24
 have HR0_0:=mK hr0_0
 have HC0_0:=mK hc0_0
 clear hr0_0 hc0_0
 have HB:=mK (Below.refl w.heap.size w)
 have H : (if (l0_0.length : Int) > 32 then (drawbridgeref23_Check.j0 k true l0_0 a0_1) else (if a0_1 < 0 then (drawbridgeref23_Check.j0 k true l0_0 a0_1) else (drawbridgeref23_Check.j0 k (decide (a0_1 > 2147483648)) l0_0 a0_1))) = some r:=h
 clear h
 have HC2:=mK H
 clear H
 go_enter Try.func21,Try.ntmps21
 go_upto_region 1 with (first|((with_reducible refine gate_dst (N:=1) rfl ?_);refine box_event ?hg (N:=1) ?hd (cs:=#[.slice A0_0 l0_0.length c0_0,.int .i64 a0_1]) (t:=24) ?hr ?_;(case hd=>rfl);(case hg=>rfl);(case hr=>first|(go_simp;done)|(go_simp;rfl));intro gb273 hg w3 hbox hb;have n0_:=mK (below_step (by repeat (first|(with_reducible first|exact HB.out|apply lA|apply lN|apply lD)|exact HB.out)) hb);have n1_:=mK (hbox);have n3_:=mK ((by rw [hg];exact (below_size (by repeat (first|(with_reducible first|exact HB.out|apply lA|apply lN|apply lD)|exact HB.out))) : w.heap.size ≤ gb273));clear HB;have HB:=n0_;have BK273:=n1_;have GE273:=n3_;clear n0_ n1_ n3_;clear hb hbox hg))
 (try simp only [Act.put,sT,sZ,sS])
 go_cut [17] (fun v17 wc=>∃ (kq : Nat) (x17_1 : Bool),v17 = .bool x17_1∧Aside0 (drawbridgeref23_Check.j0 kq x17_1 l0_0 a0_1 = some r)∧Aside0 (kq ≤ k)∧Aside0 (wc.heap[gb273]? = some (.cells #[(.slice A0_0 l0_0.length c0_0),.int .i64 a0_1] 24 (0,0)))∧Aside0 (Below w.heap.size w wc))
 case first =>
  have H:=HC2.out
  clear HC2
  by_cases c4 : (l0_0.length : Int) > 32
  ·rw [if_pos c4] at H
   have c4b0 : decide (32 < (l0_0.length : Int)) = true:=decide_eq_true c4
   have c4b1 : decide (32 < l0_0.length) = true:=decide_eq_true (by omega)
   clear c4
   (first|rw [c4b0]|(simp only [i64_w,i32_w];rw [c4b0])|skip)
   have H':=mK H
   clear H
   have hcz5_0 : w3.cell? ⟨gb273,0,none⟩ = some (.slice A0_0 l0_0.length c0_0):=(blk_cell BK273.out 0).trans rfl
   have hcz5_1 : w3.cell? ⟨gb273,1,none⟩ = some (.int .i64 a0_1):=(blk_cell BK273.out 1).trans rfl
   have hfz5_0:=blk_frozen BK273.out 0
   have hfz5_1:=blk_frozen BK273.out 1
   go_wp2
   go_meet
   case rel=>exact ⟨_,(true),(by first|rfl|(simp;done)|(simp [*];done)),H',⟨by first|omega|exact Nat.le_refl _⟩,⟨by (with_reducible repeat (first|apply bN|apply bD|apply bA));exact BK273.out⟩,⟨by repeat (first|(with_reducible first|exact HB.out|apply lA|apply lN|apply lD|refine lS ?_ GE273.out)|exact HB.out)⟩⟩
  ·rw [if_neg c4] at H
   have c4b0 : decide (32 < (l0_0.length : Int)) = false:=decide_eq_false c4
   have c4b1 : decide (32 < l0_0.length) = false:=decide_eq_false (by omega)
   clear c4
   (first|rw [c4b0]|(simp only [i64_w,i32_w];rw [c4b0])|skip)
   by_cases c6 : a0_1 < 0
   ·rw [if_pos c6] at H
    have c6b0 : decide (a0_1 < 0) = true:=decide_eq_true c6
    clear c6
    have H':=mK H
    clear H
    have hcz7_0 : w3.cell? ⟨gb273,0,none⟩ = some (.slice A0_0 l0_0.length c0_0):=(blk_cell BK273.out 0).trans rfl
    have hcz7_1 : w3.cell? ⟨gb273,1,none⟩ = some (.int .i64 a0_1):=(blk_cell BK273.out 1).trans rfl
    have hfz7_0:=blk_frozen BK273.out 0
    have hfz7_1:=blk_frozen BK273.out 1
    go_wp2
    go_meet
    case rel=>exact ⟨_,(true),(by first|rfl|(simp;done)|(simp [*];done)),H',⟨by first|omega|exact Nat.le_refl _⟩,⟨by (with_reducible repeat (first|apply bN|apply bD|apply bA));exact BK273.out⟩,⟨by repeat (first|(with_reducible first|exact HB.out|apply lA|apply lN|apply lD|refine lS ?_ GE273.out)|exact HB.out)⟩⟩
   ·rw [if_neg c6] at H
    have c6b0 : decide (a0_1 < 0) = false:=decide_eq_false c6
    clear c6
    have H':=mK H
    clear H
    have hcz8_0 : w3.cell? ⟨gb273,0,none⟩ = some (.slice A0_0 l0_0.length c0_0):=(blk_cell BK273.out 0).trans rfl
    have hcz8_1 : w3.cell? ⟨gb273,1,none⟩ = some (.int .i64 a0_1):=(blk_cell BK273.out 1).trans rfl
    have hfz8_0:=blk_frozen BK273.out 0
    have hfz8_1:=blk_frozen BK273.out 1
    go_wp2
    go_meet
    case rel=>exact ⟨_,(decide (a0_1 > 2147483648)),(by first|rfl|(simp;done)|(simp [*];done)),H',⟨by first|omega|exact Nat.le_refl _⟩,⟨by (with_reducible repeat (first|apply bN|apply bD|apply bA));exact BK273.out⟩,⟨by repeat (first|(with_reducible first|exact HB.out|apply lA|apply lN|apply lD|refine lS ?_ GE273.out)|exact HB.out)⟩⟩
 case rest =>
  clear HC2
  try clear c2
  try clear p2
  try clear c4
  try clear c4b0
  try clear c4b1
  try clear c6
  try clear c6b0
  try clear hcz5_0
  try clear hcz5_1
  try clear hcz7_0
  try clear hcz7_1
  try clear hcz8_0
  try clear hcz8_1
  try clear hfz5_0
  try clear hfz5_1
  try clear hfz7_0
  try clear hfz7_1
  try clear hfz8_0
  try clear hfz8_1
  obtain ⟨kq,x17_1,rfl,HA,HJ1,BK273,HB⟩:=hcut
  cases kq with
  |zero=>exact absurd HA.out (by simp [drawbridgeref23_Check.j0])
  |succ kj1 =>
   have H:=HA.out
   clear HA
   simp only [drawbridgeref23_Check.j0] at H
   by_cases c9 : x17_1 = true
   ·subst c9
    have H1 : (some false) = some r:= by rw [if_pos rfl] at H;exact H
    clear H
    have H:=H1
    clear H1
    obtain rfl:=Option.some.inj H
    go_wp2
    go_ret
    exact ⟨by first|rfl|(simp [errW_none,errW_some] <;> rfl)|(simp [*,errW_none,errW_some] <;> rfl),by repeat (first|(with_reducible first|exact HB.out|apply lA|apply lN|apply lD|refine lS ?_ GE273.out)|exact HB.out)⟩
   ·replace c9:=Bool.eq_false_iff.mpr c9
    subst c9
    have H1 : (drawbridgeref23_Check.l0 kj1 0 l0_0 a0_1) = some r:= by rw [if_neg (show ¬ (false = true) by decide)] at H;exact H
    clear H
    have H:=H1
    clear H1
    have H':=mK H
    clear H
    go_wp2
    go_loopg [3] kj1 (fun kq v3 w'=>∃ (x3_2 : Int),v3 = .int .i64 x3_2∧Aside0 (drawbridgeref23_Check.l0 kq x3_2 l0_0 a0_1 = some r)∧Aside0 (kq ≤ kj1)∧Aside0 (w'.heap[gb273]? = some (.cells #[(.slice A0_0 l0_0.length c0_0),.int .i64 a0_1] 24 (0,0)))∧Aside0 (Below w.heap.size w w'))
    case atStart=>exact ⟨(0),(by first|rfl|(simp;done)|(simp [*];done)),H',⟨Nat.le_refl _⟩,⟨by (with_reducible repeat (first|apply bN|apply bD|apply bA));exact BK273.out⟩,⟨by repeat (first|(with_reducible first|exact HB.out|apply lA|apply lN|apply lD|refine lS ?_ GE273.out)|exact HB.out)⟩⟩
    case round =>
     clear H'
     try clear c2
     try clear p2
     try clear c4
     try clear c4b0
     try clear c4b1
     try clear c6
     try clear c6b0
     try clear c9
     try clear hcz5_0
     try clear hcz5_1
     try clear hcz7_0
     try clear hcz7_1
     try clear hcz8_0
     try clear hcz8_1
     try clear hfz5_0
     try clear hfz5_1
     try clear hfz7_0
     try clear hfz7_1
     try clear hfz8_0
     try clear hfz8_1
     try clear p2
     obtain ⟨x3_2,rfl,HA,HK2,BK273,HB⟩:=hrel
     cases gk with
     |zero=>exact absurd HA.out (by simp [drawbridgeref23_Check.l0])
     |succ k2 =>
      have H:=HA.out
      clear HA
      simp only [drawbridgeref23_Check.l0] at H
      by_cases c10 : x3_2 < (l0_0.length : Int)
      ·rw [if_pos c10] at H
       have c10b0 : decide (x3_2 < (l0_0.length : Int)) = true:=decide_eq_true c10
       clear c10
       by_cases c11 : 0 ≤ x3_2
       ·rw [if_pos c11] at H
        have c11b0 : decide (0 ≤ x3_2) = true:=decide_eq_true c11
        clear c11
        replace H:=Option.bind_eq_some_iff.mp H
        obtain ⟨t275,A120,H⟩:=H
        replace H : (if t275 = true then (drawbridgeref23_Check.l0 k2 (wrap64 (x3_2 + 1)) l0_0 a0_1) else (some false)) = some r:=H
        have A12:=mK A120
        clear A120
        by_cases c13 : t275 = true
        ·subst c13
         have H1 : (drawbridgeref23_Check.l0 k2 (wrap64 (x3_2 + 1)) l0_0 a0_1) = some r:= by rw [if_pos rfl] at H;exact H
         clear H
         have H:=H1
         clear H1
         have H':=mK H
         clear H
         have hcz14_0 : wr.cell? ⟨gb273,0,none⟩ = some (.slice A0_0 l0_0.length c0_0):=(blk_cell BK273.out 0).trans rfl
         have hcz14_1 : wr.cell? ⟨gb273,1,none⟩ = some (.int .i64 a0_1):=(blk_cell BK273.out 1).trans rfl
         have hfz14_0:=blk_frozen BK273.out 0
         have hfz14_1:=blk_frozen BK273.out 1
         have p274 : 0 ≤ (x3_2 : Int):=of_decide_eq_true (by first|(with_reducible assumption)|assumption)
         have q274 : x3_2 < (l0_0.length : Int):=of_decide_eq_true (by first|(with_reducible assumption)|assumption)
         obtain ⟨ad274,A274_0,c274_0,e274,hx274_0,hl274_0,hi274_0⟩:=at_L1 HR0_0.out x3_2 p274 q274
         cases e274
         replace hx274_0:=(HB.out.cell (World.block_lt_of_cell? w _ hx274_0)).trans hx274_0
         have HR274_0:=mK hi274_0
         have HC274_0:=mK hl274_0
         clear hi274_0 hl274_0
         replace p274:=eq_true p274
         replace q274:=eq_true q274
         go_wp2_with (first|((with_reducible refine gate_callee (f:=26) rfl ?_);refine goesL_ (some 30) rfl rfl Try.func26 (by kernel_rfl) rfl #[.slice A274_0 (rd_L1 l0_0 x3_2).length c274_0] rfl (by (try simp only [List.map_toArray,List.map_cons,List.map_nil]);first|done|rfl|(simp only [List.length_drop,List.length_take];rfl)) ?_;(with_reducible refine (drawbridgeref23_fits.calls _ _ (rd_L1 l0_0 x3_2) true _ ?side1 ?side2 A12.out).mono ?_);(case side1=>repeat (first|exact (Kd.C_below HR274_0.out HB.out)|(with_reducible refine Kd.C_alloc ?_ _)|(with_reducible refine Kd.C_drewN ?_ _)|(with_reducible refine Kd.C_drew ?_)));(case side2=>exact HC274_0.out);rintro e w' ⟨rfl,⟨nd,rfl⟩⟩;refine ⟨_,rfl,?_⟩))
         go_roundg k2
         case measure=>have:=HJ1.out;have:=HK2.out;omega
         case rel=>exact ⟨(wrap64 (x3_2 + 1)),(by first|rfl|(simp;done)|(simp [*];done)),H',⟨by have:=HJ1.out;have:=HK2.out;omega⟩,⟨by (with_reducible repeat (first|apply bN|apply bD|apply bA));exact BK273.out⟩,⟨by repeat (first|(with_reducible first|exact HB.out|apply lA|apply lN|apply lD|refine lS ?_ GE273.out)|exact HB.out)⟩⟩
        ·replace c13:=Bool.eq_false_iff.mpr c13
         subst c13
         have H1 : (some false) = some r:= by rw [if_neg (show ¬ (false = true) by decide)] at H;exact H
         clear H
         have H:=H1
         clear H1
         obtain rfl:=Option.some.inj H
         have hcz15_0 : wr.cell? ⟨gb273,0,none⟩ = some (.slice A0_0 l0_0.length c0_0):=(blk_cell BK273.out 0).trans rfl
         have hcz15_1 : wr.cell? ⟨gb273,1,none⟩ = some (.int .i64 a0_1):=(blk_cell BK273.out 1).trans rfl
         have hfz15_0:=blk_frozen BK273.out 0
         have hfz15_1:=blk_frozen BK273.out 1
         have p274 : 0 ≤ (x3_2 : Int):=of_decide_eq_true (by first|(with_reducible assumption)|assumption)
         have q274 : x3_2 < (l0_0.length : Int):=of_decide_eq_true (by first|(with_reducible assumption)|assumption)
         obtain ⟨ad274,A274_0,c274_0,e274,hx274_0,hl274_0,hi274_0⟩:=at_L1 HR0_0.out x3_2 p274 q274
         cases e274
         replace hx274_0:=(HB.out.cell (World.block_lt_of_cell? w _ hx274_0)).trans hx274_0
         have HR274_0:=mK hi274_0
         have HC274_0:=mK hl274_0
         clear hi274_0 hl274_0
         replace p274:=eq_true p274
         replace q274:=eq_true q274
         go_wp2_with (first|((with_reducible refine gate_callee (f:=26) rfl ?_);refine goesL_ (some 30) rfl rfl Try.func26 (by kernel_rfl) rfl #[.slice A274_0 (rd_L1 l0_0 x3_2).length c274_0] rfl (by (try simp only [List.map_toArray,List.map_cons,List.map_nil]);first|done|rfl|(simp only [List.length_drop,List.length_take];rfl)) ?_;(with_reducible refine (drawbridgeref23_fits.calls _ _ (rd_L1 l0_0 x3_2) false _ ?side1 ?side2 A12.out).mono ?_);(case side1=>repeat (first|exact (Kd.C_below HR274_0.out HB.out)|(with_reducible refine Kd.C_alloc ?_ _)|(with_reducible refine Kd.C_drewN ?_ _)|(with_reducible refine Kd.C_drew ?_)));(case side2=>exact HC274_0.out);rintro e w' ⟨rfl,⟨nd,rfl⟩⟩;refine ⟨_,rfl,?_⟩))
         go_ret
         exact ⟨by first|rfl|(simp [errW_none,errW_some] <;> rfl)|(simp [*,errW_none,errW_some] <;> rfl),by repeat (first|(with_reducible first|exact HB.out|apply lA|apply lN|apply lD|refine lS ?_ GE273.out)|exact HB.out)⟩
       ·rw [if_neg c11] at H
        exact absurd H (by simp)
      ·rw [if_neg c10] at H
       have c10b0 : decide (x3_2 < (l0_0.length : Int)) = false:=decide_eq_false c10
       clear c10
       obtain rfl:=Option.some.inj H
       have hcz16_0 : wr.cell? ⟨gb273,0,none⟩ = some (.slice A0_0 l0_0.length c0_0):=(blk_cell BK273.out 0).trans rfl
       have hcz16_1 : wr.cell? ⟨gb273,1,none⟩ = some (.int .i64 a0_1):=(blk_cell BK273.out 1).trans rfl
       have hfz16_0:=blk_frozen BK273.out 0
       have hfz16_1:=blk_frozen BK273.out 1
       go_wp2
       go_ret
       exact ⟨by first|rfl|(simp [errW_none,errW_some] <;> rfl)|(simp [*,errW_none,errW_some] <;> rfl),by repeat (first|(with_reducible first|exact HB.out|apply lA|apply lN|apply lD|refine lS ?_ GE273.out)|exact HB.out)⟩

/-! ### drawbridgeref23_own: function 27 -/
def drawbridgeref23_own.l0 : Nat → List (List Int) → List (List Int) → Int → Option ((List (List Int)))
 | 0, _, _, _ => none
 | k + 1, x0, x3, x4 => if x4 < (x0.length : Int) then ((some (([] : List Int) : List Int)).bind fun y276 => (if 0 ≤ x4 then (if y276.length + (rd_L1 x0 x4).length < 140737488355328 then (if x3.length < 5864062014805 then (drawbridgeref23_own.l0 k x0 (x3 ++ [(y276 ++ (rd_L1 x0 x4))]) (wrap64 (x4 + 1))) else (none)) else (none)) else (none))) else (some x3)
def drawbridgeref23_own.f (k : Nat) (l0 : List (List Int)) : Option ((List (List Int))) := drawbridgeref23_own.l0 k l0 ([] : List (List Int)) 0
theorem drawbridgeref23_own.mono_l : ∀ k, (∀ y0 y1 y2, LeO (drawbridgeref23_own.l0 k y0 y1 y2) (drawbridgeref23_own.l0 (k + 1) y0 y1 y2))
 | 0 => fun _ _ _ r h => by simp [drawbridgeref23_own.l0] at h
 | k + 1 => by
  have ih0 := drawbridgeref23_own.mono_l k
  ·intro y0 y1 y2
   unfold drawbridgeref23_own.l0
   repeat' first
   | (with_reducible exact ih0 _ _ _)
   | (with_reducible exact LeO.refl _)
   | (with_reducible exact LeO.none _)
   | (with_reducible refine LeO.ite ?_ ?_)
   | (with_reducible refine LeO.bind ?_ (fun _ => ?_))
   | exact ih0 _ _ _
   | exact LeO.none _
   | refine LeO.ite ?_ ?_
   | refine LeO.bind ?_ (fun _ => ?_)
theorem drawbridgeref23_own.mono : ∀ a0 k, LeO (drawbridgeref23_own.f k a0) (drawbridgeref23_own.f (k + 1) a0) := by
 intro a0 k
 have ih0 := drawbridgeref23_own.mono_l k
 unfold drawbridgeref23_own.f
 repeat' first
   | (with_reducible exact ih0 _ _ _)
   | (with_reducible exact LeO.refl _)
   | (with_reducible exact LeO.none _)
   | (with_reducible refine LeO.ite ?_ ?_)
   | (with_reducible refine LeO.bind ?_ (fun _ => ?_))
   | exact ih0 _ _ _
   | exact LeO.none _
   | refine LeO.ite ?_ ?_
   | refine LeO.bind ?_ (fun _ => ?_)
set_option maxHeartbeats 8000000 in
set_option maxRecDepth 100000 in
theorem drawbridgeref23_own.calls (k : Nat) (A0 : Option Addr) (c0 : Nat) (l0 : List (List Int)) (r : List (List Int)) (w : World) (hr0 : Kd.C (Kd.slice 5 (Kd.int .u8)) w A0 l0.length l0) (hc0 : l0.length ≤ c0) (h : drawbridgeref23_own.f k l0 = some r) :
  Calls Try.prog 27 #[.slice A0 l0.length c0] w fun e w' => ∃ v0_ : Value, e = .returned (v0_) ∧ Kd.S (Kd.slice 5 (Kd.int .u8)) 25 w' w.heap.size (fun _ => True) v0_ r ∧ Below w.heap.size w w' := by
 have HR0:=mK hr0
 have HC0:=mK hc0
 clear hr0 hc0
 have HB:=mK (Below.refl w.heap.size w)
 have H : (drawbridgeref23_own.l0 k l0 ([] : List (List Int)) 0) = some r:=h
 clear h
 have H':=mK H
 clear H
 go_enter Try.func27,Try.ntmps27
 go_wp2
 go_loopg [3,4] k (fun kq v3 v4 w'=>∃ (x3_1 : List (List Int)) (x4_1 : Int),v4 = .int .i64 x4_1∧Aside0 (drawbridgeref23_own.l0 kq l0 x3_1 x4_1 = some r)∧Aside0 (kq ≤ k)∧Aside0 (Kd.S (Kd.slice 5 (Kd.int .u8)) 25 w' w.heap.size (fun _=>True) v3 x3_1)∧Aside0 (Below w.heap.size w w'))
 case atStart=>exact ⟨(([] : List (List Int))),(0),(by first|rfl|(simp;done)|(simp [*];done)),H',⟨Nat.le_refl _⟩,⟨by first|exact Kd.S_nil _ _ _ _ _|exact Kd.N_nil _ _ _ _ _|exact Kd.V_nil _ _ _ _ _|exact Kd.Q_nil _ _ _ _ _|exact Kd.R_nil _ _ _ _ _⟩,⟨by repeat (first|(with_reducible first|exact HB.out|apply lA|apply lN|apply lD)|exact HB.out)⟩⟩
 case round =>
  clear H'
  obtain ⟨x3_1,x4_1,rfl,HA,HK1,HO_3,HB⟩:=hrel
  cases gk with
  |zero=>exact absurd HA.out (by simp [drawbridgeref23_own.l0])
  |succ k1 =>
   have H:=HA.out
   clear HA
   simp only [drawbridgeref23_own.l0] at H
   by_cases c2 : x4_1 < (l0.length : Int)
   ·rw [if_pos c2] at H
    have c2b0 : decide (x4_1 < (l0.length : Int)) = true:=decide_eq_true c2
    clear c2
    obtain ⟨y276,hy276⟩ : ∃ y_ : List Int,y_ = (([] : List Int)):=⟨_,rfl⟩
    replace H : (if 0 ≤ x4_1 then (if y276.length + (rd_L1 l0 x4_1).length < 140737488355328 then (if x3_1.length < 5864062014805 then (drawbridgeref23_own.l0 k1 l0 (x3_1 ++ [(y276 ++ (rd_L1 l0 x4_1))]) (wrap64 (x4_1 + 1))) else (none)) else (none)) else (none)) = some r:= by first|(rw [hy276];with_reducible exact H)|(have H2_:=(Option.bind_some _ _).symm.trans H;rw [hy276];with_reducible exact H2_)|(have H2_:=(Option.bind_some _ _).symm.trans H;with_reducible exact H2_)|with_reducible exact H|(rw [hy276];exact H)|exact H
    have Ny276:=mK hy276
    clear hy276
    by_cases c3 : 0 ≤ x4_1
    ·rw [if_pos c3] at H
     have c3b0 : decide (0 ≤ x4_1) = true:=decide_eq_true c3
     clear c3
     by_cases c4 : y276.length + (rd_L1 l0 x4_1).length < 140737488355328
     ·rw [if_pos c4] at H
      have LMc4:=mK c4
      clear c4
      obtain ⟨y280,hy280⟩ : ∃ y_ : List Int,y_ = (y276 ++ (rd_L1 l0 x4_1)):=⟨_,rfl⟩
      replace H : (if x3_1.length < 5864062014805 then (drawbridgeref23_own.l0 k1 l0 (x3_1 ++ [y280]) (wrap64 (x4_1 + 1))) else (none)) = some r:= by first|(rw [hy280];with_reducible exact H)|(have H2_:=(Option.bind_some _ _).symm.trans H;rw [hy280];with_reducible exact H2_)|(have H2_:=(Option.bind_some _ _).symm.trans H;with_reducible exact H2_)|with_reducible exact H|(rw [hy280];exact H)|exact H
      have Ny280:=mK hy280
      clear hy280
      by_cases c5 : x3_1.length < 5864062014805
      ·rw [if_pos c5] at H
       have LMc5:=mK c5
       clear c5
       obtain ⟨y283,hy283⟩ : ∃ y_ : List (List Int),y_ = (x3_1 ++ [y280]):=⟨_,rfl⟩
       replace H : (drawbridgeref23_own.l0 k1 l0 y283 (wrap64 (x4_1 + 1))) = some r:= by first|(rw [hy283];with_reducible exact H)|(have H2_:=(Option.bind_some _ _).symm.trans H;rw [hy283];with_reducible exact H2_)|(have H2_:=(Option.bind_some _ _).symm.trans H;with_reducible exact H2_)|with_reducible exact H|(rw [hy283];exact H)|exact H
       have Ny283:=mK hy283
       clear hy283
       have H':=mK H
       clear H
       go_wp2_with (first|((with_reducible refine gate_dst (N:=12) rfl ?_);refine Kd.R_lit (Kd.int .u8) _ 5 ?hg (N:=12) ?hd (xs:=([] : List Int)) (inner:=[]) (ok:= fun _=>True) (okp:= fun _=>True) ?hr ?hp (fun _ hk=>hk) trivial (Below.refl _ _) (Nat.le_refl _) (by simp) ?_;(case hd=>rfl);(case hg=>rfl);(case hr=>first|(go_simp;done)|(go_simp;rfl));(case hp=>exact (Reps.none _ _));intro v277 w6 ho7 hb hg_ hnew_;clear hg_ hnew_;(first|rw [← Ny276.out] at ho7|(simp only [Int.reduceToNat] at ho7;rw [← Ny276.out] at ho7));have n0_:=mK (Kd.S_elder' (by (with_reducible repeat (first|apply Kd.S_alloc|apply Kd.S_drewN|apply Kd.S_drew));exact HO_3.out) (Kd.R_base ho7) hb);have n1_:=mK (Kd.R_lower ho7 (below_size (by repeat (first|(with_reducible first|exact HB.out|apply lA|apply lN|apply lD)|exact HB.out))));have n2_:=mK (below_step (by repeat (first|(with_reducible first|exact HB.out|apply lA|apply lN|apply lD)|exact HB.out)) hb);clear HO_3;clear HB;have HO_3:=n0_;have HO278:=n1_;have HB:=n2_;clear n0_ n1_ n2_;clear hb ho7;have p279 : 0 ≤ (x4_1 : Int):=of_decide_eq_true (by first|(with_reducible assumption)|assumption);have q279 : x4_1 < (l0.length : Int):=of_decide_eq_true (by first|(with_reducible assumption)|assumption);obtain ⟨ad279,A279_0,c279_0,e279,hx279_0,hl279_0,hi279_0⟩:=at_L1 HR0.out x4_1 p279 q279;cases e279;replace hx279_0:=(HB.out.cell (World.block_lt_of_cell? w _ hx279_0)).trans hx279_0;have HR279_0:=mK hi279_0;have HC279_0:=mK hl279_0;clear hi279_0 hl279_0;replace p279:=eq_true p279;replace q279:=eq_true q279)|((with_reducible refine gate_builtin (b:=.append) (xs:=#[.tmp 12,.tmp 16]) rfl ?_);at_builtin;refine Kd.R_append_rows (Kd.int .u8) (w0:=w) w.heap.size rfl (.tmp 12) (.tmp 16) 25 5 (.int .u8 0) 1 rfl Try.underlying25 info5 rfl (by decide) (by omega) v277 y276 (rd_L1 l0 x4_1) _ _ _ (fun _=>True) (fun _=>False) rfl rfl ?aO ?aR (fun _ _ h=>h) (fun _ h=>h.elim) ?aF ?aB ?aS ?aL ?_;(case aR=>repeat (first|exact (Kd.C_below HR279_0.out HB.out)|(with_reducible refine Kd.C_alloc ?_ _)|(with_reducible refine Kd.C_drewN ?_ _)|(with_reducible refine Kd.C_drew ?_)));(case aB=>exact (by repeat (first|(with_reducible first|exact HB.out|apply lA|apply lN|apply lD)|exact HB.out)));(case aF=>exact (fun _ _=>trivial));(case aO=>exact (by (with_reducible repeat (first|apply rA|apply rN|apply rD));exact HO278.out));(case aS=>exact (below_size (by repeat (first|(with_reducible first|exact HB.out|apply lA|apply lN|apply lD)|exact HB.out))));(case aL=>have:=LMc4.out;omega);intro v281 w8 ho hb hg hat;rw [← Ny280.out] at ho;have n0_:=mK (Kd.S_after (ok:=(fun _=>True)) (by (with_reducible repeat (first|apply Kd.S_alloc|apply Kd.S_drewN|apply Kd.S_drew));exact HO_3.out) hg hat);have n1_:=mK (hb);have n2_:=mK (ho);clear HO_3;clear HB;clear HO278;have HO_3:=n0_;have HB:=n1_;have HO282:=n2_;clear n0_ n1_ n2_;clear ho hb hg hat;obtain ⟨Ao10,co10,eo10⟩:=Kd.R_slice HO282.out;subst eo10)|((with_reducible refine gate_builtin (b:=.append) (xs:=#[.tmp 11,.tmp 18]) rfl ?_);at_builtin;refine Kd.S_append (Kd.slice 5 (Kd.int .u8)) (w0:=w) w.heap.size rfl (.tmp 11) (.tmp 18) 22 25 (.slice none 0 0) 24 rfl Try.underlying22 info25 rfl (by decide) (by omega) u3 x3_1 y280 [.slice Ao10 y280.length co10] (fun _=>True) (fun k_=>some k_ = (.slice Ao10 y280.length co10 : Value).ownBlock) rfl rfl ?aP (fun k_ hk_=>((Kd.R_mono (ok':= fun k_=>((fun _=>True)) k_∧some k_ ≠ (u3 : Value).ownBlock) (Kd.R_apart' (HO282.out) (Kd.S_typed HO_3.out) (by decide)) (fun k_ hk=>⟨trivial,hk.2⟩))).1 k_ hk_.symm) ?aF ?aO ?aB ?aS ?aL ?_;(case aP=>exact Kd.M_row (Kd.R_mono (Kd.R_tight rfl (Kd.R_mono (ok':= fun k_=>((fun _=>True)) k_∧some k_ ≠ (u3 : Value).ownBlock) (Kd.R_apart' (HO282.out) (Kd.S_typed HO_3.out) (by decide)) (fun k_ hk=>⟨trivial,hk.2⟩))) (fun _ h_=>h_)));(case aB=>exact (by repeat (first|(with_reducible first|exact HB.out|apply lA|apply lN|apply lD)|exact HB.out)));(case aF=>exact (fun _ _=>trivial));(case aO=>exact (by (with_reducible repeat (first|apply Kd.S_alloc|apply Kd.S_drewN|apply Kd.S_drew));exact Kd.S_mono HO_3.out (fun k_ hk=>⟨trivial,fun e_=>hk.2 e_⟩)));(case aS=>exact (below_size (by repeat (first|(with_reducible first|exact HB.out|apply lA|apply lN|apply lD)|exact HB.out))));(case aL=>have:=LMc5.out;omega);intro v284 w9 ho hb hg hat;rw [← Ny283.out] at ho;have n0_:=mK (hb);have n1_:=mK (ho);clear HB;clear HO_3;clear HO282;have HB:=n0_;have HO285:=n1_;clear n0_ n1_;clear ho hb hg hat))
       go_roundg k1
       case measure=>have:=HK1.out;omega
       case rel=>exact ⟨(y283),(wrap64 (x4_1 + 1)),(by first|rfl|(simp;done)|(simp [*];done)),H',⟨by have:=HK1.out;omega⟩,⟨by (with_reducible repeat (first|apply Kd.S_alloc|apply Kd.S_drewN|apply Kd.S_drew));exact HO285.out⟩,⟨by repeat (first|(with_reducible first|exact HB.out|apply lA|apply lN|apply lD)|exact HB.out)⟩⟩
      ·rw [if_neg c5] at H
       exact absurd H (by simp)
     ·rw [if_neg c4] at H
      exact absurd H (by simp)
    ·rw [if_neg c3] at H
     exact absurd H (by simp)
   ·rw [if_neg c2] at H
    have c2b0 : decide (x4_1 < (l0.length : Int)) = false:=decide_eq_false c2
    clear c2
    obtain rfl:=Option.some.inj H
    go_wp2
    go_ret
    exact ⟨_,by first|rfl|(simp [errW_none,errW_some] <;> rfl)|(simp [*,errW_none,errW_some] <;> rfl),by (with_reducible repeat (first|apply Kd.S_alloc|apply Kd.S_drewN|apply Kd.S_drew));exact HO_3.out,by repeat (first|(with_reducible first|exact HB.out|apply lA|apply lN|apply lD)|exact HB.out)⟩

end Go.Proofs.Ythfokiabneflpaa.P
