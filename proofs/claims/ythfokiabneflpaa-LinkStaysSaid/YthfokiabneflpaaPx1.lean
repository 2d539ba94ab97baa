/- Contracts of functions of the seat, written by a program of this session (with the kit's print) for the laws of this claim; no condition beside what each states. -/
import Derived.Test.YthfokiabneflpaaPx0
namespace Go.Proofs.Ythfokiabneflpaa.P
open Go.Proofs.Ythfokiabneflpaa.Aux Go.RowKit Go.Proofs.YthfokiabneflpaaW.PrintWords Go.Proofs.YthfokiabneflpaaW.PrintLast Go.Proofs.YthfokiabneflpaaW.PrintMore
attribute [local go_sem] max2_int min2_int max_two min_two max_three min_three max_four min_four   -- for this text's walks alone
set_option linter.unusedVariables false
set_option linter.unusedSimpArgs false

/-! ### drawbridgelaw23_small: function 6 -/
def drawbridgelaw23_small.l0 : Nat → Int → List (List Int) → Int → Option (Bool)
 | 0, _, _, _ => none
 | k + 1, x3, x102000, x102001 => if x3 < (x102000.length : Int) then (if 0 ≤ x3 then (if ((rd_L1 x102000 x3).length : Int) > 3000 then (some false) else (drawbridgelaw23_small.l0 k (wrap64 (x3 + 1)) x102000 x102001)) else (none)) else (some true)
def drawbridgelaw23_small.f (k : Nat) (l0_0 : List (List Int)) (a0_1 : Int) : Option (Bool) := if (l0_0.length : Int) > 100 then (some false) else (drawbridgelaw23_small.l0 k 0 l0_0 a0_1)
theorem drawbridgelaw23_small.mono_l : ∀ k, (∀ y0 y1 y2, LeO (drawbridgelaw23_small.l0 k y0 y1 y2) (drawbridgelaw23_small.l0 (k + 1) y0 y1 y2))
 | 0 => fun _ _ _ r h => by simp [drawbridgelaw23_small.l0] at h
 | k + 1 => by
  have ih0 := drawbridgelaw23_small.mono_l k
  ·intro y0 y1 y2
   unfold drawbridgelaw23_small.l0
   repeat' first
   | (with_reducible exact ih0 _ _ _)
   | (with_reducible exact LeO.refl _)
   | (with_reducible exact LeO.none _)
   | (with_reducible refine LeO.ite ?_ ?_)
   | (with_reducible refine LeO.bind ?_ (fun _ => ?_))
   | exact ih0 _ _ _
   | exact LeO.none _
   | refine LeO.ite ?_ ?_
   | refine LeO.bind ?_ (fun _ => ?_)
theorem drawbridgelaw23_small.mono : ∀ a0 a1 k, LeO (drawbridgelaw23_small.f k a0 a1) (drawbridgelaw23_small.f (k + 1) a0 a1) := by
 intro a0 a1 k
 have ih0 := drawbridgelaw23_small.mono_l k
 unfold drawbridgelaw23_small.f
 repeat' first
   | (with_reducible exact ih0 _ _ _)
   | (with_reducible exact LeO.refl _)
   | (with_reducible exact LeO.none _)
   | (with_reducible refine LeO.ite ?_ ?_)
   | (with_reducible refine LeO.bind ?_ (fun _ => ?_))
   | exact ih0 _ _ _
   | exact LeO.none _
   | refine LeO.ite ?_ ?_
   | refine LeO.bind ?_ (fun _ => ?_)
set_option maxHeartbeats 8000000 in
set_option maxRecDepth 100000 in
theorem drawbridgelaw23_small.calls (k : Nat) (A0_0 : Option Addr) (c0_0 : Nat) (l0_0 : List (List Int)) (a0_1 : Int) (r : Bool) (w : World) (hr0_0 : Kd.C (Kd.slice 5 (Kd.int .u8)) w A0_0 l0_0.length l0_0) (hc0_0 : l0_0.length ≤ c0_0) (h : drawbridgelaw23_small.f k l0_0 a0_1 = some r) :
  Calls Try.prog 6 #[.agg #[.slice A0_0 l0_0.length c0_0, .int .i64 a0_1]] w fun e w' => e = .returned (.bool r) ∧ Below w.heap.size w w' := by
 have hu24:=Try.underlying24
 have HR0_0:=mK hr0_0
 have HC0_0:=mK hc0_0
 clear hr0_0 hc0_0
 have HB:=mK (Below.refl w.heap.size w)
 have H : (if (l0_0.length : Int) > 100 then (some false) else (drawbridgelaw23_small.l0 k 0 l0_0 a0_1)) = some r:=h
 clear h
 by_cases c2 : (l0_0.length : Int) > 100
 ·rw [if_pos c2] at H
  have c2b0 : decide (100 < (l0_0.length : Int)) = true:=decide_eq_true c2
  have c2b1 : decide (100 < l0_0.length) = true:=decide_eq_true (by omega)
  clear c2
  obtain rfl:=Option.some.inj H
  go_enter Try.func6,Try.ntmps6
  go_wp2_with (first|((with_reducible refine gate_dst (N:=1) rfl ?_);refine box_event ?hg (N:=1) ?hd (cs:=#[.slice A0_0 l0_0.length c0_0,.int .i64 a0_1]) (t:=24) ?hr ?_;(case hd=>rfl);(case hg=>rfl);(case hr=>first|(go_simp;done)|(go_simp;rfl));intro gb101 hg w3 hbox hb;have n0_:=mK (below_step (by repeat (first|(with_reducible first|exact HB.out|apply lA|apply lN|apply lD)|exact HB.out)) hb);have n1_:=mK (hbox);have n3_:=mK ((by rw [hg];exact (below_size (by repeat (first|(with_reducible first|exact HB.out|apply lA|apply lN|apply lD)|exact HB.out))) : w.heap.size ≤ gb101));clear HB;have HB:=n0_;have BK101:=n1_;have GE101:=n3_;clear n0_ n1_ n3_;clear hb hbox hg;have hcz4_0 : w3.cell? ⟨gb101,0,none⟩ = some (.slice A0_0 l0_0.length c0_0):=(blk_cell BK101.out 0).trans rfl;have hcz4_1 : w3.cell? ⟨gb101,1,none⟩ = some (.int .i64 a0_1):=(blk_cell BK101.out 1).trans rfl;have hfz4_0:=blk_frozen BK101.out 0;have hfz4_1:=blk_frozen BK101.out 1))
  go_ret
  exact ⟨by first|rfl|(simp [errW_none,errW_some] <;> rfl)|(simp [*,errW_none,errW_some] <;> rfl),by repeat (first|(with_reducible first|exact HB.out|apply lA|apply lN|apply lD|refine lS ?_ GE101.out)|exact HB.out)⟩
 ·rw [if_neg c2] at H
  have c2b0 : decide (100 < (l0_0.length : Int)) = false:=decide_eq_false c2
  have c2b1 : decide (100 < l0_0.length) = false:=decide_eq_false (by omega)
  clear c2
  have H':=mK H
  clear H
  go_enter Try.func6,Try.ntmps6
  go_wp2_with (first|((with_reducible refine gate_dst (N:=1) rfl ?_);refine box_event ?hg (N:=1) ?hd (cs:=#[.slice A0_0 l0_0.length c0_0,.int .i64 a0_1]) (t:=24) ?hr ?_;(case hd=>rfl);(case hg=>rfl);(case hr=>first|(go_simp;done)|(go_simp;rfl));intro gb101 hg w5 hbox hb;have n0_:=mK (below_step (by repeat (first|(with_reducible first|exact HB.out|apply lA|apply lN|apply lD)|exact HB.out)) hb);have n1_:=mK (hbox);have n3_:=mK ((by rw [hg];exact (below_size (by repeat (first|(with_reducible first|exact HB.out|apply lA|apply lN|apply lD)|exact HB.out))) : w.heap.size ≤ gb101));clear HB;have HB:=n0_;have BK101:=n1_;have GE101:=n3_;clear n0_ n1_ n3_;clear hb hbox hg;have hcz6_0 : w5.cell? ⟨gb101,0,none⟩ = some (.slice A0_0 l0_0.length c0_0):=(blk_cell BK101.out 0).trans rfl;have hcz6_1 : w5.cell? ⟨gb101,1,none⟩ = some (.int .i64 a0_1):=(blk_cell BK101.out 1).trans rfl;have hfz6_0:=blk_frozen BK101.out 0;have hfz6_1:=blk_frozen BK101.out 1))
  go_loopg [3] k (fun kq v3 w'=>∃ (x3_1 : Int),v3 = .int .i64 x3_1∧Aside0 (drawbridgelaw23_small.l0 kq x3_1 l0_0 a0_1 = some r)∧Aside0 (kq ≤ k)∧Aside0 (w'.heap[gb101]? = some (.cells #[(.slice A0_0 l0_0.length c0_0),.int .i64 a0_1] 24 (0,0)))∧Aside0 (Below w.heap.size w w'))
  case atStart=>exact ⟨(0),(by first|rfl|(simp;done)|(simp [*];done)),H',⟨Nat.le_refl _⟩,⟨by (with_reducible repeat (first|apply bN|apply bD|apply bA));exact BK101.out⟩,⟨by repeat (first|(with_reducible first|exact HB.out|apply lA|apply lN|apply lD|refine lS ?_ GE101.out)|exact HB.out)⟩⟩
  case round =>
   clear H'
   try clear c2
   try clear c2b0
   try clear c2b1
   try clear p2
   try clear c6
   try clear hcz4_0
   try clear hcz4_1
   try clear hcz6_0
   try clear hcz6_1
   try clear hfz4_0
   try clear hfz4_1
   try clear hfz6_0
   try clear hfz6_1
   obtain ⟨x3_1,rfl,HA,HK1,BK101,HB⟩:=hrel
   cases gk with
   |zero=>exact absurd HA.out (by simp [drawbridgelaw23_small.l0])
   |succ k1 =>
    have H:=HA.out
    clear HA
    simp only [drawbridgelaw23_small.l0] at H
    by_cases c7 : x3_1 < (l0_0.length : Int)
    ·rw [if_pos c7] at H
     have c7b0 : decide (x3_1 < (l0_0.length : Int)) = true:=decide_eq_true c7
     clear c7
     by_cases c8 : 0 ≤ x3_1
     ·rw [if_pos c8] at H
      have c8b0 : decide (0 ≤ x3_1) = true:=decide_eq_true c8
      clear c8
      by_cases c9 : ((rd_L1 l0_0 x3_1).length : Int) > 3000
      ·rw [if_pos c9] at H
       have c9b0 : decide (3000 < ((rd_L1 l0_0 x3_1).length : Int)) = true:=decide_eq_true c9
       have c9b1 : decide (3000 < (rd_L1 l0_0 x3_1).length) = true:=decide_eq_true (by omega)
       clear c9
       obtain rfl:=Option.some.inj H
       have hcz10_0 : wr.cell? ⟨gb101,0,none⟩ = some (.slice A0_0 l0_0.length c0_0):=(blk_cell BK101.out 0).trans rfl
       have hcz10_1 : wr.cell? ⟨gb101,1,none⟩ = some (.int .i64 a0_1):=(blk_cell BK101.out 1).trans rfl
       have hfz10_0:=blk_frozen BK101.out 0
       have hfz10_1:=blk_frozen BK101.out 1
       have p102 : 0 ≤ (x3_1 : Int):=of_decide_eq_true (by first|(with_reducible assumption)|assumption)
       have q102 : x3_1 < (l0_0.length : Int):=of_decide_eq_true (by first|(with_reducible assumption)|assumption)
       obtain ⟨ad102,A102_0,c102_0,e102,hx102_0,hl102_0,hi102_0⟩:=at_L1 HR0_0.out x3_1 p102 q102
       cases e102
       replace hx102_0:=(HB.out.cell (World.block_lt_of_cell? w _ hx102_0)).trans hx102_0
       have HR102_0:=mK hi102_0
       have HC102_0:=mK hl102_0
       clear hi102_0 hl102_0
       replace p102:=eq_true p102
       replace q102:=eq_true q102
       go_wp2
       go_ret
       exact ⟨by first|rfl|(simp [errW_none,errW_some] <;> rfl)|(simp [*,errW_none,errW_some] <;> rfl),by repeat (first|(with_reducible first|exact HB.out|apply lA|apply lN|apply lD|refine lS ?_ GE101.out)|exact HB.out)⟩
      ·rw [if_neg c9] at H
       have c9b0 : decide (3000 < ((rd_L1 l0_0 x3_1).length : Int)) = false:=decide_eq_false c9
       have c9b1 : decide (3000 < (rd_L1 l0_0 x3_1).length) = false:=decide_eq_false (by omega)
       clear c9
       have H':=mK H
       clear H
       have hcz11_0 : wr.cell? ⟨gb101,0,none⟩ = some (.slice A0_0 l0_0.length c0_0):=(blk_cell BK101.out 0).trans rfl
       have hcz11_1 : wr.cell? ⟨gb101,1,none⟩ = some (.int .i64 a0_1):=(blk_cell BK101.out 1).trans rfl
       have hfz11_0:=blk_frozen BK101.out 0
       have hfz11_1:=blk_frozen BK101.out 1
       have p102 : 0 ≤ (x3_1 : Int):=of_decide_eq_true (by first|(with_reducible assumption)|assumption)
       have q102 : x3_1 < (l0_0.length : Int):=of_decide_eq_true (by first|(with_reducible assumption)|assumption)
       obtain ⟨ad102,A102_0,c102_0,e102,hx102_0,hl102_0,hi102_0⟩:=at_L1 HR0_0.out x3_1 p102 q102
       cases e102
       replace hx102_0:=(HB.out.cell (World.block_lt_of_cell? w _ hx102_0)).trans hx102_0
       have HR102_0:=mK hi102_0
       have HC102_0:=mK hl102_0
       clear hi102_0 hl102_0
       replace p102:=eq_true p102
       replace q102:=eq_true q102
       go_wp2
       go_roundg k1
       case measure=>have:=HK1.out;omega
       case rel=>exact ⟨(wrap64 (x3_1 + 1)),(by first|rfl|(simp;done)|(simp [*];done)),H',⟨by have:=HK1.out;omega⟩,⟨by (with_reducible repeat (first|apply bN|apply bD|apply bA));exact BK101.out⟩,⟨by repeat (first|(with_reducible first|exact HB.out|apply lA|apply lN|apply lD|refine lS ?_ GE101.out)|exact HB.out)⟩⟩
     ·rw [if_neg c8] at H
      exact absurd H (by simp)
    ·rw [if_neg c7] at H
     have c7b0 : decide (x3_1 < (l0_0.length : Int)) = false:=decide_eq_false c7
     clear c7
     obtain rfl:=Option.some.inj H
     have hcz12_0 : wr.cell? ⟨gb101,0,none⟩ = some (.slice A0_0 l0_0.length c0_0):=(blk_cell BK101.out 0).trans rfl
     have hcz12_1 : wr.cell? ⟨gb101,1,none⟩ = some (.int .i64 a0_1):=(blk_cell BK101.out 1).trans rfl
     have hfz12_0:=blk_frozen BK101.out 0
     have hfz12_1:=blk_frozen BK101.out 1
     go_wp2
     go_ret
     exact ⟨by first|rfl|(simp [errW_none,errW_some] <;> rfl)|(simp [*,errW_none,errW_some] <;> rfl),by repeat (first|(with_reducible first|exact HB.out|apply lA|apply lN|apply lD|refine lS ?_ GE101.out)|exact HB.out)⟩

/-! ### link_fits: function 24 -/
def link_fits.f (l0 : List Int) : Option (Bool) := if (l0.length : Int) ≥ 14 then (some (decide ((l0.length : Int) ≤ 1514))) else (some false)
set_option maxHeartbeats 8000000 in
set_option maxRecDepth 100000 in
theorem link_fits.calls (A0 : Option Addr) (c0 : Nat) (l0 : List Int) (r : Bool) (w : World) (hr0 : Kd.C (Kd.int .u8) w A0 l0.length l0) (hc0 : l0.length ≤ c0) (h : link_fits.f l0 = some r) :
  Calls Try.prog 24 #[.slice A0 l0.length c0] w fun e w' => e = .returned (.bool r) ∧ Drawn0 w w' := by
 have HR0:=mK hr0
 have HC0:=mK hc0
 clear hr0 hc0
 have H : (if (l0.length : Int) ≥ 14 then (some (decide ((l0.length : Int) ≤ 1514))) else (some false)) = some r:=h
 clear h
 by_cases c2 : (l0.length : Int) ≥ 14
 ·rw [if_pos c2] at H
  have c2b0 : decide (14 ≤ (l0.length : Int)) = true:=decide_eq_true c2
  have c2b1 : decide (14 ≤ l0.length) = true:=decide_eq_true (by omega)
  clear c2
  obtain rfl:=Option.some.inj H
  go_enter Try.func24,Try.ntmps24
  go_wp2
  go_ret
  exact ⟨by first|rfl|(simp;done)|(simp [*];done),by repeat (first|exact Drawn0.refl _|apply Drawn0.step)⟩
 ·rw [if_neg c2] at H
  have c2b0 : decide (14 ≤ (l0.length : Int)) = false:=decide_eq_false c2
  have c2b1 : decide (14 ≤ l0.length) = false:=decide_eq_false (by omega)
  clear c2
  obtain rfl:=Option.some.inj H
  go_enter Try.func24,Try.ntmps24
  go_wp2
  go_ret
  exact ⟨by first|rfl|(simp;done)|(simp [*];done),by repeat (first|exact Drawn0.refl _|apply Drawn0.step)⟩

/-! ### link_Check_1: function 32 -/
def link_Check_1.f (l0 : List Int) : Option (Bool) := (link_fits.f l0).bind fun t103 => (some (!t103))
set_option maxHeartbeats 8000000 in
set_option maxRecDepth 100000 in
theorem link_Check_1.calls (A0 : Option Addr) (c0 : Nat) (l0 : List Int) (r : Bool) (w : World) (hr0 : Kd.C (Kd.int .u8) w A0 l0.length l0) (hc0 : l0.length ≤ c0) (h : link_Check_1.f l0 = some r) :
  Calls Try.prog 32 #[.slice A0 l0.length c0] w fun e w' => e = .returned (.bool r) ∧ Drawn0 w w' := by
 have HR0:=mK hr0
 have HC0:=mK hc0
 clear hr0 hc0
 have H : ((link_fits.f l0).bind fun t103=>(some (!t103))) = some r:=h
 clear h
 replace H:=Option.bind_eq_some_iff.mp H
 obtain ⟨t103,A20,H⟩:=H
 replace H : (some (!t103)) = some r:=H
 have A2:=mK A20
 clear A20
 obtain rfl:=Option.some.inj H
 go_enter Try.func32,Try.ntmps32
 go_wp2_with (first|((with_reducible refine gate_callee (f:=24) rfl ?_);refine goesL_ (some 4) rfl rfl Try.func24 (by kernel_rfl) rfl #[.slice A0 l0.length c0] rfl (by (try simp only [List.map_toArray,List.map_cons,List.map_nil]);first|done|rfl|(simp only [List.length_drop,List.length_take];rfl)) ?_;(with_reducible refine (link_fits.calls _ _ l0 t103 _ ?side1 ?side2 A2.out).mono ?_);(case side1=>repeat (first|exact HR0.out|(with_reducible refine Kd.C_alloc ?_ _)|(with_reducible refine Kd.C_drewN ?_ _)|(with_reducible refine Kd.C_drew ?_)));(case side2=>exact HC0.out);rintro e w' ⟨rfl,⟨nd,rfl⟩⟩;refine ⟨_,rfl,?_⟩))
 go_ret
 exact ⟨by first|rfl|(simp;done)|(simp [*];done),by repeat (first|exact Drawn0.refl _|apply Drawn0.step)⟩

/-! ### slices_IndexFunc_byte_byte: function 35 -/
set_option maxHeartbeats 400000 in
set_option maxRecDepth 100000 in
theorem slices_IndexFunc_byte_byte.any (g : FuncId) (fn : Func) (hf : Try.prog.funcs[g]? = some fn) (hname : (fn.name == "runtime.NumGoroutine") = false) (hb : fn.body.isSome = true) (first cap : Array Value) (p : List Int → Bool) (A0 : Option Addr) (c0 : Nat) (l0 : List (List Int)) (w : World) (hr0 : Kd.C (Kd.slice 5 (Kd.int .u8)) w A0 l0.length l0) (hc0 : l0.length ≤ c0)
    (hp : ∀ (i : Nat) (W : World), i < l0.length → Below w.heap.size w W → ∀ A c, (rd_L1 l0 i).length ≤ c → Kd.C (Kd.int .u8) W A (rd_L1 l0 i).length (rd_L1 l0 i) → Calls Try.prog g (first.push (.slice A (rd_L1 l0 i).length c) ++ cap) W fun e w' => e = .returned (.bool (p (rd_L1 l0 i))) ∧ Below W.heap.size W w') :
    Calls Try.prog 35 #[.slice A0 l0.length c0, .func (.func g) first cap] w fun e w' => e = .returned (.int .i64 (idxOf p l0)) ∧ Below w.heap.size w w' := by
  have HR0 := Aside0.mk hr0
  have HP := Aside0.mk hp
  have HM := Aside0.mk (Kd.C_max hr0)
  clear hr0 hp
  have HB := Aside0.mk (Below.refl w.heap.size w)
  have HE := Aside0.mk (fun args w => enters_ (P := Try.prog) hf hname hb args w)
  clear hf hname hb
  go_enter Try.func35, Try.ntmps35
  go_wp2
  go_loopw [8] (fun i w' => ∃ j : Nat, j ≤ l0.length ∧ i = .int .i64 j ∧ Aside0 (∀ q, q < j → p (rd_L1 l0 q) = false) ∧ Aside0 (Below w.heap.size w w')) (fun i _ => l0.length - (intOf i).toNat)
  case atStart => exact ⟨0, Nat.zero_le _, rfl, ⟨fun q hq => absurd hq (by omega)⟩, HB⟩
  case round =>
    clear HB
    obtain ⟨j, hj, rfl, HN, HB⟩ := hrel
    have hm : l0.length ≤ 9223372036854775807 := HM.out
    by_cases hlt : j < l0.length
    · obtain ⟨ad, A1, c1, eA, hcell, hc1, hC1⟩ := at_L1 (Kd.C_below HR0.out HB.out) (j : Int) (by omega) (by omega)
      subst eA
      rw [Int.toNat_natCast] at hcell
      have HC1 := Aside0.mk hC1
      clear hC1
      go_wp2
      rw [HE.out, Oper.upon_enter]
      refine (HP.out j wr hlt HB.out A1 c1 hc1 HC1.out).mono ?_
      rintro e w2 ⟨rfl, hb2⟩
      have HB2 := Aside0.mk (below_step HB.out hb2)
      clear hb2
      by_cases hpj : p (rd_L1 l0 (j : Int)) = true
      · rw [hpj]
        have HPJ := Aside0.mk hpj
        clear hpj
        go_wp2
        go_ret
        exact ⟨by rw [idxOf_at p [] l0 j hlt (fun q hq => HN.out q hq) HPJ.out]; rfl, HB2.out⟩
      · have hpf : p (rd_L1 l0 (j : Int)) = false := by simpa using hpj
        rw [hpf]
        have HPJ := Aside0.mk hpf
        clear hpj hpf
        go_wp2
        go_roundw
        case rel => exact ⟨j + 1, by omega, by go_num, ⟨fun q hq => by rcases Nat.lt_succ_iff_lt_or_eq.1 hq with h | h; exact HN.out q h; subst h; exact HPJ.out⟩, HB2⟩
        case measure => simp [intOf]; omega
    · obtain rfl : j = l0.length := by omega
      go_wp2
      go_ret
      exact ⟨by rw [idxOf_none p [] l0 (fun q hq => HN.out q hq)]; rfl, HB.out⟩

/-! ### slices_ContainsFunc_byte_byte: function 33 -/
set_option maxHeartbeats 400000 in
set_option maxRecDepth 100000 in
theorem slices_ContainsFunc_byte_byte.any (g : FuncId) (fn : Func) (hf : Try.prog.funcs[g]? = some fn) (hname : (fn.name == "runtime.NumGoroutine") = false) (hb : fn.body.isSome = true) (first cap : Array Value) (p : List Int → Bool) (A0 : Option Addr) (c0 : Nat) (l0 : List (List Int)) (w : World) (hr0 : Kd.C (Kd.slice 5 (Kd.int .u8)) w A0 l0.length l0) (hc0 : l0.length ≤ c0)
    (hp : ∀ (i : Nat) (W : World), i < l0.length → Below w.heap.size w W → ∀ A c, (rd_L1 l0 i).length ≤ c → Kd.C (Kd.int .u8) W A (rd_L1 l0 i).length (rd_L1 l0 i) → Calls Try.prog g (first.push (.slice A (rd_L1 l0 i).length c) ++ cap) W fun e w' => e = .returned (.bool (p (rd_L1 l0 i))) ∧ Below W.heap.size W w') :
    Calls Try.prog 33 #[.slice A0 l0.length c0, .func (.func g) first cap] w fun e w' => e = .returned (.bool (l0.any p)) ∧ Below w.heap.size w w' := by
  have HX := Aside0.mk (slices_IndexFunc_byte_byte.any g fn hf hname hb first cap p A0 c0 l0 w hr0 hc0 hp)
  clear hf hname hb hp hr0
  go_enter Try.func33, Try.ntmps33
  go_wp2_with (go_at_call 35; refine HX.out.mono ?_; rintro e w1 ⟨rfl, hb1⟩; have HB := Aside0.mk hb1; clear hb1)
  go_ret
  exact ⟨by rw [← idxOf_any]; rfl, HB.out⟩

/-! ### link_Check: function 20 -/
/-- May bytes be a frame? -/
def frameOk (l : List Int) : Bool := decide (14 ≤ l.length) && decide (l.length ≤ 1514)
def link_Check.f (l0_0 : List (List Int)) (a0_1 : Int) : Option Bool := some (decide (l0_0.length ≤ 32) && (decide (0 ≤ a0_1) && (decide (a0_1 ≤ 2147483648) && !(l0_0.any fun x => !(frameOk x)))))
theorem link_fits_all (l : List Int) : link_fits.f l = some (frameOk l) := by
  unfold link_fits.f frameOk
  by_cases h : 14 ≤ l.length
  · rw [if_pos (by omega)]; simp [h]; omega
  · rw [if_neg (by omega)]; simp [h]
set_option maxHeartbeats 400000 in
set_option maxRecDepth 100000 in
theorem link_Check_odd (A : Option Addr) (c : Nat) (l : List Int) (w : World) (hr : Kd.C (Kd.int .u8) w A l.length l) (hc : l.length ≤ c) :
    Calls Try.prog 32 #[.slice A l.length c] w fun e w' => e = .returned (.bool (!(frameOk l))) ∧ Below w.heap.size w w' := by
  have HX := Aside0.mk (link_fits.calls A c l _ w hr hc (link_fits_all l))
  clear hr hc
  go_enter Try.func32, Try.ntmps32
  go_wp2_with (go_at_call 24; refine HX.out.mono ?_; rintro e w1 ⟨rfl, hb1⟩; have HB := Aside0.mk hb1.below; clear hb1)
  go_ret
  exact ⟨rfl, HB.out⟩
set_option maxHeartbeats 400000 in
set_option maxRecDepth 100000 in
theorem link_Check.calls (A0_0 : Option Addr) (c0_0 : Nat) (l0_0 : List (List Int)) (a0_1 : Int) (r : Bool) (w : World) (hr0_0 : Kd.C (Kd.slice 5 (Kd.int .u8)) w A0_0 l0_0.length l0_0) (hc0_0 : l0_0.length ≤ c0_0) (h : link_Check.f l0_0 a0_1 = some r) :
    Calls Try.prog 20 #[.agg #[.slice A0_0 l0_0.length c0_0, .int .i64 a0_1]] w fun e w' => e = .returned (.bool r) ∧ Below w.heap.size w w' := by
  have HX := Aside0.mk (fun (W : World) (hb : Below w.heap.size w W) => slices_ContainsFunc_byte_byte.any 32 Try.f32 Try.func32 (by kernel_rfl) rfl #[] #[] (fun x => !(frameOk x)) A0_0 c0_0 l0_0 W (Kd.C_below hr0_0 hb) hc0_0 (fun i W2 hi hb2 A c hc hC => link_Check_odd A c _ W2 hC hc))
  clear hr0_0
  have HB := Aside0.mk (Below.refl w.heap.size w)
  unfold link_Check.f at h
  obtain rfl := Option.some.inj h
  clear h
  by_cases h1 : l0_0.length ≤ 32
  case neg =>
    have d1 : decide (l0_0.length ≤ 32) = false := decide_eq_false h1
    rw [d1]
    go_enter Try.func20, Try.ntmps20
    go_wp2
    go_ret
    exact ⟨rfl, below_alloc HB.out _⟩
  have d1 : decide (l0_0.length ≤ 32) = true := decide_eq_true h1
  rw [d1]
  by_cases h2 : 0 ≤ a0_1
  case neg =>
    have d2 : decide (0 ≤ a0_1) = false := decide_eq_false h2
    rw [d2]
    go_enter Try.func20, Try.ntmps20
    go_wp2
    go_ret
    exact ⟨rfl, below_alloc HB.out _⟩
  have d2 : decide (0 ≤ a0_1) = true := decide_eq_true h2
  rw [d2]
  by_cases h3 : a0_1 ≤ 2147483648
  case neg =>
    have d3 : decide (a0_1 ≤ 2147483648) = false := decide_eq_false h3
    rw [d3]
    go_enter Try.func20, Try.ntmps20
    go_wp2
    go_ret
    exact ⟨rfl, below_alloc HB.out _⟩
  have d3 : decide (a0_1 ≤ 2147483648) = true := decide_eq_true h3
  rw [d3]
  simp only [Bool.true_and]
  generalize hq : (l0_0.any fun x => !(frameOk x)) = q at HX ⊢
  clear hq
  go_enter Try.func20, Try.ntmps20
  go_wp2_with (go_at_call 33; refine (HX.out _ (below_alloc HB.out _)).mono ?_; rintro e w1 ⟨rfl, hb1⟩; have HB1 := Aside0.mk (below_step (below_alloc HB.out _) hb1); clear hb1)
  go_ret
  exact ⟨rfl, HB1.out⟩


/-! ### slices_Clone_byte_byte: function 28 -/
def slices_Clone_byte_byte.f (l0 : List Int) : Option (List Int) := if l0.length < 140737488355328 then some l0 else none
set_option maxHeartbeats 4000000 in
set_option maxRecDepth 100000 in
theorem slices_Clone_byte_byte.calls (A0 : Option Addr) (c0 : Nat) (l0 : List Int) (r : List Int) (w : World) (hr0 : Kd.C (Kd.int .u8) w A0 l0.length l0) (hc0 : l0.length ≤ c0) (h : slices_Clone_byte_byte.f l0 = some r) :
    Calls Try.prog 28 #[.slice A0 l0.length c0] w fun e w' => ∃ v0_ : Value, e = .returned (v0_) ∧ Kd.R (Kd.int .u8) 5 w' w.heap.size (fun _ => True) v0_ r ∧ Below w.heap.size w w' := by
  have HR0 := Aside0.mk hr0
  clear hr0
  unfold slices_Clone_byte_byte.f at h
  by_cases hl : l0.length < 140737488355328
  case neg => rw [if_neg hl] at h; exact absurd h (by simp)
  rw [if_pos hl] at h
  obtain rfl := Option.some.inj h
  clear h
  have HL := Aside0.mk hl
  clear hl
  cases A0 with
  | none =>
    have h0 : l0.length = 0 := by
      rcases Nat.eq_zero_or_pos l0.length with h | h
      · exact h
      · obtain ⟨ad, _, e, _⟩ := Kd.C_get HR0.out 0 0 (by omega) (by omega)
        exact absurd e (by simp)
    obtain rfl := List.eq_nil_of_length_eq_zero h0
    clear h0
    have hq := fun (w : World) (n c : Nat) => Lib.run_eql_slice_nil (P := Try.prog) w 25 5 none n c 0 0 Try.underlying25
    go_enter Try.func28, Try.ntmps28
    go_wp2
    go_ret
    exact ⟨_, rfl, Kd.R_nil _ _ _ _ _, Below.refl _ _⟩
  | some ad =>
    have hq := fun (w : World) (n c : Nat) => Lib.run_eql_slice_nil (P := Try.prog) w 25 5 (some ad) n c 0 0 Try.underlying25
    have HB := Aside0.mk (Below.refl w.heap.size w)
    go_enter Try.func28, Try.ntmps28
    go_wp2_with (first | ((with_reducible refine gate_dst (N := 5) rfl ?_); refine Kd.R_lit (Kd.int .u8) _ 5 ?hg (N := 5) ?hd (xs := ([] : List Int)) (inner := []) (ok := fun _ => True) (okp := fun _ => True) ?hr ?hp (fun _ hk => hk) trivial (Below.refl _ _) (Nat.le_refl _) (by simp) ?_; (case hd => rfl); (case hg => rfl); (case hr => first | (go_simp; done) | (go_simp; rfl)); (case hp => exact (Reps.none _ _)); intro v5 w5 ho6 hb hg_ hnew_; clear hg_ hnew_; have HO := Aside0.mk ho6; have HB := Aside0.mk hb; clear ho6 hb) | ((with_reducible refine gate_builtin (b := .append) (xs := #[.tmp 5, .tmp 6]) rfl ?_); at_builtin; refine Kd.R_append_rows (Kd.int .u8) (w0 := w) w.heap.size rfl (.tmp 5) (.tmp 6) 25 5 (.int .u8 0) 1 rfl Try.underlying25 info5 rfl (by decide) (by omega) v5 [] l0 _ _ _ (fun _ => True) (fun _ => False) rfl rfl HO.out (Kd.C_below HR0.out HB.out) (fun _ _ h => h) (fun _ h => h.elim) (fun _ _ => trivial) HB.out (below_size HB.out) ?aL ?_; (case aL => have := HL.out; simp only [List.length_nil]; omega); intro v7 w7 ho hb hg hat; have HO7 := Aside0.mk ho; have HB7 := Aside0.mk hb; clear ho hb hg hat))
    go_ret
    exact ⟨_, rfl, HO7.out, HB7.out⟩

/-! ### link_with: function 25 -/
def link_with.l0 : Nat → List (List Int) → Int → Int → List (List Int) → Int → Option ((List (List Int)) × Int)
 | 0, _, _, _, _, _ => none
 | k + 1, x11, x12, x13, x107000, x107001 => if x13 < x12 then (if 0 ≤ x13 then (if x13 < (x11.length : Int) then ((slices_Clone_byte_byte.f (rd_L1 x11 x13)).bind fun t108 => (if x107000.length < 5864062014805 then (link_with.l0 k x11 x12 (wrap64 (x13 + 1)) (x107000 ++ [t108]) x107001) else (none))) else (none)) else (none)) else (some (x107000, x107001))
def link_with.f (k : Nat) (l0_0 : List (List Int)) (a0_1 : Int) (l1 : List (List Int)) : Option ((List (List Int)) × Int) := link_with.l0 k l1 (l1.length : Int) 0 ([] : List (List Int)) a0_1
theorem link_with.mono_l : ∀ k, (∀ y0 y1 y2 y3 y4, LeO (link_with.l0 k y0 y1 y2 y3 y4) (link_with.l0 (k + 1) y0 y1 y2 y3 y4))
 | 0 => fun _ _ _ _ _ r h => by simp [link_with.l0] at h
 | k + 1 => by
  have ih0 := link_with.mono_l k
  ·intro y0 y1 y2 y3 y4
   unfold link_with.l0
   repeat' first
   | (with_reducible exact ih0 _ _ _ _ _)
   | (with_reducible exact LeO.refl _)
   | (with_reducible exact LeO.none _)
   | (with_reducible refine LeO.ite ?_ ?_)
   | (with_reducible refine LeO.bind ?_ (fun _ => ?_))
   | exact ih0 _ _ _ _ _
   | exact LeO.none _
   | refine LeO.ite ?_ ?_
   | refine LeO.bind ?_ (fun _ => ?_)
theorem link_with.mono : ∀ a0 a1 a2 k, LeO (link_with.f k a0 a1 a2) (link_with.f (k + 1) a0 a1 a2) := by
 intro a0 a1 a2 k
 have ih0 := link_with.mono_l k
 unfold link_with.f
 repeat' first
   | (with_reducible exact ih0 _ _ _ _ _)
   | (with_reducible exact LeO.refl _)
   | (with_reducible exact LeO.none _)
   | (with_reducible refine LeO.ite ?_ ?_)
   | (with_reducible refine LeO.bind ?_ (fun _ => ?_))
   | exact ih0 _ _ _ _ _
   | exact LeO.none _
   | refine LeO.ite ?_ ?_
   | refine LeO.bind ?_ (fun _ => ?_)
def link_with.T5 : Bool × List (List Nat × List Nat) := (true, [([], []), ([0], [0]), ([], []), ([2], [2]), ([3], [3]), ([1, 4, 3], [1, 4]), ([0, 1, 2, 3, 4, 5], []), ([6, 5, 5, 0, 1, 2, 3, 4, 5], [5, 6])])
def link_with.B5 : List Nat := [0, 1, 0, 4, 12, 31, 63, 127]
theorem link_with.tab5 : rtab .any (opsOf Try.f25 5) = link_with.T5 := by kernel_rfl
theorem link_with.bits5 : waitsOk link_with.T5.2 link_with.B5 = true := by kernel_rfl
set_option maxHeartbeats 8000000 in
set_option maxRecDepth 100000 in
theorem link_with.calls (k : Nat) (A0_0 : Option Addr) (c0_0 : Nat) (l0_0 : List (List Int)) (a0_1 : Int) (A1 : Option Addr) (c1 : Nat) (l1 : List (List Int)) (r1 : List (List Int)) (r2 : Int) (w : World) (hr0_0 : Kd.C (Kd.slice 5 (Kd.int .u8)) w A0_0 l0_0.length l0_0) (hc0_0 : l0_0.length ≤ c0_0) (hr1 : Kd.C (Kd.slice 5 (Kd.int .u8)) w A1 l1.length l1) (hc1 : l1.length ≤ c1) (h : link_with.f k l0_0 a0_1 l1 = some (r1, r2)) :
  Calls Try.prog 25 #[.agg #[.slice A0_0 l0_0.length c0_0, .int .i64 a0_1], .slice A1 l1.length c1] w fun e w' => ∃ v0_ : Value, e = .returned (.agg #[v0_, .int .i64 r2]) ∧ Kd.S (Kd.slice 5 (Kd.int .u8)) 25 w' w.heap.size (fun _ => True) v0_ r1 ∧ Below w.heap.size w w' := by
 have hu24:=Try.underlying24
 have HR0_0:=mK hr0_0
 have HC0_0:=mK hc0_0
 clear hr0_0 hc0_0
 have HR1:=mK hr1
 have HC1:=mK hc1
 clear hr1 hc1
 have HB:=mK (Below.refl w.heap.size w)
 have H : (link_with.l0 k l1 (l1.length : Int) 0 ([] : List (List Int)) a0_1) = some (r1,r2):=h
 clear h
 have H':=mK H
 clear H
 go_enter Try.func25,Try.ntmps25
 go_wp2_with (first|((with_reducible refine gate_dst (N:=2) rfl ?_);refine box_event ?hg (N:=2) ?hd (cs:=#[.slice A0_0 l0_0.length c0_0,.int .i64 a0_1]) (t:=24) ?hr ?_;(case hd=>rfl);(case hg=>rfl);(case hr=>first|(go_simp;done)|(go_simp;rfl));intro gb104 hg w3 hbox hb;have n0_:=mK (below_step (by repeat (first|(with_reducible first|exact HB.out|apply lA|apply lN|apply lD)|exact HB.out)) hb);have n1_:=mK (hbox);have n3_:=mK ((by rw [hg];exact (below_size (by repeat (first|(with_reducible first|exact HB.out|apply lA|apply lN|apply lD)|exact HB.out))) : w.heap.size ≤ gb104));clear HB;have HB:=n0_;have BK104:=n1_;have GE104:=n3_;clear n0_ n1_ n3_;clear hb hbox hg)|((with_reducible refine gate_dst (N:=4) rfl ?_);refine box_event ?hg (N:=4) ?hd (cs:=#[.slice none 0 0,.int .i64 0]) (t:=24) ?hr ?_;(case hd=>rfl);(case hg=>rfl);(case hr=>first|(go_simp;done)|(go_simp;rfl));intro gb105 hg w4 hbox hb;have n0_:=mK (blk_below (g:=gb104) (o:=.cells #[.slice A0_0 l0_0.length c0_0,.int .i64 a0_1] 24 (0,0)) (by (with_reducible repeat (first|apply bN|apply bD|apply bA));exact BK104.out) hb);have n1_:=mK (below_step (by repeat (first|(with_reducible first|exact HB.out|apply lA|apply lN|apply lD|refine lS ?_ GE104.out)|exact HB.out)) hb);have n2_:=mK (hbox);have n4_:=mK ((by rw [hg];exact (below_size (by repeat (first|(with_reducible first|exact HB.out|apply lA|apply lN|apply lD|refine lS ?_ GE104.out)|exact HB.out))) : w.heap.size ≤ gb105));have n5_:=mK ((by rw [hg];exact Nat.ne_of_lt (blk_lt (g:=gb104) (o:=.cells #[.slice A0_0 l0_0.length c0_0,.int .i64 a0_1] 24 (0,0)) (by (with_reducible repeat (first|apply bN|apply bD|apply bA));exact BK104.out)) : gb104 ≠ gb105));have n6_:=mK ((by rw [hg];exact Nat.ne_of_gt (blk_lt (g:=gb104) (o:=.cells #[.slice A0_0 l0_0.length c0_0,.int .i64 a0_1] 24 (0,0)) (by (with_reducible repeat (first|apply bN|apply bD|apply bA));exact BK104.out)) : gb105 ≠ gb104));clear BK104;clear HB;have BK104:=n0_;have HB:=n1_;have BK105:=n2_;have GE105:=n4_;have NB104_105:=n5_;have NB105_104:=n6_;clear n0_ n1_ n2_ n4_ n5_ n6_;clear hb hbox hg;have hnb5:=NB104_105.out;have hnc5:=NB105_104.out;have hcz6_0 : w4.cell? ⟨gb104,0,none⟩ = some (.slice A0_0 l0_0.length c0_0):=(blk_cell BK104.out 0).trans rfl;have hcz6_1 : w4.cell? ⟨gb104,1,none⟩ = some (.int .i64 a0_1):=(blk_cell BK104.out 1).trans rfl;have hfz6_0:=blk_frozen BK104.out 0;have hfz6_1:=blk_frozen BK104.out 1)|((with_reducible refine gate_dst (N:=5) rfl ?_);refine box_event ?hg (N:=5) ?hd (cs:=#[.slice none 0 0,.int .i64 0]) (t:=24) ?hr ?_;(case hd=>rfl);(case hg=>rfl);(case hr=>first|(go_simp;done)|(go_simp;rfl));intro gb106 hg w7 hbox hb;have n0_:=mK (blk_below (g:=gb104) (o:=.cells #[.slice A0_0 l0_0.length c0_0,.int .i64 a0_1] 24 (0,0)) (by (with_reducible repeat (first|apply bN|apply bD|apply bA));exact BK104.out) hb);have n1_:=mK (blk_below (g:=gb105) (o:=.cells #[.slice none 0 0,.int .i64 0] 24 (0,0)) (by (with_reducible repeat (first|apply bN|apply bD|apply bA));exact BK105.out) hb);have n2_:=mK (below_step (by repeat (first|(with_reducible first|exact HB.out|apply lA|apply lN|apply lD|refine lS ?_ GE104.out|refine lS ?_ GE105.out)|exact HB.out)) hb);have n3_:=mK (hbox);have n5_:=mK ((by rw [hg];exact (below_size (by repeat (first|(with_reducible first|exact HB.out|apply lA|apply lN|apply lD|refine lS ?_ GE104.out|refine lS ?_ GE105.out)|exact HB.out))) : w.heap.size ≤ gb106));have n6_:=mK ((by rw [hg];exact Nat.ne_of_lt (blk_lt (g:=gb104) (o:=.cells #[.slice A0_0 l0_0.length c0_0,.int .i64 a0_1] 24 (0,0)) (by (with_reducible repeat (first|apply bN|apply bD|apply bA));exact BK104.out)) : gb104 ≠ gb106));have n7_:=mK ((by rw [hg];exact Nat.ne_of_gt (blk_lt (g:=gb104) (o:=.cells #[.slice A0_0 l0_0.length c0_0,.int .i64 a0_1] 24 (0,0)) (by (with_reducible repeat (first|apply bN|apply bD|apply bA));exact BK104.out)) : gb106 ≠ gb104));have n8_:=mK ((by rw [hg];exact Nat.ne_of_lt (blk_lt (g:=gb105) (o:=.cells #[.slice none 0 0,.int .i64 0] 24 (0,0)) (by (with_reducible repeat (first|apply bN|apply bD|apply bA));exact BK105.out)) : gb105 ≠ gb106));have n9_:=mK ((by rw [hg];exact Nat.ne_of_gt (blk_lt (g:=gb105) (o:=.cells #[.slice none 0 0,.int .i64 0] 24 (0,0)) (by (with_reducible repeat (first|apply bN|apply bD|apply bA));exact BK105.out)) : gb106 ≠ gb105));clear BK104;clear BK105;clear HB;have BK104:=n0_;have BK105:=n1_;have HB:=n2_;have BK106:=n3_;have GE106:=n5_;have NB104_106:=n6_;have NB106_104:=n7_;have NB105_106:=n8_;have NB106_105:=n9_;clear n0_ n1_ n2_ n3_ n5_ n6_ n7_ n8_ n9_;clear hb hbox hg;have hnb8:=NB106_104.out;have hnc8:=NB104_106.out;have hnb9:=NB106_105.out;have hnc9:=NB105_106.out;have hcz10_0 : w7.cell? ⟨gb106,0,none⟩ = some (.slice none 0 0):=(blk_cell BK106.out 0).trans rfl;have hcz10_1 : w7.cell? ⟨gb106,1,none⟩ = some (.int .i64 0):=(blk_cell BK106.out 1).trans rfl;have hfz10_0:=blk_frozen BK106.out 0;have hfz10_1:=blk_frozen BK106.out 1))
 go_loopg [13] k (fun kq v13 w'=>∃ (x13_1 : Int) (x107000_1 : List (List Int)) (u107000 : Value),v13 = .int .i64 x13_1∧Aside0 (link_with.l0 kq l1 (l1.length : Int) x13_1 x107000_1 a0_1 = some (r1,r2))∧Aside0 (kq ≤ k)∧Aside0 (Kd.S (Kd.slice 5 (Kd.int .u8)) 25 w' w.heap.size (fun _=>True) u107000 x107000_1)∧Aside0 (w'.heap[gb104]? = some (.cells #[(.slice A0_0 l0_0.length c0_0),.int .i64 a0_1] 24 (0,0)))∧Aside0 (w'.heap[gb105]? = some (.cells #[(.slice none 0 0),.int .i64 0] 24 (0,0)))∧Aside0 (w'.heap[gb106]? = some (.cells #[u107000,.int .i64 a0_1] 24 (0,0)))∧Aside0 (Below w.heap.size w w'))
 case atStart=>exact ⟨(0),(([] : List (List Int))),(.slice none 0 0),(by first|rfl|(simp;done)|(simp [*];done)),H',⟨Nat.le_refl _⟩,⟨by first|exact Kd.S_nil _ _ _ _ _|exact Kd.N_nil _ _ _ _ _|exact Kd.V_nil _ _ _ _ _|exact Kd.Q_nil _ _ _ _ _|exact Kd.R_nil _ _ _ _ _⟩,⟨by (with_reducible repeat (first|apply bN|apply bD|apply bA));refine blk_far ?_ NB104_106.out _;(with_reducible repeat (first|apply bN|apply bD|apply bA));refine blk_far ?_ NB104_106.out _;(with_reducible repeat (first|apply bN|apply bD|apply bA));exact BK104.out⟩,⟨by (with_reducible repeat (first|apply bN|apply bD|apply bA));refine blk_far ?_ NB105_106.out _;(with_reducible repeat (first|apply bN|apply bD|apply bA));refine blk_far ?_ NB105_106.out _;(with_reducible repeat (first|apply bN|apply bD|apply bA));exact BK105.out⟩,⟨by (with_reducible repeat (first|apply bN|apply bD|apply bA));refine blk_put (cs:=#[.slice none 0 0,.int .i64 0]) ?_ 1 _ rfl;(with_reducible repeat (first|apply bN|apply bD|apply bA));refine blk_put (cs:=#[.slice none 0 0,.int .i64 0]) ?_ 0 _ rfl;(with_reducible repeat (first|apply bN|apply bD|apply bA));exact BK106.out⟩,⟨by repeat (first|(with_reducible first|exact HB.out|apply lA|apply lN|apply lD|refine lS ?_ GE104.out|refine lS ?_ GE105.out|refine lS ?_ GE106.out)|exact HB.out)⟩⟩
 case round =>
  clear H'
  try clear c1
  try clear c2
  try clear p2
  try clear c5
  try clear c8
  try clear c9
  try clear hcz10_0
  try clear hcz10_1
  try clear hcz6_0
  try clear hcz6_1
  try clear hfz10_0
  try clear hfz10_1
  try clear hfz6_0
  try clear hfz6_1
  obtain ⟨x13_1,x107000_1,u107000,rfl,HA,HK1,HO_107000,BK104,BK105,BK106,HB⟩:=hrel
  cases gk with
  |zero=>exact absurd HA.out (by simp [link_with.l0])
  |succ k1 =>
   have H:=HA.out
   clear HA
   simp only [link_with.l0] at H
   by_cases c11 : x13_1 < (l1.length : Int)
   ·rw [if_pos c11] at H
    have c11b0 : decide (x13_1 < (l1.length : Int)) = true:=decide_eq_true c11
    clear c11
    by_cases c12 : 0 ≤ x13_1
    ·rw [if_pos c12] at H
     have c12b0 : decide (0 ≤ x13_1) = true:=decide_eq_true c12
     clear c12
     by_cases c13 : x13_1 < (l1.length : Int)
     ·rw [if_pos c13] at H
      have c13b0 : decide (x13_1 < (l1.length : Int)) = true:=decide_eq_true c13
      clear c13
      replace H:=Option.bind_eq_some_iff.mp H
      obtain ⟨t108,A140,H⟩:=H
      replace H : (if x107000_1.length < 5864062014805 then (link_with.l0 k1 l1 (l1.length : Int) (wrap64 (x13_1 + 1)) (x107000_1 ++ [t108]) a0_1) else (none)) = some (r1,r2):=H
      have A14:=mK A140
      clear A140
      by_cases c15 : x107000_1.length < 5864062014805
      ·rw [if_pos c15] at H
       have LMc15:=mK c15
       clear c15
       obtain ⟨y111,hy111⟩ : ∃ y_ : List (List Int),y_ = (x107000_1 ++ [t108]):=⟨_,rfl⟩
       replace H : (link_with.l0 k1 l1 (l1.length : Int) (wrap64 (x13_1 + 1)) y111 a0_1) = some (r1,r2):= by first|(rw [hy111];with_reducible exact H)|(have H2_:=(Option.bind_some _ _).symm.trans H;rw [hy111];with_reducible exact H2_)|(have H2_:=(Option.bind_some _ _).symm.trans H;with_reducible exact H2_)|with_reducible exact H|(rw [hy111];exact H)|exact H
       have Ny111:=mK hy111
       clear hy111
       have H':=mK H
       clear H
       have p107 : 0 ≤ (x13_1 : Int):=of_decide_eq_true (by first|(with_reducible assumption)|assumption)
       have q107 : x13_1 < (l1.length : Int):=of_decide_eq_true (by first|(with_reducible assumption)|assumption)
       obtain ⟨ad107,A107_0,c107_0,e107,hx107_0,hl107_0,hi107_0⟩:=at_L1 HR1.out x13_1 p107 q107
       cases e107
       replace hx107_0:=(HB.out.cell (World.block_lt_of_cell? w _ hx107_0)).trans hx107_0
       have HR107_0:=mK hi107_0
       have HC107_0:=mK hl107_0
       clear hi107_0 hl107_0
       replace p107:=eq_true p107
       replace q107:=eq_true q107
       try go_wp2
       have n0_:=mK (Kd.S_drew HO_107000.out)
       have n1_:=mK (blk_drew BK104.out)
       have n2_:=mK (blk_drew BK105.out)
       have n3_:=mK (blk_drew BK106.out)
       have n4_:=mK (below_drew1 HB.out)
       clear HO_107000
       clear BK104
       clear BK105
       clear BK106
       clear HB
       have HO_107000:=n0_
       have BK104:=n1_
       have BK105:=n2_
       have BK106:=n3_
       have HB:=n4_
       clear n0_ n1_ n2_ n3_ n4_
       refine start_ (n:=8) (S:= fun w'=>w'.cell? ⟨gb106,0,none⟩ = some (u107000)∧w'.cell? ⟨gb106,1,none⟩ = some (.int .i64 a0_1)) (ds:=[7]) #[φ,φ,φ,φ,φ,φ,φ,φ] (by kernel_rfl) rfl rfl ⟨(blk_cell BK106.out 0).trans rfl,(blk_cell BK106.out 1).trans rfl⟩ (fun hHeld=>?_);refine with_tabW link_with.tab5 link_with.bits5 (fun HT_ HW_=>?_)
       generalize wr.drew = w16 at HO_107000 BK104 BK105 BK106 HB hHeld ⊢
       refine pure_ (i:=0) (N:=some 17) (v:=?_) (a':=?_) #[τ,φ,φ,φ,φ,φ,φ,φ] rfl rfl (any_of HT_.out (by kernel_rfl)) (fun _ _ _ h=>h) (Or.inl ⟨by rfl,?_⟩) ?_ ?_
       rotate_left
       ·intro w'
        go_simp
        with_reducible rfl
       rotate_left
       ·simp only [Act.put,sT,sZ,sS,i64_w,i32_w]
        rfl
       refine pure_ (i:=2) (N:=some 19) (v:=?_) (a':=?_) #[τ,φ,τ,φ,φ,φ,φ,φ] rfl rfl (any_of HT_.out (by kernel_rfl)) (fun _ _ _ h=>h) (Or.inl ⟨by rfl,?_⟩) ?_ ?_
       rotate_left
       ·intro w'
        go_simp
        with_reducible rfl
       rotate_left
       ·simp only [Act.put,sT,sZ,sS,i64_w,i32_w]
        rfl
       refine take_ (i:=1) (N:=some 18) (v:=?_) (a':=?_) #[τ,τ,τ,φ,φ,φ,φ,φ] rfl rfl (take_ofW HT_.out HW_.out (by kernel_rfl)) (fun _ _ _ h=>h) (Or.inl ⟨by rfl,?_⟩) hHeld ?_ ?_
       rotate_left
       ·rintro w' ⟨s0,s1⟩
        go_simp
        with_reducible rfl
       rotate_left
       ·simp only [Act.put,sT,sZ,sS,i64_w,i32_w]
        rfl
       refine one_ (i:=3) (N:=some 20) #[τ,τ,τ,τ,φ,φ,φ,φ] rfl rfl (one_of HT_.out (by kernel_rfl)) (by decide) (fun K hK=>?_)
       refine goes_ Try.func28 (by kernel_rfl) rfl #[.slice A107_0 (rd_L1 l1 x13_1).length c107_0] (by rfl) rfl rfl (by (try simp only [List.map_toArray,List.map_cons,List.map_nil]);first|done|rfl|(simp only [List.length_drop,List.length_take];rfl)) ?_
       with_reducible refine (slices_Clone_byte_byte.calls _ _ (rd_L1 l1 x13_1) t108 _ ?side1 ?side2 A14.out).mono ?_
       (case side1=>repeat (first|exact (Kd.C_below HR107_0.out HB.out)|(with_reducible refine Kd.C_alloc ?_ _)|(with_reducible refine Kd.C_drewN ?_ _)|(with_reducible refine Kd.C_drew ?_)))
       (case side2=>exact HC107_0.out)
       rintro e w17 ⟨v109,rfl,ho0,hb⟩
       refine ⟨_,rfl,?_⟩
       have n0_:=mK (Kd.S_elder' (by (with_reducible repeat (first|apply Kd.S_alloc|apply Kd.S_drewN|apply Kd.S_drew));exact HO_107000.out) (Kd.R_base ho0) hb)
       have n1_:=mK (Kd.R_lower ho0 (below_size (by repeat (first|(with_reducible first|exact HB.out|apply lA|apply lN|apply lD|refine lS ?_ GE104.out|refine lS ?_ GE105.out|refine lS ?_ GE106.out)|exact HB.out))))
       have n2_:=mK (blk_below (g:=gb104) (o:=.cells #[.slice A0_0 l0_0.length c0_0,.int .i64 a0_1] 24 (0,0)) (by (with_reducible repeat (first|apply bN|apply bD|apply bA));exact BK104.out) hb)
       have n3_:=mK (blk_below (g:=gb105) (o:=.cells #[.slice none 0 0,.int .i64 0] 24 (0,0)) (by (with_reducible repeat (first|apply bN|apply bD|apply bA));exact BK105.out) hb)
       have n4_:=mK (blk_below (g:=gb106) (o:=.cells #[u107000,.int .i64 a0_1] 24 (0,0)) (by (with_reducible repeat (first|apply bN|apply bD|apply bA));exact BK106.out) hb)
       have n5_:=mK (below_step (by repeat (first|(with_reducible first|exact HB.out|apply lA|apply lN|apply lD|refine lS ?_ GE104.out|refine lS ?_ GE105.out|refine lS ?_ GE106.out)|exact HB.out)) hb)
       clear HO_107000
       clear BK104
       clear BK105
       clear BK106
       clear HB
       have HO_107000:=n0_
       have HO110:=n1_
       have BK104:=n2_
       have BK105:=n3_
       have BK106:=n4_
       have HB:=n5_
       clear n0_ n1_ n2_ n3_ n4_ n5_
       (try clear hb)
       (try clear hb2)
       (try clear hk)
       (try clear hi)
       (try clear ho0)
       obtain ⟨Ao19,co19,eo19⟩:=Kd.R_slice HO110.out
       (first|subst eo19|(injection eo19 with f1_ f2_ f3_;have f4_:=f1_.symm;have f5_:=f3_.symm;clear f1_ f2_ f3_;subst f4_;subst f5_))
       refine hK.out _ _ ⟨(blk_cell BK106.out 0).trans rfl,(blk_cell BK106.out 1).trans rfl⟩ (fun hHeld=>?_)
       clear hK K
       refine norm_ (a':=?_) ?_ ?_
       rotate_left
       ·show Act.put _ (some 20) _ = _
        simp only [Act.put,sT,sZ,sS,i64_w,i32_w]
        rfl
       refine one_ (i:=4) (N:=some 21) #[τ,τ,τ,τ,τ,φ,φ,φ] rfl rfl (one_of HT_.out (by kernel_rfl)) (by decide) (fun K hK=>?_)
       refine value_ (w1:=?_) (v:=?_) (by rfl) rfl ?_ ?_
       rotate_left 2
       ·go_simp
        constructor
        ·rfl
        ·rfl
       refine hK.out _ _ ⟨(blk_cell (blk_alloc BK106.out _) 0).trans rfl,(blk_cell (blk_alloc BK106.out _) 1).trans rfl⟩ (fun hHeld=>?_)
       clear hK K
       refine norm_ (a':=?_) ?_ ?_
       rotate_left
       ·show Act.put _ (some 21) _ = _
        simp only [Act.put,sT,sZ,sS,i64_w,i32_w]
        rfl
       refine one_ (i:=5) (N:=some 22) #[τ,τ,τ,τ,τ,τ,φ,φ] rfl rfl (one_of HT_.out (by kernel_rfl)) (by decide) (fun K hK=>?_)
       refine Kd.S_append_step (Kd.slice 5 (Kd.int .u8)) (w0:=w) w.heap.size (by rfl) (.tmp 18) (.tmp 21) 22 25 (.slice none 0 0) 24 rfl Try.underlying22 info25 rfl (by decide) (by omega) u107000 x107000_1 t108 [.slice Ao19 t108.length co19] (fun _=>True) (fun k_=>some k_ = (.slice Ao19 t108.length co19 : Value).ownBlock) rfl rfl ?aP (fun k_ hk_=>((Kd.R_mono (ok':= fun k_=>((fun _=>True)) k_∧some k_ ≠ (u107000 : Value).ownBlock) (Kd.R_apart' (HO110.out) (Kd.S_typed HO_107000.out) (by decide)) (fun k_ hk=>⟨trivial,hk.2⟩))).1 k_ hk_.symm) ?aF ?aO ?aB ?aS ?aL ?_
       (case aP=>exact Kd.M_row (Kd.R_mono (Kd.R_tight rfl (Kd.R_mono (ok':= fun k_=>((fun _=>True)) k_∧some k_ ≠ (u107000 : Value).ownBlock) (Kd.R_apart' (HO110.out) (Kd.S_typed HO_107000.out) (by decide)) (fun k_ hk=>⟨trivial,hk.2⟩))) (fun _ h_=>h_)))
       (case aB=>exact (by repeat (first|(with_reducible first|exact HB.out|apply lA|apply lN|apply lD|refine lS ?_ GE104.out|refine lS ?_ GE105.out|refine lS ?_ GE106.out)|exact HB.out)))
       (case aF=>exact (fun _ _=>trivial))
       (case aO=>exact (by (with_reducible repeat (first|apply Kd.S_alloc|apply Kd.S_drewN|apply Kd.S_drew));exact Kd.S_mono HO_107000.out (fun k_ hk=>⟨trivial,fun e_=>hk.2 e_⟩)))
       (case aS=>exact (below_size (by repeat (first|(with_reducible first|exact HB.out|apply lA|apply lN|apply lD|refine lS ?_ GE104.out|refine lS ?_ GE105.out|refine lS ?_ GE106.out)|exact HB.out))))
       (case aL=>have:=LMc15.out;omega)
       intro v112 w18 ho hb hg hat
       rw [← Ny111.out] at ho
       have n0_:=mK (blk_grown (g:=gb104) (o:=.cells #[.slice A0_0 l0_0.length c0_0,.int .i64 a0_1] 24 (0,0)) (by (with_reducible repeat (first|apply bN|apply bD|apply bA));exact BK104.out) hg (Kd.S_ne HO_107000.out BK104.out (by decide)))
       have n1_:=mK (blk_grown (g:=gb105) (o:=.cells #[.slice none 0 0,.int .i64 0] 24 (0,0)) (by (with_reducible repeat (first|apply bN|apply bD|apply bA));exact BK105.out) hg (Kd.S_ne HO_107000.out BK105.out (by decide)))
       have n2_:=mK (blk_grown (g:=gb106) (o:=.cells #[u107000,.int .i64 a0_1] 24 (0,0)) (by (with_reducible repeat (first|apply bN|apply bD|apply bA));exact BK106.out) hg (Kd.S_ne HO_107000.out BK106.out (by decide)))
       have n3_:=mK (hb)
       have n4_:=mK (ho)
       clear BK104
       clear BK105
       clear BK106
       clear HB
       clear HO_107000
       clear HO110
       have BK104:=n0_
       have BK105:=n1_
       have BK106:=n2_
       have HB:=n3_
       have HO113:=n4_
       clear n0_ n1_ n2_ n3_ n4_
       clear ho hb hg hat
       obtain ⟨Ao20,co20,eo20⟩:=Kd.S_slice HO113.out
       (first|subst eo20|(injection eo20 with f1_ f2_ f3_;have f4_:=f1_.symm;have f5_:=f3_.symm;clear f1_ f2_ f3_;subst f4_;subst f5_))
       refine hK.out _ _ ⟨(blk_cell BK106.out 0).trans rfl,(blk_cell BK106.out 1).trans rfl⟩ (fun hHeld=>?_)
       clear hK K
       refine norm_ (a':=?_) ?_ ?_
       rotate_left
       ·show Act.put _ (some 22) _ = _
        simp only [Act.put,sT,sZ,sS,i64_w,i32_w]
        rfl
       refine pure_ (i:=6) (N:=some 23) (v:=?_) (a':=?_) #[τ,τ,τ,τ,τ,τ,τ,φ] rfl rfl (any_of HT_.out (by kernel_rfl)) (fun _ _ _ h=>h) (Or.inl ⟨by rfl,?_⟩) ?_ ?_
       rotate_left
       ·intro w'
        go_simp
        with_reducible rfl
       rotate_left
       ·simp only [Act.put,sT,sZ,sS,i64_w,i32_w]
        rfl
       refine last_ (i:=7) (N:=none) #[τ,τ,τ,τ,τ,τ,τ,τ] rfl rfl (one_of HT_.out (by kernel_rfl)) (by decide) (fun K hK=>?_)
       have hs21 : w18.cell? ⟨gb106,0,none⟩ = some (u107000):=(blk_cell BK106.out 0).trans rfl
       have hfs21:=blk_frozen BK106.out 0
       have hns21_0:=NB104_106.out
       have hns21_1:=NB105_106.out
       have hms21_0:=NB106_104.out
       have hms21_1:=NB106_105.out
       refine skip_ (w1:=?_) (by rfl) rfl ?_ ?_
       rotate_left
       ·go_simp
        rfl
       refine hK.out _ _ ?_
       clear hK K
       refine done_ (done_of HT_.out (by kernel_rfl)) ?_
       try go_wp2
       go_roundg k1
       case measure=>have:=HK1.out;omega
       case rel=>exact ⟨(wrap64 (x13_1 + 1)),(y111),(.slice Ao20 y111.length co20),(by first|rfl|(simp;done)|(simp [*];done)),H',⟨by have:=HK1.out;omega⟩,⟨by (with_reducible repeat (first|apply Kd.S_alloc|apply Kd.S_drewN|apply Kd.S_drew));exact Kd.S_mono (Kd.S_far (p:=⟨gb106,0,none⟩) (Kd.S_types HO113.out BK106.out (by decide)) (fun _ hk=>hk.2) (.slice Ao20 y111.length co20)) (fun _ hk=>trivial)⟩,⟨by (with_reducible repeat (first|apply bN|apply bD|apply bA));refine blk_far ?_ NB104_106.out _;(with_reducible repeat (first|apply bN|apply bD|apply bA));exact BK104.out⟩,⟨by (with_reducible repeat (first|apply bN|apply bD|apply bA));refine blk_far ?_ NB105_106.out _;(with_reducible repeat (first|apply bN|apply bD|apply bA));exact BK105.out⟩,⟨by (with_reducible repeat (first|apply bN|apply bD|apply bA));refine blk_put (cs:=#[u107000,.int .i64 a0_1]) ?_ 0 _ rfl;(with_reducible repeat (first|apply bN|apply bD|apply bA));exact BK106.out⟩,⟨by repeat (first|(with_reducible first|exact HB.out|apply lA|apply lN|apply lD|refine lS ?_ GE104.out|refine lS ?_ GE105.out|refine lS ?_ GE106.out)|exact HB.out)⟩⟩
      ·rw [if_neg c15] at H
       exact absurd H (by simp)
     ·rw [if_neg c13] at H
      exact absurd H (by simp)
    ·rw [if_neg c12] at H
     exact absurd H (by simp)
   ·rw [if_neg c11] at H
    have c11b0 : decide (x13_1 < (l1.length : Int)) = false:=decide_eq_false c11
    clear c11
    simp only [Option.some.injEq,Prod.mk.injEq] at H
    obtain ⟨rfl,rfl⟩:=H
    have hnb22:=NB106_104.out
    have hnc22:=NB104_106.out
    have hnb23:=NB106_105.out
    have hnc23:=NB105_106.out
    have hcz24_0 : wr.cell? ⟨gb106,0,none⟩ = some (u107000):=(blk_cell BK106.out 0).trans rfl
    have hcz24_1 : wr.cell? ⟨gb106,1,none⟩ = some (.int .i64 a0_1):=(blk_cell BK106.out 1).trans rfl
    have hfz24_0:=blk_frozen BK106.out 0
    have hfz24_1:=blk_frozen BK106.out 1
    obtain ⟨Ao25,co25,eo25⟩:=Kd.S_slice HO_107000.out
    subst eo25
    have hnb26:=NB105_104.out
    have hnc26:=NB104_105.out
    have hcz27_0 : wr.cell? ⟨gb105,0,none⟩ = some (.slice none 0 0):=(blk_cell BK105.out 0).trans rfl
    have hcz27_1 : wr.cell? ⟨gb105,1,none⟩ = some (.int .i64 0):=(blk_cell BK105.out 1).trans rfl
    have hfz27_0:=blk_frozen BK105.out 0
    have hfz27_1:=blk_frozen BK105.out 1
    go_wp2
    refine bodyPost_ret (results_cell_row rfl _ _ gb105 24 #[.slice Ao25 x107000_1.length co25,.int .i64 a0_1] (0,0) _ rfl (by (with_reducible repeat (first|apply bN|apply bD|apply bA));refine blk_put (cs:=#[.slice Ao25 x107000_1.length co25,.int .i64 0]) ?_ 1 _ rfl;(with_reducible repeat (first|apply bN|apply bD|apply bA));refine blk_put (cs:=#[.slice none 0 0,.int .i64 0]) ?_ 0 _ rfl;(with_reducible repeat (first|apply bN|apply bD|apply bA));exact BK105.out) Try.underlying24 rfl (by kernel_rfl)) rfl ?_
    exact ⟨_,by first|rfl|(simp [errW_none,errW_some] <;> rfl)|(simp [*,errW_none,errW_some] <;> rfl),by (with_reducible repeat (first|apply Kd.S_alloc|apply Kd.S_drewN|apply Kd.S_drew));exact Kd.S_mono (Kd.S_far (p:=⟨gb105,1,none⟩) (Kd.S_far (p:=⟨gb105,0,none⟩) (Kd.S_types HO_107000.out BK105.out (by decide)) (fun _ hk=>hk.2) (.slice Ao25 x107000_1.length co25)) (fun _ hk=>hk.2) (.int .i64 a0_1)) (fun _ hk=>trivial),by repeat (first|(with_reducible first|exact HB.out|apply lA|apply lN|apply lD|refine lS ?_ GE104.out|refine lS ?_ GE105.out|refine lS ?_ GE106.out)|exact HB.out)⟩

end Go.Proofs.Ythfokiabneflpaa.P
