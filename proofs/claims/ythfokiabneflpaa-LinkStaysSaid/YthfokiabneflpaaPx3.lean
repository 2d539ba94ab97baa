/- Contracts of functions of the seat, written by a program of this session (with the kit's print) for the laws of this claim; no condition beside what each states. -/
import Derived.Test.YthfokiabneflpaaPx0
import Derived.Test.YthfokiabneflpaaPx1
namespace Go.Proofs.Ythfokiabneflpaa.P
open Go.Proofs.Ythfokiabneflpaa.Aux Go.RowKit Go.Proofs.YthfokiabneflpaaW.PrintWords Go.Proofs.YthfokiabneflpaaW.PrintLast Go.Proofs.YthfokiabneflpaaW.PrintMore
attribute [local go_sem] max2_int min2_int max_two min_two max_three min_three max_four min_four   -- for this text's walks alone
set_option linter.unusedVariables false
set_option linter.unusedSimpArgs false

/-! ### link_Pop: function 10 -/
def link_Pop.j0 : Nat → Bool → List (List Int) → Int → Option ((List (List Int)) × Int × List Int × Bool)
 | 0, _, _, _ => none
 | k + 1, x13, x129000, x129001 => if x13 = true then (some (x129000, x129001, ([] : List Int), false)) else (if 1 ≤ (x129000.length : Int) then ((link_with.f k x129000 x129001 (x129000.drop 1)).bind fun bt136 => (if 0 < (x129000.length : Int) then ((slices_Clone_byte_byte.f (rd_L1 x129000 0)).bind fun t141 => (some (bt136.1, bt136.2, t141, true))) else (none))) else (none))
def link_Pop.f (k : Nat) (l0_0 : List (List Int)) (a0_1 : Int) : Option ((List (List Int)) × Int × List Int × Bool) := (link_Check.f l0_0 a0_1).bind fun t130 => (if t130 = true then (link_Pop.j0 k ((l0_0.length : Int) == 0) l0_0 a0_1) else (link_Pop.j0 k true l0_0 a0_1))
theorem link_Pop.mono_l : ∀ k, (∀ y0 y1 y2, LeO (link_Pop.j0 k y0 y1 y2) (link_Pop.j0 (k + 1) y0 y1 y2))
 | 0 => fun _ _ _ r h => by simp [link_Pop.j0] at h
 | k + 1 => by
  have ih0 := link_Pop.mono_l k
  ·intro y0 y1 y2
   unfold link_Pop.j0
   repeat' first
   | (with_reducible exact ih0 _ _ _)
   | (with_reducible exact link_with.mono _ _ _ _)
   | (with_reducible exact LeO.refl _)
   | (with_reducible exact LeO.none _)
   | (with_reducible refine LeO.ite ?_ ?_)
   | (with_reducible refine LeO.bind ?_ (fun _ => ?_))
   | exact ih0 _ _ _
   | exact link_with.mono _ _ _ _
   | exact LeO.none _
   | refine LeO.ite ?_ ?_
   | refine LeO.bind ?_ (fun _ => ?_)
theorem link_Pop.mono : ∀ a0 a1 k, LeO (link_Pop.f k a0 a1) (link_Pop.f (k + 1) a0 a1) := by
 intro a0 a1 k
 have ih0 := link_Pop.mono_l k
 unfold link_Pop.f
 repeat' first
   | (with_reducible exact ih0 _ _ _)
   | (with_reducible exact link_with.mono _ _ _ _)
   | (with_reducible exact LeO.refl _)
   | (with_reducible exact LeO.none _)
   | (with_reducible refine LeO.ite ?_ ?_)
   | (with_reducible refine LeO.bind ?_ (fun _ => ?_))
   | exact ih0 _ _ _
   | exact link_with.mono _ _ _ _
   | exact LeO.none _
   | refine LeO.ite ?_ ?_
   | refine LeO.bind ?_ (fun _ => ?_)
def link_Pop.T3 : Bool × List (List Nat × List Nat) := (true, [([], []), ([], []), ([1], [1]), ([2], [2]), ([0, 3], [0, 3]), ([], []), ([5], [5]), ([6], [6]), ([7], [7]), ([8, 4], [8]), ([4, 9, 0, 1, 2, 3, 4], [4]), ([9, 10, 0, 1, 2, 3, 4, 5, 6, 7, 8, 9, 10], [9]), ([11, 0, 1, 2, 3, 4, 5, 6, 7, 8, 9, 10, 11], [])])
def link_Pop.B3 : List Nat := [0, 0, 2, 6, 15, 0, 32, 96, 224, 511, 1023, 2047, 4095]
theorem link_Pop.tab3 : rtab .any (opsOf Try.f10 3) = link_Pop.T3 := by kernel_rfl
theorem link_Pop.bits3 : waitsOk link_Pop.T3.2 link_Pop.B3 = true := by kernel_rfl
set_option maxHeartbeats 8000000 in
set_option maxRecDepth 100000 in
theorem link_Pop.calls (k : Nat) (P0_0_ : Nat → Prop) (A0_0 : Option Addr) (c0_0 : Nat) (l0_0 : List (List Int)) (a0_1 : Int) (r1 : List (List Int)) (r2 : Int) (r3 : List Int) (r4 : Bool) (w : World) (hs0_0 : Kd.V (Kd.slice 5 (Kd.int .u8)) 25 w w.heap.size (fun k_ => P0_0_ k_) (.slice A0_0 l0_0.length c0_0) l0_0) (h : link_Pop.f k l0_0 a0_1 = some (r1, r2, r3, r4)) :
  Calls Try.prog 10 #[.agg #[.slice A0_0 l0_0.length c0_0, .int .i64 a0_1]] w fun e w' => ∃ v0_ v2_ : Value, e = .returned (.tuple #[.agg #[v0_, .int .i64 r2], v2_, .bool r4]) ∧ Kd.V (Kd.slice 5 (Kd.int .u8)) 25 w' w.heap.size (fun k_ => (P0_0_ k_ ∨ w.heap.size ≤ k_) ∧ some k_ ≠ (v2_ : Value).ownBlock) v0_ r1 ∧ Kd.R (Kd.int .u8) 5 w' w.heap.size (fun k_ => (w.heap.size ≤ k_)) v2_ r3 ∧ Below w.heap.size w w' := by
 have hu24:=Try.underlying24
 have HO0_0:=mK (show Kd.V (Kd.slice 5 (Kd.int .u8)) 25 w w.heap.size (fun k_=>(P0_0_ k_ ∨ w.heap.size ≤ k_)) (.slice A0_0 l0_0.length c0_0) l0_0 from Kd.V_mono hs0_0 (fun k_ hk=>.inl hk))
 have HB:=mK (Below.refl w.heap.size w)
 have H : ((link_Check.f l0_0 a0_1).bind fun t130=>(if t130 = true then (link_Pop.j0 k ((l0_0.length : Int) == 0) l0_0 a0_1) else (link_Pop.j0 k true l0_0 a0_1))) = some (r1,r2,r3,r4):=h
 clear h
 have HC2:=mK H
 clear H
 go_enter Try.func10,Try.ntmps10
 go_upto_region 1 with (first|((with_reducible refine gate_dst (N:=1) rfl ?_);(try (refine gate_guard (by rfl) ?_;dsimp only));refine box_event ?hg (N:=1) ?hd (cs:=#[.slice A0_0 l0_0.length c0_0,.int .i64 a0_1]) (t:=24) ?hr ?_;(case hd=>rfl);(case hg=>rfl);(case hr=>first|(go_simp;done)|(go_simp;rfl));intro gb128 hg w3 hbox hb;have n0_:=mK (Kd.V_below (Kd.V_elderB (by (with_reducible repeat (first|apply vA|apply vN|apply vD));exact HO0_0.out) gb128 (Nat.le_of_eq hg.symm)) hb);have n1_:=mK (below_step (by repeat (first|(with_reducible first|exact HB.out|apply lA|apply lN|apply lD)|exact HB.out)) hb);have n2_:=mK (hbox);have n4_:=mK ((by rw [hg];exact (below_size (by repeat (first|(with_reducible first|exact HB.out|apply lA|apply lN|apply lD)|exact HB.out))) : w.heap.size ≤ gb128));clear HO0_0;clear HB;have HO0_0:=n0_;have HB:=n1_;have BK128:=n2_;have GE128:=n4_;clear n0_ n1_ n2_ n4_;clear hb hbox hg)|((with_reducible refine gate_dst (N:=2) rfl ?_);(try (refine gate_guard (by rfl) ?_;dsimp only));refine box_event ?hg (N:=2) ?hd (cs:=#[.slice none 0 0,.int .i64 0]) (t:=24) ?hr ?_;(case hd=>rfl);(case hg=>rfl);(case hr=>first|(go_simp;done)|(go_simp;rfl));intro gb129 hg w4 hbox hb;have n0_:=mK (Kd.V_below (Kd.V_elderB (by (with_reducible repeat (first|apply vA|apply vN|apply vD));exact HO0_0.out) gb129 (Nat.le_of_eq hg.symm)) hb);have n1_:=mK (blk_below (g:=gb128) (o:=.cells #[.slice A0_0 l0_0.length c0_0,.int .i64 a0_1] 24 (0,0)) (by (with_reducible repeat (first|apply bN|apply bD|apply bA));exact BK128.out) hb);have n2_:=mK (below_step (by repeat (first|(with_reducible first|exact HB.out|apply lA|apply lN|apply lD|refine lS ?_ GE128.out)|exact HB.out)) hb);have n3_:=mK (hbox);have n5_:=mK ((by rw [hg];exact (below_size (by repeat (first|(with_reducible first|exact HB.out|apply lA|apply lN|apply lD|refine lS ?_ GE128.out)|exact HB.out))) : w.heap.size ≤ gb129));have n6_:=mK ((by rw [hg];exact Nat.ne_of_lt (blk_lt (g:=gb128) (o:=.cells #[.slice A0_0 l0_0.length c0_0,.int .i64 a0_1] 24 (0,0)) (by (with_reducible repeat (first|apply bN|apply bD|apply bA));exact BK128.out)) : gb128 ≠ gb129));have n7_:=mK ((by rw [hg];exact Nat.ne_of_gt (blk_lt (g:=gb128) (o:=.cells #[.slice A0_0 l0_0.length c0_0,.int .i64 a0_1] 24 (0,0)) (by (with_reducible repeat (first|apply bN|apply bD|apply bA));exact BK128.out)) : gb129 ≠ gb128));clear HO0_0;clear BK128;clear HB;have HO0_0:=n0_;have BK128:=n1_;have HB:=n2_;have BK129:=n3_;have GE129:=n5_;have NB128_129:=n6_;have NB129_128:=n7_;clear n0_ n1_ n2_ n3_ n5_ n6_ n7_;clear hb hbox hg))
 (try simp only [Act.put,sT,sZ,sS])
 go_cut [13] (fun v13 wc=>∃ (kq : Nat) (x13_1 : Bool),v13 = .bool x13_1∧Aside0 (link_Pop.j0 kq x13_1 l0_0 a0_1 = some (r1,r2,r3,r4))∧Aside0 (kq ≤ k)∧Aside0 (Kd.V (Kd.slice 5 (Kd.int .u8)) 25 wc w.heap.size (fun k_=>(P0_0_ k_ ∨ w.heap.size ≤ k_)∧k_ ≠ gb128∧k_ ≠ gb129) (.slice A0_0 l0_0.length c0_0) l0_0)∧Aside0 (wc.heap[gb128]? = some (.cells #[(.slice A0_0 l0_0.length c0_0),.int .i64 a0_1] 24 (0,0)))∧Aside0 (wc.heap[gb129]? = some (.cells #[(.slice none 0 0),.int .i64 0] 24 (0,0)))∧Aside0 (Below w.heap.size w wc))
 case first =>
  have H:=HC2.out
  clear HC2
  replace H:=Option.bind_eq_some_iff.mp H
  obtain ⟨t130,A50,H⟩:=H
  replace H : (if t130 = true then (link_Pop.j0 k ((l0_0.length : Int) == 0) l0_0 a0_1) else (link_Pop.j0 k true l0_0 a0_1)) = some (r1,r2,r3,r4):=H
  have A5:=mK A50
  clear A50
  by_cases c6 : t130 = true
  ·subst c6
   have H1 : (link_Pop.j0 k ((l0_0.length : Int) == 0) l0_0 a0_1) = some (r1,r2,r3,r4):= by rw [if_pos rfl] at H;exact H
   clear H
   have H:=H1
   clear H1
   have H':=mK H
   clear H
   have hnb7:=NB128_129.out
   have hnc7:=NB129_128.out
   have hcz8_0 : w4.cell? ⟨gb128,0,none⟩ = some (.slice A0_0 l0_0.length c0_0):=(blk_cell BK128.out 0).trans rfl
   have hcz8_1 : w4.cell? ⟨gb128,1,none⟩ = some (.int .i64 a0_1):=(blk_cell BK128.out 1).trans rfl
   have hfz8_0:=blk_frozen BK128.out 0
   have hfz8_1:=blk_frozen BK128.out 1
   go_wp2_with (first|((with_reducible refine gate_callee (f:=20) rfl ?_);refine goesL_ (some 6) rfl rfl Try.func20 (by kernel_rfl) rfl #[.agg #[.slice A0_0 l0_0.length c0_0,.int .i64 a0_1]] rfl (by (try simp only [List.map_toArray,List.map_cons,List.map_nil]);first|done|rfl|(simp only [List.length_drop,List.length_take];rfl)) ?_;(with_reducible refine (link_Check.calls _ _ l0_0 a0_1 true _ ?side1 ?side2 A5.out).mono ?_);(case side1=>repeat (first|exact (Kd.V_reads' HO0_0.out).2.2|(with_reducible refine Kd.C_alloc ?_ _)|(with_reducible refine Kd.C_drewN ?_ _)|(with_reducible refine Kd.C_drew ?_)));(case side2=>exact (Kd.V_reads' HO0_0.out).2.1);rintro e w9 ⟨rfl,hb⟩;refine ⟨_,rfl,?_⟩;have n0_:=mK (Kd.V_below (by (with_reducible repeat (first|apply vA|apply vN|apply vD));exact HO0_0.out) hb);have n1_:=mK (blk_below (g:=gb128) (o:=.cells #[.slice A0_0 l0_0.length c0_0,.int .i64 a0_1] 24 (0,0)) (by (with_reducible repeat (first|apply bN|apply bD|apply bA));exact BK128.out) hb);have n2_:=mK (blk_below (g:=gb129) (o:=.cells #[.slice none 0 0,.int .i64 0] 24 (0,0)) (by (with_reducible repeat (first|apply bN|apply bD|apply bA));exact BK129.out) hb);have n3_:=mK (below_step (by repeat (first|(with_reducible first|exact HB.out|apply lA|apply lN|apply lD|refine lS ?_ GE128.out|refine lS ?_ GE129.out)|exact HB.out)) hb);clear HO0_0;clear BK128;clear BK129;clear HB;have HO0_0:=n0_;have BK128:=n1_;have BK129:=n2_;have HB:=n3_;clear n0_ n1_ n2_ n3_;(try clear hb);(try clear hb2);(try clear hk);(try clear hi);have hcz10_0 : w9.cell? ⟨gb128,0,none⟩ = some (.slice A0_0 l0_0.length c0_0):=(blk_cell BK128.out 0).trans rfl;have hcz10_1 : w9.cell? ⟨gb128,1,none⟩ = some (.int .i64 a0_1):=(blk_cell BK128.out 1).trans rfl;have hfz10_0:=blk_frozen BK128.out 0;have hfz10_1:=blk_frozen BK128.out 1))
   go_meet
   case rel=>exact ⟨_,(((l0_0.length : Int) == 0)),(by first|rfl|(simp;done)|(simp [*];done)),H',⟨by first|omega|exact Nat.le_refl _⟩,⟨by (with_reducible repeat (first|apply vA|apply vN|apply vD));exact Kd.V_mono HO0_0.out (fun _ hk=>⟨hk.1.1,⟨hk.1.2,hk.2⟩⟩)⟩,⟨by (with_reducible repeat (first|apply bN|apply bD|apply bA));exact BK128.out⟩,⟨by (with_reducible repeat (first|apply bN|apply bD|apply bA));exact BK129.out⟩,⟨by repeat (first|(with_reducible first|exact HB.out|apply lA|apply lN|apply lD|refine lS ?_ GE128.out|refine lS ?_ GE129.out)|exact HB.out)⟩⟩
  ·replace c6:=Bool.eq_false_iff.mpr c6
   subst c6
   have H1 : (link_Pop.j0 k true l0_0 a0_1) = some (r1,r2,r3,r4):= by rw [if_neg (show ¬ (false = true) by decide)] at H;exact H
   clear H
   have H:=H1
   clear H1
   have H':=mK H
   clear H
   have hnb11:=NB128_129.out
   have hnc11:=NB129_128.out
   have hcz12_0 : w4.cell? ⟨gb128,0,none⟩ = some (.slice A0_0 l0_0.length c0_0):=(blk_cell BK128.out 0).trans rfl
   have hcz12_1 : w4.cell? ⟨gb128,1,none⟩ = some (.int .i64 a0_1):=(blk_cell BK128.out 1).trans rfl
   have hfz12_0:=blk_frozen BK128.out 0
   have hfz12_1:=blk_frozen BK128.out 1
   go_wp2_with (first|((with_reducible refine gate_callee (f:=20) rfl ?_);refine goesL_ (some 6) rfl rfl Try.func20 (by kernel_rfl) rfl #[.agg #[.slice A0_0 l0_0.length c0_0,.int .i64 a0_1]] rfl (by (try simp only [List.map_toArray,List.map_cons,List.map_nil]);first|done|rfl|(simp only [List.length_drop,List.length_take];rfl)) ?_;(with_reducible refine (link_Check.calls _ _ l0_0 a0_1 false _ ?side1 ?side2 A5.out).mono ?_);(case side1=>repeat (first|exact (Kd.V_reads' HO0_0.out).2.2|(with_reducible refine Kd.C_alloc ?_ _)|(with_reducible refine Kd.C_drewN ?_ _)|(with_reducible refine Kd.C_drew ?_)));(case side2=>exact (Kd.V_reads' HO0_0.out).2.1);rintro e w13 ⟨rfl,hb⟩;refine ⟨_,rfl,?_⟩;have n0_:=mK (Kd.V_below (by (with_reducible repeat (first|apply vA|apply vN|apply vD));exact HO0_0.out) hb);have n1_:=mK (blk_below (g:=gb128) (o:=.cells #[.slice A0_0 l0_0.length c0_0,.int .i64 a0_1] 24 (0,0)) (by (with_reducible repeat (first|apply bN|apply bD|apply bA));exact BK128.out) hb);have n2_:=mK (blk_below (g:=gb129) (o:=.cells #[.slice none 0 0,.int .i64 0] 24 (0,0)) (by (with_reducible repeat (first|apply bN|apply bD|apply bA));exact BK129.out) hb);have n3_:=mK (below_step (by repeat (first|(with_reducible first|exact HB.out|apply lA|apply lN|apply lD|refine lS ?_ GE128.out|refine lS ?_ GE129.out)|exact HB.out)) hb);clear HO0_0;clear BK128;clear BK129;clear HB;have HO0_0:=n0_;have BK128:=n1_;have BK129:=n2_;have HB:=n3_;clear n0_ n1_ n2_ n3_;(try clear hb);(try clear hb2);(try clear hk);(try clear hi)))
   go_meet
   case rel=>exact ⟨_,(true),(by first|rfl|(simp;done)|(simp [*];done)),H',⟨by first|omega|exact Nat.le_refl _⟩,⟨by (with_reducible repeat (first|apply vA|apply vN|apply vD));exact Kd.V_mono HO0_0.out (fun _ hk=>⟨hk.1.1,⟨hk.1.2,hk.2⟩⟩)⟩,⟨by (with_reducible repeat (first|apply bN|apply bD|apply bA));exact BK128.out⟩,⟨by (with_reducible repeat (first|apply bN|apply bD|apply bA));exact BK129.out⟩,⟨by repeat (first|(with_reducible first|exact HB.out|apply lA|apply lN|apply lD|refine lS ?_ GE128.out|refine lS ?_ GE129.out)|exact HB.out)⟩⟩
 case rest =>
  clear HC2
  try clear c1
  try clear c2
  try clear p2
  try clear c6
  try clear c7
  try clear c10
  try clear c11
  try clear hcz10_0
  try clear hcz10_1
  try clear hcz12_0
  try clear hcz12_1
  try clear hcz8_0
  try clear hcz8_1
  try clear hfz10_0
  try clear hfz10_1
  try clear hfz12_0
  try clear hfz12_1
  try clear hfz8_0
  try clear hfz8_1
  obtain ⟨kq,x13_1,rfl,HA,HJ1,HO_129000,BK128,BK129,HB⟩:=hcut
  cases kq with
  |zero=>exact absurd HA.out (by simp [link_Pop.j0])
  |succ kj1 =>
   have H:=HA.out
   clear HA
   simp only [link_Pop.j0] at H
   by_cases c14 : x13_1 = true
   ·subst c14
    have H1 : (some (l0_0,a0_1,([] : List Int),false)) = some (r1,r2,r3,r4):= by rw [if_pos rfl] at H;exact H
    clear H
    have H:=H1
    clear H1
    simp only [Option.some.injEq,Prod.mk.injEq] at H
    obtain ⟨rfl,rfl,rfl,rfl⟩:=H
    have hnb15:=NB128_129.out
    have hnc15:=NB129_128.out
    have hcz16_0 : wc.cell? ⟨gb128,0,none⟩ = some (.slice A0_0 l0_0.length c0_0):=(blk_cell BK128.out 0).trans rfl
    have hcz16_1 : wc.cell? ⟨gb128,1,none⟩ = some (.int .i64 a0_1):=(blk_cell BK128.out 1).trans rfl
    have hfz16_0:=blk_frozen BK128.out 0
    have hfz16_1:=blk_frozen BK128.out 1
    have hcz17_0 : wc.cell? ⟨gb129,0,none⟩ = some (.slice none 0 0):=(blk_cell BK129.out 0).trans rfl
    have hcz17_1 : wc.cell? ⟨gb129,1,none⟩ = some (.int .i64 0):=(blk_cell BK129.out 1).trans rfl
    have hfz17_0:=blk_frozen BK129.out 0
    have hfz17_1:=blk_frozen BK129.out 1
    go_wp2
    refine bodyPost_ret (results_ctt rfl _ _ gb129 24 #[.slice A0_0 l0_0.length c0_0,.int .i64 a0_1] (0,0) _ rfl (by (with_reducible repeat (first|apply bN|apply bD|apply bA));refine blk_put (cs:=#[.slice A0_0 l0_0.length c0_0,.int .i64 0]) ?_ 1 _ rfl;(with_reducible repeat (first|apply bN|apply bD|apply bA));refine blk_put (cs:=#[.slice none 0 0,.int .i64 0]) ?_ 0 _ rfl;(with_reducible repeat (first|apply bN|apply bD|apply bA));exact BK129.out) Try.underlying24 rfl (by kernel_rfl)) rfl ?_
    exact ⟨_,_,by first|rfl|(simp [errW_none,errW_some] <;> rfl)|(simp [*,errW_none,errW_some] <;> rfl),by (with_reducible repeat (first|apply vA|apply vN|apply vD));exact Kd.V_mono (Kd.V_far (p:=⟨gb129,1,none⟩) (Kd.V_far (p:=⟨gb129,0,none⟩) (Kd.V_mono HO_129000.out (fun k_ hk=>(⟨hk,hk.2.2⟩ : _∧k_ ≠ gb129))) (fun _ hk=>hk.2) (.slice A0_0 l0_0.length c0_0)) (fun _ hk=>hk.2) (.int .i64 a0_1)) (fun _ hk=>⟨hk.1.1,(by simp [Value.ownBlock])⟩),by first|exact Kd.R_nil _ _ _ _ _|exact Kd.N_nil _ _ _ _ _|exact Kd.V_nil _ _ _ _ _|exact Kd.Q_nil _ _ _ _ _|exact Kd.S_nil _ _ _ _ _,by repeat (first|(with_reducible first|exact HB.out|apply lA|apply lN|apply lD|refine lS ?_ GE128.out|refine lS ?_ GE129.out)|exact HB.out)⟩
   ·replace c14:=Bool.eq_false_iff.mpr c14
    subst c14
    have H1 : (if 1 ≤ (l0_0.length : Int) then ((link_with.f kj1 l0_0 a0_1 (l0_0.drop 1)).bind fun bt136=>(if 0 < (l0_0.length : Int) then ((slices_Clone_byte_byte.f (rd_L1 l0_0 0)).bind fun t141=>(some (bt136.1,bt136.2,t141,true))) else (none))) else (none)) = some (r1,r2,r3,r4):= by rw [if_neg (show ¬ (false = true) by decide)] at H;exact H
    clear H
    have H:=H1
    clear H1
    by_cases c18 : 1 ≤ (l0_0.length : Int)
    ·rw [if_pos c18] at H
     have c18b0:=eq_true c18
     have c18b1 : decide (1 ≤ (l0_0.length : Int)) = true:=decide_eq_true c18
     clear c18
     obtain ⟨y131,hy131⟩ : ∃ y_ : List (List Int),y_ = (l0_0.drop 1):=⟨_,rfl⟩
     replace H : ((link_with.f kj1 l0_0 a0_1 y131).bind fun bt136=>(if 0 < (l0_0.length : Int) then ((slices_Clone_byte_byte.f (rd_L1 l0_0 0)).bind fun t141=>(some (bt136.1,bt136.2,t141,true))) else (none))) = some (r1,r2,r3,r4):= by first|(rw [hy131];with_reducible exact H)|(have H2_:=(Option.bind_some _ _).symm.trans H;rw [hy131];with_reducible exact H2_)|(have H2_:=(Option.bind_some _ _).symm.trans H;with_reducible exact H2_)|with_reducible exact H|(rw [hy131];exact H)|exact H
     have Ny131:=mK hy131
     clear hy131
     replace H:=Option.bind_eq_some_iff.mp H
     obtain ⟨⟨t136,t139⟩,A190,H⟩:=H
     replace H : (if 0 < (l0_0.length : Int) then ((slices_Clone_byte_byte.f (rd_L1 l0_0 0)).bind fun t141=>(some (t136,t139,t141,true))) else (none)) = some (r1,r2,r3,r4):=H
     have A19:=mK A190
     clear A190
     by_cases c20 : 0 < (l0_0.length : Int)
     ·rw [if_pos c20] at H
      have c20b0 : decide (0 < (l0_0.length : Int)) = true:=decide_eq_true c20
      have c20b1 : decide (0 < l0_0.length) = true:=decide_eq_true (by omega)
      clear c20
      replace H:=Option.bind_eq_some_iff.mp H
      obtain ⟨t141,A210,H⟩:=H
      replace H : (some (t136,t139,t141,true)) = some (r1,r2,r3,r4):=H
      have A21:=mK A210
      clear A210
      simp only [Option.some.injEq,Prod.mk.injEq] at H
      obtain ⟨rfl,rfl,rfl,rfl⟩:=H
      try go_wp2
      have n0_:=mK (Kd.V_drew HO_129000.out)
      have n1_:=mK (blk_drew BK128.out)
      have n2_:=mK (blk_drew BK129.out)
      have n3_:=mK (below_drew1 HB.out)
      clear HO_129000
      clear BK128
      clear BK129
      clear HB
      have HO_129000:=n0_
      have BK128:=n1_
      have BK129:=n2_
      have HB:=n3_
      clear n0_ n1_ n2_ n3_
      have q23 : (1 : Int) ≤ ((l0_0.length : Int) : Int):=of_decide_eq_true (by first|(with_reducible assumption)|assumption)
      obtain ⟨i023,hi023,_,hsz23,_⟩:=info_parts info25
      have hroom23 : l0_0.length ≤ c0_0:=(Kd.V_reads' HO_129000.out).2.1
      have hC23 : Kd.F (Kd.slice 5 (Kd.int .u8)) _ _ A0_0 l0_0.length l0_0:=(Kd.V_at (base:=w.heap.size) HO_129000.out).2.2
      have hcut23:=cut_from (P:=Try.prog) 22 25 .i64 Try.underlying22 hi023 1 hsz23 A0_0 l0_0.length c0_0 1 (by omega) q23
      have hr23:=Kd.F_cut (m:=(1 : Int).toNat) (c:=c0_0) hC23 (by omega) hroom23
      obtain ⟨A23,hA23⟩ : ∃ A1,A1 = (if c0_0 = (1 : Int).toNat then A0_0 else (A0_0 : Option Addr).map (·.add ((1 : Int).toNat * 1))):=⟨_,rfl⟩
      obtain ⟨c23,hc23⟩ : ∃ c1,c1 = c0_0 - (1 : Int).toNat:=⟨_,rfl⟩
      have hy23 : y131.length = l0_0.length - (1 : Int).toNat:=(by rw [Ny131.out,List.length_drop] <;> omega)
      rw [show (l0_0).drop (1 : Int).toNat = y131 from Ny131.out.symm] at hr23
      replace hr23 : Kd.F (Kd.slice 5 (Kd.int .u8)) _ _ A23 y131.length y131:=(by rw [hA23];exact hr23)
      rw [← hy23,← hA23,← hc23] at hcut23
      have HO135:=mK (show Kd.V (Kd.slice 5 (Kd.int .u8)) 25 _ w.heap.size _ (.slice A23 y131.length c23) y131 from Kd.V_mk (by rw [hy23,hc23];exact Nat.sub_le_sub_right hroom23 _) hr23)
      have HC135:=mK (show y131.length ≤ c23 from by rw [hy23,hc23];exact Nat.sub_le_sub_right hroom23 _)
      clear hr23 hC23 hroom23 hi023 hsz23 hc23
      have KY23:=mK hy23
      have KA23:=mK hA23
      clear hy23 hA23
      replace q23:=eq_true q23
      have p140 : 0 ≤ (0 : Int):=(by omega)
      have q140 : 0 < (l0_0.length : Int):=of_decide_eq_true (by first|(with_reducible assumption)|assumption)
      obtain ⟨ad140,A140_0,c140_0,e140,hx140_0,hl140_0,hi140_0⟩:=at_L1 (Kd.V_reads' HO_129000.out).2.2 0 p140 q140
      cases e140
      obtain ⟨ce140,hce140,hMe140,hcc140⟩:=Kd.V_get HO_129000.out [] 0 p140 (by first|exact q140|exact of_decide_eq_true (by first|(with_reducible assumption)|assumption)|(have e_:=(Kd.V_reads' HO_129000.out).1;omega))
      obtain ⟨ua140_0,uc140_0,rfl,ul140_0,ge140_0⟩:=Kd.FK_slice_open hMe140
      have hv140_0:=hcc140 0 _ rfl
      rw [Nat.add_zero,show ((Kd.slice 5 (Kd.int .u8))).sz = 1 from rfl,Nat.mul_one] at hv140_0
      replace hv140_0:=Option.some.inj (hv140_0.symm.trans hx140_0)
      injection hv140_0 with hva_ hvn_ hvc_
      rw [hva_] at ge140_0
      rw [hvc_] at ul140_0
      have HL140_0:=mK (show Kd.V (Kd.int .u8) 5 _ w.heap.size _ _ (rd_L1 l0_0 0) from Kd.V_mk ul140_0 ge140_0)
      clear hva_ hvn_ hvc_ ge140_0 ul140_0
      clear hcc140 hce140
      have qi140 : (0 < l0_0.length) = True:=eq_true (by omega)
      (try rw [show ((0 : Int)).toNat = 0 from rfl] at hx140_0)
      (try rw [Addr.add_zero'] at hx140_0)
      have HR140_0:=mK hi140_0
      have HC140_0:=mK hl140_0
      clear hi140_0 hl140_0
      replace p140:=eq_true p140
      replace q140:=eq_true q140
      refine start_ (n:=13) (S:= fun w'=>w'.cell? ⟨gb128,0,none⟩ = some (.slice (some ad140) l0_0.length c0_0)∧w'.cell? ⟨gb128,1,none⟩ = some (.int .i64 a0_1)∧w'.cell? ad140 = some (.slice A140_0 (rd_L1 l0_0 0).length c140_0)) (ds:=[]) #[φ,φ,φ,φ,φ,φ,φ,φ,φ,φ,φ,φ,φ] (by kernel_rfl) rfl rfl ⟨(blk_cell BK128.out 0).trans rfl,(blk_cell BK128.out 1).trans rfl,hx140_0⟩ (fun hHeld=>?_);refine with_tabW link_Pop.tab3 link_Pop.bits3 (fun HT_ HW_=>?_)
      generalize wc.drew = w22 at HO_129000 BK128 BK129 HB HL140_0 HO135 HR140_0 hx140_0 hHeld ⊢
      refine pure_ (i:=1) (N:=some 16) (v:=?_) (a':=?_) #[φ,τ,φ,φ,φ,φ,φ,φ,φ,φ,φ,φ,φ] rfl rfl (any_of HT_.out (by kernel_rfl)) (fun _ _ _ h=>h) (Or.inl ⟨by rfl,?_⟩) ?_ ?_
      rotate_left
      ·intro w'
       go_simp
       with_reducible rfl
      rotate_left
      ·simp only [Act.put,sT,sZ,sS,i64_w,i32_w]
       rfl
      refine pure_ (i:=5) (N:=some 20) (v:=?_) (a':=?_) #[φ,τ,φ,φ,φ,τ,φ,φ,φ,φ,φ,φ,φ] rfl rfl (any_of HT_.out (by kernel_rfl)) (fun _ _ _ h=>h) (Or.inl ⟨by rfl,?_⟩) ?_ ?_
      rotate_left
      ·intro w'
       go_simp
       with_reducible rfl
      rotate_left
      ·simp only [Act.put,sT,sZ,sS,i64_w,i32_w]
       rfl
      refine take_ (i:=0) (N:=some 15) (v:=?_) (a':=?_) #[τ,τ,φ,φ,φ,τ,φ,φ,φ,φ,φ,φ,φ] rfl rfl (take_ofW HT_.out HW_.out (by kernel_rfl)) (fun _ _ _ h=>h) (Or.inl ⟨by rfl,?_⟩) hHeld ?_ ?_
      rotate_left
      ·rintro w' ⟨s0,s1,s2⟩
       go_simp
       with_reducible rfl
      rotate_left
      ·simp only [Act.put,sT,sZ,sS,i64_w,i32_w]
       rfl
      refine take_ (i:=2) (N:=some 17) (v:=?_) (a':=?_) #[τ,τ,τ,φ,φ,τ,φ,φ,φ,φ,φ,φ,φ] rfl rfl (take_ofW HT_.out HW_.out (by kernel_rfl)) (fun _ _ _ h=>h) (Or.inl ⟨by rfl,?_⟩) hHeld ?_ ?_
      rotate_left
      ·rintro w' ⟨s0,s1,s2⟩
       go_simp
       with_reducible rfl
      rotate_left
      ·simp only [Act.put,sT,sZ,sS,i64_w,i32_w]
       rfl
      refine pure_ (i:=3) (N:=some 18) (v:=?_) (a':=?_) #[τ,τ,τ,τ,φ,τ,φ,φ,φ,φ,φ,φ,φ] rfl rfl (any_of HT_.out (by kernel_rfl)) (fun _ _ _ h=>h) (Or.inl ⟨by rfl,?_⟩) ?_ ?_
      rotate_left
      ·intro w'
       go_simp
       with_reducible rfl
      rotate_left
      ·simp only [Act.put,sT,sZ,sS,i64_w,i32_w]
       rfl
      refine take_ (i:=6) (N:=some 21) (v:=?_) (a':=?_) #[τ,τ,τ,τ,φ,τ,τ,φ,φ,φ,φ,φ,φ] rfl rfl (take_ofW HT_.out HW_.out (by kernel_rfl)) (fun _ _ _ h=>h) (Or.inl ⟨by rfl,?_⟩) hHeld ?_ ?_
      rotate_left
      ·rintro w' ⟨s0,s1,s2⟩
       go_simp
       with_reducible rfl
      rotate_left
      ·simp only [Act.put,sT,sZ,sS,i64_w,i32_w]
       rfl
      refine pure_ (i:=7) (N:=some 22) (v:=?_) (a':=?_) #[τ,τ,τ,τ,φ,τ,τ,τ,φ,φ,φ,φ,φ] rfl rfl (any_of HT_.out (by kernel_rfl)) (fun _ _ _ h=>h) (Or.inl ⟨by rfl,?_⟩) ?_ ?_
      rotate_left
      ·intro w'
       go_simp
       with_reducible rfl
      rotate_left
      ·simp only [Act.put,sT,sZ,sS,i64_w,i32_w]
       rfl
      refine take_ (i:=8) (N:=some 23) (v:=?_) (a':=?_) #[τ,τ,τ,τ,φ,τ,τ,τ,τ,φ,φ,φ,φ] rfl rfl (take_ofW HT_.out HW_.out (by kernel_rfl)) (fun _ _ _ h=>h) (Or.inl ⟨by rfl,?_⟩) hHeld ?_ ?_
      rotate_left
      ·rintro w' ⟨s0,s1,s2⟩
       go_simp
       with_reducible rfl
      rotate_left
      ·simp only [Act.put,sT,sZ,sS,i64_w,i32_w]
       rfl
      refine one_ (i:=4) (N:=some 19) #[τ,τ,τ,τ,τ,τ,τ,τ,τ,φ,φ,φ,φ] rfl rfl (one_of HT_.out (by kernel_rfl)) (by decide) (fun K hK=>?_)
      refine goes_ Try.func25 (by kernel_rfl) rfl #[.agg #[.slice (some ad140) l0_0.length c0_0,.int .i64 a0_1],.slice A23 y131.length c23] (by rfl) rfl rfl (by (try simp only [List.map_toArray,List.map_cons,List.map_nil]);first|done|rfl|(simp only [List.length_drop,List.length_take];rfl)) ?_
      with_reducible refine (link_with.calls kj1 _ _ l0_0 a0_1 _ _ y131 t136 t139 _ ?side1 ?side2 ?side3 ?side4 A19.out).mono ?_
      (case side1=>repeat (first|exact (Kd.V_reads' HO_129000.out).2.2|(with_reducible refine Kd.C_alloc ?_ _)|(with_reducible refine Kd.C_drewN ?_ _)|(with_reducible refine Kd.C_drew ?_)))
      (case side2=>exact (Kd.V_reads' HO_129000.out).2.1)
      (case side3=>repeat (first|exact (Kd.V_reads' HO135.out).2.2|(with_reducible refine Kd.C_alloc ?_ _)|(with_reducible refine Kd.C_drewN ?_ _)|(with_reducible refine Kd.C_drew ?_)))
      (case side4=>exact (Kd.V_reads' HO135.out).2.1)
      rintro e w24 ⟨v137,rfl,ho0,hb⟩
      have HS2_:=(hb.cell (World.block_lt_of_cell? _ _ (hHeld.2.2))).trans (hHeld.2.2)
      refine ⟨_,rfl,?_⟩
      have n0_:=mK (Kd.V_elder' (by (with_reducible repeat (first|apply vA|apply vN|apply vD));exact HO_129000.out) (Kd.S_base ho0) hb)
      have n3_:=mK (Kd.S_lower (Kd.S_newM (M:= fun k_=>(w.heap.size ≤ k_)) ho0 (below_size (by repeat (first|(with_reducible first|exact HB.out|apply lA|apply lN|apply lD|refine lS ?_ GE128.out|refine lS ?_ GE129.out)|exact HB.out))) (fun k_ h_=>h_)) (below_size (by repeat (first|(with_reducible first|exact HB.out|apply lA|apply lN|apply lD|refine lS ?_ GE128.out|refine lS ?_ GE129.out)|exact HB.out))))
      have n4_:=mK (blk_below (g:=gb128) (o:=.cells #[.slice (some ad140) l0_0.length c0_0,.int .i64 a0_1] 24 (0,0)) (by (with_reducible repeat (first|apply bN|apply bD|apply bA));exact BK128.out) hb)
      have n5_:=mK (blk_below (g:=gb129) (o:=.cells #[.slice none 0 0,.int .i64 0] 24 (0,0)) (by (with_reducible repeat (first|apply bN|apply bD|apply bA));exact BK129.out) hb)
      have n6_:=mK (Kd.C_below (by repeat (first|(with_reducible exact HR140_0.out)|(with_reducible refine Kd.C_alloc ?_ _)|(with_reducible refine Kd.C_drewN ?_ _)|(with_reducible refine Kd.C_drew ?_)|exact HR140_0.out)) hb)
      have n7_:=mK (below_step (by repeat (first|(with_reducible first|exact HB.out|apply lA|apply lN|apply lD|refine lS ?_ GE128.out|refine lS ?_ GE129.out)|exact HB.out)) hb)
      clear HO_129000
      clear BK128
      clear BK129
      clear HR140_0
      clear HB
      have HO_129000:=n0_
      have HO138:=n3_
      have BK128:=n4_
      have BK129:=n5_
      have HR140_0:=n6_
      have HB:=n7_
      clear n0_ n3_ n4_ n5_ n6_ n7_
      (try clear hb)
      (try clear hb2)
      (try clear hk)
      (try clear hi)
      (try clear ho0)
      refine hK.out _ _ ⟨(blk_cell BK128.out 0).trans rfl,(blk_cell BK128.out 1).trans rfl,HS2_⟩ (fun hHeld=>?_)
      clear hK K
      refine norm_ (a':=?_) ?_ ?_
      rotate_left
      ·show Act.put _ (some 19) _ = _
       simp only [Act.put,sT,sZ,sS,i64_w,i32_w]
       rfl
      refine one_ (i:=9) (N:=some 24) #[τ,τ,τ,τ,τ,τ,τ,τ,τ,τ,φ,φ,φ] rfl rfl (one_of HT_.out (by kernel_rfl)) (by decide) (fun K hK=>?_)
      refine goes_ Try.func28 (by kernel_rfl) rfl #[.slice A140_0 (rd_L1 l0_0 0).length c140_0] (by rfl) rfl rfl (by (try simp only [List.map_toArray,List.map_cons,List.map_nil]);first|done|rfl|(simp only [List.length_drop,List.length_take];rfl)) ?_
      with_reducible refine (slices_Clone_byte_byte.calls _ _ (rd_L1 l0_0 0) t141 _ ?side1 ?side2 A21.out).mono ?_
      (case side1=>repeat (first|exact (by repeat (first|(with_reducible exact HR140_0.out)|(with_reducible refine Kd.C_alloc ?_ _)|(with_reducible refine Kd.C_drewN ?_ _)|(with_reducible refine Kd.C_drew ?_)|exact HR140_0.out))|(with_reducible refine Kd.C_alloc ?_ _)|(with_reducible refine Kd.C_drewN ?_ _)|(with_reducible refine Kd.C_drew ?_)))
      (case side2=>exact HC140_0.out)
      rintro e w25 ⟨v142,rfl,ho0,hb⟩
      have HS2_:=(hb.cell (World.block_lt_of_cell? _ _ (hHeld.2.2))).trans (hHeld.2.2)
      refine ⟨_,rfl,?_⟩
      have n0_:=mK (Kd.V_elder' (by (with_reducible repeat (first|apply vA|apply vN|apply vD));exact HO_129000.out) (Kd.R_base ho0) hb)
      have n3_:=mK (Kd.S_elder' (by (with_reducible repeat (first|apply Kd.S_alloc|apply Kd.S_drewN|apply Kd.S_drew));exact HO138.out) (Kd.R_base ho0) hb)
      have n4_:=mK (Kd.R_lower (Kd.R_newM (M:= fun k_=>(w.heap.size ≤ k_)) ho0 (below_size (by repeat (first|(with_reducible first|exact HB.out|apply lA|apply lN|apply lD|refine lS ?_ GE128.out|refine lS ?_ GE129.out)|exact HB.out))) (fun k_ h_=>h_)) (below_size (by repeat (first|(with_reducible first|exact HB.out|apply lA|apply lN|apply lD|refine lS ?_ GE128.out|refine lS ?_ GE129.out)|exact HB.out))))
      have n5_:=mK (blk_below (g:=gb128) (o:=.cells #[.slice (some ad140) l0_0.length c0_0,.int .i64 a0_1] 24 (0,0)) (by (with_reducible repeat (first|apply bN|apply bD|apply bA));exact BK128.out) hb)
      have n6_:=mK (blk_below (g:=gb129) (o:=.cells #[.slice none 0 0,.int .i64 0] 24 (0,0)) (by (with_reducible repeat (first|apply bN|apply bD|apply bA));exact BK129.out) hb)
      have n8_:=mK (below_step (by repeat (first|(with_reducible first|exact HB.out|apply lA|apply lN|apply lD|refine lS ?_ GE128.out|refine lS ?_ GE129.out)|exact HB.out)) hb)
      clear HO_129000
      clear HO138
      clear BK128
      clear BK129
      clear HB
      have HO_129000:=n0_
      have HO138:=n3_
      have HO143:=n4_
      have BK128:=n5_
      have BK129:=n6_
      have HB:=n8_
      clear n0_ n3_ n4_ n5_ n6_ n8_
      (try clear hb)
      (try clear hb2)
      (try clear hk)
      (try clear hi)
      (try clear ho0)
      obtain ⟨Ao26,co26,eo26⟩:=Kd.S_slice HO138.out
      (first|subst eo26|(injection eo26 with f1_ f2_ f3_;have f4_:=f1_.symm;have f5_:=f3_.symm;clear f1_ f2_ f3_;subst f4_;subst f5_))
      refine hK.out _ _ ⟨(blk_cell BK128.out 0).trans rfl,(blk_cell BK128.out 1).trans rfl,HS2_⟩ (fun hHeld=>?_)
      clear hK K
      refine norm_ (a':=?_) ?_ ?_
      rotate_left
      ·show Act.put _ (some 24) _ = _
       simp only [Act.put,sT,sZ,sS,i64_w,i32_w]
       rfl
      refine one_ (i:=10) (N:=none) #[τ,τ,τ,τ,τ,τ,τ,τ,τ,τ,τ,φ,φ] rfl rfl (one_of HT_.out (by kernel_rfl)) (by decide) (fun K hK=>?_)
      have hs27 : w25.cell? ⟨gb129,0,none⟩ = some (.slice none 0 0):=(blk_cell BK129.out 0).trans rfl
      have hfs27:=blk_frozen BK129.out 0
      have hns27_0:=NB128_129.out
      have hms27_0:=NB129_128.out
      have hs28 : w25.cell? ⟨gb129,1,none⟩ = some (.int .i64 0):=(blk_cell BK129.out 1).trans rfl
      have hfs28:=blk_frozen BK129.out 1
      have hns28_0:=NB128_129.out
      have hms28_0:=NB129_128.out
      refine skip_ (w1:=?_) (by rfl) rfl ?_ ?_
      rotate_left
      ·go_simp
       rfl
      refine hK.out _ _ ⟨((cell_far (p:=⟨gb129,_,none⟩) NB128_129.out _).trans (((cell_far (p:=⟨gb129,_,none⟩) NB128_129.out _).trans (hHeld.1)))),((cell_far (p:=⟨gb129,_,none⟩) NB128_129.out _).trans (((cell_far (p:=⟨gb129,_,none⟩) NB128_129.out _).trans (hHeld.2.1)))),((cell_far (p:=⟨gb129,_,none⟩) (by first|exact Kd.own_blk (Kd.V_away HO_129000.out (fun _ hk=>hk.1.1.2.2))|(rw [add_block];exact Kd.own_blk (Kd.V_away HO_129000.out (fun _ hk=>hk.1.1.2.2)))|(show (Addr.add _ _).block ≠ _;rw [add_block];exact Kd.own_blk (Kd.V_away HO_129000.out (fun _ hk=>hk.1.1.2.2)))|(dsimp only;exact Kd.own_blk (Kd.V_away HO_129000.out (fun _ hk=>hk.1.1.2.2)))) _).trans (((cell_far (p:=⟨gb129,_,none⟩) (by first|exact Kd.own_blk (Kd.V_away HO_129000.out (fun _ hk=>hk.1.1.2.2))|(rw [add_block];exact Kd.own_blk (Kd.V_away HO_129000.out (fun _ hk=>hk.1.1.2.2)))|(show (Addr.add _ _).block ≠ _;rw [add_block];exact Kd.own_blk (Kd.V_away HO_129000.out (fun _ hk=>hk.1.1.2.2)))|(dsimp only;exact Kd.own_blk (Kd.V_away HO_129000.out (fun _ hk=>hk.1.1.2.2)))) _).trans (hHeld.2.2))))⟩ (fun hHeld=>?_)
      clear hK K
      refine pure_ (i:=11) (N:=some 3) (v:=?_) (a':=?_) #[τ,τ,τ,τ,τ,τ,τ,τ,τ,τ,τ,τ,φ] rfl rfl (any_of HT_.out (by kernel_rfl)) (fun _ _ _ h=>h) (Or.inl ⟨by rfl,?_⟩) ?_ ?_
      rotate_left
      ·intro w'
       go_simp
       with_reducible rfl
      rotate_left
      ·simp only [Act.put,sT,sZ,sS,i64_w,i32_w]
       rfl
      refine pure_ (i:=12) (N:=some 4) (v:=?_) (a':=?_) #[τ,τ,τ,τ,τ,τ,τ,τ,τ,τ,τ,τ,τ] rfl rfl (any_of HT_.out (by kernel_rfl)) (fun _ _ _ h=>h) (Or.inl ⟨by rfl,?_⟩) ?_ ?_
      rotate_left
      ·intro w'
       go_simp
       with_reducible rfl
      rotate_left
      ·simp only [Act.put,sT,sZ,sS,i64_w,i32_w]
       rfl
      refine done_ (done_of HT_.out (by kernel_rfl)) ?_
      try go_wp2
      refine bodyPost_ret (results_ctt rfl _ _ gb129 24 #[.slice Ao26 t136.length co26,.int .i64 t139] (0,0) _ rfl (by (with_reducible repeat (first|apply bN|apply bD|apply bA));refine blk_put (cs:=#[.slice Ao26 t136.length co26,.int .i64 0]) ?_ 1 _ rfl;(with_reducible repeat (first|apply bN|apply bD|apply bA));refine blk_put (cs:=#[.slice none 0 0,.int .i64 0]) ?_ 0 _ rfl;(with_reducible repeat (first|apply bN|apply bD|apply bA));exact BK129.out) Try.underlying24 rfl (by kernel_rfl)) rfl ?_
      exact ⟨_,_,by first|rfl|(simp [errW_none,errW_some] <;> rfl)|(simp [*,errW_none,errW_some] <;> rfl),Kd.V_mono (Kd.S_V (by (with_reducible repeat (first|apply Kd.S_alloc|apply Kd.S_drewN|apply Kd.S_drew));exact (Kd.S_far (p:=⟨gb129,1,none⟩) (Kd.S_far (p:=⟨gb129,0,none⟩) (Kd.S_types HO138.out BK129.out (by decide)) (fun _ hk=>hk.2) (.slice Ao26 t136.length co26)) (fun _ hk=>hk.2) (.int .i64 t139)))) (fun k_ hk0=>by have hk : _∧_:=⟨hk0.1.1.1,hk0.1.2⟩;first|exact ⟨(.inr (hk.1)),hk.2⟩|exact (.inr (hk))),by (with_reducible repeat (first|apply rA|apply rN|apply rD));exact Kd.R_mono (Kd.R_far (p:=⟨gb129,1,none⟩) (Kd.R_far (p:=⟨gb129,0,none⟩) (Kd.R_types HO143.out BK129.out (by decide)) (fun _ hk=>hk.2) (.slice Ao26 t136.length co26)) (fun _ hk=>hk.2) (.int .i64 t139)) (fun _ hk=>hk.1.1),by repeat (first|(with_reducible first|exact HB.out|apply lA|apply lN|apply lD|refine lS ?_ GE128.out|refine lS ?_ GE129.out)|exact HB.out)⟩
     ·rw [if_neg c20] at H
      exact absurd H (by simp)
    ·rw [if_neg c18] at H
     exact absurd H (by simp)

/-! ### link_has: function 29 -/
def link_has.f (l0_0 : List (List Int)) (a0_1 : Int) (a1 : Int) (a2 : Int) : Option (Bool) := (link_Check.f l0_0 a0_1).bind fun t145 => (if t145 = true then (if a1 ≥ 0 then (some (decide (a1 ≤ (wrap64 ((l0_0.length : Int) - a2))))) else (some false)) else (some false))
set_option maxHeartbeats 8000000 in
set_option maxRecDepth 100000 in
theorem link_has.calls (A0_0 : Option Addr) (c0_0 : Nat) (l0_0 : List (List Int)) (a0_1 : Int) (a1 : Int) (a2 : Int) (r : Bool) (w : World) (hr0_0 : Kd.C (Kd.slice 5 (Kd.int .u8)) w A0_0 l0_0.length l0_0) (hc0_0 : l0_0.length ≤ c0_0) (h : link_has.f l0_0 a0_1 a1 a2 = some r) :
  Calls Try.prog 29 #[.agg #[.slice A0_0 l0_0.length c0_0, .int .i64 a0_1], .int .i64 a1, .int .i64 a2] w fun e w' => e = .returned (.bool r) ∧ Below w.heap.size w w' := by
 have hu24:=Try.underlying24
 have HR0_0:=mK hr0_0
 have HC0_0:=mK hc0_0
 clear hr0_0 hc0_0
 have HB:=mK (Below.refl w.heap.size w)
 have H : ((link_Check.f l0_0 a0_1).bind fun t145=>(if t145 = true then (if a1 ≥ 0 then (some (decide (a1 ≤ (wrap64 ((l0_0.length : Int) - a2))))) else (some false)) else (some false))) = some r:=h
 clear h
 replace H:=Option.bind_eq_some_iff.mp H
 obtain ⟨t145,A40,H⟩:=H
 replace H : (if t145 = true then (if a1 ≥ 0 then (some (decide (a1 ≤ (wrap64 ((l0_0.length : Int) - a2))))) else (some false)) else (some false)) = some r:=H
 have A4:=mK A40
 clear A40
 by_cases c5 : t145 = true
 ·subst c5
  have H1 : (if a1 ≥ 0 then (some (decide (a1 ≤ (wrap64 ((l0_0.length : Int) - a2))))) else (some false)) = some r:= by rw [if_pos rfl] at H;exact H
  clear H
  have H:=H1
  clear H1
  by_cases c6 : a1 ≥ 0
  ·rw [if_pos c6] at H
   have c6b0 : decide (0 ≤ a1) = true:=decide_eq_true c6
   clear c6
   obtain rfl:=Option.some.inj H
   go_enter Try.func29,Try.ntmps29
   go_wp2_with (first|((with_reducible refine gate_dst (N:=3) rfl ?_);(try (refine gate_guard (by rfl) ?_;dsimp only));refine box_event ?hg (N:=3) ?hd (cs:=#[.slice A0_0 l0_0.length c0_0,.int .i64 a0_1]) (t:=24) ?hr ?_;(case hd=>rfl);(case hg=>rfl);(case hr=>first|(go_simp;done)|(go_simp;rfl));intro gb144 hg w7 hbox hb;have n0_:=mK (below_step (by repeat (first|(with_reducible first|exact HB.out|apply lA|apply lN|apply lD)|exact HB.out)) hb);have n1_:=mK (hbox);have n3_:=mK ((by rw [hg];exact (below_size (by repeat (first|(with_reducible first|exact HB.out|apply lA|apply lN|apply lD)|exact HB.out))) : w.heap.size ≤ gb144));clear HB;have HB:=n0_;have BK144:=n1_;have GE144:=n3_;clear n0_ n1_ n3_;clear hb hbox hg;have hcz8_0 : w7.cell? ⟨gb144,0,none⟩ = some (.slice A0_0 l0_0.length c0_0):=(blk_cell BK144.out 0).trans rfl;have hcz8_1 : w7.cell? ⟨gb144,1,none⟩ = some (.int .i64 a0_1):=(blk_cell BK144.out 1).trans rfl;have hfz8_0:=blk_frozen BK144.out 0;have hfz8_1:=blk_frozen BK144.out 1)|((with_reducible refine gate_callee (f:=20) rfl ?_);refine goesL_ (some 8) rfl rfl Try.func20 (by kernel_rfl) rfl #[.agg #[.slice A0_0 l0_0.length c0_0,.int .i64 a0_1]] rfl (by (try simp only [List.map_toArray,List.map_cons,List.map_nil]);first|done|rfl|(simp only [List.length_drop,List.length_take];rfl)) ?_;(with_reducible refine (link_Check.calls _ _ l0_0 a0_1 true _ ?side1 ?side2 A4.out).mono ?_);(case side1=>repeat (first|exact (Kd.C_below HR0_0.out HB.out)|(with_reducible refine Kd.C_alloc ?_ _)|(with_reducible refine Kd.C_drewN ?_ _)|(with_reducible refine Kd.C_drew ?_)));(case side2=>exact HC0_0.out);rintro e w9 ⟨rfl,hb⟩;refine ⟨_,rfl,?_⟩;have n0_:=mK (blk_below (g:=gb144) (o:=.cells #[.slice A0_0 l0_0.length c0_0,.int .i64 a0_1] 24 (0,0)) (by (with_reducible repeat (first|apply bN|apply bD|apply bA));exact BK144.out) hb);have n1_:=mK (below_step (by repeat (first|(with_reducible first|exact HB.out|apply lA|apply lN|apply lD|refine lS ?_ GE144.out)|exact HB.out)) hb);clear BK144;clear HB;have BK144:=n0_;have HB:=n1_;clear n0_ n1_;(try clear hb);(try clear hb2);(try clear hk);(try clear hi);have hcz10_0 : w9.cell? ⟨gb144,0,none⟩ = some (.slice A0_0 l0_0.length c0_0):=(blk_cell BK144.out 0).trans rfl;have hcz10_1 : w9.cell? ⟨gb144,1,none⟩ = some (.int .i64 a0_1):=(blk_cell BK144.out 1).trans rfl;have hfz10_0:=blk_frozen BK144.out 0;have hfz10_1:=blk_frozen BK144.out 1))
   go_ret
   exact ⟨by first|rfl|(simp [errW_none,errW_some] <;> rfl)|(simp [*,errW_none,errW_some] <;> rfl),by repeat (first|(with_reducible first|exact HB.out|apply lA|apply lN|apply lD|refine lS ?_ GE144.out)|exact HB.out)⟩
  ·rw [if_neg c6] at H
   have c6b0 : decide (0 ≤ a1) = false:=decide_eq_false c6
   clear c6
   obtain rfl:=Option.some.inj H
   go_enter Try.func29,Try.ntmps29
   go_wp2_with (first|((with_reducible refine gate_dst (N:=3) rfl ?_);(try (refine gate_guard (by rfl) ?_;dsimp only));refine box_event ?hg (N:=3) ?hd (cs:=#[.slice A0_0 l0_0.length c0_0,.int .i64 a0_1]) (t:=24) ?hr ?_;(case hd=>rfl);(case hg=>rfl);(case hr=>first|(go_simp;done)|(go_simp;rfl));intro gb144 hg w11 hbox hb;have n0_:=mK (below_step (by repeat (first|(with_reducible first|exact HB.out|apply lA|apply lN|apply lD)|exact HB.out)) hb);have n1_:=mK (hbox);have n3_:=mK ((by rw [hg];exact (below_size (by repeat (first|(with_reducible first|exact HB.out|apply lA|apply lN|apply lD)|exact HB.out))) : w.heap.size ≤ gb144));clear HB;have HB:=n0_;have BK144:=n1_;have GE144:=n3_;clear n0_ n1_ n3_;clear hb hbox hg;have hcz12_0 : w11.cell? ⟨gb144,0,none⟩ = some (.slice A0_0 l0_0.length c0_0):=(blk_cell BK144.out 0).trans rfl;have hcz12_1 : w11.cell? ⟨gb144,1,none⟩ = some (.int .i64 a0_1):=(blk_cell BK144.out 1).trans rfl;have hfz12_0:=blk_frozen BK144.out 0;have hfz12_1:=blk_frozen BK144.out 1)|((with_reducible refine gate_callee (f:=20) rfl ?_);refine goesL_ (some 8) rfl rfl Try.func20 (by kernel_rfl) rfl #[.agg #[.slice A0_0 l0_0.length c0_0,.int .i64 a0_1]] rfl (by (try simp only [List.map_toArray,List.map_cons,List.map_nil]);first|done|rfl|(simp only [List.length_drop,List.length_take];rfl)) ?_;(with_reducible refine (link_Check.calls _ _ l0_0 a0_1 true _ ?side1 ?side2 A4.out).mono ?_);(case side1=>repeat (first|exact (Kd.C_below HR0_0.out HB.out)|(with_reducible refine Kd.C_alloc ?_ _)|(with_reducible refine Kd.C_drewN ?_ _)|(with_reducible refine Kd.C_drew ?_)));(case side2=>exact HC0_0.out);rintro e w13 ⟨rfl,hb⟩;refine ⟨_,rfl,?_⟩;have n1_:=mK (below_step (by repeat (first|(with_reducible first|exact HB.out|apply lA|apply lN|apply lD|refine lS ?_ GE144.out)|exact HB.out)) hb);clear HB;have HB:=n1_;clear n1_;(try clear hb);(try clear hb2);(try clear hk);(try clear hi)))
   go_ret
   exact ⟨by first|rfl|(simp [errW_none,errW_some] <;> rfl)|(simp [*,errW_none,errW_some] <;> rfl),by repeat (first|(with_reducible first|exact HB.out|apply lA|apply lN|apply lD|refine lS ?_ GE144.out)|exact HB.out)⟩
 ·replace c5:=Bool.eq_false_iff.mpr c5
  subst c5
  have H1 : (some false) = some r:= by rw [if_neg (show ¬ (false = true) by decide)] at H;exact H
  clear H
  have H:=H1
  clear H1
  obtain rfl:=Option.some.inj H
  go_enter Try.func29,Try.ntmps29
  go_wp2_with (first|((with_reducible refine gate_dst (N:=3) rfl ?_);(try (refine gate_guard (by rfl) ?_;dsimp only));refine box_event ?hg (N:=3) ?hd (cs:=#[.slice A0_0 l0_0.length c0_0,.int .i64 a0_1]) (t:=24) ?hr ?_;(case hd=>rfl);(case hg=>rfl);(case hr=>first|(go_simp;done)|(go_simp;rfl));intro gb144 hg w14 hbox hb;have n0_:=mK (below_step (by repeat (first|(with_reducible first|exact HB.out|apply lA|apply lN|apply lD)|exact HB.out)) hb);have n1_:=mK (hbox);have n3_:=mK ((by rw [hg];exact (below_size (by repeat (first|(with_reducible first|exact HB.out|apply lA|apply lN|apply lD)|exact HB.out))) : w.heap.size ≤ gb144));clear HB;have HB:=n0_;have BK144:=n1_;have GE144:=n3_;clear n0_ n1_ n3_;clear hb hbox hg;have hcz15_0 : w14.cell? ⟨gb144,0,none⟩ = some (.slice A0_0 l0_0.length c0_0):=(blk_cell BK144.out 0).trans rfl;have hcz15_1 : w14.cell? ⟨gb144,1,none⟩ = some (.int .i64 a0_1):=(blk_cell BK144.out 1).trans rfl;have hfz15_0:=blk_frozen BK144.out 0;have hfz15_1:=blk_frozen BK144.out 1)|((with_reducible refine gate_callee (f:=20) rfl ?_);refine goesL_ (some 8) rfl rfl Try.func20 (by kernel_rfl) rfl #[.agg #[.slice A0_0 l0_0.length c0_0,.int .i64 a0_1]] rfl (by (try simp only [List.map_toArray,List.map_cons,List.map_nil]);first|done|rfl|(simp only [List.length_drop,List.length_take];rfl)) ?_;(with_reducible refine (link_Check.calls _ _ l0_0 a0_1 false _ ?side1 ?side2 A4.out).mono ?_);(case side1=>repeat (first|exact (Kd.C_below HR0_0.out HB.out)|(with_reducible refine Kd.C_alloc ?_ _)|(with_reducible refine Kd.C_drewN ?_ _)|(with_reducible refine Kd.C_drew ?_)));(case side2=>exact HC0_0.out);rintro e w16 ⟨rfl,hb⟩;refine ⟨_,rfl,?_⟩;have n1_:=mK (below_step (by repeat (first|(with_reducible first|exact HB.out|apply lA|apply lN|apply lD|refine lS ?_ GE144.out)|exact HB.out)) hb);clear HB;have HB:=n1_;clear n1_;(try clear hb);(try clear hb2);(try clear hk);(try clear hi)))
  go_ret
  exact ⟨by first|rfl|(simp [errW_none,errW_some] <;> rfl)|(simp [*,errW_none,errW_some] <;> rfl),by repeat (first|(with_reducible first|exact HB.out|apply lA|apply lN|apply lD|refine lS ?_ GE144.out)|exact HB.out)⟩

/-! ### slices_Grow_byte_byte: function 34 -/
def slices_Grow_byte_byte.f (l0 : List (List Int)) (a1 : Int) : Option (List (List Int)) := if 0 ≤ a1 ∧ a1 < 5864062014805 then some [] else none
set_option maxHeartbeats 4000000 in
set_option maxRecDepth 100000 in
theorem slices_Grow_byte_byte.calls (A0 : Option Addr) (c0 : Nat) (l0 : List (List Int)) (a1 : Int) (r : List (List Int)) (w : World) (hr0 : Kd.C (Kd.slice 5 (Kd.int .u8)) w A0 l0.length l0) (hc0 : l0.length ≤ c0) (h : slices_Grow_byte_byte.f l0 a1 = some r) :
    Calls Try.prog 34 #[.slice none 0 0, .int .i64 a1] w fun e w' => ∃ v0_ : Value, e = .returned (v0_) ∧ Kd.S (Kd.slice 5 (Kd.int .u8)) 25 w' w.heap.size (fun _ => True) v0_ r ∧ Below w.heap.size w w' := by
  clear hr0 hc0 A0 c0
  unfold slices_Grow_byte_byte.f at h
  by_cases hl : 0 ≤ a1 ∧ a1 < 5864062014805
  case neg => rw [if_neg hl] at h; exact absurd h (by simp)
  rw [if_pos hl] at h
  obtain rfl := Option.some.inj h
  clear h
  obtain ⟨h0, h1⟩ := hl
  by_cases hp : 0 < a1
  case neg =>
    obtain rfl : a1 = 0 := by omega
    clear h0 h1 hp
    go_enter Try.func34, Try.ntmps34
    go_wp2
    go_ret
    exact ⟨_, rfl, Kd.S_nil _ _ _ _ _, Below.refl _ _⟩
  have hn : decide (a1 < 0) = false := decide_eq_false (by omega)
  have hp1 : decide (0 < a1) = true := decide_eq_true hp
  have HB := Aside0.mk (Below.refl w.heap.size w)
  obtain ⟨i0, hi0, _, hsz, _⟩ := info_parts info25
  go_enter Try.func34, Try.ntmps34
  go_wp2_with (first | ((with_reducible refine gate_builtin (b := .append) (xs := #[.tmp 20, .tmp 21]) rfl ?_); at_builtin; refine Kd.S_append_zeros (Kd.slice 5 (Kd.int .u8)) (w0 := w) w.heap.size rfl (.tmp 20) (.tmp 21) 22 3 25 (.slice none 0 0) 24 rfl Try.underlying22 Try.underlying3 info25 rfl (by decide) (by omega) (.slice none 0 0) [] [] a1 (fun _ => True) rfl rfl ⟨_, rfl, Kd.R_nil _ _ _ _ _⟩ (fun k_ hk => trivial) (Kd.S_nil _ _ _ _ _) h0 HB.out (below_size HB.out) ?aL ?_; (case aL => simp only [List.length_nil]; omega); intro v7 w7 ho hb hg hat; obtain ⟨A7, c7, e7⟩ := Kd.S_slice ho; subst e7; have hcut7 := cut_to (P := Try.prog) 22 25 .i64 Try.underlying22 hi0 A7 _ c7 0 (by omega) (by omega) (Kd.S_reads' ho).2.1; have HO := Aside0.mk (Kd.S_take (m := 0) ho (by omega)); have HB7 := Aside0.mk hb; clear ho hb hg hat))
  go_ret
  exact ⟨_, rfl, HO.out, HB7.out⟩

/-! ### slices_Concat_byte_byte: function 30 -/
mutual
def slices_Concat_byte_byte.l0 : Nat → List (List (List Int)) → Int → List (List (List Int)) → Int → Int → Option ((List (List Int)))
 | 0, _, _, _, _, _ => none
 | k + 1, x0, x3, x9, x10, x11 => if x11 < x10 then (if 0 ≤ x11 then (if x11 < (x9.length : Int) then (if (wrap64 (x3 + ((rd_L2 x9 x11).length : Int))) < 0 then (none) else (slices_Concat_byte_byte.l0 k x0 (wrap64 (x3 + ((rd_L2 x9 x11).length : Int))) x9 x10 (wrap64 (x11 + 1)))) else (none)) else (none)) else ((slices_Grow_byte_byte.f ([] : List (List Int)) x3).bind fun t147 => (slices_Concat_byte_byte.l1 k t147 x0 (x0.length : Int) 0))
def slices_Concat_byte_byte.l1 : Nat → List (List Int) → List (List (List Int)) → Int → Int → Option ((List (List Int)))
 | 0, _, _, _, _ => none
 | k + 1, x6, x25, x26, x27 => if x27 < x26 then (if 0 ≤ x27 then (if x27 < (x25.length : Int) then (if x6.length + (rd_L2 x25 x27).length < 5864062014805 then (slices_Concat_byte_byte.l1 k (x6 ++ (rd_L2 x25 x27)) x25 x26 (wrap64 (x27 + 1))) else (none)) else (none)) else (none)) else (some x6)
end
def slices_Concat_byte_byte.f (k : Nat) (l0 : List (List (List Int))) : Option ((List (List Int))) := slices_Concat_byte_byte.l0 k l0 0 l0 (l0.length : Int) 0
theorem slices_Concat_byte_byte.mono_l : ∀ k, (∀ y0 y1 y2 y3 y4, LeO (slices_Concat_byte_byte.l0 k y0 y1 y2 y3 y4) (slices_Concat_byte_byte.l0 (k + 1) y0 y1 y2 y3 y4)) ∧ (∀ y0 y1 y2 y3, LeO (slices_Concat_byte_byte.l1 k y0 y1 y2 y3) (slices_Concat_byte_byte.l1 (k + 1) y0 y1 y2 y3))
 | 0 => ⟨fun _ _ _ _ _ r h => by simp [slices_Concat_byte_byte.l0] at h, fun _ _ _ _ r h => by simp [slices_Concat_byte_byte.l1] at h⟩
 | k + 1 => by
  obtain ⟨ih0, ih1⟩ := slices_Concat_byte_byte.mono_l k
  refine ⟨?_, ?_⟩
  ·intro y0 y1 y2 y3 y4
   unfold slices_Concat_byte_byte.l0
   repeat' first
   | (with_reducible exact ih0 _ _ _ _ _)
   | (with_reducible exact ih1 _ _ _ _)
   | (with_reducible exact LeO.refl _)
   | (with_reducible exact LeO.none _)
   | (with_reducible refine LeO.ite ?_ ?_)
   | (with_reducible refine LeO.bind ?_ (fun _ => ?_))
   | exact ih0 _ _ _ _ _
   | exact ih1 _ _ _ _
   | exact LeO.none _
   | refine LeO.ite ?_ ?_
   | refine LeO.bind ?_ (fun _ => ?_)
  ·intro y0 y1 y2 y3
   unfold slices_Concat_byte_byte.l1
   repeat' first
   | (with_reducible exact ih0 _ _ _ _ _)
   | (with_reducible exact ih1 _ _ _ _)
   | (with_reducible exact LeO.refl _)
   | (with_reducible exact LeO.none _)
   | (with_reducible refine LeO.ite ?_ ?_)
   | (with_reducible refine LeO.bind ?_ (fun _ => ?_))
   | exact ih0 _ _ _ _ _
   | exact ih1 _ _ _ _
   | exact LeO.none _
   | refine LeO.ite ?_ ?_
   | refine LeO.bind ?_ (fun _ => ?_)
theorem slices_Concat_byte_byte.mono : ∀ a0 k, LeO (slices_Concat_byte_byte.f k a0) (slices_Concat_byte_byte.f (k + 1) a0) := by
 intro a0 k
 obtain ⟨ih0, ih1⟩ := slices_Concat_byte_byte.mono_l k
 unfold slices_Concat_byte_byte.f
 repeat' first
   | (with_reducible exact ih0 _ _ _ _ _)
   | (with_reducible exact ih1 _ _ _ _)
   | (with_reducible exact LeO.refl _)
   | (with_reducible exact LeO.none _)
   | (with_reducible refine LeO.ite ?_ ?_)
   | (with_reducible refine LeO.bind ?_ (fun _ => ?_))
   | exact ih0 _ _ _ _ _
   | exact ih1 _ _ _ _
   | exact LeO.none _
   | refine LeO.ite ?_ ?_
   | refine LeO.bind ?_ (fun _ => ?_)
set_option maxHeartbeats 8000000 in
set_option maxRecDepth 100000 in
theorem slices_Concat_byte_byte.calls (k : Nat) (P0_ : Nat → Prop) (A0 : Option Addr) (c0 : Nat) (l0 : List (List (List Int))) (r : List (List Int)) (w : World) (hs0 : Kd.V (Kd.slice 25 (Kd.slice 5 (Kd.int .u8))) 22 w w.heap.size (fun k_ => P0_ k_) (.slice A0 l0.length c0) l0) (h : slices_Concat_byte_byte.f k l0 = some r) :
  Calls Try.prog 30 #[.slice A0 l0.length c0] w fun e w' => ∃ v0_ : Value, e = .returned (v0_) ∧ Kd.N (Kd.slice 5 (Kd.int .u8)) 25 w' w.heap.size (fun k_ => (P0_ k_ ∨ w.heap.size ≤ k_)) v0_ r ∧ Below w.heap.size w w' := by
 have HO0:=mK (show Kd.V (Kd.slice 25 (Kd.slice 5 (Kd.int .u8))) 22 w w.heap.size (fun k_=>(P0_ k_ ∨ w.heap.size ≤ k_)) (.slice A0 l0.length c0) l0 from Kd.V_mono hs0 (fun k_ hk=>.inl hk))
 have HB:=mK (Below.refl w.heap.size w)
 have H : (slices_Concat_byte_byte.l0 k l0 0 l0 (l0.length : Int) 0) = some r:=h
 clear h
 have H':=mK H
 clear H
 go_enter Try.func30,Try.ntmps30
 go_wp2
 go_loopg [3,11] k (fun kq v3 v11 w'=>∃ (x3_1 : Int) (x11_1 : Int),v3 = .int .i64 x3_1∧v11 = .int .i64 x11_1∧Aside0 (slices_Concat_byte_byte.l0 kq l0 x3_1 l0 (l0.length : Int) x11_1 = some r)∧Aside0 (kq ≤ k)∧Aside0 (Kd.V (Kd.slice 25 (Kd.slice 5 (Kd.int .u8))) 22 w' w.heap.size (fun k_=>(P0_ k_ ∨ w.heap.size ≤ k_)) (.slice A0 l0.length c0) l0)∧Aside0 (Kd.V (Kd.slice 25 (Kd.slice 5 (Kd.int .u8))) 22 w' w.heap.size (fun k_=>(P0_ k_ ∨ w.heap.size ≤ k_)) (.slice A0 l0.length c0) l0)∧Aside0 (Below w.heap.size w w'))
 case atStart=>exact ⟨(0),(0),(by first|rfl|(simp;done)|(simp [*];done)),(by first|rfl|(simp;done)|(simp [*];done)),H',⟨Nat.le_refl _⟩,⟨by (with_reducible repeat (first|apply vA|apply vN|apply vD));exact HO0.out⟩,⟨by (with_reducible repeat (first|apply vA|apply vN|apply vD));exact HO0.out⟩,⟨by repeat (first|(with_reducible first|exact HB.out|apply lA|apply lN|apply lD)|exact HB.out)⟩⟩
 case round =>
  clear H'
  obtain ⟨x3_1,x11_1,rfl,rfl,HA,HK1,HO_0,HO_9,HB⟩:=hrel
  cases gk with
  |zero=>exact absurd HA.out (by simp [slices_Concat_byte_byte.l0])
  |succ k1 =>
   have H:=HA.out
   clear HA
   simp only [slices_Concat_byte_byte.l0] at H
   by_cases c2 : x11_1 < (l0.length : Int)
   ·rw [if_pos c2] at H
    have c2b0 : decide (x11_1 < (l0.length : Int)) = true:=decide_eq_true c2
    clear c2
    by_cases c3 : 0 ≤ x11_1
    ·rw [if_pos c3] at H
     have c3b0 : decide (0 ≤ x11_1) = true:=decide_eq_true c3
     clear c3
     by_cases c4 : x11_1 < (l0.length : Int)
     ·rw [if_pos c4] at H
      have c4b0 : decide (x11_1 < (l0.length : Int)) = true:=decide_eq_true c4
      clear c4
      by_cases c5 : (wrap64 (x3_1 + ((rd_L2 l0 x11_1).length : Int))) < 0
      ·rw [if_pos c5] at H
       exact absurd H (by simp)
      ·rw [if_neg c5] at H
       have c5b0 : decide ((wrap64 (x3_1 + ((rd_L2 l0 x11_1).length : Int))) < 0) = false:=decide_eq_false c5
       clear c5
       have H':=mK H
       clear H
       have p146 : 0 ≤ (x11_1 : Int):=of_decide_eq_true (by first|(with_reducible assumption)|assumption)
       have q146 : x11_1 < (l0.length : Int):=of_decide_eq_true (by first|(with_reducible assumption)|assumption)
       obtain ⟨ad146,A146_0,c146_0,e146,hx146_0,hl146_0,hi146_0⟩:=at_L2 (Kd.V_reads' HO_9.out).2.2 x11_1 p146 q146
       cases e146
       obtain ⟨ce146,hce146,hMe146,hcc146⟩:=Kd.V_get HO_9.out [] x11_1 p146 (by first|exact q146|exact of_decide_eq_true (by first|(with_reducible assumption)|assumption)|(have e_:=(Kd.V_reads' HO_9.out).1;omega))
       obtain ⟨ua146_0,uc146_0,rfl,ul146_0,ge146_0⟩:=Kd.FK_slice_open hMe146
       have hv146_0:=hcc146 0 _ rfl
       rw [Nat.add_zero,show ((Kd.slice 25 (Kd.slice 5 (Kd.int .u8)))).sz = 1 from rfl,Nat.mul_one] at hv146_0
       replace hv146_0:=Option.some.inj (hv146_0.symm.trans hx146_0)
       injection hv146_0 with hva_ hvn_ hvc_
       rw [hva_] at ge146_0
       rw [hvc_] at ul146_0
       have HL146_0:=mK (show Kd.V (Kd.slice 5 (Kd.int .u8)) 25 _ w.heap.size _ _ (rd_L2 l0 x11_1) from Kd.V_mk ul146_0 ge146_0)
       clear hva_ hvn_ hvc_ ge146_0 ul146_0
       clear hcc146 hce146
       have HR146_0:=mK hi146_0
       have HC146_0:=mK hl146_0
       clear hi146_0 hl146_0
       replace p146:=eq_true p146
       replace q146:=eq_true q146
       go_wp2
       go_roundg k1
       case measure=>have:=HK1.out;omega
       case rel=>exact ⟨(wrap64 (x3_1 + ((rd_L2 l0 x11_1).length : Int))),(wrap64 (x11_1 + 1)),(by first|rfl|(simp;done)|(simp [*];done)),(by first|rfl|(simp;done)|(simp [*];done)),H',⟨by have:=HK1.out;omega⟩,⟨by (with_reducible repeat (first|apply vA|apply vN|apply vD));exact HO_0.out⟩,⟨by (with_reducible repeat (first|apply vA|apply vN|apply vD));exact HO_9.out⟩,⟨by repeat (first|(with_reducible first|exact HB.out|apply lA|apply lN|apply lD)|exact HB.out)⟩⟩
     ·rw [if_neg c4] at H
      exact absurd H (by simp)
    ·rw [if_neg c3] at H
     exact absurd H (by simp)
   ·rw [if_neg c2] at H
    have c2b0 : decide (x11_1 < (l0.length : Int)) = false:=decide_eq_false c2
    clear c2
    replace H:=Option.bind_eq_some_iff.mp H
    obtain ⟨t147,A60,H⟩:=H
    replace H : (slices_Concat_byte_byte.l1 k1 t147 l0 (l0.length : Int) 0) = some r:=H
    have A6:=mK A60
    clear A60
    have H':=mK H
    clear H
    go_wp2_with (first|((with_reducible refine gate_callee (f:=34) rfl ?_);refine goesL_ (some 24) rfl rfl Try.func34 (by kernel_rfl) rfl #[.slice none 0 0,.int .i64 x3_1] rfl (by (try simp only [List.map_toArray,List.map_cons,List.map_nil]);first|done|rfl|(simp only [List.length_drop,List.length_take];rfl)) ?_;(refine (slices_Grow_byte_byte.calls none 0 ([] : List (List Int)) x3_1 t147 _ ?side1 ?side2 A6.out).mono ?_);(case side1=>exact Kd.C_nil _ _);(case side2=>exact Nat.le_refl _);rintro e w7 ⟨v148,rfl,ho0,hb⟩;refine ⟨_,rfl,?_⟩;have n0_:=mK (Kd.V_elder' (by (with_reducible repeat (first|apply vA|apply vN|apply vD));exact HO_0.out) (by first|exact Kd.N_base ho0|exact Kd.R_base (Kd.S_R ho0)) hb);have n2_:=mK (Kd.N_lower (Kd.N_mono (ok':= fun k_=>(P0_ k_ ∨ w.heap.size ≤ k_)) (Kd.S_N (Kd.S_bound ho0)) (fun k_ hk_=>(.inr (Nat.le_trans (below_size (by repeat (first|(with_reducible first|exact HB.out|apply lA|apply lN|apply lD)|exact HB.out))) hk_.2.1)))) (below_size (by repeat (first|(with_reducible first|exact HB.out|apply lA|apply lN|apply lD)|exact HB.out))));have n3_:=mK (below_step (by repeat (first|(with_reducible first|exact HB.out|apply lA|apply lN|apply lD)|exact HB.out)) hb);clear HO_0;clear HB;have HO_0:=n0_;have HO149:=n2_;have HB:=n3_;clear n0_ n2_ n3_;(try clear hb);(try clear hb2);(try clear hk);(try clear hi);(try clear ho0)))
    go_loopg [6,27] k1 (fun kq v6 v27 w'=>∃ (x6_2 : List (List Int)) (x27_2 : Int),v27 = .int .i64 x27_2∧Aside0 (slices_Concat_byte_byte.l1 kq x6_2 l0 (l0.length : Int) x27_2 = some r)∧Aside0 (kq ≤ k1)∧Aside0 (Kd.N (Kd.slice 5 (Kd.int .u8)) 25 w' w.heap.size (fun k_=>(P0_ k_ ∨ w.heap.size ≤ k_)) v6 x6_2)∧Aside0 (Kd.V (Kd.slice 25 (Kd.slice 5 (Kd.int .u8))) 22 w' w.heap.size (fun k_=>(P0_ k_ ∨ w.heap.size ≤ k_)∧some k_ ≠ (v6 : Value).ownBlock) (.slice A0 l0.length c0) l0)∧Aside0 (Below w.heap.size w w'))
    case atStart=>exact ⟨(t147),(0),(by first|rfl|(simp;done)|(simp [*];done)),H',⟨Nat.le_refl _⟩,⟨by (with_reducible repeat (first|apply Kd.N_alloc|apply Kd.N_drewN|apply Kd.N_drew));exact HO149.out⟩,⟨by (with_reducible repeat (first|apply vA|apply vN|apply vD));exact HO_0.out⟩,⟨by repeat (first|(with_reducible first|exact HB.out|apply lA|apply lN|apply lD)|exact HB.out)⟩⟩
    case round =>
     clear H'
     try clear c1
     try clear p1
     try clear q1
     try clear hx1
     try clear c2
     try clear c2b0
     try clear p2
     try clear c3
     try clear c3b0
     try clear c4
     try clear c4b0
     try clear c5
     try clear c5b0
     try clear p6
     try clear hx146_0
     try clear p146
     try clear q146
     obtain ⟨x6_2,x27_2,rfl,HA,HK2,HO_6,HO_25,HB⟩:=hrel
     cases gk with
     |zero=>exact absurd HA.out (by simp [slices_Concat_byte_byte.l1])
     |succ k2 =>
      have H:=HA.out
      clear HA
      simp only [slices_Concat_byte_byte.l1] at H
      by_cases c8 : x27_2 < (l0.length : Int)
      ·rw [if_pos c8] at H
       have c8b0 : decide (x27_2 < (l0.length : Int)) = true:=decide_eq_true c8
       clear c8
       by_cases c9 : 0 ≤ x27_2
       ·rw [if_pos c9] at H
        have c9b0 : decide (0 ≤ x27_2) = true:=decide_eq_true c9
        clear c9
        by_cases c10 : x27_2 < (l0.length : Int)
        ·rw [if_pos c10] at H
         have c10b0 : decide (x27_2 < (l0.length : Int)) = true:=decide_eq_true c10
         clear c10
         by_cases c11 : x6_2.length + (rd_L2 l0 x27_2).length < 5864062014805
         ·rw [if_pos c11] at H
          have LMc11:=mK c11
          clear c11
          obtain ⟨y151,hy151⟩ : ∃ y_ : List (List Int),y_ = (x6_2 ++ (rd_L2 l0 x27_2)):=⟨_,rfl⟩
          replace H : (slices_Concat_byte_byte.l1 k2 y151 l0 (l0.length : Int) (wrap64 (x27_2 + 1))) = some r:= by first|(rw [hy151];with_reducible exact H)|(have H2_:=(Option.bind_some _ _).symm.trans H;rw [hy151];with_reducible exact H2_)|(have H2_:=(Option.bind_some _ _).symm.trans H;with_reducible exact H2_)|with_reducible exact H|(rw [hy151];exact H)|exact H
          have Ny151:=mK hy151
          clear hy151
          have H':=mK H
          clear H
          have p150 : 0 ≤ (x27_2 : Int):=of_decide_eq_true (by first|(with_reducible assumption)|assumption)
          have q150 : x27_2 < (l0.length : Int):=of_decide_eq_true (by first|(with_reducible assumption)|assumption)
          obtain ⟨ad150,A150_0,c150_0,e150,hx150_0,hl150_0,hi150_0⟩:=at_L2 (Kd.V_reads' HO_25.out).2.2 x27_2 p150 q150
          cases e150
          obtain ⟨ce150,hce150,hMe150,hcc150⟩:=Kd.V_get HO_25.out [] x27_2 p150 (by first|exact q150|exact of_decide_eq_true (by first|(with_reducible assumption)|assumption)|(have e_:=(Kd.V_reads' HO_25.out).1;omega))
          obtain ⟨ua150_0,uc150_0,rfl,ul150_0,ge150_0⟩:=Kd.FK_slice_open hMe150
          have hv150_0:=hcc150 0 _ rfl
          rw [Nat.add_zero,show ((Kd.slice 25 (Kd.slice 5 (Kd.int .u8)))).sz = 1 from rfl,Nat.mul_one] at hv150_0
          replace hv150_0:=Option.some.inj (hv150_0.symm.trans hx150_0)
          injection hv150_0 with hva_ hvn_ hvc_
          rw [hva_] at ge150_0
          rw [hvc_] at ul150_0
          have HL150_0:=mK (show Kd.V (Kd.slice 5 (Kd.int .u8)) 25 _ w.heap.size _ _ (rd_L2 l0 x27_2) from Kd.V_mk ul150_0 ge150_0)
          clear hva_ hvn_ hvc_ ge150_0 ul150_0
          clear hcc150 hce150
          have HR150_0:=mK hi150_0
          have HC150_0:=mK hl150_0
          clear hi150_0 hl150_0
          replace p150:=eq_true p150
          replace q150:=eq_true q150
          go_wp2_with (first|((with_reducible refine gate_builtin (b:=.append) (xs:=#[.tmp 31,.tmp 32]) rfl ?_);at_builtin;refine Kd.N_append_rows (Kd.slice 5 (Kd.int .u8)) (w0:=w) w.heap.size rfl (.tmp 31) (.tmp 32) 22 25 (.slice none 0 0) 24 rfl Try.underlying22 info25 rfl (by decide) (by omega) u6 x6_2 (rd_L2 l0 x27_2) _ _ _ (fun k_=>(P0_ k_ ∨ w.heap.size ≤ k_)) (fun k_=>((fun k_=>(P0_ k_ ∨ w.heap.size ≤ k_))) k_∧some k_ ≠ (u6 : Value).ownBlock) rfl rfl ?aO ?aR (fun _ hk=>hk) ?aF ?aB ?aS ?aL ?_;(case aR=>exact (by skip;exact Kd.V_F (Kd.V_mono (ok':=(fun k_=>((fun k_=>(P0_ k_ ∨ w.heap.size ≤ k_))) k_∧some k_ ≠ (u6 : Value).ownBlock)) (HL150_0.out) (fun k_ hk=>⟨hk.1,hk.2⟩))));(case aB=>exact (by repeat (first|(with_reducible first|exact HB.out|apply lA|apply lN|apply lD)|exact HB.out)));(case aF=>exact (fun k_ hk=>(.inr (Nat.le_trans (below_size (by repeat (first|(with_reducible first|exact HB.out|apply lA|apply lN|apply lD)|exact HB.out))) hk))));(case aO=>exact (by (with_reducible repeat (first|apply Kd.N_alloc|apply Kd.N_drewN|apply Kd.N_drew));exact HO_6.out));(case aS=>exact (below_size (by repeat (first|(with_reducible first|exact HB.out|apply lA|apply lN|apply lD)|exact HB.out))));(case aL=>have:=LMc11.out;omega);intro v152 w12 ho hb hg hat;rw [← Ny151.out] at ho;have n0_:=mK (Kd.V_afterv (ok:=(fun k_=>(P0_ k_ ∨ w.heap.size ≤ k_))) (by (with_reducible repeat (first|apply vA|apply vN|apply vD));exact HO_25.out) hg hat);have n2_:=mK (hb);have n3_:=mK (ho);clear HO_25;clear HB;clear HO_6;have HO_25:=n0_;have HB:=n2_;have HO153:=n3_;clear n0_ n2_ n3_;clear ho hb hg hat))
          go_roundg k2
          case measure=>have:=HK1.out;have:=HK2.out;omega
          case rel=>exact ⟨(y151),(wrap64 (x27_2 + 1)),(by first|rfl|(simp;done)|(simp [*];done)),H',⟨by have:=HK1.out;have:=HK2.out;omega⟩,⟨by (with_reducible repeat (first|apply Kd.N_alloc|apply Kd.N_drewN|apply Kd.N_drew));exact HO153.out⟩,⟨by (with_reducible repeat (first|apply vA|apply vN|apply vD));exact HO_25.out⟩,⟨by repeat (first|(with_reducible first|exact HB.out|apply lA|apply lN|apply lD)|exact HB.out)⟩⟩
         ·rw [if_neg c11] at H
          exact absurd H (by simp)
        ·rw [if_neg c10] at H
         exact absurd H (by simp)
       ·rw [if_neg c9] at H
        exact absurd H (by simp)
      ·rw [if_neg c8] at H
       have c8b0 : decide (x27_2 < (l0.length : Int)) = false:=decide_eq_false c8
       clear c8
       obtain rfl:=Option.some.inj H
       go_wp2
       go_ret
       exact ⟨_,by first|rfl|(simp [errW_none,errW_some] <;> rfl)|(simp [*,errW_none,errW_some] <;> rfl),by (with_reducible repeat (first|apply Kd.N_alloc|apply Kd.N_drewN|apply Kd.N_drew));exact HO_6.out,by repeat (first|(with_reducible first|exact HB.out|apply lA|apply lN|apply lD)|exact HB.out)⟩

end Go.Proofs.Ythfokiabneflpaa.P
