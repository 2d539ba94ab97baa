/- Contracts of functions of the seat, written by a program of this session (with the kit's print) for the laws of this claim; no condition beside what each states. -/
import Derived.Test.YthfokiabneflpaaPx0
import Derived.Test.YthfokiabneflpaaPx1
import Derived.Test.YthfokiabneflpaaPx2
import Derived.Test.YthfokiabneflpaaPx3
import Derived.Test.YthfokiabneflpaaPx4
namespace Go.Proofs.Ythfokiabneflpaa.P
open Go.Proofs.Ythfokiabneflpaa.Aux Go.RowKit Go.Proofs.YthfokiabneflpaaW.PrintWords Go.Proofs.YthfokiabneflpaaW.PrintLast Go.Proofs.YthfokiabneflpaaW.PrintMore
attribute [local go_sem] max2_int min2_int max_two min_two max_three min_three max_four min_four   -- for this text's walks alone
set_option linter.unusedVariables false
set_option linter.unusedSimpArgs false

/-! ### link_Swap: function 18 -/
def link_Swap.f (k : Nat) (l0_0 : List (List Int)) (a0_1 : Int) (a1 : Int) : Option ((List (List Int)) × Int) := (link_has.f l0_0 a0_1 a1 2).bind fun t202 => (if t202 = true then ((link_with.f k l0_0 a0_1 l0_0).bind fun bt203 => (if 0 ≤ (wrap64 (a1 + 1)) then (if (wrap64 (a1 + 1)) < (bt203.1.length : Int) then (if 0 ≤ a1 then (if a1 < (bt203.1.length : Int) then (some (((bt203.1.set (a1 : Int).toNat (rd_L1 bt203.1 (wrap64 (a1 + 1)))).set ((wrap64 (a1 + 1)) : Int).toNat (rd_L1 bt203.1 a1)), bt203.2)) else (none)) else (none)) else (none)) else (none))) else (some (l0_0, a0_1)))
theorem link_Swap.mono : ∀ a0 a1 a2 k, LeO (link_Swap.f k a0 a1 a2) (link_Swap.f (k + 1) a0 a1 a2) := by
 intro a0 a1 a2 k
 unfold link_Swap.f
 repeat' first
   | (with_reducible exact link_with.mono _ _ _ _)
   | (with_reducible exact LeO.refl _)
   | (with_reducible exact LeO.none _)
   | (with_reducible refine LeO.ite ?_ ?_)
   | (with_reducible refine LeO.bind ?_ (fun _ => ?_))
   | exact link_with.mono _ _ _ _
   | exact LeO.none _
   | refine LeO.ite ?_ ?_
   | refine LeO.bind ?_ (fun _ => ?_)
def link_Swap.T4 : Bool × List (List Nat × List Nat) := (true, [([],[]),([0],[0]),([],[]),([],[]),([3],[3]),([],[]),([5],[5]),([],[]),([7],[7]),([],[]),([9],[9]),([8,10],[8,10]),([11],[11]),([],[]),([13],[13]),([],[]),([14,15],[14,15]),([16],[16]),([1,2,0,1,2,7,8,9,10,11,12,17],[1,2]),([18,12,0,1,2,7,8,9,10,11,12,17],[12,18]),([4,6,0,1,2,3,4,5,6,7,8,9,10,11,12,13,14,15,16,17,18,19],[4,6]),([20,17,19,0,1,2,3,4,5,6,7,8,9,10,11,12,13,14,15,16,17,18,19],[17,20])])
def link_Swap.B4 : List Nat := [0, 1, 0, 0, 8, 0, 32, 0, 128, 0, 512, 1920, 3968, 0, 8192, 0, 57344, 122880, 262023, 524167, 1048575, 2097151]
theorem link_Swap.tab4 : rtab .any (opsOf Try.f18 4) = link_Swap.T4 := by kernel_rfl
theorem link_Swap.bits4 : waitsOk link_Swap.T4.2 link_Swap.B4 = true := by kernel_rfl

set_option maxHeartbeats 8000000 in
set_option maxRecDepth 100000 in
theorem link_Swap.calls (k : Nat) (P0_0_ : Nat → Prop) (A0_0 : Option Addr) (c0_0 : Nat) (l0_0 : List (List Int)) (a0_1 : Int) (a1 : Int) (r1 : List (List Int)) (r2 : Int) (w : World) (hs0_0 : Kd.V (Kd.slice 5 (Kd.int .u8)) 25 w w.heap.size (fun k_ => P0_0_ k_) (.slice A0_0 l0_0.length c0_0) l0_0) (h : link_Swap.f k l0_0 a0_1 a1 = some (r1, r2)) :
  Calls Try.prog 18 #[.agg #[.slice A0_0 l0_0.length c0_0, .int .i64 a0_1], .int .i64 a1] w fun e w' => ∃ v0_ : Value, e = .returned (.agg #[v0_, .int .i64 r2]) ∧ Kd.V (Kd.slice 5 (Kd.int .u8)) 25 w' w.heap.size (fun k_ => (P0_0_ k_ ∨ w.heap.size ≤ k_)) v0_ r1 ∧ Below w.heap.size w w' := by
 have hu24:=Try.underlying24
 have HO0_0:=mK (show Kd.V (Kd.slice 5 (Kd.int .u8)) 25 w w.heap.size (fun k_=>(P0_0_ k_ ∨ w.heap.size ≤ k_)) (.slice A0_0 l0_0.length c0_0) l0_0 from Kd.V_mono hs0_0 (fun k_ hk=>.inl hk))
 have HB:=mK (Below.refl w.heap.size w)
 have H : ((link_has.f l0_0 a0_1 a1 2).bind fun t202=>(if t202 = true then ((link_with.f k l0_0 a0_1 l0_0).bind fun bt203=>(if 0 ≤ (wrap64 (a1 + 1)) then (if (wrap64 (a1 + 1)) < (bt203.1.length : Int) then (if 0 ≤ a1 then (if a1 < (bt203.1.length : Int) then (some (((bt203.1.set (a1 : Int).toNat (rd_L1 bt203.1 (wrap64 (a1 + 1)))).set ((wrap64 (a1 + 1)) : Int).toNat (rd_L1 bt203.1 a1)),bt203.2)) else (none)) else (none)) else (none)) else (none))) else (some (l0_0,a0_1)))) = some (r1,r2):=h
 clear h
 replace H:=Option.bind_eq_some_iff.mp H
 obtain ⟨t202,A30,H⟩:=H
 replace H : (if t202 = true then ((link_with.f k l0_0 a0_1 l0_0).bind fun bt203=>(if 0 ≤ (wrap64 (a1 + 1)) then (if (wrap64 (a1 + 1)) < (bt203.1.length : Int) then (if 0 ≤ a1 then (if a1 < (bt203.1.length : Int) then (some (((bt203.1.set (a1 : Int).toNat (rd_L1 bt203.1 (wrap64 (a1 + 1)))).set ((wrap64 (a1 + 1)) : Int).toNat (rd_L1 bt203.1 a1)),bt203.2)) else (none)) else (none)) else (none)) else (none))) else (some (l0_0,a0_1))) = some (r1,r2):=H
 have A3:=mK A30
 clear A30
 by_cases c4 : t202 = true
 ·subst c4
  have H1 : ((link_with.f k l0_0 a0_1 l0_0).bind fun bt203=>(if 0 ≤ (wrap64 (a1 + 1)) then (if (wrap64 (a1 + 1)) < (bt203.1.length : Int) then (if 0 ≤ a1 then (if a1 < (bt203.1.length : Int) then (some (((bt203.1.set (a1 : Int).toNat (rd_L1 bt203.1 (wrap64 (a1 + 1)))).set ((wrap64 (a1 + 1)) : Int).toNat (rd_L1 bt203.1 a1)),bt203.2)) else (none)) else (none)) else (none)) else (none))) = some (r1,r2):= by rw [if_pos rfl] at H;exact H
  clear H
  have H:=H1
  clear H1
  replace H:=Option.bind_eq_some_iff.mp H
  obtain ⟨⟨t203,t206⟩,A50,H⟩:=H
  replace H : (if 0 ≤ (wrap64 (a1 + 1)) then (if (wrap64 (a1 + 1)) < (t203.length : Int) then (if 0 ≤ a1 then (if a1 < (t203.length : Int) then (some (((t203.set (a1 : Int).toNat (rd_L1 t203 (wrap64 (a1 + 1)))).set ((wrap64 (a1 + 1)) : Int).toNat (rd_L1 t203 a1)),t206)) else (none)) else (none)) else (none)) else (none)) = some (r1,r2):=H
  have A5:=mK A50
  clear A50
  by_cases q1 : 0 ≤ wrap64 (a1 + 1)
  case neg=>rw [if_neg q1] at H;exact absurd H (by simp)
  rw [if_pos q1] at H
  by_cases q2 : wrap64 (a1 + 1) < (t203.length : Int)
  case neg=>rw [if_neg q2] at H;exact absurd H (by simp)
  rw [if_pos q2] at H
  by_cases q3 : 0 ≤ a1
  case neg=>rw [if_neg q3] at H;exact absurd H (by simp)
  rw [if_pos q3] at H
  by_cases q4 : a1 < (t203.length : Int)
  case neg=>rw [if_neg q4] at H;exact absurd H (by simp)
  rw [if_pos q4] at H
  simp only [Option.some.injEq,Prod.mk.injEq] at H
  obtain ⟨rfl,rfl⟩:=H
  go_enter Try.func18,Try.ntmps18
  go_wp2_with (first|((with_reducible refine gate_dst (N:=2) rfl ?_);refine box_event ?hg (N:=2) ?hd (cs:=#[.slice A0_0 l0_0.length c0_0,.int .i64 a0_1]) (t:=24) ?hr ?_;(case hd=>rfl);(case hg=>rfl);(case hr=>first|(go_simp;done)|(go_simp;rfl));intro gb200 hg w6 hbox hb;have n0_:=mK (Kd.V_below (Kd.V_elderB (by (with_reducible repeat (first|apply vA|apply vN|apply vD));exact HO0_0.out) gb200 (Nat.le_of_eq hg.symm)) hb);have n1_:=mK (below_step (by repeat (first|(with_reducible first|exact HB.out|apply lA|apply lN|apply lD)|exact HB.out)) hb);have n2_:=mK (hbox);have n4_:=mK ((by rw [hg];exact (below_size (by repeat (first|(with_reducible first|exact HB.out|apply lA|apply lN|apply lD)|exact HB.out))) : w.heap.size ≤ gb200));clear HO0_0;clear HB;have HO0_0:=n0_;have HB:=n1_;have BK200:=n2_;have GE200:=n4_;clear n0_ n1_ n2_ n4_;clear hb hbox hg)|((with_reducible refine gate_dst (N:=4) rfl ?_);refine box_event ?hg (N:=4) ?hd (cs:=#[.slice none 0 0,.int .i64 0]) (t:=24) ?hr ?_;(case hd=>rfl);(case hg=>rfl);(case hr=>first|(go_simp;done)|(go_simp;rfl));intro gb201 hg w7 hbox hb;have n0_:=mK (Kd.V_below (Kd.V_elderB (by (with_reducible repeat (first|apply vA|apply vN|apply vD));exact HO0_0.out) gb201 (Nat.le_of_eq hg.symm)) hb);have n1_:=mK (blk_below (g:=gb200) (o:=.cells #[.slice A0_0 l0_0.length c0_0,.int .i64 a0_1] 24 (0,0)) (by (with_reducible repeat (first|apply bN|apply bD|apply bA));exact BK200.out) hb);have n2_:=mK (below_step (by repeat (first|(with_reducible first|exact HB.out|apply lA|apply lN|apply lD|refine lS ?_ GE200.out)|exact HB.out)) hb);have n3_:=mK (hbox);have n5_:=mK ((by rw [hg];exact (below_size (by repeat (first|(with_reducible first|exact HB.out|apply lA|apply lN|apply lD|refine lS ?_ GE200.out)|exact HB.out))) : w.heap.size ≤ gb201));have n6_:=mK ((by rw [hg];exact Nat.ne_of_lt (blk_lt (g:=gb200) (o:=.cells #[.slice A0_0 l0_0.length c0_0,.int .i64 a0_1] 24 (0,0)) (by (with_reducible repeat (first|apply bN|apply bD|apply bA));exact BK200.out)) : gb200 ≠ gb201));have n7_:=mK ((by rw [hg];exact Nat.ne_of_gt (blk_lt (g:=gb200) (o:=.cells #[.slice A0_0 l0_0.length c0_0,.int .i64 a0_1] 24 (0,0)) (by (with_reducible repeat (first|apply bN|apply bD|apply bA));exact BK200.out)) : gb201 ≠ gb200));clear HO0_0;clear BK200;clear HB;have HO0_0:=n0_;have BK200:=n1_;have HB:=n2_;have BK201:=n3_;have GE201:=n5_;have NB200_201:=n6_;have NB201_200:=n7_;clear n0_ n1_ n2_ n3_ n5_ n6_ n7_;clear hb hbox hg;have hnb8:=NB200_201.out;have hnc8:=NB201_200.out;have hcz9_0 : w7.cell? ⟨gb200,0,none⟩ = some (.slice A0_0 l0_0.length c0_0):=(blk_cell BK200.out 0).trans rfl;have hcz9_1 : w7.cell? ⟨gb200,1,none⟩ = some (.int .i64 a0_1):=(blk_cell BK200.out 1).trans rfl;have hfz9_0:=blk_frozen BK200.out 0;have hfz9_1:=blk_frozen BK200.out 1)|((with_reducible refine gate_callee (f:=29) rfl ?_);refine goesL_ (some 8) rfl rfl Try.func29 (by kernel_rfl) rfl #[.agg #[.slice A0_0 l0_0.length c0_0,.int .i64 a0_1],.int .i64 a1,.int .i64 2] rfl (by (try simp only [List.map_toArray,List.map_cons,List.map_nil]);first|done|rfl|(simp only [List.length_drop,List.length_take];rfl)) ?_;(with_reducible refine (link_has.calls _ _ l0_0 a0_1 a1 2 true _ ?side1 ?side2 A3.out).mono ?_);(case side1=>repeat (first|exact (Kd.V_reads' HO0_0.out).2.2|(with_reducible refine Kd.C_alloc ?_ _)|(with_reducible refine Kd.C_drewN ?_ _)|(with_reducible refine Kd.C_drew ?_)));(case side2=>exact (Kd.V_reads' HO0_0.out).2.1);rintro e w10 ⟨rfl,hb⟩;refine ⟨_,rfl,?_⟩;have n0_:=mK (Kd.V_below (by (with_reducible repeat (first|apply vA|apply vN|apply vD));exact HO0_0.out) hb);have n1_:=mK (blk_below (g:=gb200) (o:=.cells #[.slice A0_0 l0_0.length c0_0,.int .i64 a0_1] 24 (0,0)) (by (with_reducible repeat (first|apply bN|apply bD|apply bA));exact BK200.out) hb);have n2_:=mK (blk_below (g:=gb201) (o:=.cells #[.slice none 0 0,.int .i64 0] 24 (0,0)) (by (with_reducible repeat (first|apply bN|apply bD|apply bA));exact BK201.out) hb);have n3_:=mK (below_step (by repeat (first|(with_reducible first|exact HB.out|apply lA|apply lN|apply lD|refine lS ?_ GE200.out|refine lS ?_ GE201.out)|exact HB.out)) hb);clear HO0_0;clear BK200;clear BK201;clear HB;have HO0_0:=n0_;have BK200:=n1_;have BK201:=n2_;have HB:=n3_;clear n0_ n1_ n2_ n3_;(try clear hb);(try clear hb2);(try clear hk);(try clear hi);have hcz11_0 : w10.cell? ⟨gb200,0,none⟩ = some (.slice A0_0 l0_0.length c0_0):=(blk_cell BK200.out 0).trans rfl;have hcz11_1 : w10.cell? ⟨gb200,1,none⟩ = some (.int .i64 a0_1):=(blk_cell BK200.out 1).trans rfl;have hfz11_0:=blk_frozen BK200.out 0;have hfz11_1:=blk_frozen BK200.out 1)|((with_reducible refine gate_callee (f:=25) rfl ?_);refine goesL_ (some 14) rfl rfl Try.func25 (by kernel_rfl) rfl #[.agg #[.slice A0_0 l0_0.length c0_0,.int .i64 a0_1],.slice A0_0 l0_0.length c0_0] rfl (by (try simp only [List.map_toArray,List.map_cons,List.map_nil]);first|done|rfl|(simp only [List.length_drop,List.length_take];rfl)) ?_;(with_reducible refine (link_with.calls k _ _ l0_0 a0_1 _ _ l0_0 t203 t206 _ ?side1 ?side2 ?side3 ?side4 A5.out).mono ?_);(case side1=>repeat (first|exact (Kd.V_reads' HO0_0.out).2.2|(with_reducible refine Kd.C_alloc ?_ _)|(with_reducible refine Kd.C_drewN ?_ _)|(with_reducible refine Kd.C_drew ?_)));(case side2=>exact (Kd.V_reads' HO0_0.out).2.1);(case side3=>repeat (first|exact (Kd.V_reads' HO0_0.out).2.2|(with_reducible refine Kd.C_alloc ?_ _)|(with_reducible refine Kd.C_drewN ?_ _)|(with_reducible refine Kd.C_drew ?_)));(case side4=>exact (Kd.V_reads' HO0_0.out).2.1);rintro e w12 ⟨v204,rfl,ho0,hb⟩;refine ⟨_,rfl,?_⟩;have n0_:=mK (Kd.V_elder' (by (with_reducible repeat (first|apply vA|apply vN|apply vD));exact HO0_0.out) (Kd.S_base ho0) hb);have n1_:=mK (Kd.S_lower (Kd.S_newM (M:= fun k_=>(w.heap.size ≤ k_)) ho0 (below_size (by repeat (first|(with_reducible first|exact HB.out|apply lA|apply lN|apply lD|refine lS ?_ GE200.out|refine lS ?_ GE201.out)|exact HB.out))) (fun k_ h_=>h_)) (below_size (by repeat (first|(with_reducible first|exact HB.out|apply lA|apply lN|apply lD|refine lS ?_ GE200.out|refine lS ?_ GE201.out)|exact HB.out))));have n2_:=mK (blk_below (g:=gb200) (o:=.cells #[.slice A0_0 l0_0.length c0_0,.int .i64 a0_1] 24 (0,0)) (by (with_reducible repeat (first|apply bN|apply bD|apply bA));exact BK200.out) hb);have n3_:=mK (blk_below (g:=gb201) (o:=.cells #[.slice none 0 0,.int .i64 0] 24 (0,0)) (by (with_reducible repeat (first|apply bN|apply bD|apply bA));exact BK201.out) hb);have n4_:=mK (below_step (by repeat (first|(with_reducible first|exact HB.out|apply lA|apply lN|apply lD|refine lS ?_ GE200.out|refine lS ?_ GE201.out)|exact HB.out)) hb);clear HO0_0;clear BK200;clear BK201;clear HB;have HO0_0:=n0_;have HO205:=n1_;have BK200:=n2_;have BK201:=n3_;have HB:=n4_;clear n0_ n1_ n2_ n3_ n4_;(try clear hb);(try clear hb2);(try clear hk);(try clear hi);(try clear ho0))|((with_reducible refine gate_dst (N:=5) rfl ?_);refine box_event ?hg (N:=5) ?hd (cs:=#[.slice none 0 0,.int .i64 0]) (t:=24) ?hr ?_;(case hd=>rfl);(case hg=>rfl);(case hr=>first|(go_simp;done)|(go_simp;rfl));intro gb207 hg w13 hbox hb;have n0_:=mK (Kd.V_below (Kd.V_elderB (by (with_reducible repeat (first|apply vA|apply vN|apply vD));exact HO0_0.out) gb207 (Nat.le_of_eq hg.symm)) hb);have n1_:=mK (Kd.S_below (by (with_reducible repeat (first|apply Kd.S_alloc|apply Kd.S_drewN|apply Kd.S_drew));exact HO205.out) hb);have n2_:=mK (blk_below (g:=gb200) (o:=.cells #[.slice A0_0 l0_0.length c0_0,.int .i64 a0_1] 24 (0,0)) (by (with_reducible repeat (first|apply bN|apply bD|apply bA));exact BK200.out) hb);have n3_:=mK (blk_below (g:=gb201) (o:=.cells #[.slice none 0 0,.int .i64 0] 24 (0,0)) (by (with_reducible repeat (first|apply bN|apply bD|apply bA));exact BK201.out) hb);have n4_:=mK (below_step (by repeat (first|(with_reducible first|exact HB.out|apply lA|apply lN|apply lD|refine lS ?_ GE200.out|refine lS ?_ GE201.out)|exact HB.out)) hb);have n5_:=mK (hbox);have n7_:=mK ((by rw [hg];exact (below_size (by repeat (first|(with_reducible first|exact HB.out|apply lA|apply lN|apply lD|refine lS ?_ GE200.out|refine lS ?_ GE201.out)|exact HB.out))) : w.heap.size ≤ gb207));have n8_:=mK ((by rw [hg];exact Nat.ne_of_lt (blk_lt (g:=gb200) (o:=.cells #[.slice A0_0 l0_0.length c0_0,.int .i64 a0_1] 24 (0,0)) (by (with_reducible repeat (first|apply bN|apply bD|apply bA));exact BK200.out)) : gb200 ≠ gb207));have n9_:=mK ((by rw [hg];exact Nat.ne_of_gt (blk_lt (g:=gb200) (o:=.cells #[.slice A0_0 l0_0.length c0_0,.int .i64 a0_1] 24 (0,0)) (by (with_reducible repeat (first|apply bN|apply bD|apply bA));exact BK200.out)) : gb207 ≠ gb200));have n10_:=mK ((by rw [hg];exact Nat.ne_of_lt (blk_lt (g:=gb201) (o:=.cells #[.slice none 0 0,.int .i64 0] 24 (0,0)) (by (with_reducible repeat (first|apply bN|apply bD|apply bA));exact BK201.out)) : gb201 ≠ gb207));have n11_:=mK ((by rw [hg];exact Nat.ne_of_gt (blk_lt (g:=gb201) (o:=.cells #[.slice none 0 0,.int .i64 0] 24 (0,0)) (by (with_reducible repeat (first|apply bN|apply bD|apply bA));exact BK201.out)) : gb207 ≠ gb201));clear HO0_0;clear HO205;clear BK200;clear BK201;clear HB;have HO0_0:=n0_;have HO205:=n1_;have BK200:=n2_;have BK201:=n3_;have HB:=n4_;have BK207:=n5_;have GE207:=n7_;have NB200_207:=n8_;have NB207_200:=n9_;have NB201_207:=n10_;have NB207_201:=n11_;clear n0_ n1_ n2_ n3_ n4_ n5_ n7_ n8_ n9_ n10_ n11_;clear hb hbox hg;obtain ⟨Ao14,co14,eo14⟩:=Kd.S_slice HO205.out;subst eo14;have hnb15:=NB207_200.out;have hnc15:=NB200_207.out;have hnb16:=NB207_201.out;have hnc16:=NB201_207.out;have hcz17_0 : w13.cell? ⟨gb207,0,none⟩ = some (.slice none 0 0):=(blk_cell BK207.out 0).trans rfl;have hcz17_1 : w13.cell? ⟨gb207,1,none⟩ = some (.int .i64 0):=(blk_cell BK207.out 1).trans rfl;have hfz17_0:=blk_frozen BK207.out 0;have hfz17_1:=blk_frozen BK207.out 1;have hcz18_0 : w13.cell? ⟨gb201,0,none⟩ = some (.slice none 0 0):=(blk_cell BK201.out 0).trans rfl;have hcz18_1 : w13.cell? ⟨gb201,1,none⟩ = some (.int .i64 0):=(blk_cell BK201.out 1).trans rfl;have hfz18_0:=blk_frozen BK201.out 0;have hfz18_1:=blk_frozen BK201.out 1))
  obtain ⟨g,cap,e14,hg1,hg2,cells,hgc⟩:=Kd.S_form HO205.out (by omega)
  simp only [Value.slice.injEq] at e14
  obtain ⟨rfl,-,rfl⟩:=e14
  have F1:=mK (by refine blk_put (cs:=#[(.slice (some ⟨g,0,none⟩) t203.length co14),.int .i64 0]) ?_ 1 _ rfl;refine blk_put (cs:=#[.slice none 0 0,.int .i64 0]) ?_ 0 _ rfl;exact BK207.out : ((w13.setCell ⟨gb207,0,none⟩ (.slice (some ⟨g,0,none⟩) t203.length co14)).setCell ⟨gb207,1,none⟩ (.int .i64 t206)).heap[gb207]? = some (.cells #[(.slice (some ⟨g,0,none⟩) t203.length co14),.int .i64 t206] 24 (0,0)))
  have F2:=mK (by refine blk_far ?_ NB201_207.out _;refine blk_far ?_ NB201_207.out _;exact BK201.out : ((w13.setCell ⟨gb207,0,none⟩ (.slice (some ⟨g,0,none⟩) t203.length co14)).setCell ⟨gb207,1,none⟩ (.int .i64 t206)).heap[gb201]? = some (.cells #[.slice none 0 0,.int .i64 0] 24 (0,0)))
  have F3:=mK (by refine lS ?_ GE207.out;refine lS ?_ GE207.out;exact HB.out : Below w.heap.size w ((w13.setCell ⟨gb207,0,none⟩ (.slice (some ⟨g,0,none⟩) t203.length co14)).setCell ⟨gb207,1,none⟩ (.int .i64 t206)))
  have F4:=mK (Kd.S_N (Kd.S_far (p:=⟨gb207,1,none⟩) (Kd.S_far (p:=⟨gb207,0,none⟩) (Kd.S_types (Kd.S_types HO205.out BK207.out (by decide)) BK201.out (by decide)) (fun _ hk=>hk.1.2) (.slice (some ⟨g,0,none⟩) t203.length co14)) (fun _ hk=>hk.1.2) (.int .i64 t206)))
  clear HO0_0 HO205 BK200 BK201 BK207 HB hcz9_0 hcz9_1 hcz11_0 hcz11_1 hcz17_0 hcz17_1 hcz18_0 hcz18_1 hfz9_0 hfz9_1 hfz11_0 hfz11_1 hfz17_0 hfz17_1 hfz18_0 hfz18_1 hgc hg2
  generalize ((w13.setCell ⟨gb207,0,none⟩ (.slice (some ⟨g,0,none⟩) t203.length co14)).setCell ⟨gb207,1,none⟩ (.int .i64 t206)) = W0 at F1 F2 F3 F4 ⊢
  have p1 : (0 ≤ wrap64 (a1 + 1)) = True:=eq_true q1
  have p2 : (wrap64 (a1 + 1) < (t203.length : Int)) = True:=eq_true q2
  have p3 : (0 ≤ a1) = True:=eq_true q3
  have p4 : (a1 < (t203.length : Int)) = True:=eq_true q4
  have G1:=mK (blk_drew F1.out)
  have G2:=mK (blk_drew F2.out)
  have G3:=mK (below_drew1 F3.out)
  have G4:=mK (Kd.N_drew F4.out)
  refine start_ (n:=22) (S:= fun w'=>w'.cell? ⟨gb207,0,none⟩ = some (.slice (some ⟨g,0,none⟩) t203.length co14)) (ds:=[]) #[φ,φ,φ,φ,φ,φ,φ,φ,φ,φ,φ,φ,φ,φ,φ,φ,φ,φ,φ,φ,φ,φ] (by kernel_rfl) rfl rfl ((blk_cell G1.out 0).trans rfl) (fun hHeld=>?_);refine with_tabW link_Swap.tab4 link_Swap.bits4 (fun HT_ HW_=>?_)
  clear F1 F2 F3 F4
  generalize W0.drew = W1 at G1 G2 G3 G4 hHeld ⊢
  obtain ⟨ci,hcli,hMi,hcci,hfri⟩:=Kd.N_elem G4.out ([] : List Int) a1 q3 q4
  obtain ⟨cj,hclj,hMj,hccj,hfrj⟩:=Kd.N_elem G4.out ([] : List Int) (wrap64 (a1 + 1)) q1 q2
  obtain ⟨Ai,capi,rfl,hli,hFi⟩:=Kd.FK_slice_open hMi
  obtain ⟨Aj,capj,rfl,hlj,hFj⟩:=Kd.FK_slice_open hMj
  generalize exi : t203.getD a1.toNat ([] : List Int) = xi at hMi hli hFi hcci
  generalize exj : t203.getD (wrap64 (a1 + 1)).toNat ([] : List Int) = xj at hMj hlj hFj hccj
  have EXi:=mK exi
  have EXj:=mK exj
  clear exi exj
  have hci : W1.cell? ⟨g,a1.toNat,none⟩ = some (.slice Ai xi.length capi):= by have:=hcci 0 _ rfl;simpa [Kd.slice] using this
  have hcj : W1.cell? ⟨g,(wrap64 (a1 + 1)).toNat,none⟩ = some (.slice Aj xj.length capj):= by have:=hccj 0 _ rfl;simpa [Kd.slice] using this
  have hfi : W1.frozen? ⟨g,a1.toNat,none⟩ = false:= by have:=hfri 0;simpa [Kd.slice] using this
  have Mi:=mK hMi
  have Mj:=mK hMj
  clear hMi hMj hcci hccj hfri hfrj hcli hclj
  refine pure_ (i:=0) (N:=some 15) (v:=?_) (a':=?_) #[τ,φ,φ,φ,φ,φ,φ,φ,φ,φ,φ,φ,φ,φ,φ,φ,φ,φ,φ,φ,φ,φ] rfl rfl (any_of HT_.out (by kernel_rfl)) (fun _ _ _ h=>h) (Or.inl ⟨by rfl,?_⟩) ?_ ?_
  rotate_left
  ·intro w'
   go_simp
   with_reducible rfl
  rotate_left
  ·simp only [Act.put,sT,sZ,sS,i64_w,i32_w]
   rfl
  refine pure_ (i:=2) (N:=some 17) (v:=?_) (a':=?_) #[τ,φ,τ,φ,φ,φ,φ,φ,φ,φ,φ,φ,φ,φ,φ,φ,φ,φ,φ,φ,φ,φ] rfl rfl (any_of HT_.out (by kernel_rfl)) (fun _ _ _ h=>h) (Or.inl ⟨by rfl,?_⟩) ?_ ?_
  rotate_left
  ·intro w'
   go_simp
   with_reducible rfl
  rotate_left
  ·simp only [Act.put,sT,sZ,sS,i64_w,i32_w]
   rfl
  refine pure_ (i:=3) (N:=some 18) (v:=?_) (a':=?_) #[τ,φ,τ,τ,φ,φ,φ,φ,φ,φ,φ,φ,φ,φ,φ,φ,φ,φ,φ,φ,φ,φ] rfl rfl (any_of HT_.out (by kernel_rfl)) (fun _ _ _ h=>h) (Or.inl ⟨by rfl,?_⟩) ?_ ?_
  rotate_left
  ·intro w'
   go_simp
   with_reducible rfl
  rotate_left
  ·simp only [Act.put,sT,sZ,sS,i64_w,i32_w]
   rfl
  refine pure_ (i:=5) (N:=some 20) (v:=?_) (a':=?_) #[τ,φ,τ,τ,φ,τ,φ,φ,φ,φ,φ,φ,φ,φ,φ,φ,φ,φ,φ,φ,φ,φ] rfl rfl (any_of HT_.out (by kernel_rfl)) (fun _ _ _ h=>h) (Or.inl ⟨by rfl,?_⟩) ?_ ?_
  rotate_left
  ·intro w'
   go_simp
   with_reducible rfl
  rotate_left
  ·simp only [Act.put,sT,sZ,sS,i64_w,i32_w]
   rfl
  refine pure_ (i:=6) (N:=some 21) (v:=?_) (a':=?_) #[τ,φ,τ,τ,φ,τ,τ,φ,φ,φ,φ,φ,φ,φ,φ,φ,φ,φ,φ,φ,φ,φ] rfl rfl (any_of HT_.out (by kernel_rfl)) (fun _ _ _ h=>h) (Or.inl ⟨by rfl,?_⟩) ?_ ?_
  rotate_left
  ·intro w'
   go_simp
   with_reducible rfl
  rotate_left
  ·simp only [Act.put,sT,sZ,sS,i64_w,i32_w]
   rfl
  refine pure_ (i:=7) (N:=some 22) (v:=?_) (a':=?_) #[τ,φ,τ,τ,φ,τ,τ,τ,φ,φ,φ,φ,φ,φ,φ,φ,φ,φ,φ,φ,φ,φ] rfl rfl (any_of HT_.out (by kernel_rfl)) (fun _ _ _ h=>h) (Or.inl ⟨by rfl,?_⟩) ?_ ?_
  rotate_left
  ·intro w'
   go_simp
   with_reducible rfl
  rotate_left
  ·simp only [Act.put,sT,sZ,sS,i64_w,i32_w]
   rfl
  refine pure_ (i:=9) (N:=some 24) (v:=?_) (a':=?_) #[τ,φ,τ,τ,φ,τ,τ,τ,φ,τ,φ,φ,φ,φ,φ,φ,φ,φ,φ,φ,φ,φ] rfl rfl (any_of HT_.out (by kernel_rfl)) (fun _ _ _ h=>h) (Or.inl ⟨by rfl,?_⟩) ?_ ?_
  rotate_left
  ·intro w'
   go_simp
   with_reducible rfl
  rotate_left
  ·simp only [Act.put,sT,sZ,sS,i64_w,i32_w]
   rfl
  refine pure_ (i:=10) (N:=some 25) (v:=?_) (a':=?_) #[τ,φ,τ,τ,φ,τ,τ,τ,φ,τ,τ,φ,φ,φ,φ,φ,φ,φ,φ,φ,φ,φ] rfl rfl (any_of HT_.out (by kernel_rfl)) (fun _ _ _ h=>h) (Or.inl ⟨by rfl,?_⟩) ?_ ?_
  rotate_left
  ·intro w'
   go_simp
   with_reducible rfl
  rotate_left
  ·simp only [Act.put,sT,sZ,sS,i64_w,i32_w]
   rfl
  refine pure_ (i:=13) (N:=some 28) (v:=?_) (a':=?_) #[τ,φ,τ,τ,φ,τ,τ,τ,φ,τ,τ,φ,φ,τ,φ,φ,φ,φ,φ,φ,φ,φ] rfl rfl (any_of HT_.out (by kernel_rfl)) (fun _ _ _ h=>h) (Or.inl ⟨by rfl,?_⟩) ?_ ?_
  rotate_left
  ·intro w'
   go_simp
   with_reducible rfl
  rotate_left
  ·simp only [Act.put,sT,sZ,sS,i64_w,i32_w]
   rfl
  refine pure_ (i:=15) (N:=some 30) (v:=?_) (a':=?_) #[τ,φ,τ,τ,φ,τ,τ,τ,φ,τ,τ,φ,φ,τ,φ,τ,φ,φ,φ,φ,φ,φ] rfl rfl (any_of HT_.out (by kernel_rfl)) (fun _ _ _ h=>h) (Or.inl ⟨by rfl,?_⟩) ?_ ?_
  rotate_left
  ·intro w'
   go_simp
   with_reducible rfl
  rotate_left
  ·simp only [Act.put,sT,sZ,sS,i64_w,i32_w]
   rfl
  refine take_ (i:=1) (N:=some 16) (v:=?_) (a':=?_) #[τ,τ,τ,τ,φ,τ,τ,τ,φ,τ,τ,φ,φ,τ,φ,τ,φ,φ,φ,φ,φ,φ] rfl rfl (take_ofW HT_.out HW_.out (by kernel_rfl)) (fun _ _ _ h=>h) (Or.inl ⟨by rfl,?_⟩) hHeld ?_ ?_
  rotate_left
  ·rintro w' s0
   go_simp
   with_reducible rfl
  rotate_left
  ·simp only [Act.put,sT,sZ,sS,i64_w,i32_w]
   rfl
  refine take_ (i:=4) (N:=some 19) (v:=?_) (a':=?_) #[τ,τ,τ,τ,τ,τ,τ,τ,φ,τ,τ,φ,φ,τ,φ,τ,φ,φ,φ,φ,φ,φ] rfl rfl (take_ofW HT_.out HW_.out (by kernel_rfl)) (fun _ _ _ h=>h) (Or.inl ⟨by rfl,?_⟩) hHeld ?_ ?_
  rotate_left
  ·rintro w' s0
   go_simp
   with_reducible rfl
  rotate_left
  ·simp only [Act.put,sT,sZ,sS,i64_w,i32_w]
   rfl
  refine take_ (i:=8) (N:=some 23) (v:=?_) (a':=?_) #[τ,τ,τ,τ,τ,τ,τ,τ,τ,τ,τ,φ,φ,τ,φ,τ,φ,φ,φ,φ,φ,φ] rfl rfl (take_ofW HT_.out HW_.out (by kernel_rfl)) (fun _ _ _ h=>h) (Or.inl ⟨by rfl,?_⟩) hHeld ?_ ?_
  rotate_left
  ·rintro w' s0
   go_simp
   with_reducible rfl
  rotate_left
  ·simp only [Act.put,sT,sZ,sS,i64_w,i32_w]
   rfl
  refine take_ (i:=14) (N:=some 29) (v:=?_) (a':=?_) #[τ,τ,τ,τ,τ,τ,τ,τ,τ,τ,τ,φ,φ,τ,τ,τ,φ,φ,φ,φ,φ,φ] rfl rfl (take_ofW HT_.out HW_.out (by kernel_rfl)) (fun _ _ _ h=>h) (Or.inl ⟨by rfl,?_⟩) hHeld ?_ ?_
  rotate_left
  ·rintro w' s0
   go_simp
   with_reducible rfl
  rotate_left
  ·simp only [Act.put,sT,sZ,sS,i64_w,i32_w]
   rfl
  refine pure_ (i:=11) (N:=some 26) (v:=?_) (a':=?_) #[τ,τ,τ,τ,τ,τ,τ,τ,τ,τ,τ,τ,φ,τ,τ,τ,φ,φ,φ,φ,φ,φ] rfl rfl (any_of HT_.out (by kernel_rfl)) (fun _ _ _ h=>h) (Or.inl ⟨by rfl,?_⟩) ?_ ?_
  rotate_left
  ·intro w'
   go_simp
   with_reducible rfl
  rotate_left
  ·simp only [Act.put,sT,sZ,sS,i64_w,i32_w]
   rfl
  refine pure_ (i:=16) (N:=some 31) (v:=?_) (a':=?_) #[τ,τ,τ,τ,τ,τ,τ,τ,τ,τ,τ,τ,φ,τ,τ,τ,τ,φ,φ,φ,φ,φ] rfl rfl (any_of HT_.out (by kernel_rfl)) (fun _ _ _ h=>h) (Or.inl ⟨by rfl,?_⟩) ?_ ?_
  rotate_left
  ·intro w'
   go_simp
   with_reducible rfl
  rotate_left
  ·simp only [Act.put,sT,sZ,sS,i64_w,i32_w]
   rfl
  refine two_ (i:=12) (j:=17) (Ni:=some 27) (Nj:=some 32) #[τ,τ,τ,τ,τ,τ,τ,τ,τ,τ,τ,τ,τ,τ,τ,τ,τ,φ,φ,φ,φ,φ] #[τ,τ,τ,τ,τ,τ,τ,τ,τ,τ,τ,τ,φ,τ,τ,τ,τ,τ,φ,φ,φ,φ] rfl rfl rfl rfl (two_of HT_.out (by kernel_rfl)) (by decide) (by decide) (fun K hK=>?_) (fun K hK=>?_)
  ·-- the loads: 12,then 17
   refine value_ (w1:=?_) (v:=?_) (by rfl) rfl ?_ ?_
   rotate_left 2
   ·go_simp
    constructor
    ·rfl
    ·rfl
   refine hK.out _ _ hHeld (fun hHeld=>?_)
   clear hK K
   refine norm_ (a':=?_) ?_ ?_
   rotate_left
   ·show Act.put _ (some 27) _ = _
    simp only [Act.put,sT,sZ,sS,i64_w,i32_w]
    rfl
   refine one_ (i:=17) (N:=some 32) #[τ,τ,τ,τ,τ,τ,τ,τ,τ,τ,τ,τ,τ,τ,τ,τ,τ,τ,φ,φ,φ,φ] rfl rfl (one_of HT_.out (by kernel_rfl)) (by decide) (fun K hK=>?_)
   refine value_ (w1:=?_) (v:=?_) (by rfl) rfl ?_ ?_
   rotate_left 2
   ·go_simp
    constructor
    ·rfl
    ·rfl
   refine hK.out _ _ hHeld (fun hHeld=>?_)
   clear hK K
   refine norm_ (a':=?_) ?_ ?_
   rotate_left
   ·show Act.put _ (some 32) _ = _
    simp only [Act.put,sT,sZ,sS,i64_w,i32_w]
    rfl
   refine pure_ (i:=18) (N:=some 33) (v:=?_) (a':=?_) #[τ,τ,τ,τ,τ,τ,τ,τ,τ,τ,τ,τ,τ,τ,τ,τ,τ,τ,τ,φ,φ,φ] rfl rfl (any_of HT_.out (by kernel_rfl)) (fun _ _ _ h=>h) (Or.inl ⟨by rfl,?_⟩) ?_ ?_
   rotate_left
   ·intro w'
    go_simp
    with_reducible rfl
   rotate_left
   ·simp only [Act.put,sT,sZ,sS,i64_w,i32_w]
    rfl
   refine one_ (i:=19) (N:=none) #[τ,τ,τ,τ,τ,τ,τ,τ,τ,τ,τ,τ,τ,τ,τ,τ,τ,τ,τ,τ,φ,φ] rfl rfl (one_of HT_.out (by kernel_rfl)) (by decide) (fun K hK=>?_)
   refine skip_ (w1:=?_) (by rfl) rfl ?_ ?_
   rotate_left
   ·go_simp
    rfl
   have hgne : gb207 ≠ g:= by intro e_;have:=(Kd.N_away G4.out (g:=gb207) (fun _ hk=>hk.1.2));simp [Value.ownBlock,e_] at this
   have hgne1 : gb201 ≠ g:= by intro e_;have:=(Kd.N_away G4.out (g:=gb201) (fun _ hk=>hk.2));simp [Value.ownBlock,e_] at this
   have hcc1 : ∀ (j : Nat) (u : Value),[Value.slice Ai xi.length capi][j]? = some u → W1.cell? ⟨g,a1.toNat * (Kd.slice 5 (Kd.int .u8)).sz + j,none⟩ = some u:= by
    intro j u hu
    rcases j with _|j
    ·simp only [List.getElem?_cons_zero,Option.some.injEq] at hu;subst hu;simpa [Kd.slice] using hci
    ·simp at hu
   have P1:=Kd.N_seg G4.out a1 q3 q4 (c:=[.slice Ai xi.length capi]) (seg:=[.slice Aj xj.length capj]) (j:=0) rfl hcc1 (Nat.le_refl 1) (x':=xj) (okp:= fun k=>((w.heap.size ≤ k∧True)∧k ≠ gb207∧k ≠ gb201)∧k ≠ g) (Kd.FK_mono Mj.out (fun k hk=>⟨⟨hk.1.1.1,hk.1.1.2,hk.1.2⟩,hk.2⟩)) (fun k hk=>⟨⟨⟨hk.1.1,hk.1.2.1⟩,hk.1.2.2⟩,hk.2⟩)
   rw [show W1.setCells g (a1.toNat * (Kd.slice 5 (Kd.int .u8)).sz + 0) [(.slice Aj xj.length capj)] = W1.setCell ⟨g,a1.toNat,none⟩ (.slice Aj xj.length capj) by simp [World.setCells,Kd.slice]] at P1
   have J1:=mK (blk_far (p:=⟨g,a1.toNat,none⟩) G1.out hgne (.slice Aj xj.length capj))
   have J2:=mK (blk_far (p:=⟨g,a1.toNat,none⟩) G2.out hgne1 (.slice Aj xj.length capj))
   have J3:=mK (below_set (g:=g) (j:=a1.toNat) (v:=(.slice Aj xj.length capj)) G3.out hg1)
   have J4:=mK P1.1
   have J5:=mK (Kd.FK_grown Mi.out P1.2 (fun k hk he=>hk.2 (by injection he)))
   clear P1
   refine hK.out _ _ ((blk_cell J1.out 0).trans rfl) (fun hHeld=>?_)
   clear hK K
   generalize W1.setCell ⟨g,a1.toNat,none⟩ (.slice Aj xj.length capj) = W2 at J1 J2 J3 J4 J5 hHeld ⊢
   clear hci hcj hfi hcc1
   refine pure_ (i:=20) (N:=some 34) (v:=?_) (a':=?_) #[τ,τ,τ,τ,τ,τ,τ,τ,τ,τ,τ,τ,τ,τ,τ,τ,τ,τ,τ,τ,τ,φ] rfl rfl (any_of HT_.out (by kernel_rfl)) (fun _ _ _ h=>h) (Or.inl ⟨by rfl,?_⟩) ?_ ?_
   rotate_left
   ·intro w'
    go_simp
    with_reducible rfl
   rotate_left
   ·simp only [Act.put,sT,sZ,sS,i64_w,i32_w]
    rfl
   obtain ⟨cj2,hclj2,hMj2,hccj2,hfrj2⟩:=Kd.N_elem J4.out ([] : List Int) (wrap64 (a1 + 1)) q1 q2
   obtain ⟨A2,cap2,rfl,hl2,hF2⟩:=Kd.FK_slice_open hMj2
   generalize (List.getD (t203.set a1.toNat xj) (wrap64 (a1 + 1)).toNat []) = l2 at hl2 hF2 hMj2 hccj2
   have hcj : W2.cell? ⟨g,(wrap64 (a1 + 1)).toNat,none⟩ = some (.slice A2 l2.length cap2):= by have:=hccj2 0 _ rfl;simpa [Kd.slice] using this
   have hfj : W2.frozen? ⟨g,(wrap64 (a1 + 1)).toNat,none⟩ = false:= by have:=hfrj2 0;simpa [Kd.slice] using this
   have hcc2:=hccj2
   clear hMj2 hccj2 hfrj2 hclj2 hF2
   refine one_ (i:=21) (N:=none) #[τ,τ,τ,τ,τ,τ,τ,τ,τ,τ,τ,τ,τ,τ,τ,τ,τ,τ,τ,τ,τ,τ] rfl rfl (one_of HT_.out (by kernel_rfl)) (by decide) (fun K hK=>?_)
   refine skip_ (w1:=?_) (by rfl) rfl ?_ ?_
   rotate_left
   ·go_simp
    rfl
   have P2:=Kd.N_seg J4.out (wrap64 (a1 + 1)) q1 q2 (c:=[.slice A2 l2.length cap2]) (seg:=[(.slice Ai xi.length capi)]) (j:=0) rfl hcc2 (Nat.le_refl 1) (x':=xi) (okp:= fun k=>((w.heap.size ≤ k∧True)∧k ≠ gb207∧k ≠ gb201)∧k ≠ g) (Kd.FK_mono J5.out (fun k hk=>⟨⟨hk.1.1.1,hk.1.1.2,hk.1.2⟩,hk.2⟩)) (fun k hk=>⟨⟨⟨hk.1.1,hk.1.2.1⟩,hk.1.2.2⟩,hk.2⟩)
   rw [show W2.setCells g ((wrap64 (a1 + 1)).toNat * (Kd.slice 5 (Kd.int .u8)).sz + 0) [(.slice Ai xi.length capi)] = W2.setCell ⟨g,(wrap64 (a1 + 1)).toNat,none⟩ (.slice Ai xi.length capi) by simp [World.setCells,Kd.slice]] at P2
   have M1:=mK (blk_far (p:=⟨g,(wrap64 (a1 + 1)).toNat,none⟩) J1.out hgne (.slice Ai xi.length capi))
   have M2:=mK (blk_far (p:=⟨g,(wrap64 (a1 + 1)).toNat,none⟩) J2.out hgne1 (.slice Ai xi.length capi))
   have M3:=mK (below_set (g:=g) (j:=(wrap64 (a1 + 1)).toNat) (v:=(.slice Ai xi.length capi)) J3.out hg1)
   have M4:=mK P2.1
   clear P2
   refine hK.out _ _ ((blk_cell M1.out 0).trans rfl) (fun hHeld=>?_)
   clear hK K
   generalize W2.setCell ⟨g,(wrap64 (a1 + 1)).toNat,none⟩ (.slice Ai xi.length capi) = W3 at M1 M2 M3 M4 hHeld ⊢
   clear hcj hfj hcc2 J1 J2 J3 J4 J5 G1 G2 G3 G4 Mi Mj
   refine done_ (done_of HT_.out (by kernel_rfl)) ?_
   have hn1:=NB201_207.out
   have hn2:=NB207_201.out
   have hy0 : W3.cell? ⟨gb207,0,none⟩ = some (.slice (some ⟨g,0,none⟩) t203.length co14):=(blk_cell M1.out 0).trans rfl
   have hy1 : W3.cell? ⟨gb207,1,none⟩ = some (.int .i64 t206):=(blk_cell M1.out 1).trans rfl
   have hz0 : W3.cell? ⟨gb201,0,none⟩ = some (.slice none 0 0):=(blk_cell M2.out 0).trans rfl
   have hz1 : W3.cell? ⟨gb201,1,none⟩ = some (.int .i64 0):=(blk_cell M2.out 1).trans rfl
   have hw0:=blk_frozen M2.out 0
   have hw1:=blk_frozen M2.out 1
   have hw2:=blk_frozen M1.out 0
   have hw3:=blk_frozen M1.out 1
   try go_wp2
   refine bodyPost_ret (results_cell_row rfl _ _ gb201 24 #[(.slice (some ⟨g,0,none⟩) t203.length co14),.int .i64 t206] (0,0) _ rfl (by (with_reducible repeat (first|apply bN|apply bD|apply bA));refine blk_put (cs:=#[(.slice (some ⟨g,0,none⟩) t203.length co14),.int .i64 0]) ?_ 1 _ rfl;(with_reducible repeat (first|apply bN|apply bD|apply bA));refine blk_put (cs:=#[.slice none 0 0,.int .i64 0]) ?_ 0 _ rfl;(with_reducible repeat (first|apply bN|apply bD|apply bA));exact M2.out) Try.underlying24 rfl (by kernel_rfl)) rfl ?_
   refine ⟨(.slice (some ⟨g,0,none⟩) t203.length co14),rfl,?_,?_⟩
   ·show Kd.V _ _ _ _ _ _ ((t203.set a1.toNat (t203.getD (wrap64 (a1 + 1)).toNat [])).set (wrap64 (a1 + 1)).toNat (t203.getD a1.toNat []))
    rw [EXi.out,EXj.out]
    exact Kd.V_mono (Kd.N_V (Kd.N_far (p:=⟨gb201,1,none⟩) (Kd.N_far (p:=⟨gb201,0,none⟩) M4.out (fun _ hk=>hk.2) (.slice (some ⟨g,0,none⟩) t203.length co14)) (fun _ hk=>hk.2) (.int .i64 t206))) (fun k_ hk=>.inr hk.1.1.1)
   ·refine lS ?_ GE201.out
    refine lS ?_ GE201.out
    exact M3.out
  ·-- the loads: 17,then 12
   refine value_ (w1:=?_) (v:=?_) (by rfl) rfl ?_ ?_
   rotate_left 2
   ·go_simp
    constructor
    ·rfl
    ·rfl
   refine hK.out _ _ hHeld (fun hHeld=>?_)
   clear hK K
   refine norm_ (a':=?_) ?_ ?_
   rotate_left
   ·show Act.put _ (some 32) _ = _
    simp only [Act.put,sT,sZ,sS,i64_w,i32_w]
    rfl
   refine one_ (i:=12) (N:=some 27) #[τ,τ,τ,τ,τ,τ,τ,τ,τ,τ,τ,τ,τ,τ,τ,τ,τ,τ,φ,φ,φ,φ] rfl rfl (one_of HT_.out (by kernel_rfl)) (by decide) (fun K hK=>?_)
   refine value_ (w1:=?_) (v:=?_) (by rfl) rfl ?_ ?_
   rotate_left 2
   ·go_simp
    constructor
    ·rfl
    ·rfl
   refine hK.out _ _ hHeld (fun hHeld=>?_)
   clear hK K
   refine norm_ (a':=?_) ?_ ?_
   rotate_left
   ·show Act.put _ (some 27) _ = _
    simp only [Act.put,sT,sZ,sS,i64_w,i32_w]
    rfl
   refine pure_ (i:=18) (N:=some 33) (v:=?_) (a':=?_) #[τ,τ,τ,τ,τ,τ,τ,τ,τ,τ,τ,τ,τ,τ,τ,τ,τ,τ,τ,φ,φ,φ] rfl rfl (any_of HT_.out (by kernel_rfl)) (fun _ _ _ h=>h) (Or.inl ⟨by rfl,?_⟩) ?_ ?_
   rotate_left
   ·intro w'
    go_simp
    with_reducible rfl
   rotate_left
   ·simp only [Act.put,sT,sZ,sS,i64_w,i32_w]
    rfl
   refine one_ (i:=19) (N:=none) #[τ,τ,τ,τ,τ,τ,τ,τ,τ,τ,τ,τ,τ,τ,τ,τ,τ,τ,τ,τ,φ,φ] rfl rfl (one_of HT_.out (by kernel_rfl)) (by decide) (fun K hK=>?_)
   refine skip_ (w1:=?_) (by rfl) rfl ?_ ?_
   rotate_left
   ·go_simp
    rfl
   have hgne : gb207 ≠ g:= by intro e_;have:=(Kd.N_away G4.out (g:=gb207) (fun _ hk=>hk.1.2));simp [Value.ownBlock,e_] at this
   have hgne1 : gb201 ≠ g:= by intro e_;have:=(Kd.N_away G4.out (g:=gb201) (fun _ hk=>hk.2));simp [Value.ownBlock,e_] at this
   have hcc1 : ∀ (j : Nat) (u : Value),[Value.slice Ai xi.length capi][j]? = some u → W1.cell? ⟨g,a1.toNat * (Kd.slice 5 (Kd.int .u8)).sz + j,none⟩ = some u:= by
    intro j u hu
    rcases j with _|j
    ·simp only [List.getElem?_cons_zero,Option.some.injEq] at hu;subst hu;simpa [Kd.slice] using hci
    ·simp at hu
   have P1:=Kd.N_seg G4.out a1 q3 q4 (c:=[.slice Ai xi.length capi]) (seg:=[.slice Aj xj.length capj]) (j:=0) rfl hcc1 (Nat.le_refl 1) (x':=xj) (okp:= fun k=>((w.heap.size ≤ k∧True)∧k ≠ gb207∧k ≠ gb201)∧k ≠ g) (Kd.FK_mono Mj.out (fun k hk=>⟨⟨hk.1.1.1,hk.1.1.2,hk.1.2⟩,hk.2⟩)) (fun k hk=>⟨⟨⟨hk.1.1,hk.1.2.1⟩,hk.1.2.2⟩,hk.2⟩)
   rw [show W1.setCells g (a1.toNat * (Kd.slice 5 (Kd.int .u8)).sz + 0) [(.slice Aj xj.length capj)] = W1.setCell ⟨g,a1.toNat,none⟩ (.slice Aj xj.length capj) by simp [World.setCells,Kd.slice]] at P1
   have J1:=mK (blk_far (p:=⟨g,a1.toNat,none⟩) G1.out hgne (.slice Aj xj.length capj))
   have J2:=mK (blk_far (p:=⟨g,a1.toNat,none⟩) G2.out hgne1 (.slice Aj xj.length capj))
   have J3:=mK (below_set (g:=g) (j:=a1.toNat) (v:=(.slice Aj xj.length capj)) G3.out hg1)
   have J4:=mK P1.1
   have J5:=mK (Kd.FK_grown Mi.out P1.2 (fun k hk he=>hk.2 (by injection he)))
   clear P1
   refine hK.out _ _ ((blk_cell J1.out 0).trans rfl) (fun hHeld=>?_)
   clear hK K
   generalize W1.setCell ⟨g,a1.toNat,none⟩ (.slice Aj xj.length capj) = W2 at J1 J2 J3 J4 J5 hHeld ⊢
   clear hci hcj hfi hcc1
   refine pure_ (i:=20) (N:=some 34) (v:=?_) (a':=?_) #[τ,τ,τ,τ,τ,τ,τ,τ,τ,τ,τ,τ,τ,τ,τ,τ,τ,τ,τ,τ,τ,φ] rfl rfl (any_of HT_.out (by kernel_rfl)) (fun _ _ _ h=>h) (Or.inl ⟨by rfl,?_⟩) ?_ ?_
   rotate_left
   ·intro w'
    go_simp
    with_reducible rfl
   rotate_left
   ·simp only [Act.put,sT,sZ,sS,i64_w,i32_w]
    rfl
   obtain ⟨cj2,hclj2,hMj2,hccj2,hfrj2⟩:=Kd.N_elem J4.out ([] : List Int) (wrap64 (a1 + 1)) q1 q2
   obtain ⟨A2,cap2,rfl,hl2,hF2⟩:=Kd.FK_slice_open hMj2
   generalize (List.getD (t203.set a1.toNat xj) (wrap64 (a1 + 1)).toNat []) = l2 at hl2 hF2 hMj2 hccj2
   have hcj : W2.cell? ⟨g,(wrap64 (a1 + 1)).toNat,none⟩ = some (.slice A2 l2.length cap2):= by have:=hccj2 0 _ rfl;simpa [Kd.slice] using this
   have hfj : W2.frozen? ⟨g,(wrap64 (a1 + 1)).toNat,none⟩ = false:= by have:=hfrj2 0;simpa [Kd.slice] using this
   have hcc2:=hccj2
   clear hMj2 hccj2 hfrj2 hclj2 hF2
   refine one_ (i:=21) (N:=none) #[τ,τ,τ,τ,τ,τ,τ,τ,τ,τ,τ,τ,τ,τ,τ,τ,τ,τ,τ,τ,τ,τ] rfl rfl (one_of HT_.out (by kernel_rfl)) (by decide) (fun K hK=>?_)
   refine skip_ (w1:=?_) (by rfl) rfl ?_ ?_
   rotate_left
   ·go_simp
    rfl
   have P2:=Kd.N_seg J4.out (wrap64 (a1 + 1)) q1 q2 (c:=[.slice A2 l2.length cap2]) (seg:=[(.slice Ai xi.length capi)]) (j:=0) rfl hcc2 (Nat.le_refl 1) (x':=xi) (okp:= fun k=>((w.heap.size ≤ k∧True)∧k ≠ gb207∧k ≠ gb201)∧k ≠ g) (Kd.FK_mono J5.out (fun k hk=>⟨⟨hk.1.1.1,hk.1.1.2,hk.1.2⟩,hk.2⟩)) (fun k hk=>⟨⟨⟨hk.1.1,hk.1.2.1⟩,hk.1.2.2⟩,hk.2⟩)
   rw [show W2.setCells g ((wrap64 (a1 + 1)).toNat * (Kd.slice 5 (Kd.int .u8)).sz + 0) [(.slice Ai xi.length capi)] = W2.setCell ⟨g,(wrap64 (a1 + 1)).toNat,none⟩ (.slice Ai xi.length capi) by simp [World.setCells,Kd.slice]] at P2
   have M1:=mK (blk_far (p:=⟨g,(wrap64 (a1 + 1)).toNat,none⟩) J1.out hgne (.slice Ai xi.length capi))
   have M2:=mK (blk_far (p:=⟨g,(wrap64 (a1 + 1)).toNat,none⟩) J2.out hgne1 (.slice Ai xi.length capi))
   have M3:=mK (below_set (g:=g) (j:=(wrap64 (a1 + 1)).toNat) (v:=(.slice Ai xi.length capi)) J3.out hg1)
   have M4:=mK P2.1
   clear P2
   refine hK.out _ _ ((blk_cell M1.out 0).trans rfl) (fun hHeld=>?_)
   clear hK K
   generalize W2.setCell ⟨g,(wrap64 (a1 + 1)).toNat,none⟩ (.slice Ai xi.length capi) = W3 at M1 M2 M3 M4 hHeld ⊢
   clear hcj hfj hcc2 J1 J2 J3 J4 J5 G1 G2 G3 G4 Mi Mj
   refine done_ (done_of HT_.out (by kernel_rfl)) ?_
   have hn1:=NB201_207.out
   have hn2:=NB207_201.out
   have hy0 : W3.cell? ⟨gb207,0,none⟩ = some (.slice (some ⟨g,0,none⟩) t203.length co14):=(blk_cell M1.out 0).trans rfl
   have hy1 : W3.cell? ⟨gb207,1,none⟩ = some (.int .i64 t206):=(blk_cell M1.out 1).trans rfl
   have hz0 : W3.cell? ⟨gb201,0,none⟩ = some (.slice none 0 0):=(blk_cell M2.out 0).trans rfl
   have hz1 : W3.cell? ⟨gb201,1,none⟩ = some (.int .i64 0):=(blk_cell M2.out 1).trans rfl
   have hw0:=blk_frozen M2.out 0
   have hw1:=blk_frozen M2.out 1
   have hw2:=blk_frozen M1.out 0
   have hw3:=blk_frozen M1.out 1
   try go_wp2
   refine bodyPost_ret (results_cell_row rfl _ _ gb201 24 #[(.slice (some ⟨g,0,none⟩) t203.length co14),.int .i64 t206] (0,0) _ rfl (by (with_reducible repeat (first|apply bN|apply bD|apply bA));refine blk_put (cs:=#[(.slice (some ⟨g,0,none⟩) t203.length co14),.int .i64 0]) ?_ 1 _ rfl;(with_reducible repeat (first|apply bN|apply bD|apply bA));refine blk_put (cs:=#[.slice none 0 0,.int .i64 0]) ?_ 0 _ rfl;(with_reducible repeat (first|apply bN|apply bD|apply bA));exact M2.out) Try.underlying24 rfl (by kernel_rfl)) rfl ?_
   refine ⟨(.slice (some ⟨g,0,none⟩) t203.length co14),rfl,?_,?_⟩
   ·show Kd.V _ _ _ _ _ _ ((t203.set a1.toNat (t203.getD (wrap64 (a1 + 1)).toNat [])).set (wrap64 (a1 + 1)).toNat (t203.getD a1.toNat []))
    rw [EXi.out,EXj.out]
    exact Kd.V_mono (Kd.N_V (Kd.N_far (p:=⟨gb201,1,none⟩) (Kd.N_far (p:=⟨gb201,0,none⟩) M4.out (fun _ hk=>hk.2) (.slice (some ⟨g,0,none⟩) t203.length co14)) (fun _ hk=>hk.2) (.int .i64 t206))) (fun k_ hk=>.inr hk.1.1.1)
   ·refine lS ?_ GE201.out
    refine lS ?_ GE201.out
    exact M3.out
 ·replace c4:=Bool.eq_false_iff.mpr c4
  subst c4
  have H1 : (some (l0_0,a0_1)) = some (r1,r2):= by rw [if_neg (show ¬ (false = true) by decide)] at H;exact H
  clear H
  have H:=H1
  clear H1
  simp only [Option.some.injEq,Prod.mk.injEq] at H
  obtain ⟨rfl,rfl⟩:=H
  go_enter Try.func18,Try.ntmps18
  go_wp2_with (first|((with_reducible refine gate_dst (N:=2) rfl ?_);refine box_event ?hg (N:=2) ?hd (cs:=#[.slice A0_0 l0_0.length c0_0,.int .i64 a0_1]) (t:=24) ?hr ?_;(case hd=>rfl);(case hg=>rfl);(case hr=>first|(go_simp;done)|(go_simp;rfl));intro gb200 hg w19 hbox hb;have n0_:=mK (Kd.V_below (Kd.V_elderB (by (with_reducible repeat (first|apply vA|apply vN|apply vD));exact HO0_0.out) gb200 (Nat.le_of_eq hg.symm)) hb);have n1_:=mK (below_step (by repeat (first|(with_reducible first|exact HB.out|apply lA|apply lN|apply lD)|exact HB.out)) hb);have n2_:=mK (hbox);have n4_:=mK ((by rw [hg];exact (below_size (by repeat (first|(with_reducible first|exact HB.out|apply lA|apply lN|apply lD)|exact HB.out))) : w.heap.size ≤ gb200));clear HO0_0;clear HB;have HO0_0:=n0_;have HB:=n1_;have BK200:=n2_;have GE200:=n4_;clear n0_ n1_ n2_ n4_;clear hb hbox hg)|((with_reducible refine gate_dst (N:=4) rfl ?_);refine box_event ?hg (N:=4) ?hd (cs:=#[.slice none 0 0,.int .i64 0]) (t:=24) ?hr ?_;(case hd=>rfl);(case hg=>rfl);(case hr=>first|(go_simp;done)|(go_simp;rfl));intro gb201 hg w20 hbox hb;have n0_:=mK (Kd.V_below (Kd.V_elderB (by (with_reducible repeat (first|apply vA|apply vN|apply vD));exact HO0_0.out) gb201 (Nat.le_of_eq hg.symm)) hb);have n1_:=mK (blk_below (g:=gb200) (o:=.cells #[.slice A0_0 l0_0.length c0_0,.int .i64 a0_1] 24 (0,0)) (by (with_reducible repeat (first|apply bN|apply bD|apply bA));exact BK200.out) hb);have n2_:=mK (below_step (by repeat (first|(with_reducible first|exact HB.out|apply lA|apply lN|apply lD|refine lS ?_ GE200.out)|exact HB.out)) hb);have n3_:=mK (hbox);have n5_:=mK ((by rw [hg];exact (below_size (by repeat (first|(with_reducible first|exact HB.out|apply lA|apply lN|apply lD|refine lS ?_ GE200.out)|exact HB.out))) : w.heap.size ≤ gb201));have n6_:=mK ((by rw [hg];exact Nat.ne_of_lt (blk_lt (g:=gb200) (o:=.cells #[.slice A0_0 l0_0.length c0_0,.int .i64 a0_1] 24 (0,0)) (by (with_reducible repeat (first|apply bN|apply bD|apply bA));exact BK200.out)) : gb200 ≠ gb201));have n7_:=mK ((by rw [hg];exact Nat.ne_of_gt (blk_lt (g:=gb200) (o:=.cells #[.slice A0_0 l0_0.length c0_0,.int .i64 a0_1] 24 (0,0)) (by (with_reducible repeat (first|apply bN|apply bD|apply bA));exact BK200.out)) : gb201 ≠ gb200));clear HO0_0;clear BK200;clear HB;have HO0_0:=n0_;have BK200:=n1_;have HB:=n2_;have BK201:=n3_;have GE201:=n5_;have NB200_201:=n6_;have NB201_200:=n7_;clear n0_ n1_ n2_ n3_ n5_ n6_ n7_;clear hb hbox hg;have hnb21:=NB200_201.out;have hnc21:=NB201_200.out;have hcz22_0 : w20.cell? ⟨gb200,0,none⟩ = some (.slice A0_0 l0_0.length c0_0):=(blk_cell BK200.out 0).trans rfl;have hcz22_1 : w20.cell? ⟨gb200,1,none⟩ = some (.int .i64 a0_1):=(blk_cell BK200.out 1).trans rfl;have hfz22_0:=blk_frozen BK200.out 0;have hfz22_1:=blk_frozen BK200.out 1)|((with_reducible refine gate_callee (f:=29) rfl ?_);refine goesL_ (some 8) rfl rfl Try.func29 (by kernel_rfl) rfl #[.agg #[.slice A0_0 l0_0.length c0_0,.int .i64 a0_1],.int .i64 a1,.int .i64 2] rfl (by (try simp only [List.map_toArray,List.map_cons,List.map_nil]);first|done|rfl|(simp only [List.length_drop,List.length_take];rfl)) ?_;(with_reducible refine (link_has.calls _ _ l0_0 a0_1 a1 2 false _ ?side1 ?side2 A3.out).mono ?_);(case side1=>repeat (first|exact (Kd.V_reads' HO0_0.out).2.2|(with_reducible refine Kd.C_alloc ?_ _)|(with_reducible refine Kd.C_drewN ?_ _)|(with_reducible refine Kd.C_drew ?_)));(case side2=>exact (Kd.V_reads' HO0_0.out).2.1);rintro e w23 ⟨rfl,hb⟩;refine ⟨_,rfl,?_⟩;have n0_:=mK (Kd.V_below (by (with_reducible repeat (first|apply vA|apply vN|apply vD));exact HO0_0.out) hb);have n1_:=mK (blk_below (g:=gb200) (o:=.cells #[.slice A0_0 l0_0.length c0_0,.int .i64 a0_1] 24 (0,0)) (by (with_reducible repeat (first|apply bN|apply bD|apply bA));exact BK200.out) hb);have n2_:=mK (blk_below (g:=gb201) (o:=.cells #[.slice none 0 0,.int .i64 0] 24 (0,0)) (by (with_reducible repeat (first|apply bN|apply bD|apply bA));exact BK201.out) hb);have n3_:=mK (below_step (by repeat (first|(with_reducible first|exact HB.out|apply lA|apply lN|apply lD|refine lS ?_ GE200.out|refine lS ?_ GE201.out)|exact HB.out)) hb);clear HO0_0;clear BK200;clear BK201;clear HB;have HO0_0:=n0_;have BK200:=n1_;have BK201:=n2_;have HB:=n3_;clear n0_ n1_ n2_ n3_;(try clear hb);(try clear hb2);(try clear hk);(try clear hi);have hcz24_0 : w23.cell? ⟨gb200,0,none⟩ = some (.slice A0_0 l0_0.length c0_0):=(blk_cell BK200.out 0).trans rfl;have hcz24_1 : w23.cell? ⟨gb200,1,none⟩ = some (.int .i64 a0_1):=(blk_cell BK200.out 1).trans rfl;have hfz24_0:=blk_frozen BK200.out 0;have hfz24_1:=blk_frozen BK200.out 1;have hcz25_0 : w23.cell? ⟨gb201,0,none⟩ = some (.slice none 0 0):=(blk_cell BK201.out 0).trans rfl;have hcz25_1 : w23.cell? ⟨gb201,1,none⟩ = some (.int .i64 0):=(blk_cell BK201.out 1).trans rfl;have hfz25_0:=blk_frozen BK201.out 0;have hfz25_1:=blk_frozen BK201.out 1))
  refine bodyPost_ret (results_cell_row rfl _ _ gb201 24 #[.slice A0_0 l0_0.length c0_0,.int .i64 a0_1] (0,0) _ rfl (by (with_reducible repeat (first|apply bN|apply bD|apply bA));refine blk_put (cs:=#[.slice A0_0 l0_0.length c0_0,.int .i64 0]) ?_ 1 _ rfl;(with_reducible repeat (first|apply bN|apply bD|apply bA));refine blk_put (cs:=#[.slice none 0 0,.int .i64 0]) ?_ 0 _ rfl;(with_reducible repeat (first|apply bN|apply bD|apply bA));exact BK201.out) Try.underlying24 rfl (by kernel_rfl)) rfl ?_
  exact ⟨_,by first|rfl|(simp [errW_none,errW_some] <;> rfl)|(simp [*,errW_none,errW_some] <;> rfl),by (with_reducible repeat (first|apply vA|apply vN|apply vD));exact Kd.V_mono (Kd.V_far (p:=⟨gb201,1,none⟩) (Kd.V_far (p:=⟨gb201,0,none⟩) (Kd.V_mono HO0_0.out (fun k_ hk=>(⟨hk,hk.2⟩ : _∧k_ ≠ gb201))) (fun _ hk=>hk.2) (.slice A0_0 l0_0.length c0_0)) (fun _ hk=>hk.2) (.int .i64 a0_1)) (fun _ hk=>hk.1.1.1),by repeat (first|(with_reducible first|exact HB.out|apply lA|apply lN|apply lD|refine lS ?_ GE200.out|refine lS ?_ GE201.out)|exact HB.out)⟩

/-! ### drawbridgelaw23_frame: function 23 -/
def drawbridgelaw23_frame.f (a0 : Int) : Option (List Int) := if 14 ≤ 281474976710656 then ((some (List.replicate 14 0 : List Int)).bind fun y212 => (if 0 < (y212.length : Int) then (some (y212.set (0 : Int).toNat a0)) else (none))) else (none)
set_option maxHeartbeats 8000000 in
set_option maxRecDepth 100000 in
theorem drawbridgelaw23_frame.calls (a0 : Int) (r : List Int) (w : World) (h : drawbridgelaw23_frame.f a0 = some r) :
  Calls Try.prog 23 #[.int .u8 a0] w fun e w' => ∃ v0_ : Value, e = .returned (v0_) ∧ Kd.R (Kd.int .u8) 5 w' w.heap.size (fun _ => True) v0_ r ∧ Below w.heap.size w w' := by
 have HB:=mK (Below.refl w.heap.size w)
 have H : (if 14 ≤ 281474976710656 then ((some (List.replicate 14 0 : List Int)).bind fun y212=>(if 0 < (y212.length : Int) then (some (y212.set (0 : Int).toNat a0)) else (none))) else (none)) = some r:=h
 clear h
 by_cases c2 : 14 ≤ 281474976710656
 ·rw [if_pos c2] at H
  have c2b0:=eq_true c2
  have c2b1 : decide (14 ≤ 281474976710656) = true:=decide_eq_true c2
  clear c2
  obtain ⟨y212,hy212⟩ : ∃ y_ : List Int,y_ = (List.replicate 14 0):=⟨_,rfl⟩
  replace H : (if 0 < (y212.length : Int) then (some (y212.set (0 : Int).toNat a0)) else (none)) = some r:= by first|(rw [hy212];with_reducible exact H)|(have H2_:=(Option.bind_some _ _).symm.trans H;rw [hy212];with_reducible exact H2_)|(have H2_:=(Option.bind_some _ _).symm.trans H;with_reducible exact H2_)|with_reducible exact H|(rw [hy212];exact H)|exact H
  have Ny212:=mK hy212
  clear hy212
  by_cases c3 : 0 < (y212.length : Int)
  ·rw [if_pos c3] at H
   have c3b0 : decide (0 < (y212.length : Int)) = true:=decide_eq_true c3
   have c3b1 : decide (0 < y212.length) = true:=decide_eq_true (by omega)
   clear c3
   obtain ⟨y215,hy215⟩ : ∃ y_ : List Int,y_ = (y212.set (0 : Int).toNat a0):=⟨_,rfl⟩
   replace H : (some y215) = some r:= by first|(rw [hy215];with_reducible exact H)|(have H2_:=(Option.bind_some _ _).symm.trans H;rw [hy215];with_reducible exact H2_)|(have H2_:=(Option.bind_some _ _).symm.trans H;with_reducible exact H2_)|with_reducible exact H|(rw [hy215];exact H)|exact H
   have Ny215:=mK hy215
   clear hy215
   obtain rfl:=Option.some.inj H
   go_enter Try.func23,Try.ntmps23
   go_wp2_with (first|((with_reducible refine gate_dst (N:=4) rfl ?_);refine Kd.R_make (Kd.int .u8) _ 5 rfl (N:=4) rfl 25 _ _ rfl 14 rfl rfl Try.underlying25 (.int .u8 0) 1 info5 rfl (by decide) (by omega) 0 (ok:= fun _=>True) (okp:= fun _=>True) rfl (fun _ hk=>hk) trivial (by omega) (by omega) (Below.refl _ _) (Nat.le_refl _) ?_;intro v213 w5 ho6 hb hg_ hnew_;clear hg_ hnew_;(first|rw [← Ny212.out] at ho6|(simp only [Int.reduceToNat] at ho6;rw [← Ny212.out] at ho6));have n0_:=mK (Kd.R_lower ho6 (below_size (by repeat (first|(with_reducible first|exact HB.out|apply lA|apply lN|apply lD)|exact HB.out))));have n1_:=mK (below_step (by repeat (first|(with_reducible first|exact HB.out|apply lA|apply lN|apply lD)|exact HB.out)) hb);clear HB;have HO214:=n0_;have HB:=n1_;clear n0_ n1_;clear hb ho6;have p4 : 0 ≤ (0 : Int):=(by omega);have q4 : (0 : Int) < ((y212.length : Int) : Int):=of_decide_eq_true (by first|(with_reducible assumption)|assumption);have qi4 : (0 < y212.length) = True:=eq_true (by omega);obtain ⟨go4,co4,eo4,gb4,gl4,cl4,HG4⟩:=Kd.R_form HO214.out (by omega);(first|cases eo4|(injection eo4 with ea_ en_ ec_;(first|subst ea_|(injection ea_ with ea_;subst ea_));subst ec_;clear en_));have GB4:=mK gb4;have GG4:=mK HG4;clear gb4 gl4 HG4;obtain ⟨hx4_0,hf4_0⟩:=Kd.R_celln 0 HO214.out (0 : Int) p4 q4;(try rw [show ((0 : Int)).toNat = 0 from rfl] at hx4_0);(try simp only [Nat.reduceMul,Nat.zero_mul,Nat.zero_add,Nat.reduceAdd] at hx4_0);(try rw [show ((0 : Int)).toNat = 0 from rfl] at hf4_0);(try simp only [Nat.reduceMul,Nat.zero_mul,Nat.zero_add,Nat.reduceAdd] at hf4_0);replace p4:=eq_true p4;replace q4:=eq_true q4;obtain ⟨hy7_,hz7_⟩:=Kd.R_celln 0 HO214.out (0 : Int) (by omega) (of_decide_eq_true (by first|(with_reducible assumption)|assumption));(try simp only [Int.reduceToNat,Int.toNat_zero,Int.toNat_ofNat,Nat.reduceMul,Nat.zero_mul,Nat.zero_add] at hy7_ hz7_);(try rw [show ((0 : Int)).toNat = 0 from rfl] at hy7_);(try rw [show ((0 : Int)).toNat = 0 from rfl] at hz7_);have HP7:=Kd.R_putg HO214.out (0 : Int) a0)|((with_reducible refine gate_store (t:=5) (p:=7) rfl ?_);refine store_event (t:=5) (p:=7) (v:=?vo_w8) (w1:=(w5.setCell ⟨go4,(0 : Int).toNat,none⟩ (.int .u8 a0))) ?hg ?ho ?hn ?hr ?_;(case ho=>rfl);(case hg=>rfl);(case hn=>rfl);(case hr=>first|(go_simp;done)|(go_simp;rfl));intro w8 hw;have hg : w5.grownBy w8 (some go4):=(by rw [hw];exact HP7.2);have hp_ : Kd.R (Kd.int .u8) 5 w8 w.heap.size (fun _=>True) (.slice (some ⟨go4,0,none⟩) y212.length co4) y215:=(by rw [hw,Ny215.out];exact HP7.1);clear HP7;have n0_:=mK (hp_);have n1_:=mK ((by rw [hw];exact below_set (HB.out) GB4.out : Below w.heap.size w w8));clear HO214;clear HB;have HO214:=n0_;have HB:=n1_;clear n0_ n1_;clear hg hw hp_))
   go_ret
   exact ⟨_,by first|rfl|(simp [errW_none,errW_some] <;> rfl)|(simp [*,errW_none,errW_some] <;> rfl),by (with_reducible repeat (first|apply rA|apply rN|apply rD));exact HO214.out,by repeat (first|(with_reducible first|exact HB.out|apply lA|apply lN|apply lD)|exact HB.out)⟩
  ·rw [if_neg c3] at H
   exact absurd H (by simp)
 ·rw [if_neg c2] at H
  exact absurd H (by simp)

/-! ### drawbridgelaw23_heads: function 7 -/
def drawbridgelaw23_heads.f (k : Nat)  : Option (Bool) := (drawbridgelaw23_frame.f 1).bind fun t216 => ((link_Push.f k ([] : List (List Int)) 0 t216).bind fun bt219 => ((drawbridgelaw23_frame.f 2).bind fun t225 => ((link_Push.f k bt219.1 bt219.2.1 t225).bind fun bt228 => ((link_Push.f k bt228.1 bt228.2.1 ([] : List Int)).bind fun bt233 => ((link_Swap.f k bt228.1 bt228.2.1 0).bind fun bt239 => ((link_Drop.f k bt239.1 bt239.2 1).bind fun bt243 => ((link_Twice.f k bt243.1 bt243.2 0).bind fun bt247 => ((link_Pop.f k bt247.1 bt247.2).bind fun bt251 => ((link_Pop.f k ([] : List (List Int)) 0).bind fun bt260 => (if bt219.2.2 = true then (if bt228.2.2 = true then (if bt233.2.2 = true then (some false) else (if bt251.2.2.2 = true then (if (bt251.2.2.1.length : Int) = 14 then (if 0 < (bt251.2.2.1.length : Int) then (if (rd bt251.2.2.1 0) = 2 then (if (bt251.1.length : Int) = 1 then (if 0 < (bt251.1.length : Int) then (if 0 < ((rd_L1 bt251.1 0).length : Int) then (if (rd (rd_L1 bt251.1 0) 0) = 2 then (if bt260.2.2.2 = true then (some false) else ((link_Check.f bt251.1 bt251.2.1).bind fun t272 => (some t272))) else (some false)) else (none)) else (none)) else (some false)) else (some false)) else (none)) else (some false)) else (some false))) else (some false)) else (some false)))))))))))
theorem drawbridgelaw23_heads.mono : ∀ k, LeO (drawbridgelaw23_heads.f k ) (drawbridgelaw23_heads.f (k + 1) ) := by
 intro  k
 unfold drawbridgelaw23_heads.f
 repeat' first
   | (with_reducible exact link_Drop.mono _ _ _ _)
   | (with_reducible exact link_Pop.mono _ _ _)
   | (with_reducible exact link_Push.mono _ _ _ _)
   | (with_reducible exact link_Swap.mono _ _ _ _)
   | (with_reducible exact link_Twice.mono _ _ _ _)
   | (with_reducible exact LeO.refl _)
   | (with_reducible exact LeO.none _)
   | (with_reducible refine LeO.ite ?_ ?_)
   | (with_reducible refine LeO.bind ?_ (fun _ => ?_))
   | exact link_Drop.mono _ _ _ _
   | exact link_Pop.mono _ _ _
   | exact link_Push.mono _ _ _ _
   | exact link_Swap.mono _ _ _ _
   | exact link_Twice.mono _ _ _ _
   | exact LeO.none _
   | refine LeO.ite ?_ ?_
   | refine LeO.bind ?_ (fun _ => ?_)
def drawbridgelaw23_heads.T2 : Bool × List (List Nat × List Nat) := (true, [([], []), ([], []), ([0, 1, 1], [0, 1]), ([2], [2]), ([3], [3]), ([3], [3]), ([4, 2, 0, 1, 2, 3, 4], [4]), ([5, 6, 0, 1, 2, 3, 4, 5, 6], [5])])
def drawbridgelaw23_heads.B2 : List Nat := [0, 0, 3, 7, 15, 15, 31, 127]
theorem drawbridgelaw23_heads.tab2 : rtab .any (opsOf Try.f7 2) = drawbridgelaw23_heads.T2 := by kernel_rfl
theorem drawbridgelaw23_heads.bits2 : waitsOk drawbridgelaw23_heads.T2.2 drawbridgelaw23_heads.B2 = true := by kernel_rfl
set_option maxHeartbeats 8000000 in
set_option maxRecDepth 100000 in
theorem drawbridgelaw23_heads.calls (k : Nat)  (r : Bool) (w : World) (hT_ : r = true) (h : drawbridgelaw23_heads.f k  = some r) :
  Calls Try.prog 7 #[] w fun e w' => e = .returned (.bool r) ∧ Below w.heap.size w w' := by
 have HTr_:=mK hT_
 clear hT_
 have hu24:=Try.underlying24
 have HB:=mK (Below.refl w.heap.size w)
 have H : ((drawbridgelaw23_frame.f 1).bind fun t216=>((link_Push.f k ([] : List (List Int)) 0 t216).bind fun bt219=>((drawbridgelaw23_frame.f 2).bind fun t225=>((link_Push.f k bt219.1 bt219.2.1 t225).bind fun bt228=>((link_Push.f k bt228.1 bt228.2.1 ([] : List Int)).bind fun bt233=>((link_Swap.f k bt228.1 bt228.2.1 0).bind fun bt239=>((link_Drop.f k bt239.1 bt239.2 1).bind fun bt243=>((link_Twice.f k bt243.1 bt243.2 0).bind fun bt247=>((link_Pop.f k bt247.1 bt247.2).bind fun bt251=>((link_Pop.f k ([] : List (List Int)) 0).bind fun bt260=>(if bt219.2.2 = true then (if bt228.2.2 = true then (if bt233.2.2 = true then (some false) else (if bt251.2.2.2 = true then (if (bt251.2.2.1.length : Int) = 14 then (if 0 < (bt251.2.2.1.length : Int) then (if (rd bt251.2.2.1 0) = 2 then (if (bt251.1.length : Int) = 1 then (if 0 < (bt251.1.length : Int) then (if 0 < ((rd_L1 bt251.1 0).length : Int) then (if (rd (rd_L1 bt251.1 0) 0) = 2 then (if bt260.2.2.2 = true then (some false) else ((link_Check.f bt251.1 bt251.2.1).bind fun t272=>(some t272))) else (some false)) else (none)) else (none)) else (some false)) else (some false)) else (none)) else (some false)) else (some false))) else (some false)) else (some false)))))))))))) = some r:=h
 clear h
 replace H:=Option.bind_eq_some_iff.mp H
 obtain ⟨t216,A10,H⟩:=H
 replace H : ((link_Push.f k ([] : List (List Int)) 0 t216).bind fun bt219=>((drawbridgelaw23_frame.f 2).bind fun t225=>((link_Push.f k bt219.1 bt219.2.1 t225).bind fun bt228=>((link_Push.f k bt228.1 bt228.2.1 ([] : List Int)).bind fun bt233=>((link_Swap.f k bt228.1 bt228.2.1 0).bind fun bt239=>((link_Drop.f k bt239.1 bt239.2 1).bind fun bt243=>((link_Twice.f k bt243.1 bt243.2 0).bind fun bt247=>((link_Pop.f k bt247.1 bt247.2).bind fun bt251=>((link_Pop.f k ([] : List (List Int)) 0).bind fun bt260=>(if bt219.2.2 = true then (if bt228.2.2 = true then (if bt233.2.2 = true then (some false) else (if bt251.2.2.2 = true then (if (bt251.2.2.1.length : Int) = 14 then (if 0 < (bt251.2.2.1.length : Int) then (if (rd bt251.2.2.1 0) = 2 then (if (bt251.1.length : Int) = 1 then (if 0 < (bt251.1.length : Int) then (if 0 < ((rd_L1 bt251.1 0).length : Int) then (if (rd (rd_L1 bt251.1 0) 0) = 2 then (if bt260.2.2.2 = true then (some false) else ((link_Check.f bt251.1 bt251.2.1).bind fun t272=>(some t272))) else (some false)) else (none)) else (none)) else (some false)) else (some false)) else (none)) else (some false)) else (some false))) else (some false)) else (some false))))))))))) = some r:=H
 have A1:=mK A10
 clear A10
 replace H:=Option.bind_eq_some_iff.mp H
 obtain ⟨⟨t219,t222,t223⟩,A20,H⟩:=H
 replace H : ((drawbridgelaw23_frame.f 2).bind fun t225=>((link_Push.f k t219 t222 t225).bind fun bt228=>((link_Push.f k bt228.1 bt228.2.1 ([] : List Int)).bind fun bt233=>((link_Swap.f k bt228.1 bt228.2.1 0).bind fun bt239=>((link_Drop.f k bt239.1 bt239.2 1).bind fun bt243=>((link_Twice.f k bt243.1 bt243.2 0).bind fun bt247=>((link_Pop.f k bt247.1 bt247.2).bind fun bt251=>((link_Pop.f k ([] : List (List Int)) 0).bind fun bt260=>(if t223 = true then (if bt228.2.2 = true then (if bt233.2.2 = true then (some false) else (if bt251.2.2.2 = true then (if (bt251.2.2.1.length : Int) = 14 then (if 0 < (bt251.2.2.1.length : Int) then (if (rd bt251.2.2.1 0) = 2 then (if (bt251.1.length : Int) = 1 then (if 0 < (bt251.1.length : Int) then (if 0 < ((rd_L1 bt251.1 0).length : Int) then (if (rd (rd_L1 bt251.1 0) 0) = 2 then (if bt260.2.2.2 = true then (some false) else ((link_Check.f bt251.1 bt251.2.1).bind fun t272=>(some t272))) else (some false)) else (none)) else (none)) else (some false)) else (some false)) else (none)) else (some false)) else (some false))) else (some false)) else (some false)))))))))) = some r:=H
 have A2:=mK A20
 clear A20
 replace H:=Option.bind_eq_some_iff.mp H
 obtain ⟨t225,A30,H⟩:=H
 replace H : ((link_Push.f k t219 t222 t225).bind fun bt228=>((link_Push.f k bt228.1 bt228.2.1 ([] : List Int)).bind fun bt233=>((link_Swap.f k bt228.1 bt228.2.1 0).bind fun bt239=>((link_Drop.f k bt239.1 bt239.2 1).bind fun bt243=>((link_Twice.f k bt243.1 bt243.2 0).bind fun bt247=>((link_Pop.f k bt247.1 bt247.2).bind fun bt251=>((link_Pop.f k ([] : List (List Int)) 0).bind fun bt260=>(if t223 = true then (if bt228.2.2 = true then (if bt233.2.2 = true then (some false) else (if bt251.2.2.2 = true then (if (bt251.2.2.1.length : Int) = 14 then (if 0 < (bt251.2.2.1.length : Int) then (if (rd bt251.2.2.1 0) = 2 then (if (bt251.1.length : Int) = 1 then (if 0 < (bt251.1.length : Int) then (if 0 < ((rd_L1 bt251.1 0).length : Int) then (if (rd (rd_L1 bt251.1 0) 0) = 2 then (if bt260.2.2.2 = true then (some false) else ((link_Check.f bt251.1 bt251.2.1).bind fun t272=>(some t272))) else (some false)) else (none)) else (none)) else (some false)) else (some false)) else (none)) else (some false)) else (some false))) else (some false)) else (some false))))))))) = some r:=H
 have A3:=mK A30
 clear A30
 replace H:=Option.bind_eq_some_iff.mp H
 obtain ⟨⟨t228,t231,t232⟩,A40,H⟩:=H
 replace H : ((link_Push.f k t228 t231 ([] : List Int)).bind fun bt233=>((link_Swap.f k t228 t231 0).bind fun bt239=>((link_Drop.f k bt239.1 bt239.2 1).bind fun bt243=>((link_Twice.f k bt243.1 bt243.2 0).bind fun bt247=>((link_Pop.f k bt247.1 bt247.2).bind fun bt251=>((link_Pop.f k ([] : List (List Int)) 0).bind fun bt260=>(if t223 = true then (if t232 = true then (if bt233.2.2 = true then (some false) else (if bt251.2.2.2 = true then (if (bt251.2.2.1.length : Int) = 14 then (if 0 < (bt251.2.2.1.length : Int) then (if (rd bt251.2.2.1 0) = 2 then (if (bt251.1.length : Int) = 1 then (if 0 < (bt251.1.length : Int) then (if 0 < ((rd_L1 bt251.1 0).length : Int) then (if (rd (rd_L1 bt251.1 0) 0) = 2 then (if bt260.2.2.2 = true then (some false) else ((link_Check.f bt251.1 bt251.2.1).bind fun t272=>(some t272))) else (some false)) else (none)) else (none)) else (some false)) else (some false)) else (none)) else (some false)) else (some false))) else (some false)) else (some false)))))))) = some r:=H
 have A4:=mK A40
 clear A40
 replace H:=Option.bind_eq_some_iff.mp H
 obtain ⟨⟨t233,t236,t237⟩,A50,H⟩:=H
 replace H : ((link_Swap.f k t228 t231 0).bind fun bt239=>((link_Drop.f k bt239.1 bt239.2 1).bind fun bt243=>((link_Twice.f k bt243.1 bt243.2 0).bind fun bt247=>((link_Pop.f k bt247.1 bt247.2).bind fun bt251=>((link_Pop.f k ([] : List (List Int)) 0).bind fun bt260=>(if t223 = true then (if t232 = true then (if t237 = true then (some false) else (if bt251.2.2.2 = true then (if (bt251.2.2.1.length : Int) = 14 then (if 0 < (bt251.2.2.1.length : Int) then (if (rd bt251.2.2.1 0) = 2 then (if (bt251.1.length : Int) = 1 then (if 0 < (bt251.1.length : Int) then (if 0 < ((rd_L1 bt251.1 0).length : Int) then (if (rd (rd_L1 bt251.1 0) 0) = 2 then (if bt260.2.2.2 = true then (some false) else ((link_Check.f bt251.1 bt251.2.1).bind fun t272=>(some t272))) else (some false)) else (none)) else (none)) else (some false)) else (some false)) else (none)) else (some false)) else (some false))) else (some false)) else (some false))))))) = some r:=H
 have A5:=mK A50
 clear A50
 replace H:=Option.bind_eq_some_iff.mp H
 obtain ⟨⟨t239,t242⟩,A60,H⟩:=H
 replace H : ((link_Drop.f k t239 t242 1).bind fun bt243=>((link_Twice.f k bt243.1 bt243.2 0).bind fun bt247=>((link_Pop.f k bt247.1 bt247.2).bind fun bt251=>((link_Pop.f k ([] : List (List Int)) 0).bind fun bt260=>(if t223 = true then (if t232 = true then (if t237 = true then (some false) else (if bt251.2.2.2 = true then (if (bt251.2.2.1.length : Int) = 14 then (if 0 < (bt251.2.2.1.length : Int) then (if (rd bt251.2.2.1 0) = 2 then (if (bt251.1.length : Int) = 1 then (if 0 < (bt251.1.length : Int) then (if 0 < ((rd_L1 bt251.1 0).length : Int) then (if (rd (rd_L1 bt251.1 0) 0) = 2 then (if bt260.2.2.2 = true then (some false) else ((link_Check.f bt251.1 bt251.2.1).bind fun t272=>(some t272))) else (some false)) else (none)) else (none)) else (some false)) else (some false)) else (none)) else (some false)) else (some false))) else (some false)) else (some false)))))) = some r:=H
 have A6:=mK A60
 clear A60
 replace H:=Option.bind_eq_some_iff.mp H
 obtain ⟨⟨t243,t246⟩,A70,H⟩:=H
 replace H : ((link_Twice.f k t243 t246 0).bind fun bt247=>((link_Pop.f k bt247.1 bt247.2).bind fun bt251=>((link_Pop.f k ([] : List (List Int)) 0).bind fun bt260=>(if t223 = true then (if t232 = true then (if t237 = true then (some false) else (if bt251.2.2.2 = true then (if (bt251.2.2.1.length : Int) = 14 then (if 0 < (bt251.2.2.1.length : Int) then (if (rd bt251.2.2.1 0) = 2 then (if (bt251.1.length : Int) = 1 then (if 0 < (bt251.1.length : Int) then (if 0 < ((rd_L1 bt251.1 0).length : Int) then (if (rd (rd_L1 bt251.1 0) 0) = 2 then (if bt260.2.2.2 = true then (some false) else ((link_Check.f bt251.1 bt251.2.1).bind fun t272=>(some t272))) else (some false)) else (none)) else (none)) else (some false)) else (some false)) else (none)) else (some false)) else (some false))) else (some false)) else (some false))))) = some r:=H
 have A7:=mK A70
 clear A70
 replace H:=Option.bind_eq_some_iff.mp H
 obtain ⟨⟨t247,t250⟩,A80,H⟩:=H
 replace H : ((link_Pop.f k t247 t250).bind fun bt251=>((link_Pop.f k ([] : List (List Int)) 0).bind fun bt260=>(if t223 = true then (if t232 = true then (if t237 = true then (some false) else (if bt251.2.2.2 = true then (if (bt251.2.2.1.length : Int) = 14 then (if 0 < (bt251.2.2.1.length : Int) then (if (rd bt251.2.2.1 0) = 2 then (if (bt251.1.length : Int) = 1 then (if 0 < (bt251.1.length : Int) then (if 0 < ((rd_L1 bt251.1 0).length : Int) then (if (rd (rd_L1 bt251.1 0) 0) = 2 then (if bt260.2.2.2 = true then (some false) else ((link_Check.f bt251.1 bt251.2.1).bind fun t272=>(some t272))) else (some false)) else (none)) else (none)) else (some false)) else (some false)) else (none)) else (some false)) else (some false))) else (some false)) else (some false)))) = some r:=H
 have A8:=mK A80
 clear A80
 replace H:=Option.bind_eq_some_iff.mp H
 obtain ⟨⟨t251,t254,t255,t258⟩,A90,H⟩:=H
 replace H : ((link_Pop.f k ([] : List (List Int)) 0).bind fun bt260=>(if t223 = true then (if t232 = true then (if t237 = true then (some false) else (if t258 = true then (if (t255.length : Int) = 14 then (if 0 < (t255.length : Int) then (if (rd t255 0) = 2 then (if (t251.length : Int) = 1 then (if 0 < (t251.length : Int) then (if 0 < ((rd_L1 t251 0).length : Int) then (if (rd (rd_L1 t251 0) 0) = 2 then (if bt260.2.2.2 = true then (some false) else ((link_Check.f t251 t254).bind fun t272=>(some t272))) else (some false)) else (none)) else (none)) else (some false)) else (some false)) else (none)) else (some false)) else (some false))) else (some false)) else (some false))) = some r:=H
 have A9:=mK A90
 clear A90
 replace H:=Option.bind_eq_some_iff.mp H
 obtain ⟨⟨t260,t263,t264,t267⟩,A100,H⟩:=H
 replace H : (if t223 = true then (if t232 = true then (if t237 = true then (some false) else (if t258 = true then (if (t255.length : Int) = 14 then (if 0 < (t255.length : Int) then (if (rd t255 0) = 2 then (if (t251.length : Int) = 1 then (if 0 < (t251.length : Int) then (if 0 < ((rd_L1 t251 0).length : Int) then (if (rd (rd_L1 t251 0) 0) = 2 then (if t267 = true then (some false) else ((link_Check.f t251 t254).bind fun t272=>(some t272))) else (some false)) else (none)) else (none)) else (some false)) else (some false)) else (none)) else (some false)) else (some false))) else (some false)) else (some false)) = some r:=H
 have A10:=mK A100
 clear A100
 by_cases c11 : t223 = true
 ·subst c11
  have H1 : (if t232 = true then (if t237 = true then (some false) else (if t258 = true then (if (t255.length : Int) = 14 then (if 0 < (t255.length : Int) then (if (rd t255 0) = 2 then (if (t251.length : Int) = 1 then (if 0 < (t251.length : Int) then (if 0 < ((rd_L1 t251 0).length : Int) then (if (rd (rd_L1 t251 0) 0) = 2 then (if t267 = true then (some false) else ((link_Check.f t251 t254).bind fun t272=>(some t272))) else (some false)) else (none)) else (none)) else (some false)) else (some false)) else (none)) else (some false)) else (some false))) else (some false)) = some r:= by rw [if_pos rfl] at H;exact H
  clear H
  have H:=H1
  clear H1
  by_cases c12 : t232 = true
  ·subst c12
   have H1 : (if t237 = true then (some false) else (if t258 = true then (if (t255.length : Int) = 14 then (if 0 < (t255.length : Int) then (if (rd t255 0) = 2 then (if (t251.length : Int) = 1 then (if 0 < (t251.length : Int) then (if 0 < ((rd_L1 t251 0).length : Int) then (if (rd (rd_L1 t251 0) 0) = 2 then (if t267 = true then (some false) else ((link_Check.f t251 t254).bind fun t272=>(some t272))) else (some false)) else (none)) else (none)) else (some false)) else (some false)) else (none)) else (some false)) else (some false))) = some r:= by rw [if_pos rfl] at H;exact H
   clear H
   have H:=H1
   clear H1
   by_cases c13 : t237 = true
   ·subst c13
    have H1 : (some false) = some r:= by rw [if_pos rfl] at H;exact H
    clear H
    have H:=H1
    clear H1
    exact absurd (H.trans (congrArg some HTr_.out)) (by simp)
   ·replace c13:=Bool.eq_false_iff.mpr c13
    subst c13
    have H1 : (if t258 = true then (if (t255.length : Int) = 14 then (if 0 < (t255.length : Int) then (if (rd t255 0) = 2 then (if (t251.length : Int) = 1 then (if 0 < (t251.length : Int) then (if 0 < ((rd_L1 t251 0).length : Int) then (if (rd (rd_L1 t251 0) 0) = 2 then (if t267 = true then (some false) else ((link_Check.f t251 t254).bind fun t272=>(some t272))) else (some false)) else (none)) else (none)) else (some false)) else (some false)) else (none)) else (some false)) else (some false)) = some r:= by rw [if_neg (show ¬ (false = true) by decide)] at H;exact H
    clear H
    have H:=H1
    clear H1
    by_cases c14 : t258 = true
    ·subst c14
     have H1 : (if (t255.length : Int) = 14 then (if 0 < (t255.length : Int) then (if (rd t255 0) = 2 then (if (t251.length : Int) = 1 then (if 0 < (t251.length : Int) then (if 0 < ((rd_L1 t251 0).length : Int) then (if (rd (rd_L1 t251 0) 0) = 2 then (if t267 = true then (some false) else ((link_Check.f t251 t254).bind fun t272=>(some t272))) else (some false)) else (none)) else (none)) else (some false)) else (some false)) else (none)) else (some false)) = some r:= by rw [if_pos rfl] at H;exact H
     clear H
     have H:=H1
     clear H1
     by_cases c15 : (t255.length : Int) = 14
     ·rw [if_pos c15] at H
      have c15b0 : ((t255.length : Int) == 14) = true:=beq_iff_eq.mpr c15
      have c15b1 : ((t255.length : Int) != 14) = false:=bne_eq_false_iff_eq.mpr c15
      clear c15
      by_cases c16 : 0 < (t255.length : Int)
      ·rw [if_pos c16] at H
       have c16b0 : decide (0 < (t255.length : Int)) = true:=decide_eq_true c16
       have c16b1 : decide (0 < t255.length) = true:=decide_eq_true (by omega)
       clear c16
       by_cases c17 : (rd t255 0) = 2
       ·rw [if_pos c17] at H
        have c17b0 : ((rd t255 0) == 2) = true:=beq_iff_eq.mpr c17
        have c17b1 : ((rd t255 0) != 2) = false:=bne_eq_false_iff_eq.mpr c17
        clear c17
        by_cases c18 : (t251.length : Int) = 1
        ·rw [if_pos c18] at H
         have c18b0 : ((t251.length : Int) == 1) = true:=beq_iff_eq.mpr c18
         have c18b1 : ((t251.length : Int) != 1) = false:=bne_eq_false_iff_eq.mpr c18
         clear c18
         by_cases c19 : 0 < (t251.length : Int)
         ·rw [if_pos c19] at H
          have c19b0 : decide (0 < (t251.length : Int)) = true:=decide_eq_true c19
          have c19b1 : decide (0 < t251.length) = true:=decide_eq_true (by omega)
          clear c19
          by_cases c20 : 0 < ((rd_L1 t251 0).length : Int)
          ·rw [if_pos c20] at H
           have c20b0 : decide (0 < ((rd_L1 t251 0).length : Int)) = true:=decide_eq_true c20
           have c20b1 : decide (0 < (rd_L1 t251 0).length) = true:=decide_eq_true (by omega)
           clear c20
           by_cases c21 : (rd (rd_L1 t251 0) 0) = 2
           ·rw [if_pos c21] at H
            have c21b0 : ((rd (rd_L1 t251 0) 0) == 2) = true:=beq_iff_eq.mpr c21
            have c21b1 : ((rd (rd_L1 t251 0) 0) != 2) = false:=bne_eq_false_iff_eq.mpr c21
            clear c21
            by_cases c22 : t267 = true
            ·subst c22
             have H1 : (some false) = some r:= by rw [if_pos rfl] at H;exact H
             clear H
             have H:=H1
             clear H1
             exact absurd (H.trans (congrArg some HTr_.out)) (by simp)
            ·replace c22:=Bool.eq_false_iff.mpr c22
             subst c22
             have H1 : ((link_Check.f t251 t254).bind fun t272=>(some t272)) = some r:= by rw [if_neg (show ¬ (false = true) by decide)] at H;exact H
             clear H
             have H:=H1
             clear H1
             replace H:=Option.bind_eq_some_iff.mp H
             obtain ⟨t272,A230,H⟩:=H
             replace H : (some t272) = some r:=H
             have A23:=mK A230
             clear A230
             obtain rfl:=Option.some.inj H
             go_enter Try.func7,Try.ntmps7
             try go_wp2_with (first|((with_reducible refine gate_callee (f:=23) rfl ?_);refine goesL_ (some 14) rfl rfl Try.func23 (by kernel_rfl) rfl #[.int .u8 1] rfl (by (try simp only [List.map_toArray,List.map_cons,List.map_nil]);first|done|rfl|(simp only [List.length_drop,List.length_take];rfl)) ?_;(with_reducible refine (drawbridgelaw23_frame.calls 1 t216 _ A1.out).mono ?_);rintro e w24 ⟨v217,rfl,ho0,hb⟩;refine ⟨_,rfl,?_⟩;have n0_:=mK (Kd.R_lower ho0 (below_size (by repeat (first|(with_reducible first|exact HB.out|apply lA|apply lN|apply lD)|exact HB.out))));have n1_:=mK (below_step (by repeat (first|(with_reducible first|exact HB.out|apply lA|apply lN|apply lD)|exact HB.out)) hb);clear HB;have HO218:=n0_;have HB:=n1_;clear n0_ n1_;(try clear hb);(try clear hb2);(try clear hk);(try clear hi);(try clear ho0);obtain ⟨Ao25,co25,eo25⟩:=Kd.R_slice HO218.out;subst eo25)|((with_reducible refine gate_callee (f:=8) rfl ?_);refine goesL_ (some 15) rfl rfl Try.func8 (by kernel_rfl) rfl #[.agg #[.slice none 0 0,.int .i64 0],.slice Ao25 t216.length co25] rfl (by (try simp only [List.map_toArray,List.map_cons,List.map_nil]);first|done|rfl|(simp only [List.length_drop,List.length_take];rfl)) ?_;(refine (link_Push.calls k (fun k_=>False) _ _ ([] : List (List Int)) 0 (fun k_=>some k_ = (.slice Ao25 t216.length co25 : Value).ownBlock) _ _ t216 t219 t222 true _ ?side1 ?side2 A2.out).mono ?_);(case side1=>exact Kd.V_nil _ _ _ _ _);(case side2=>exact Kd.R_V (Kd.R_tight rfl (HO218.out)));rintro e w26 ⟨v220,rfl,ho0,hb⟩;refine ⟨_,rfl,?_⟩;have n0_:=mK (Kd.R_below (by (with_reducible repeat (first|apply rA|apply rN|apply rD));exact HO218.out) hb);have n1_:=mK (Kd.V_lower (Kd.V_mono (ok':= fun k_=>True) ho0 (fun k_ hk_=>trivial)) (below_size (by repeat (first|(with_reducible first|exact HB.out|apply lA|apply lN|apply lD)|exact HB.out))));have n2_:=mK (below_step (by repeat (first|(with_reducible first|exact HB.out|apply lA|apply lN|apply lD)|exact HB.out)) hb);clear HO218;clear HB;have HO218:=n0_;have HO221:=n1_;have HB:=n2_;clear n0_ n1_ n2_;(try clear hb);(try clear hb2);(try clear hk);(try clear hi);(try clear ho0))|((with_reducible refine gate_dst (N:=1) rfl ?_);(try (refine gate_guard (by rfl) ?_;dsimp only));refine box_event ?hg (N:=1) ?hd (cs:=#[.slice none 0 0,.int .i64 0]) (t:=24) ?hr ?_;(case hd=>rfl);(case hg=>rfl);(case hr=>first|(go_simp;done)|(go_simp;rfl));intro gb224 hg w27 hbox hb;have n0_:=mK (Kd.R_below (by (with_reducible repeat (first|apply rA|apply rN|apply rD));exact HO218.out) hb);have n1_:=mK (Kd.V_below (Kd.V_elderB (by (with_reducible repeat (first|apply vA|apply vN|apply vD));exact HO221.out) gb224 (Nat.le_of_eq hg.symm)) hb);have n2_:=mK (below_step (by repeat (first|(with_reducible first|exact HB.out|apply lA|apply lN|apply lD)|exact HB.out)) hb);have n3_:=mK (hbox);have n5_:=mK ((by rw [hg];exact (below_size (by repeat (first|(with_reducible first|exact HB.out|apply lA|apply lN|apply lD)|exact HB.out))) : w.heap.size ≤ gb224));clear HO218;clear HO221;clear HB;have HO218:=n0_;have HO221:=n1_;have HB:=n2_;have BK224:=n3_;have GE224:=n5_;clear n0_ n1_ n2_ n3_ n5_;clear hb hbox hg;obtain ⟨Ao28,co28,eo28⟩:=Kd.V_slice HO221.out;subst eo28;have hcz29_0 : w27.cell? ⟨gb224,0,none⟩ = some (.slice none 0 0):=(blk_cell BK224.out 0).trans rfl;have hcz29_1 : w27.cell? ⟨gb224,1,none⟩ = some (.int .i64 0):=(blk_cell BK224.out 1).trans rfl;have hfz29_0:=blk_frozen BK224.out 0;have hfz29_1:=blk_frozen BK224.out 1))
             have n0_ : Aside0 (Kd.R (Kd.int .u8) 5 ((w27.setCell ⟨gb224,0,none⟩ (.slice Ao28 t219.length co28)).setCell ⟨gb224,1,none⟩ (.int .i64 t222)) w.heap.size (fun _=>True) (.slice Ao25 t216.length co25) t216):=⟨by (with_reducible repeat (first|apply rA|apply rN|apply rD));exact Kd.R_mono (Kd.R_far (p:=⟨gb224,1,none⟩) (Kd.R_far (p:=⟨gb224,0,none⟩) (Kd.R_types HO218.out BK224.out (by decide)) (fun _ hk=>hk.2) (.slice Ao28 t219.length co28)) (fun _ hk=>hk.2) (.int .i64 t222)) (fun _ hk=>trivial)⟩
             have n1_ : Aside0 (Kd.V (Kd.slice 5 (Kd.int .u8)) 25 ((w27.setCell ⟨gb224,0,none⟩ (.slice Ao28 t219.length co28)).setCell ⟨gb224,1,none⟩ (.int .i64 t222)) w.heap.size (fun k_=>k_ ≠ gb224) (.slice Ao28 t219.length co28) t219):=⟨by (with_reducible repeat (first|apply vA|apply vN|apply vD));exact Kd.V_mono (Kd.V_far (p:=⟨gb224,1,none⟩) (Kd.V_far (p:=⟨gb224,0,none⟩) (Kd.V_mono HO221.out (fun k_ hk=>(⟨hk,hk.2⟩ : _∧k_ ≠ gb224))) (fun _ hk=>hk.2) (.slice Ao28 t219.length co28)) (fun _ hk=>hk.2) (.int .i64 t222)) (fun _ hk=>hk.1.2)⟩
             have n2_ : Aside0 (((w27.setCell ⟨gb224,0,none⟩ (.slice Ao28 t219.length co28)).setCell ⟨gb224,1,none⟩ (.int .i64 t222)).heap[gb224]? = some (.cells #[.slice Ao28 t219.length co28,.int .i64 t222] 24 (0,0))):=⟨by (with_reducible repeat (first|apply bN|apply bD|apply bA));refine blk_put (cs:=#[.slice Ao28 t219.length co28,.int .i64 0]) ?_ 1 _ rfl;(with_reducible repeat (first|apply bN|apply bD|apply bA));refine blk_put (cs:=#[.slice none 0 0,.int .i64 0]) ?_ 0 _ rfl;(with_reducible repeat (first|apply bN|apply bD|apply bA));exact BK224.out⟩
             have n3_ : Aside0 (Below w.heap.size w ((w27.setCell ⟨gb224,0,none⟩ (.slice Ao28 t219.length co28)).setCell ⟨gb224,1,none⟩ (.int .i64 t222))):=⟨by repeat (first|(with_reducible first|exact HB.out|apply lA|apply lN|apply lD|refine lS ?_ GE224.out)|exact HB.out)⟩
             (try clear HO218)
             (try clear HO221)
             (try clear BK224)
             (try clear HB)
             generalize ((w27.setCell ⟨gb224,0,none⟩ (.slice Ao28 t219.length co28)).setCell ⟨gb224,1,none⟩ (.int .i64 t222)) = w30 at n0_ n1_ n2_ n3_ ⊢
             have HO218:=n0_
             have HO221:=n1_
             have BK224:=n2_
             have HB:=n3_
             clear n0_ n1_ n2_ n3_
             have n0_:=mK (Kd.R_drew HO218.out)
             have n1_:=mK (Kd.V_drew HO221.out)
             have n2_:=mK (blk_drew BK224.out)
             have n3_:=mK (below_drew1 HB.out)
             clear HO218
             clear HO221
             clear BK224
             clear HB
             have HO218:=n0_
             have HO221:=n1_
             have BK224:=n2_
             have HB:=n3_
             clear n0_ n1_ n2_ n3_
             refine start_ (n:=8) (S:= fun w'=>w'.cell? ⟨gb224,0,none⟩ = some (.slice Ao28 t219.length co28)∧w'.cell? ⟨gb224,1,none⟩ = some (.int .i64 t222)) (ds:=[6]) #[φ,φ,φ,φ,φ,φ,φ,φ] (by kernel_rfl) rfl rfl ⟨(blk_cell BK224.out 0).trans rfl,(blk_cell BK224.out 1).trans rfl⟩ (fun hHeld=>?_);refine with_tabW drawbridgelaw23_heads.tab2 drawbridgelaw23_heads.bits2 (fun HT_ HW_=>?_)
             generalize w30.drew = w31 at HO218 HO221 BK224 HB hHeld ⊢
             refine take_ (i:=0) (N:=some 19) (v:=?_) (a':=?_) #[τ,φ,φ,φ,φ,φ,φ,φ] rfl rfl (take_ofW HT_.out HW_.out (by kernel_rfl)) (fun _ _ _ h=>h) (Or.inl ⟨by rfl,?_⟩) hHeld ?_ ?_
             rotate_left
             ·rintro w' ⟨s0,s1⟩
              go_simp
              with_reducible rfl
             rotate_left
             ·simp only [Act.put,sT,sZ,sS,i64_w,i32_w]
              rfl
             refine one_ (i:=1) (N:=some 20) #[τ,τ,φ,φ,φ,φ,φ,φ] rfl rfl (one_of HT_.out (by kernel_rfl)) (by decide) (fun K hK=>?_)
             refine goes_ Try.func23 (by kernel_rfl) rfl #[.int .u8 2] (by rfl) rfl rfl (by (try simp only [List.map_toArray,List.map_cons,List.map_nil]);first|done|rfl|(simp only [List.length_drop,List.length_take];rfl)) ?_
             with_reducible refine (drawbridgelaw23_frame.calls 2 t225 _ A3.out).mono ?_
             rintro e w32 ⟨v226,rfl,ho0,hb⟩
             refine ⟨_,rfl,?_⟩
             have n0_:=mK (Kd.R_elder' (by (with_reducible repeat (first|apply rA|apply rN|apply rD));exact HO218.out) (Kd.R_base ho0) hb)
             have n1_:=mK (Kd.V_elder' (by (with_reducible repeat (first|apply vA|apply vN|apply vD));exact HO221.out) (Kd.R_base ho0) hb)
             have n2_:=mK (Kd.R_lower (Kd.R_new' ho0 (Kd.R_lt (by (with_reducible repeat (first|apply rA|apply rN|apply rD));exact HO218.out))) (below_size (by repeat (first|(with_reducible first|exact HB.out|apply lA|apply lN|apply lD|refine lS ?_ GE224.out)|exact HB.out))))
             have n3_:=mK (blk_below (g:=gb224) (o:=.cells #[.slice Ao28 t219.length co28,.int .i64 t222] 24 (0,0)) (by (with_reducible repeat (first|apply bN|apply bD|apply bA));exact BK224.out) hb)
             have n4_:=mK (below_step (by repeat (first|(with_reducible first|exact HB.out|apply lA|apply lN|apply lD|refine lS ?_ GE224.out)|exact HB.out)) hb)
             clear HO218
             clear HO221
             clear BK224
             clear HB
             have HO218:=n0_
             have HO221:=n1_
             have HO227:=n2_
             have BK224:=n3_
             have HB:=n4_
             clear n0_ n1_ n2_ n3_ n4_
             (try clear hb)
             (try clear hb2)
             (try clear hk)
             (try clear hi)
             (try clear ho0)
             obtain ⟨Ao33,co33,eo33⟩:=Kd.R_slice HO227.out
             (first|subst eo33|(injection eo33 with f1_ f2_ f3_;have f4_:=f1_.symm;have f5_:=f3_.symm;clear f1_ f2_ f3_;subst f4_;subst f5_))
             refine hK.out _ _ ⟨(blk_cell BK224.out 0).trans rfl,(blk_cell BK224.out 1).trans rfl⟩ (fun hHeld=>?_)
             clear hK K
             refine norm_ (a':=?_) ?_ ?_
             rotate_left
             ·show Act.put _ (some 20) _ = _
              simp only [Act.put,sT,sZ,sS,i64_w,i32_w]
              rfl
             refine one_ (i:=2) (N:=some 21) #[τ,τ,τ,φ,φ,φ,φ,φ] rfl rfl (one_of HT_.out (by kernel_rfl)) (by decide) (fun K hK=>?_)
             refine goes_ Try.func8 (by kernel_rfl) rfl #[.agg #[.slice Ao28 t219.length co28,.int .i64 t222],.slice Ao33 t225.length co33] (by rfl) rfl rfl (by (try simp only [List.map_toArray,List.map_cons,List.map_nil]);first|done|rfl|(simp only [List.length_drop,List.length_take];rfl)) ?_
             with_reducible refine (link_Push.calls k (fun k_=>(k_ ≠ gb224∧some k_ ≠ (.slice Ao33 t225.length co33 : Value).ownBlock)) _ _ t219 t222 (fun k_=>some k_ = (.slice Ao33 t225.length co33 : Value).ownBlock) _ _ t225 t228 t231 true _ ?side1 ?side2 A4.out).mono ?_
             (case side1=>exact HO221.out)
             (case side2=>exact Kd.R_V (Kd.R_tight rfl (Kd.R_types (HO227.out) BK224.out (by decide))))
             rintro e w34 ⟨v229,rfl,ho0,hb⟩
             refine ⟨_,rfl,?_⟩
             have n0_:=mK (Kd.R_below (by (with_reducible repeat (first|apply rA|apply rN|apply rD));exact HO218.out) hb)
             have n1_:=mK (Kd.V_below (by (with_reducible repeat (first|apply vA|apply vN|apply vD));exact HO221.out) hb)
             have n2_:=mK (Kd.R_below (by (with_reducible repeat (first|apply rA|apply rN|apply rD));exact HO227.out) hb)
             have n3_:=mK (Kd.V_lower (Kd.V_mono (ok':= fun k_=>k_ ≠ gb224) ho0 (fun k_ hk_=>Or.elim hk_ (fun hs_=>Or.elim hs_ (fun hs_=>hs_.1) (fun hs_=>((Kd.R_types (HO227.out) BK224.out (by decide)).1 k_ hs_.symm).2)) (fun hn_=>(Kd.freshB (g:=gb224) (o:=.cells #[.slice Ao28 t219.length co28,.int .i64 t222] 24 (0,0)) (by (with_reducible repeat (first|apply bN|apply bD|apply bA));exact BK224.out) k_ hn_)))) (below_size (by repeat (first|(with_reducible first|exact HB.out|apply lA|apply lN|apply lD|refine lS ?_ GE224.out)|exact HB.out))))
             have n4_:=mK (blk_below (g:=gb224) (o:=.cells #[.slice Ao28 t219.length co28,.int .i64 t222] 24 (0,0)) (by (with_reducible repeat (first|apply bN|apply bD|apply bA));exact BK224.out) hb)
             have n5_:=mK (below_step (by repeat (first|(with_reducible first|exact HB.out|apply lA|apply lN|apply lD|refine lS ?_ GE224.out)|exact HB.out)) hb)
             clear HO218
             clear HO221
             clear HO227
             clear BK224
             clear HB
             have HO218:=n0_
             have HO221:=n1_
             have HO227:=n2_
             have HO230:=n3_
             have BK224:=n4_
             have HB:=n5_
             clear n0_ n1_ n2_ n3_ n4_ n5_
             (try clear hb)
             (try clear hb2)
             (try clear hk)
             (try clear hi)
             (try clear ho0)
             obtain ⟨Ao35,co35,eo35⟩:=Kd.V_slice HO230.out
             (first|subst eo35|(injection eo35 with f1_ f2_ f3_;have f4_:=f1_.symm;have f5_:=f3_.symm;clear f1_ f2_ f3_;subst f4_;subst f5_))
             refine hK.out _ _ ⟨(blk_cell BK224.out 0).trans rfl,(blk_cell BK224.out 1).trans rfl⟩ (fun hHeld=>?_)
             clear hK K
             refine norm_ (a':=?_) ?_ ?_
             rotate_left
             ·show Act.put _ (some 21) _ = _
              simp only [Act.put,sT,sZ,sS,i64_w,i32_w]
              rfl
             refine pure_ (i:=3) (N:=some 18) (v:=?_) (a':=?_) #[τ,τ,τ,τ,φ,φ,φ,φ] rfl rfl (any_of HT_.out (by kernel_rfl)) (fun _ _ _ h=>h) (Or.inl ⟨by rfl,?_⟩) ?_ ?_
             rotate_left
             ·intro w'
              go_simp
              with_reducible rfl
             rotate_left
             ·simp only [Act.put,sT,sZ,sS,i64_w,i32_w]
              rfl
             refine pure_ (i:=4) (N:=some 22) (v:=?_) (a':=?_) #[τ,τ,τ,τ,τ,φ,φ,φ] rfl rfl (any_of HT_.out (by kernel_rfl)) (fun _ _ _ h=>h) (Or.inl ⟨by rfl,?_⟩) ?_ ?_
             rotate_left
             ·intro w'
              go_simp
              with_reducible rfl
             rotate_left
             ·simp only [Act.put,sT,sZ,sS,i64_w,i32_w]
              rfl
             refine pure_ (i:=5) (N:=some 23) (v:=?_) (a':=?_) #[τ,τ,τ,τ,τ,τ,φ,φ] rfl rfl (any_of HT_.out (by kernel_rfl)) (fun _ _ _ h=>h) (Or.inl ⟨by rfl,?_⟩) ?_ ?_
             rotate_left
             ·intro w'
              go_simp
              with_reducible rfl
             rotate_left
             ·simp only [Act.put,sT,sZ,sS,i64_w,i32_w]
              rfl
             refine last_ (i:=6) (N:=none) #[τ,τ,τ,τ,τ,τ,τ,φ] rfl rfl (one_of HT_.out (by kernel_rfl)) (by decide) (fun K hK=>?_)
             have hs36 : w34.cell? ⟨gb224,0,none⟩ = some (.slice Ao28 t219.length co28):=(blk_cell BK224.out 0).trans rfl
             have hfs36:=blk_frozen BK224.out 0
             have hs37 : w34.cell? ⟨gb224,1,none⟩ = some (.int .i64 t222):=(blk_cell BK224.out 1).trans rfl
             have hfs37:=blk_frozen BK224.out 1
             refine skip_ (w1:=?_) (by rfl) rfl ?_ ?_
             rotate_left
             ·go_simp
              rfl
             refine hK.out _ _ ?_
             clear hK K
             refine pure_ (i:=7) (N:=some 3) (v:=?_) (a':=?_) #[τ,τ,τ,τ,τ,τ,τ,τ] rfl rfl (any_of HT_.out (by kernel_rfl)) (fun _ _ _ h=>h) (Or.inl ⟨by rfl,?_⟩) ?_ ?_
             rotate_left
             ·intro w'
              go_simp
              with_reducible rfl
             rotate_left
             ·simp only [Act.put,sT,sZ,sS,i64_w,i32_w]
              rfl
             refine done_ (done_of HT_.out (by kernel_rfl)) ?_
             have n0_ : Aside0 (Kd.R (Kd.int .u8) 5 ((w34.setCell ⟨gb224,0,none⟩ (.slice Ao35 t228.length co35)).setCell ⟨gb224,1,none⟩ (.int .i64 t231)) w.heap.size (fun k_=>some k_ ≠ (.slice Ao33 t225.length co33 : Value).ownBlock) (.slice Ao25 t216.length co25) t216):=⟨by (with_reducible repeat (first|apply rA|apply rN|apply rD));exact Kd.R_mono (Kd.R_far (p:=⟨gb224,1,none⟩) (Kd.R_far (p:=⟨gb224,0,none⟩) (Kd.R_types HO218.out BK224.out (by decide)) (fun _ hk=>hk.2) (.slice Ao35 t228.length co35)) (fun _ hk=>hk.2) (.int .i64 t231)) (fun _ hk=>hk.1.2)⟩
             have n1_ : Aside0 (Kd.V (Kd.slice 5 (Kd.int .u8)) 25 ((w34.setCell ⟨gb224,0,none⟩ (.slice Ao35 t228.length co35)).setCell ⟨gb224,1,none⟩ (.int .i64 t231)) w.heap.size (fun k_=>some k_ ≠ (.slice Ao33 t225.length co33 : Value).ownBlock∧k_ ≠ gb224) (.slice Ao28 t219.length co28) t219):=⟨by (with_reducible repeat (first|apply vA|apply vN|apply vD));exact Kd.V_mono (Kd.V_far (p:=⟨gb224,1,none⟩) (Kd.V_far (p:=⟨gb224,0,none⟩) (Kd.V_mono HO221.out (fun k_ hk=>(⟨hk,hk.1⟩ : _∧k_ ≠ gb224))) (fun _ hk=>hk.2) (.slice Ao35 t228.length co35)) (fun _ hk=>hk.2) (.int .i64 t231)) (fun _ hk=>⟨hk.1.2,hk.1.1⟩)⟩
             have n2_ : Aside0 (Kd.R (Kd.int .u8) 5 ((w34.setCell ⟨gb224,0,none⟩ (.slice Ao35 t228.length co35)).setCell ⟨gb224,1,none⟩ (.int .i64 t231)) w.heap.size (fun k_=>some k_ ≠ (.slice Ao25 t216.length co25 : Value).ownBlock) (.slice Ao33 t225.length co33) t225):=⟨by (with_reducible repeat (first|apply rA|apply rN|apply rD));exact Kd.R_mono (Kd.R_far (p:=⟨gb224,1,none⟩) (Kd.R_far (p:=⟨gb224,0,none⟩) (Kd.R_types HO227.out BK224.out (by decide)) (fun _ hk=>hk.2) (.slice Ao35 t228.length co35)) (fun _ hk=>hk.2) (.int .i64 t231)) (fun _ hk=>hk.1.2)⟩
             have n3_ : Aside0 (Kd.V (Kd.slice 5 (Kd.int .u8)) 25 ((w34.setCell ⟨gb224,0,none⟩ (.slice Ao35 t228.length co35)).setCell ⟨gb224,1,none⟩ (.int .i64 t231)) w.heap.size (fun k_=>k_ ≠ gb224) (.slice Ao35 t228.length co35) t228):=⟨by (with_reducible repeat (first|apply vA|apply vN|apply vD));exact Kd.V_mono (Kd.V_far (p:=⟨gb224,1,none⟩) (Kd.V_far (p:=⟨gb224,0,none⟩) (Kd.V_mono HO230.out (fun k_ hk=>(⟨hk,hk⟩ : _∧k_ ≠ gb224))) (fun _ hk=>hk.2) (.slice Ao35 t228.length co35)) (fun _ hk=>hk.2) (.int .i64 t231)) (fun _ hk=>hk.1)⟩
             have n4_ : Aside0 (((w34.setCell ⟨gb224,0,none⟩ (.slice Ao35 t228.length co35)).setCell ⟨gb224,1,none⟩ (.int .i64 t231)).heap[gb224]? = some (.cells #[.slice Ao35 t228.length co35,.int .i64 t231] 24 (0,0))):=⟨by (with_reducible repeat (first|apply bN|apply bD|apply bA));refine blk_put (cs:=#[.slice Ao35 t228.length co35,.int .i64 t222]) ?_ 1 _ rfl;(with_reducible repeat (first|apply bN|apply bD|apply bA));refine blk_put (cs:=#[.slice Ao28 t219.length co28,.int .i64 t222]) ?_ 0 _ rfl;(with_reducible repeat (first|apply bN|apply bD|apply bA));exact BK224.out⟩
             have n5_ : Aside0 (Below w.heap.size w ((w34.setCell ⟨gb224,0,none⟩ (.slice Ao35 t228.length co35)).setCell ⟨gb224,1,none⟩ (.int .i64 t231))):=⟨by repeat (first|(with_reducible first|exact HB.out|apply lA|apply lN|apply lD|refine lS ?_ GE224.out)|exact HB.out)⟩
             (try clear HO218)
             (try clear HO221)
             (try clear HO227)
             (try clear HO230)
             (try clear BK224)
             (try clear HB)
             generalize ((w34.setCell ⟨gb224,0,none⟩ (.slice Ao35 t228.length co35)).setCell ⟨gb224,1,none⟩ (.int .i64 t231)) = w38 at n0_ n1_ n2_ n3_ n4_ n5_ ⊢
             have HO218:=n0_
             have HO221:=n1_
             have HO227:=n2_
             have HO230:=n3_
             have BK224:=n4_
             have HB:=n5_
             clear n0_ n1_ n2_ n3_ n4_ n5_
             have hcz39_0 : w38.cell? ⟨gb224,0,none⟩ = some (.slice Ao35 t228.length co35):=(blk_cell BK224.out 0).trans rfl
             have hcz39_1 : w38.cell? ⟨gb224,1,none⟩ = some (.int .i64 t231):=(blk_cell BK224.out 1).trans rfl
             have hfz39_0:=blk_frozen BK224.out 0
             have hfz39_1:=blk_frozen BK224.out 1
             try go_wp2_with (first|((with_reducible refine gate_callee (f:=8) rfl ?_);refine goesL_ (some 26) rfl rfl Try.func8 (by kernel_rfl) rfl #[.agg #[.slice Ao35 t228.length co35,.int .i64 t231],.slice none 0 0] rfl (by (try simp only [List.map_toArray,List.map_cons,List.map_nil]);first|done|rfl|(simp only [List.length_drop,List.length_take];rfl)) ?_;(refine (link_Push.calls k (fun k_=>k_ ≠ gb224) _ _ t228 t231 (fun k_=>False) _ _ ([] : List Int) t233 t236 false _ ?side1 ?side2 A5.out).mono ?_);(case side1=>exact HO230.out);(case side2=>exact Kd.V_nil _ _ _ _ _);rintro e w40 ⟨v234,rfl,ho0,hb⟩;refine ⟨_,rfl,?_⟩;have n0_:=mK (Kd.R_below (by (with_reducible repeat (first|apply rA|apply rN|apply rD));exact HO218.out) hb);have n2_:=mK (Kd.R_below (by (with_reducible repeat (first|apply rA|apply rN|apply rD));exact HO227.out) hb);have n3_:=mK (Kd.V_below (by (with_reducible repeat (first|apply vA|apply vN|apply vD));exact HO230.out) hb);have n4_:=mK (Kd.V_lower (Kd.V_mono (ok':= fun k_=>k_ ≠ gb224) ho0 (fun k_ hk_=>Or.elim hk_ (fun hs_=>Or.elim hs_ (fun hs_=>hs_) (fun hs_=>(hs_).elim)) (fun hn_=>(Kd.freshB (g:=gb224) (o:=.cells #[.slice Ao35 t228.length co35,.int .i64 t231] 24 (0,0)) (by (with_reducible repeat (first|apply bN|apply bD|apply bA));exact BK224.out) k_ hn_)))) (below_size (by repeat (first|(with_reducible first|exact HB.out|apply lA|apply lN|apply lD|refine lS ?_ GE224.out)|exact HB.out))));have n5_:=mK (blk_below (g:=gb224) (o:=.cells #[.slice Ao35 t228.length co35,.int .i64 t231] 24 (0,0)) (by (with_reducible repeat (first|apply bN|apply bD|apply bA));exact BK224.out) hb);have n6_:=mK (below_step (by repeat (first|(with_reducible first|exact HB.out|apply lA|apply lN|apply lD|refine lS ?_ GE224.out)|exact HB.out)) hb);clear HO218;clear HO227;clear HO230;clear BK224;clear HB;have HO218:=n0_;have HO227:=n2_;have HO230:=n3_;have HO235:=n4_;have BK224:=n5_;have HB:=n6_;clear n0_ n2_ n3_ n4_ n5_ n6_;(try clear hb);(try clear hb2);(try clear hk);(try clear hi);(try clear ho0))|((with_reducible refine gate_dst (N:=4) rfl ?_);(try (refine gate_guard (by rfl) ?_;dsimp only));refine box_event ?hg (N:=4) ?hd (cs:=#[.slice none 0 0,.int .i64 0]) (t:=24) ?hr ?_;(case hd=>rfl);(case hg=>rfl);(case hr=>first|(go_simp;done)|(go_simp;rfl));intro gb238 hg w41 hbox hb;have n0_:=mK (Kd.R_below (by (with_reducible repeat (first|apply rA|apply rN|apply rD));exact HO218.out) hb);have n2_:=mK (Kd.R_below (by (with_reducible repeat (first|apply rA|apply rN|apply rD));exact HO227.out) hb);have n3_:=mK (Kd.V_below (Kd.V_elderB (by (with_reducible repeat (first|apply vA|apply vN|apply vD));exact HO230.out) gb238 (Nat.le_of_eq hg.symm)) hb);have n4_:=mK (Kd.V_below (Kd.V_elderB (by (with_reducible repeat (first|apply vA|apply vN|apply vD));exact HO235.out) gb238 (Nat.le_of_eq hg.symm)) hb);have n5_:=mK (blk_below (g:=gb224) (o:=.cells #[.slice Ao35 t228.length co35,.int .i64 t231] 24 (0,0)) (by (with_reducible repeat (first|apply bN|apply bD|apply bA));exact BK224.out) hb);have n6_:=mK (below_step (by repeat (first|(with_reducible first|exact HB.out|apply lA|apply lN|apply lD|refine lS ?_ GE224.out)|exact HB.out)) hb);have n7_:=mK (hbox);have n9_:=mK ((by rw [hg];exact (below_size (by repeat (first|(with_reducible first|exact HB.out|apply lA|apply lN|apply lD|refine lS ?_ GE224.out)|exact HB.out))) : w.heap.size ≤ gb238));have n10_:=mK ((by rw [hg];exact Nat.ne_of_lt (blk_lt (g:=gb224) (o:=.cells #[.slice Ao35 t228.length co35,.int .i64 t231] 24 (0,0)) (by (with_reducible repeat (first|apply bN|apply bD|apply bA));exact BK224.out)) : gb224 ≠ gb238));have n11_:=mK ((by rw [hg];exact Nat.ne_of_gt (blk_lt (g:=gb224) (o:=.cells #[.slice Ao35 t228.length co35,.int .i64 t231] 24 (0,0)) (by (with_reducible repeat (first|apply bN|apply bD|apply bA));exact BK224.out)) : gb238 ≠ gb224));clear HO218;clear HO227;clear HO230;clear HO235;clear BK224;clear HB;have HO218:=n0_;have HO227:=n2_;have HO230:=n3_;have HO235:=n4_;have BK224:=n5_;have HB:=n6_;have BK238:=n7_;have GE238:=n9_;have NB224_238:=n10_;have NB238_224:=n11_;clear n0_ n2_ n3_ n4_ n5_ n6_ n7_ n9_ n10_ n11_;clear hb hbox hg;obtain ⟨Ao42,co42,eo42⟩:=Kd.V_slice HO235.out;subst eo42;have hnb43:=NB238_224.out;have hnc43:=NB224_238.out;have hcz44_0 : w41.cell? ⟨gb238,0,none⟩ = some (.slice none 0 0):=(blk_cell BK238.out 0).trans rfl;have hcz44_1 : w41.cell? ⟨gb238,1,none⟩ = some (.int .i64 0):=(blk_cell BK238.out 1).trans rfl;have hfz44_0:=blk_frozen BK238.out 0;have hfz44_1:=blk_frozen BK238.out 1)|((with_reducible refine gate_store (t:=24) (p:=4) rfl ?_);refine store_event (t:=24) (p:=4) (v:=?vo_w45) (w1:=((w41.setCell ⟨gb238,0,none⟩ (.slice Ao42 t233.length co42)).setCell ⟨gb238,1,none⟩ (.int .i64 t236))) ?hg ?ho ?hn ?hr ?_;(case ho=>rfl);(case hg=>rfl);(case hn=>rfl);(case hr=>first|(go_simp;done)|(go_simp;rfl));intro w45 hw;have n0_ : Aside0 (Kd.R (Kd.int .u8) 5 w45 w.heap.size (fun k_=>some k_ ≠ (.slice Ao33 t225.length co33 : Value).ownBlock) (.slice Ao25 t216.length co25) t216):=⟨(by rw [hw];exact (by (with_reducible repeat (first|apply rA|apply rN|apply rD));exact Kd.R_mono (Kd.R_far (p:=⟨gb238,1,none⟩) (Kd.R_far (p:=⟨gb238,0,none⟩) (Kd.R_types HO218.out BK238.out (by decide)) (fun _ hk=>hk.2) (.slice Ao42 t233.length co42)) (fun _ hk=>hk.2) (.int .i64 t236)) (fun _ hk=>hk.1)))⟩;have n2_ : Aside0 (Kd.R (Kd.int .u8) 5 w45 w.heap.size (fun k_=>some k_ ≠ (.slice Ao25 t216.length co25 : Value).ownBlock) (.slice Ao33 t225.length co33) t225):=⟨(by rw [hw];exact (by (with_reducible repeat (first|apply rA|apply rN|apply rD));exact Kd.R_mono (Kd.R_far (p:=⟨gb238,1,none⟩) (Kd.R_far (p:=⟨gb238,0,none⟩) (Kd.R_types HO227.out BK238.out (by decide)) (fun _ hk=>hk.2) (.slice Ao42 t233.length co42)) (fun _ hk=>hk.2) (.int .i64 t236)) (fun _ hk=>hk.1)))⟩;have n3_ : Aside0 (Kd.V (Kd.slice 5 (Kd.int .u8)) 25 w45 w.heap.size (fun k_=>k_ ≠ gb224∧k_ ≠ gb238) (.slice Ao35 t228.length co35) t228):=⟨(by rw [hw];exact (by (with_reducible repeat (first|apply vA|apply vN|apply vD));exact Kd.V_mono (Kd.V_far (p:=⟨gb238,1,none⟩) (Kd.V_far (p:=⟨gb238,0,none⟩) (Kd.V_mono HO230.out (fun k_ hk=>(⟨hk,hk.2⟩ : _∧k_ ≠ gb238))) (fun _ hk=>hk.2) (.slice Ao42 t233.length co42)) (fun _ hk=>hk.2) (.int .i64 t236)) (fun _ hk=>⟨hk.1.1,hk.1.2⟩)))⟩;have n5_ : Aside0 (w45.heap[gb224]? = some (.cells #[.slice Ao35 t228.length co35,.int .i64 t231] 24 (0,0))):=⟨(by rw [hw];exact (by (with_reducible repeat (first|apply bN|apply bD|apply bA));refine blk_far ?_ NB224_238.out _;(with_reducible repeat (first|apply bN|apply bD|apply bA));refine blk_far ?_ NB224_238.out _;(with_reducible repeat (first|apply bN|apply bD|apply bA));exact BK224.out))⟩;have n6_ : Aside0 (w45.heap[gb238]? = some (.cells #[.slice Ao42 t233.length co42,.int .i64 t236] 24 (0,0))):=⟨(by rw [hw];exact (by (with_reducible repeat (first|apply bN|apply bD|apply bA));refine blk_put (cs:=#[.slice Ao42 t233.length co42,.int .i64 0]) ?_ 1 _ rfl;(with_reducible repeat (first|apply bN|apply bD|apply bA));refine blk_put (cs:=#[.slice none 0 0,.int .i64 0]) ?_ 0 _ rfl;(with_reducible repeat (first|apply bN|apply bD|apply bA));exact BK238.out))⟩;have n7_ : Aside0 (Below w.heap.size w w45):=⟨(by rw [hw];exact (by repeat (first|(with_reducible first|exact HB.out|apply lA|apply lN|apply lD|refine lS ?_ GE224.out|refine lS ?_ GE238.out)|exact HB.out)))⟩;clear hw;clear HO218;clear HO227;clear HO230;clear BK224;clear BK238;clear HB;have HO218:=n0_;have HO227:=n2_;have HO230:=n3_;have BK224:=n5_;have BK238:=n6_;have HB:=n7_;clear n0_ n2_ n3_ n5_ n6_ n7_;have hcz46_0 : w45.cell? ⟨gb224,0,none⟩ = some (.slice Ao35 t228.length co35):=(blk_cell BK224.out 0).trans rfl;have hcz46_1 : w45.cell? ⟨gb224,1,none⟩ = some (.int .i64 t231):=(blk_cell BK224.out 1).trans rfl;have hfz46_0:=blk_frozen BK224.out 0;have hfz46_1:=blk_frozen BK224.out 1)|((with_reducible refine gate_callee (f:=18) rfl ?_);refine goesL_ (some 30) rfl rfl Try.func18 (by kernel_rfl) rfl #[.agg #[.slice Ao35 t228.length co35,.int .i64 t231],.int .i64 0] rfl (by (try simp only [List.map_toArray,List.map_cons,List.map_nil]);first|done|rfl|(simp only [List.length_drop,List.length_take];rfl)) ?_;(with_reducible refine (link_Swap.calls k (fun k_=>(k_ ≠ gb224∧k_ ≠ gb238)) _ _ t228 t231 0 t239 t242 _ ?side1 A6.out).mono ?_);(case side1=>exact HO230.out);rintro e w47 ⟨v240,rfl,ho0,hb⟩;refine ⟨_,rfl,?_⟩;have n0_:=mK (Kd.R_below (by (with_reducible repeat (first|apply rA|apply rN|apply rD));exact HO218.out) hb);have n2_:=mK (Kd.R_below (by (with_reducible repeat (first|apply rA|apply rN|apply rD));exact HO227.out) hb);have n5_:=mK (Kd.V_lower (Kd.V_mono (ok':= fun k_=>k_ ≠ gb224∧k_ ≠ gb238) ho0 (fun k_ hk_=>⟨Or.elim hk_ (fun hs_=>hs_.1) (fun hn_=>(Kd.freshB (g:=gb224) (o:=.cells #[.slice Ao35 t228.length co35,.int .i64 t231] 24 (0,0)) (by (with_reducible repeat (first|apply bN|apply bD|apply bA));exact BK224.out) k_ hn_)),Or.elim hk_ (fun hs_=>hs_.2) (fun hn_=>(Kd.freshB (g:=gb238) (o:=.cells #[.slice Ao42 t233.length co42,.int .i64 t236] 24 (0,0)) (by (with_reducible repeat (first|apply bN|apply bD|apply bA));exact BK238.out) k_ hn_))⟩)) (below_size (by repeat (first|(with_reducible first|exact HB.out|apply lA|apply lN|apply lD|refine lS ?_ GE224.out|refine lS ?_ GE238.out)|exact HB.out))));have n6_:=mK (blk_below (g:=gb224) (o:=.cells #[.slice Ao35 t228.length co35,.int .i64 t231] 24 (0,0)) (by (with_reducible repeat (first|apply bN|apply bD|apply bA));exact BK224.out) hb);have n7_:=mK (blk_below (g:=gb238) (o:=.cells #[.slice Ao42 t233.length co42,.int .i64 t236] 24 (0,0)) (by (with_reducible repeat (first|apply bN|apply bD|apply bA));exact BK238.out) hb);have n8_:=mK (below_step (by repeat (first|(with_reducible first|exact HB.out|apply lA|apply lN|apply lD|refine lS ?_ GE224.out|refine lS ?_ GE238.out)|exact HB.out)) hb);clear HO218;clear HO227;clear BK224;clear BK238;clear HB;have HO218:=n0_;have HO227:=n2_;have HO241:=n5_;have BK224:=n6_;have BK238:=n7_;have HB:=n8_;clear n0_ n2_ n5_ n6_ n7_ n8_;(try clear hb);(try clear hb2);(try clear hk);(try clear hi);(try clear ho0);obtain ⟨Ao48,co48,eo48⟩:=Kd.V_slice HO241.out;subst eo48;have hcz49_0 : w47.cell? ⟨gb224,0,none⟩ = some (.slice Ao35 t228.length co35):=(blk_cell BK224.out 0).trans rfl;have hcz49_1 : w47.cell? ⟨gb224,1,none⟩ = some (.int .i64 t231):=(blk_cell BK224.out 1).trans rfl;have hfz49_0:=blk_frozen BK224.out 0;have hfz49_1:=blk_frozen BK224.out 1)|((with_reducible refine gate_store (t:=24) (p:=1) rfl ?_);refine store_event (t:=24) (p:=1) (v:=?vo_w50) (w1:=((w47.setCell ⟨gb224,0,none⟩ (.slice Ao48 t239.length co48)).setCell ⟨gb224,1,none⟩ (.int .i64 t242))) ?hg ?ho ?hn ?hr ?_;(case ho=>rfl);(case hg=>rfl);(case hn=>rfl);(case hr=>first|(go_simp;done)|(go_simp;rfl));intro w50 hw;have n0_ : Aside0 (Kd.R (Kd.int .u8) 5 w50 w.heap.size (fun k_=>some k_ ≠ (.slice Ao33 t225.length co33 : Value).ownBlock) (.slice Ao25 t216.length co25) t216):=⟨(by rw [hw];exact (by (with_reducible repeat (first|apply rA|apply rN|apply rD));exact Kd.R_mono (Kd.R_far (p:=⟨gb224,1,none⟩) (Kd.R_far (p:=⟨gb224,0,none⟩) (Kd.R_types HO218.out BK224.out (by decide)) (fun _ hk=>hk.2) (.slice Ao48 t239.length co48)) (fun _ hk=>hk.2) (.int .i64 t242)) (fun _ hk=>hk.1)))⟩;have n2_ : Aside0 (Kd.R (Kd.int .u8) 5 w50 w.heap.size (fun k_=>some k_ ≠ (.slice Ao25 t216.length co25 : Value).ownBlock) (.slice Ao33 t225.length co33) t225):=⟨(by rw [hw];exact (by (with_reducible repeat (first|apply rA|apply rN|apply rD));exact Kd.R_mono (Kd.R_far (p:=⟨gb224,1,none⟩) (Kd.R_far (p:=⟨gb224,0,none⟩) (Kd.R_types HO227.out BK224.out (by decide)) (fun _ hk=>hk.2) (.slice Ao48 t239.length co48)) (fun _ hk=>hk.2) (.int .i64 t242)) (fun _ hk=>hk.1)))⟩;have n5_ : Aside0 (Kd.V (Kd.slice 5 (Kd.int .u8)) 25 w50 w.heap.size (fun k_=>k_ ≠ gb224∧k_ ≠ gb238) (.slice Ao48 t239.length co48) t239):=⟨(by rw [hw];exact (by (with_reducible repeat (first|apply vA|apply vN|apply vD));exact Kd.V_mono (Kd.V_far (p:=⟨gb224,1,none⟩) (Kd.V_far (p:=⟨gb224,0,none⟩) (Kd.V_mono HO241.out (fun k_ hk=>(⟨hk,hk.1⟩ : _∧k_ ≠ gb224))) (fun _ hk=>hk.2) (.slice Ao48 t239.length co48)) (fun _ hk=>hk.2) (.int .i64 t242)) (fun _ hk=>⟨hk.1.1,hk.1.2⟩)))⟩;have n6_ : Aside0 (w50.heap[gb224]? = some (.cells #[.slice Ao48 t239.length co48,.int .i64 t242] 24 (0,0))):=⟨(by rw [hw];exact (by (with_reducible repeat (first|apply bN|apply bD|apply bA));refine blk_put (cs:=#[.slice Ao48 t239.length co48,.int .i64 t231]) ?_ 1 _ rfl;(with_reducible repeat (first|apply bN|apply bD|apply bA));refine blk_put (cs:=#[.slice Ao35 t228.length co35,.int .i64 t231]) ?_ 0 _ rfl;(with_reducible repeat (first|apply bN|apply bD|apply bA));exact BK224.out))⟩;have n7_ : Aside0 (w50.heap[gb238]? = some (.cells #[.slice Ao42 t233.length co42,.int .i64 t236] 24 (0,0))):=⟨(by rw [hw];exact (by (with_reducible repeat (first|apply bN|apply bD|apply bA));refine blk_far ?_ NB238_224.out _;(with_reducible repeat (first|apply bN|apply bD|apply bA));refine blk_far ?_ NB238_224.out _;(with_reducible repeat (first|apply bN|apply bD|apply bA));exact BK238.out))⟩;have n8_ : Aside0 (Below w.heap.size w w50):=⟨(by rw [hw];exact (by repeat (first|(with_reducible first|exact HB.out|apply lA|apply lN|apply lD|refine lS ?_ GE224.out|refine lS ?_ GE238.out)|exact HB.out)))⟩;clear hw;clear HO218;clear HO227;clear HO241;clear BK224;clear BK238;clear HB;have HO218:=n0_;have HO227:=n2_;have HO241:=n5_;have BK224:=n6_;have BK238:=n7_;have HB:=n8_;clear n0_ n2_ n5_ n6_ n7_ n8_;have hcz51_0 : w50.cell? ⟨gb224,0,none⟩ = some (.slice Ao48 t239.length co48):=(blk_cell BK224.out 0).trans rfl;have hcz51_1 : w50.cell? ⟨gb224,1,none⟩ = some (.int .i64 t242):=(blk_cell BK224.out 1).trans rfl;have hfz51_0:=blk_frozen BK224.out 0;have hfz51_1:=blk_frozen BK224.out 1)|((with_reducible refine gate_callee (f:=14) rfl ?_);refine goesL_ (some 33) rfl rfl Try.func14 (by kernel_rfl) rfl #[.agg #[.slice Ao48 t239.length co48,.int .i64 t242],.int .i64 1] rfl (by (try simp only [List.map_toArray,List.map_cons,List.map_nil]);first|done|rfl|(simp only [List.length_drop,List.length_take];rfl)) ?_;(with_reducible refine (link_Drop.calls k (fun k_=>(k_ ≠ gb224∧k_ ≠ gb238)) _ _ t239 t242 1 t243 t246 _ ?side1 A7.out).mono ?_);(case side1=>exact HO241.out);rintro e w52 ⟨v244,rfl,ho0,hb⟩;refine ⟨_,rfl,?_⟩;have n0_:=mK (Kd.R_below (by (with_reducible repeat (first|apply rA|apply rN|apply rD));exact HO218.out) hb);have n2_:=mK (Kd.R_below (by (with_reducible repeat (first|apply rA|apply rN|apply rD));exact HO227.out) hb);have n6_:=mK (Kd.V_lower (Kd.V_mono (ok':= fun k_=>k_ ≠ gb224∧k_ ≠ gb238) ho0 (fun k_ hk_=>⟨Or.elim hk_ (fun hs_=>hs_.1) (fun hn_=>(Kd.freshB (g:=gb224) (o:=.cells #[.slice Ao48 t239.length co48,.int .i64 t242] 24 (0,0)) (by (with_reducible repeat (first|apply bN|apply bD|apply bA));exact BK224.out) k_ hn_)),Or.elim hk_ (fun hs_=>hs_.2) (fun hn_=>(Kd.freshB (g:=gb238) (o:=.cells #[.slice Ao42 t233.length co42,.int .i64 t236] 24 (0,0)) (by (with_reducible repeat (first|apply bN|apply bD|apply bA));exact BK238.out) k_ hn_))⟩)) (below_size (by repeat (first|(with_reducible first|exact HB.out|apply lA|apply lN|apply lD|refine lS ?_ GE224.out|refine lS ?_ GE238.out)|exact HB.out))));have n7_:=mK (blk_below (g:=gb224) (o:=.cells #[.slice Ao48 t239.length co48,.int .i64 t242] 24 (0,0)) (by (with_reducible repeat (first|apply bN|apply bD|apply bA));exact BK224.out) hb);have n8_:=mK (blk_below (g:=gb238) (o:=.cells #[.slice Ao42 t233.length co42,.int .i64 t236] 24 (0,0)) (by (with_reducible repeat (first|apply bN|apply bD|apply bA));exact BK238.out) hb);have n9_:=mK (below_step (by repeat (first|(with_reducible first|exact HB.out|apply lA|apply lN|apply lD|refine lS ?_ GE224.out|refine lS ?_ GE238.out)|exact HB.out)) hb);clear HO218;clear HO227;clear BK224;clear BK238;clear HB;have HO218:=n0_;have HO227:=n2_;have HO245:=n6_;have BK224:=n7_;have BK238:=n8_;have HB:=n9_;clear n0_ n2_ n6_ n7_ n8_ n9_;(try clear hb);(try clear hb2);(try clear hk);(try clear hi);(try clear ho0);obtain ⟨Ao53,co53,eo53⟩:=Kd.V_slice HO245.out;subst eo53)|((with_reducible refine gate_callee (f:=16) rfl ?_);refine goesL_ (some 34) rfl rfl Try.func16 (by kernel_rfl) rfl #[.agg #[.slice Ao53 t243.length co53,.int .i64 t246],.int .i64 0] rfl (by (try simp only [List.map_toArray,List.map_cons,List.map_nil]);first|done|rfl|(simp only [List.length_drop,List.length_take];rfl)) ?_;(with_reducible refine (link_Twice.calls k (fun k_=>(k_ ≠ gb224∧k_ ≠ gb238)) _ _ t243 t246 0 t247 t250 _ ?side1 A8.out).mono ?_);(case side1=>exact HO245.out);rintro e w54 ⟨v248,rfl,ho0,hb⟩;refine ⟨_,rfl,?_⟩;have n0_:=mK (Kd.R_below (by (with_reducible repeat (first|apply rA|apply rN|apply rD));exact HO218.out) hb);have n2_:=mK (Kd.R_below (by (with_reducible repeat (first|apply rA|apply rN|apply rD));exact HO227.out) hb);have n7_:=mK (Kd.V_lower (Kd.V_mono (ok':= fun k_=>k_ ≠ gb224∧k_ ≠ gb238) ho0 (fun k_ hk_=>⟨Or.elim hk_ (fun hs_=>hs_.1) (fun hn_=>(Kd.freshB (g:=gb224) (o:=.cells #[.slice Ao48 t239.length co48,.int .i64 t242] 24 (0,0)) (by (with_reducible repeat (first|apply bN|apply bD|apply bA));exact BK224.out) k_ hn_)),Or.elim hk_ (fun hs_=>hs_.2) (fun hn_=>(Kd.freshB (g:=gb238) (o:=.cells #[.slice Ao42 t233.length co42,.int .i64 t236] 24 (0,0)) (by (with_reducible repeat (first|apply bN|apply bD|apply bA));exact BK238.out) k_ hn_))⟩)) (below_size (by repeat (first|(with_reducible first|exact HB.out|apply lA|apply lN|apply lD|refine lS ?_ GE224.out|refine lS ?_ GE238.out)|exact HB.out))));have n8_:=mK (blk_below (g:=gb224) (o:=.cells #[.slice Ao48 t239.length co48,.int .i64 t242] 24 (0,0)) (by (with_reducible repeat (first|apply bN|apply bD|apply bA));exact BK224.out) hb);have n9_:=mK (blk_below (g:=gb238) (o:=.cells #[.slice Ao42 t233.length co42,.int .i64 t236] 24 (0,0)) (by (with_reducible repeat (first|apply bN|apply bD|apply bA));exact BK238.out) hb);have n10_:=mK (below_step (by repeat (first|(with_reducible first|exact HB.out|apply lA|apply lN|apply lD|refine lS ?_ GE224.out|refine lS ?_ GE238.out)|exact HB.out)) hb);clear HO218;clear HO227;clear BK224;clear BK238;clear HB;have HO218:=n0_;have HO227:=n2_;have HO249:=n7_;have BK224:=n8_;have BK238:=n9_;have HB:=n10_;clear n0_ n2_ n7_ n8_ n9_ n10_;(try clear hb);(try clear hb2);(try clear hk);(try clear hi);(try clear ho0);obtain ⟨Ao55,co55,eo55⟩:=Kd.V_slice HO249.out;subst eo55)|((with_reducible refine gate_callee (f:=10) rfl ?_);refine goesL_ (some 35) rfl rfl Try.func10 (by kernel_rfl) rfl #[.agg #[.slice Ao55 t247.length co55,.int .i64 t250]] rfl (by (try simp only [List.map_toArray,List.map_cons,List.map_nil]);first|done|rfl|(simp only [List.length_drop,List.length_take];rfl)) ?_;(with_reducible refine (link_Pop.calls k (fun k_=>(k_ ≠ gb224∧k_ ≠ gb238)) _ _ t247 t250 t251 t254 t255 true _ ?side1 A9.out).mono ?_);(case side1=>exact HO249.out);rintro e w56 ⟨v252,v256,rfl,ho0,ho1,hb⟩;refine ⟨_,rfl,?_⟩;have n0_:=mK (Kd.R_elder' (by (with_reducible repeat (first|apply rA|apply rN|apply rD));exact HO218.out) (Kd.R_base ho1) hb);have n2_:=mK (Kd.R_elder' (by (with_reducible repeat (first|apply rA|apply rN|apply rD));exact HO227.out) (Kd.R_base ho1) hb);have n8_:=mK (Kd.V_lower (Kd.V_mono (ok':= fun k_=>some k_ ≠ (v256 : Value).ownBlock∧k_ ≠ gb224∧k_ ≠ gb238) ho0 (fun k_ hk_=>⟨hk_.2,Or.elim hk_.1 (fun hs_=>hs_.1) (fun hn_=>(Kd.freshB (g:=gb224) (o:=.cells #[.slice Ao48 t239.length co48,.int .i64 t242] 24 (0,0)) (by (with_reducible repeat (first|apply bN|apply bD|apply bA));exact BK224.out) k_ hn_)),Or.elim hk_.1 (fun hs_=>hs_.2) (fun hn_=>(Kd.freshB (g:=gb238) (o:=.cells #[.slice Ao42 t233.length co42,.int .i64 t236] 24 (0,0)) (by (with_reducible repeat (first|apply bN|apply bD|apply bA));exact BK238.out) k_ hn_))⟩)) (below_size (by repeat (first|(with_reducible first|exact HB.out|apply lA|apply lN|apply lD|refine lS ?_ GE224.out|refine lS ?_ GE238.out)|exact HB.out))));have n9_:=mK (Kd.R_lower (Kd.R_new' (Kd.R_new' (Kd.R_mono (ok':= fun k_=>True) ho1 (fun _ hk_=>trivial)) (Kd.R_lt (by (with_reducible repeat (first|apply rA|apply rN|apply rD));exact HO218.out))) (Kd.R_lt (by (with_reducible repeat (first|apply rA|apply rN|apply rD));exact HO227.out))) (below_size (by repeat (first|(with_reducible first|exact HB.out|apply lA|apply lN|apply lD|refine lS ?_ GE224.out|refine lS ?_ GE238.out)|exact HB.out))));have n10_:=mK (blk_below (g:=gb224) (o:=.cells #[.slice Ao48 t239.length co48,.int .i64 t242] 24 (0,0)) (by (with_reducible repeat (first|apply bN|apply bD|apply bA));exact BK224.out) hb);have n11_:=mK (blk_below (g:=gb238) (o:=.cells #[.slice Ao42 t233.length co42,.int .i64 t236] 24 (0,0)) (by (with_reducible repeat (first|apply bN|apply bD|apply bA));exact BK238.out) hb);have n12_:=mK (below_step (by repeat (first|(with_reducible first|exact HB.out|apply lA|apply lN|apply lD|refine lS ?_ GE224.out|refine lS ?_ GE238.out)|exact HB.out)) hb);clear HO218;clear HO227;clear BK224;clear BK238;clear HB;have HO218:=n0_;have HO227:=n2_;have HO253:=n8_;have HO257:=n9_;have BK224:=n10_;have BK238:=n11_;have HB:=n12_;clear n0_ n2_ n8_ n9_ n10_ n11_ n12_;(try clear hb);(try clear hb2);(try clear hk);(try clear hi);(try clear ho0);(try clear ho1))|((with_reducible refine gate_dst (N:=6) rfl ?_);(try (refine gate_guard (by rfl) ?_;dsimp only));refine box_event ?hg (N:=6) ?hd (cs:=#[.slice none 0 0,.int .i64 0]) (t:=24) ?hr ?_;(case hd=>rfl);(case hg=>rfl);(case hr=>first|(go_simp;done)|(go_simp;rfl));intro gb259 hg w57 hbox hb;have n0_:=mK (Kd.R_below (by (with_reducible repeat (first|apply rA|apply rN|apply rD));exact HO218.out) hb);have n2_:=mK (Kd.R_below (by (with_reducible repeat (first|apply rA|apply rN|apply rD));exact HO227.out) hb);have n8_:=mK (Kd.V_below (Kd.V_elderB (by (with_reducible repeat (first|apply vA|apply vN|apply vD));exact HO253.out) gb259 (Nat.le_of_eq hg.symm)) hb);have n9_:=mK (Kd.R_below (by (with_reducible repeat (first|apply rA|apply rN|apply rD));exact HO257.out) hb);have n10_:=mK (blk_below (g:=gb224) (o:=.cells #[.slice Ao48 t239.length co48,.int .i64 t242] 24 (0,0)) (by (with_reducible repeat (first|apply bN|apply bD|apply bA));exact BK224.out) hb);have n11_:=mK (blk_below (g:=gb238) (o:=.cells #[.slice Ao42 t233.length co42,.int .i64 t236] 24 (0,0)) (by (with_reducible repeat (first|apply bN|apply bD|apply bA));exact BK238.out) hb);have n12_:=mK (below_step (by repeat (first|(with_reducible first|exact HB.out|apply lA|apply lN|apply lD|refine lS ?_ GE224.out|refine lS ?_ GE238.out)|exact HB.out)) hb);have n13_:=mK (hbox);have n15_:=mK ((by rw [hg];exact (below_size (by repeat (first|(with_reducible first|exact HB.out|apply lA|apply lN|apply lD|refine lS ?_ GE224.out|refine lS ?_ GE238.out)|exact HB.out))) : w.heap.size ≤ gb259));have n16_:=mK ((by rw [hg];exact Nat.ne_of_lt (blk_lt (g:=gb224) (o:=.cells #[.slice Ao48 t239.length co48,.int .i64 t242] 24 (0,0)) (by (with_reducible repeat (first|apply bN|apply bD|apply bA));exact BK224.out)) : gb224 ≠ gb259));have n17_:=mK ((by rw [hg];exact Nat.ne_of_gt (blk_lt (g:=gb224) (o:=.cells #[.slice Ao48 t239.length co48,.int .i64 t242] 24 (0,0)) (by (with_reducible repeat (first|apply bN|apply bD|apply bA));exact BK224.out)) : gb259 ≠ gb224));have n18_:=mK ((by rw [hg];exact Nat.ne_of_lt (blk_lt (g:=gb238) (o:=.cells #[.slice Ao42 t233.length co42,.int .i64 t236] 24 (0,0)) (by (with_reducible repeat (first|apply bN|apply bD|apply bA));exact BK238.out)) : gb238 ≠ gb259));have n19_:=mK ((by rw [hg];exact Nat.ne_of_gt (blk_lt (g:=gb238) (o:=.cells #[.slice Ao42 t233.length co42,.int .i64 t236] 24 (0,0)) (by (with_reducible repeat (first|apply bN|apply bD|apply bA));exact BK238.out)) : gb259 ≠ gb238));clear HO218;clear HO227;clear HO253;clear HO257;clear BK224;clear BK238;clear HB;have HO218:=n0_;have HO227:=n2_;have HO253:=n8_;have HO257:=n9_;have BK224:=n10_;have BK238:=n11_;have HB:=n12_;have BK259:=n13_;have GE259:=n15_;have NB224_259:=n16_;have NB259_224:=n17_;have NB238_259:=n18_;have NB259_238:=n19_;clear n0_ n2_ n8_ n9_ n10_ n11_ n12_ n13_ n15_ n16_ n17_ n18_ n19_;clear hb hbox hg;obtain ⟨Ao58,co58,eo58⟩:=Kd.V_slice HO253.out;subst eo58;have hnb59:=NB259_224.out;have hnc59:=NB224_259.out;have hnb60:=NB259_238.out;have hnc60:=NB238_259.out;have hcz61_0 : w57.cell? ⟨gb259,0,none⟩ = some (.slice none 0 0):=(blk_cell BK259.out 0).trans rfl;have hcz61_1 : w57.cell? ⟨gb259,1,none⟩ = some (.int .i64 0):=(blk_cell BK259.out 1).trans rfl;have hfz61_0:=blk_frozen BK259.out 0;have hfz61_1:=blk_frozen BK259.out 1)|((with_reducible refine gate_store (t:=24) (p:=6) rfl ?_);refine store_event (t:=24) (p:=6) (v:=?vo_w62) (w1:=((w57.setCell ⟨gb259,0,none⟩ (.slice Ao58 t251.length co58)).setCell ⟨gb259,1,none⟩ (.int .i64 t254))) ?hg ?ho ?hn ?hr ?_;(case ho=>rfl);(case hg=>rfl);(case hn=>rfl);(case hr=>first|(go_simp;done)|(go_simp;rfl));intro w62 hw;have n0_ : Aside0 (Kd.R (Kd.int .u8) 5 w62 w.heap.size (fun k_=>some k_ ≠ (.slice Ao33 t225.length co33 : Value).ownBlock∧some k_ ≠ (v256 : Value).ownBlock) (.slice Ao25 t216.length co25) t216):=⟨(by rw [hw];exact (by (with_reducible repeat (first|apply rA|apply rN|apply rD));exact Kd.R_mono (Kd.R_far (p:=⟨gb259,1,none⟩) (Kd.R_far (p:=⟨gb259,0,none⟩) (Kd.R_types HO218.out BK259.out (by decide)) (fun _ hk=>hk.2) (.slice Ao58 t251.length co58)) (fun _ hk=>hk.2) (.int .i64 t254)) (fun _ hk=>⟨hk.1.1,hk.1.2⟩)))⟩;have n2_ : Aside0 (Kd.R (Kd.int .u8) 5 w62 w.heap.size (fun k_=>some k_ ≠ (.slice Ao25 t216.length co25 : Value).ownBlock∧some k_ ≠ (v256 : Value).ownBlock) (.slice Ao33 t225.length co33) t225):=⟨(by rw [hw];exact (by (with_reducible repeat (first|apply rA|apply rN|apply rD));exact Kd.R_mono (Kd.R_far (p:=⟨gb259,1,none⟩) (Kd.R_far (p:=⟨gb259,0,none⟩) (Kd.R_types HO227.out BK259.out (by decide)) (fun _ hk=>hk.2) (.slice Ao58 t251.length co58)) (fun _ hk=>hk.2) (.int .i64 t254)) (fun _ hk=>⟨hk.1.1,hk.1.2⟩)))⟩;have n8_ : Aside0 (Kd.V (Kd.slice 5 (Kd.int .u8)) 25 w62 w.heap.size (fun k_=>some k_ ≠ (v256 : Value).ownBlock∧k_ ≠ gb224∧k_ ≠ gb238∧k_ ≠ gb259) (.slice Ao58 t251.length co58) t251):=⟨(by rw [hw];exact (by (with_reducible repeat (first|apply vA|apply vN|apply vD));exact Kd.V_mono (Kd.V_far (p:=⟨gb259,1,none⟩) (Kd.V_far (p:=⟨gb259,0,none⟩) (Kd.V_mono HO253.out (fun k_ hk=>(⟨hk,hk.2⟩ : _∧k_ ≠ gb259))) (fun _ hk=>hk.2) (.slice Ao58 t251.length co58)) (fun _ hk=>hk.2) (.int .i64 t254)) (fun _ hk=>⟨hk.1.1.1,⟨hk.1.1.2.1,⟨hk.1.1.2.2,hk.1.2⟩⟩⟩)))⟩;have n9_ : Aside0 (Kd.R (Kd.int .u8) 5 w62 w.heap.size (fun k_=>some k_ ≠ (.slice Ao25 t216.length co25 : Value).ownBlock∧some k_ ≠ (.slice Ao33 t225.length co33 : Value).ownBlock) v256 t255):=⟨(by rw [hw];exact (by (with_reducible repeat (first|apply rA|apply rN|apply rD));exact Kd.R_mono (Kd.R_far (p:=⟨gb259,1,none⟩) (Kd.R_far (p:=⟨gb259,0,none⟩) (Kd.R_types HO257.out BK259.out (by decide)) (fun _ hk=>hk.2) (.slice Ao58 t251.length co58)) (fun _ hk=>hk.2) (.int .i64 t254)) (fun _ hk=>⟨hk.1.1.2,hk.1.2⟩)))⟩;have n10_ : Aside0 (w62.heap[gb224]? = some (.cells #[.slice Ao48 t239.length co48,.int .i64 t242] 24 (0,0))):=⟨(by rw [hw];exact (by (with_reducible repeat (first|apply bN|apply bD|apply bA));refine blk_far ?_ NB224_259.out _;(with_reducible repeat (first|apply bN|apply bD|apply bA));refine blk_far ?_ NB224_259.out _;(with_reducible repeat (first|apply bN|apply bD|apply bA));exact BK224.out))⟩;have n11_ : Aside0 (w62.heap[gb238]? = some (.cells #[.slice Ao42 t233.length co42,.int .i64 t236] 24 (0,0))):=⟨(by rw [hw];exact (by (with_reducible repeat (first|apply bN|apply bD|apply bA));refine blk_far ?_ NB238_259.out _;(with_reducible repeat (first|apply bN|apply bD|apply bA));refine blk_far ?_ NB238_259.out _;(with_reducible repeat (first|apply bN|apply bD|apply bA));exact BK238.out))⟩;have n12_ : Aside0 (w62.heap[gb259]? = some (.cells #[.slice Ao58 t251.length co58,.int .i64 t254] 24 (0,0))):=⟨(by rw [hw];exact (by (with_reducible repeat (first|apply bN|apply bD|apply bA));refine blk_put (cs:=#[.slice Ao58 t251.length co58,.int .i64 0]) ?_ 1 _ rfl;(with_reducible repeat (first|apply bN|apply bD|apply bA));refine blk_put (cs:=#[.slice none 0 0,.int .i64 0]) ?_ 0 _ rfl;(with_reducible repeat (first|apply bN|apply bD|apply bA));exact BK259.out))⟩;have n13_ : Aside0 (Below w.heap.size w w62):=⟨(by rw [hw];exact (by repeat (first|(with_reducible first|exact HB.out|apply lA|apply lN|apply lD|refine lS ?_ GE224.out|refine lS ?_ GE238.out|refine lS ?_ GE259.out)|exact HB.out)))⟩;clear hw;clear HO218;clear HO227;clear HO253;clear HO257;clear BK224;clear BK238;clear BK259;clear HB;have HO218:=n0_;have HO227:=n2_;have HO253:=n8_;have HO257:=n9_;have BK224:=n10_;have BK238:=n11_;have BK259:=n12_;have HB:=n13_;clear n0_ n2_ n8_ n9_ n10_ n11_ n12_ n13_)|((with_reducible refine gate_callee (f:=10) rfl ?_);refine goesL_ (some 41) rfl rfl Try.func10 (by kernel_rfl) rfl #[.agg #[.slice none 0 0,.int .i64 0]] rfl (by (try simp only [List.map_toArray,List.map_cons,List.map_nil]);first|done|rfl|(simp only [List.length_drop,List.length_take];rfl)) ?_;(refine (link_Pop.calls k (fun k_=>False) _ _ ([] : List (List Int)) 0 t260 t263 t264 false _ ?side1 A10.out).mono ?_);(case side1=>exact Kd.V_nil _ _ _ _ _);rintro e w63 ⟨v261,v265,rfl,ho0,ho1,hb⟩;refine ⟨_,rfl,?_⟩;have n8_:=mK (Kd.V_elder' (by (with_reducible repeat (first|apply vA|apply vN|apply vD));exact HO253.out) (Kd.R_base ho1) hb);have n9_:=mK (Kd.R_elder' (by (with_reducible repeat (first|apply rA|apply rN|apply rD));exact HO257.out) (Kd.R_base ho1) hb);have n10_:=mK (Kd.V_lower (Kd.V_mono (ok':= fun k_=>some k_ ≠ (v265 : Value).ownBlock∧some k_ ≠ (.slice Ao25 t216.length co25 : Value).ownBlock∧some k_ ≠ (.slice Ao33 t225.length co33 : Value).ownBlock∧some k_ ≠ (v256 : Value).ownBlock∧k_ ≠ gb224∧k_ ≠ gb238∧k_ ≠ gb259) ho0 (fun k_ hk_=>⟨hk_.2,Or.elim hk_.1 (fun hs_=>(hs_).elim) (fun hn_=>(Kd.fresh' (Kd.R_lt (by (with_reducible repeat (first|apply rA|apply rN|apply rD));exact HO218.out)) k_ hn_)),Or.elim hk_.1 (fun hs_=>(hs_).elim) (fun hn_=>(Kd.fresh' (Kd.R_lt (by (with_reducible repeat (first|apply rA|apply rN|apply rD));exact HO227.out)) k_ hn_)),Or.elim hk_.1 (fun hs_=>(hs_).elim) (fun hn_=>(Kd.fresh' (Kd.R_lt (by (with_reducible repeat (first|apply rA|apply rN|apply rD));exact HO257.out)) k_ hn_)),Or.elim hk_.1 (fun hs_=>(hs_).elim) (fun hn_=>(Kd.freshB (g:=gb224) (o:=.cells #[.slice Ao48 t239.length co48,.int .i64 t242] 24 (0,0)) (by (with_reducible repeat (first|apply bN|apply bD|apply bA));exact BK224.out) k_ hn_)),Or.elim hk_.1 (fun hs_=>(hs_).elim) (fun hn_=>(Kd.freshB (g:=gb238) (o:=.cells #[.slice Ao42 t233.length co42,.int .i64 t236] 24 (0,0)) (by (with_reducible repeat (first|apply bN|apply bD|apply bA));exact BK238.out) k_ hn_)),Or.elim hk_.1 (fun hs_=>(hs_).elim) (fun hn_=>(Kd.freshB (g:=gb259) (o:=.cells #[.slice Ao58 t251.length co58,.int .i64 t254] 24 (0,0)) (by (with_reducible repeat (first|apply bN|apply bD|apply bA));exact BK259.out) k_ hn_))⟩)) (below_size (by repeat (first|(with_reducible first|exact HB.out|apply lA|apply lN|apply lD|refine lS ?_ GE224.out|refine lS ?_ GE238.out|refine lS ?_ GE259.out)|exact HB.out))));have n12_:=mK (blk_below (g:=gb224) (o:=.cells #[.slice Ao48 t239.length co48,.int .i64 t242] 24 (0,0)) (by (with_reducible repeat (first|apply bN|apply bD|apply bA));exact BK224.out) hb);have n13_:=mK (blk_below (g:=gb238) (o:=.cells #[.slice Ao42 t233.length co42,.int .i64 t236] 24 (0,0)) (by (with_reducible repeat (first|apply bN|apply bD|apply bA));exact BK238.out) hb);have n14_:=mK (blk_below (g:=gb259) (o:=.cells #[.slice Ao58 t251.length co58,.int .i64 t254] 24 (0,0)) (by (with_reducible repeat (first|apply bN|apply bD|apply bA));exact BK259.out) hb);have n15_:=mK (below_step (by repeat (first|(with_reducible first|exact HB.out|apply lA|apply lN|apply lD|refine lS ?_ GE224.out|refine lS ?_ GE238.out|refine lS ?_ GE259.out)|exact HB.out)) hb);clear HO253;clear HO257;clear BK224;clear BK238;clear BK259;clear HB;have HO253:=n8_;have HO257:=n9_;have HO262:=n10_;have BK224:=n12_;have BK238:=n13_;have BK259:=n14_;have HB:=n15_;clear n8_ n9_ n10_ n12_ n13_ n14_ n15_;(try clear hb);(try clear hb2);(try clear hk);(try clear hi);(try clear ho0);(try clear ho1))|((with_reducible refine gate_dst (N:=9) rfl ?_);(try (refine gate_guard (by rfl) ?_;dsimp only));refine box_event ?hg (N:=9) ?hd (cs:=#[.slice none 0 0,.int .i64 0]) (t:=24) ?hr ?_;(case hd=>rfl);(case hg=>rfl);(case hr=>first|(go_simp;done)|(go_simp;rfl));intro gb268 hg w64 hbox hb;have n8_:=mK (Kd.V_below (Kd.V_elderB (by (with_reducible repeat (first|apply vA|apply vN|apply vD));exact HO253.out) gb268 (Nat.le_of_eq hg.symm)) hb);have n9_:=mK (Kd.R_below (by (with_reducible repeat (first|apply rA|apply rN|apply rD));exact HO257.out) hb);have n10_:=mK (Kd.V_below (Kd.V_elderB (by (with_reducible repeat (first|apply vA|apply vN|apply vD));exact HO262.out) gb268 (Nat.le_of_eq hg.symm)) hb);have n14_:=mK (blk_below (g:=gb259) (o:=.cells #[.slice Ao58 t251.length co58,.int .i64 t254] 24 (0,0)) (by (with_reducible repeat (first|apply bN|apply bD|apply bA));exact BK259.out) hb);have n15_:=mK (below_step (by repeat (first|(with_reducible first|exact HB.out|apply lA|apply lN|apply lD|refine lS ?_ GE224.out|refine lS ?_ GE238.out|refine lS ?_ GE259.out)|exact HB.out)) hb);have n16_:=mK (hbox);have n18_:=mK ((by rw [hg];exact (below_size (by repeat (first|(with_reducible first|exact HB.out|apply lA|apply lN|apply lD|refine lS ?_ GE224.out|refine lS ?_ GE238.out|refine lS ?_ GE259.out)|exact HB.out))) : w.heap.size ≤ gb268));have n19_:=mK ((by rw [hg];exact Nat.ne_of_lt (blk_lt (g:=gb224) (o:=.cells #[.slice Ao48 t239.length co48,.int .i64 t242] 24 (0,0)) (by (with_reducible repeat (first|apply bN|apply bD|apply bA));exact BK224.out)) : gb224 ≠ gb268));have n20_:=mK ((by rw [hg];exact Nat.ne_of_gt (blk_lt (g:=gb224) (o:=.cells #[.slice Ao48 t239.length co48,.int .i64 t242] 24 (0,0)) (by (with_reducible repeat (first|apply bN|apply bD|apply bA));exact BK224.out)) : gb268 ≠ gb224));have n21_:=mK ((by rw [hg];exact Nat.ne_of_lt (blk_lt (g:=gb238) (o:=.cells #[.slice Ao42 t233.length co42,.int .i64 t236] 24 (0,0)) (by (with_reducible repeat (first|apply bN|apply bD|apply bA));exact BK238.out)) : gb238 ≠ gb268));have n22_:=mK ((by rw [hg];exact Nat.ne_of_gt (blk_lt (g:=gb238) (o:=.cells #[.slice Ao42 t233.length co42,.int .i64 t236] 24 (0,0)) (by (with_reducible repeat (first|apply bN|apply bD|apply bA));exact BK238.out)) : gb268 ≠ gb238));have n23_:=mK ((by rw [hg];exact Nat.ne_of_lt (blk_lt (g:=gb259) (o:=.cells #[.slice Ao58 t251.length co58,.int .i64 t254] 24 (0,0)) (by (with_reducible repeat (first|apply bN|apply bD|apply bA));exact BK259.out)) : gb259 ≠ gb268));have n24_:=mK ((by rw [hg];exact Nat.ne_of_gt (blk_lt (g:=gb259) (o:=.cells #[.slice Ao58 t251.length co58,.int .i64 t254] 24 (0,0)) (by (with_reducible repeat (first|apply bN|apply bD|apply bA));exact BK259.out)) : gb268 ≠ gb259));clear HO253;clear HO257;clear HO262;clear BK259;clear HB;have HO253:=n8_;have HO257:=n9_;have HO262:=n10_;have BK259:=n14_;have HB:=n15_;have BK268:=n16_;have GE268:=n18_;have NB224_268:=n19_;have NB268_224:=n20_;have NB238_268:=n21_;have NB268_238:=n22_;have NB259_268:=n23_;have NB268_259:=n24_;clear n8_ n9_ n10_ n14_ n15_ n16_ n18_ n19_ n20_ n21_ n22_ n23_ n24_;clear hb hbox hg;obtain ⟨Ao65,co65,eo65⟩:=Kd.V_slice HO262.out;subst eo65;have hnb66:=NB268_224.out;have hnc66:=NB224_268.out;have hnb67:=NB268_238.out;have hnc67:=NB238_268.out;have hnb68:=NB268_259.out;have hnc68:=NB259_268.out;have hcz69_0 : w64.cell? ⟨gb268,0,none⟩ = some (.slice none 0 0):=(blk_cell BK268.out 0).trans rfl;have hcz69_1 : w64.cell? ⟨gb268,1,none⟩ = some (.int .i64 0):=(blk_cell BK268.out 1).trans rfl;have hfz69_0:=blk_frozen BK268.out 0;have hfz69_1:=blk_frozen BK268.out 1)|((with_reducible refine gate_store (t:=24) (p:=9) rfl ?_);refine store_event (t:=24) (p:=9) (v:=?vo_w70) (w1:=((w64.setCell ⟨gb268,0,none⟩ (.slice Ao65 t260.length co65)).setCell ⟨gb268,1,none⟩ (.int .i64 t263))) ?hg ?ho ?hn ?hr ?_;(case ho=>rfl);(case hg=>rfl);(case hn=>rfl);(case hr=>first|(go_simp;done)|(go_simp;rfl));intro w70 hw;have n8_ : Aside0 (Kd.V (Kd.slice 5 (Kd.int .u8)) 25 w70 w.heap.size (fun k_=>some k_ ≠ (v256 : Value).ownBlock∧some k_ ≠ (v265 : Value).ownBlock∧k_ ≠ gb224∧k_ ≠ gb238∧k_ ≠ gb259∧k_ ≠ gb268) (.slice Ao58 t251.length co58) t251):=⟨(by rw [hw];exact (by (with_reducible repeat (first|apply vA|apply vN|apply vD));exact Kd.V_mono (Kd.V_far (p:=⟨gb268,1,none⟩) (Kd.V_far (p:=⟨gb268,0,none⟩) (Kd.V_mono HO253.out (fun k_ hk=>(⟨hk,hk.2⟩ : _∧k_ ≠ gb268))) (fun _ hk=>hk.2) (.slice Ao65 t260.length co65)) (fun _ hk=>hk.2) (.int .i64 t263)) (fun _ hk=>⟨hk.1.1.1.1,⟨hk.1.1.2,⟨hk.1.1.1.2.1,⟨hk.1.1.1.2.2.1,⟨hk.1.1.1.2.2.2,hk.1.2⟩⟩⟩⟩⟩)))⟩;have n9_ : Aside0 (Kd.R (Kd.int .u8) 5 w70 w.heap.size (fun k_=>some k_ ≠ (.slice Ao25 t216.length co25 : Value).ownBlock∧some k_ ≠ (.slice Ao33 t225.length co33 : Value).ownBlock∧some k_ ≠ (v265 : Value).ownBlock) v256 t255):=⟨(by rw [hw];exact (by (with_reducible repeat (first|apply rA|apply rN|apply rD));exact Kd.R_mono (Kd.R_far (p:=⟨gb268,1,none⟩) (Kd.R_far (p:=⟨gb268,0,none⟩) (Kd.R_types HO257.out BK268.out (by decide)) (fun _ hk=>hk.2) (.slice Ao65 t260.length co65)) (fun _ hk=>hk.2) (.int .i64 t263)) (fun _ hk=>⟨hk.1.1.1,⟨hk.1.1.2,hk.1.2⟩⟩)))⟩;have n14_ : Aside0 (w70.heap[gb259]? = some (.cells #[.slice Ao58 t251.length co58,.int .i64 t254] 24 (0,0))):=⟨(by rw [hw];exact (by (with_reducible repeat (first|apply bN|apply bD|apply bA));refine blk_far ?_ NB259_268.out _;(with_reducible repeat (first|apply bN|apply bD|apply bA));refine blk_far ?_ NB259_268.out _;(with_reducible repeat (first|apply bN|apply bD|apply bA));exact BK259.out))⟩;have n16_ : Aside0 (Below w.heap.size w w70):=⟨(by rw [hw];exact (by repeat (first|(with_reducible first|exact HB.out|apply lA|apply lN|apply lD|refine lS ?_ GE224.out|refine lS ?_ GE238.out|refine lS ?_ GE259.out|refine lS ?_ GE268.out)|exact HB.out)))⟩;clear hw;clear HO253;clear HO257;clear BK259;clear HB;have HO253:=n8_;have HO257:=n9_;have BK259:=n14_;have HB:=n16_;clear n8_ n9_ n14_ n16_;obtain ⟨Ao71,co71,eo71⟩:=Kd.R_slice HO257.out;subst eo71;have p269 : 0 ≤ (0 : Int):=(by omega);have q269 : 0 < (t255.length : Int):=of_decide_eq_true (by first|(with_reducible assumption)|assumption);obtain ⟨ad269,e269,hx269_0⟩:=Kd.at_int (Kd.R_reads' HO257.out).2.2 0 p269 q269;cases e269;have qi269 : (0 < t255.length) = True:=eq_true (by omega);(try rw [show ((0 : Int)).toNat = 0 from rfl] at hx269_0);(try rw [Addr.add_zero'] at hx269_0);replace p269:=eq_true p269;replace q269:=eq_true q269;have hcz72_0 : w70.cell? ⟨gb259,0,none⟩ = some (.slice Ao58 t251.length co58):=(blk_cell BK259.out 0).trans rfl;have hcz72_1 : w70.cell? ⟨gb259,1,none⟩ = some (.int .i64 t254):=(blk_cell BK259.out 1).trans rfl;have hfz72_0:=blk_frozen BK259.out 0;have hfz72_1:=blk_frozen BK259.out 1;have p270 : 0 ≤ (0 : Int):=(by omega);have q270 : 0 < (t251.length : Int):=of_decide_eq_true (by first|(with_reducible assumption)|assumption);obtain ⟨ad270,A270_0,c270_0,e270,hx270_0,hl270_0,hi270_0⟩:=at_L1 (Kd.V_reads' HO253.out).2.2 0 p270 q270;cases e270;obtain ⟨ce270,hce270,hMe270,hcc270⟩:=Kd.V_get HO253.out [] 0 p270 (by first|exact q270|exact of_decide_eq_true (by first|(with_reducible assumption)|assumption)|(have e_:=(Kd.V_reads' HO253.out).1;omega));obtain ⟨ua270_0,uc270_0,rfl,ul270_0,ge270_0⟩:=Kd.FK_slice_open hMe270;have hv270_0:=hcc270 0 _ rfl;rw [Nat.add_zero,show ((Kd.slice 5 (Kd.int .u8))).sz = 1 from rfl,Nat.mul_one] at hv270_0;replace hv270_0:=Option.some.inj (hv270_0.symm.trans hx270_0);injection hv270_0 with hva_ hvn_ hvc_;rw [hva_] at ge270_0;rw [hvc_] at ul270_0;have HL270_0:=mK (show Kd.V (Kd.int .u8) 5 _ w.heap.size _ _ (rd_L1 t251 0) from Kd.V_mk ul270_0 ge270_0);clear hva_ hvn_ hvc_ ge270_0 ul270_0;clear hcc270 hce270;have qi270 : (0 < t251.length) = True:=eq_true (by omega);(try rw [show ((0 : Int)).toNat = 0 from rfl] at hx270_0);(try rw [Addr.add_zero'] at hx270_0);have HR270_0:=mK hi270_0;have HC270_0:=mK hl270_0;clear hi270_0 hl270_0;replace p270:=eq_true p270;replace q270:=eq_true q270;have p271 : 0 ≤ (0 : Int):=(by omega);have q271 : 0 < ((rd_L1 t251 0).length : Int):=of_decide_eq_true (by first|(with_reducible assumption)|assumption);obtain ⟨ad271,e271,hx271_0⟩:=Kd.at_int (by repeat (first|(with_reducible exact HR270_0.out)|(with_reducible refine Kd.C_alloc ?_ _)|(with_reducible refine Kd.C_drewN ?_ _)|(with_reducible refine Kd.C_drew ?_)|exact HR270_0.out)) 0 p271 q271;cases e271;have qi271 : (0 < (rd_L1 t251 0).length) = True:=eq_true (by omega);(try rw [show ((0 : Int)).toNat = 0 from rfl] at hx271_0);(try rw [Addr.add_zero'] at hx271_0);replace p271:=eq_true p271;replace q271:=eq_true q271)|(go_at_call 20;(with_reducible refine (link_Check.calls _ _ t251 t254 t272 _ ?side1 ?side2 A23.out).mono ?_);(case side1=>repeat (first|exact (Kd.V_reads' HO253.out).2.2|(with_reducible refine Kd.C_alloc ?_ _)|(with_reducible refine Kd.C_drewN ?_ _)|(with_reducible refine Kd.C_drew ?_)));(case side2=>exact (Kd.V_reads' HO253.out).2.1);rintro e w73 ⟨rfl,hb⟩;have n18_:=mK (below_step (by repeat (first|(with_reducible first|exact HB.out|apply lA|apply lN|apply lD|refine lS ?_ GE224.out|refine lS ?_ GE238.out|refine lS ?_ GE259.out|refine lS ?_ GE268.out)|exact HB.out)) hb);clear HB;have HB:=n18_;clear n18_;(try clear hb);(try clear hb2);(try clear hk);(try clear hi)))
             go_ret
             exact ⟨by first|rfl|(simp [errW_none,errW_some] <;> rfl)|(simp [*,errW_none,errW_some] <;> rfl),by repeat (first|(with_reducible first|exact HB.out|apply lA|apply lN|apply lD|refine lS ?_ GE224.out|refine lS ?_ GE238.out|refine lS ?_ GE259.out|refine lS ?_ GE268.out)|exact HB.out)⟩
           ·rw [if_neg c21] at H
            have c21b0 : ((rd (rd_L1 t251 0) 0) == 2) = false:=beq_eq_false_iff_ne.mpr c21
            have c21b1 : ((rd (rd_L1 t251 0) 0) != 2) = true:=bne_iff_ne.mpr c21
            exact absurd (H.trans (congrArg some HTr_.out)) (by simp)
          ·rw [if_neg c20] at H
           exact absurd H (by simp)
         ·rw [if_neg c19] at H
          exact absurd H (by simp)
        ·rw [if_neg c18] at H
         have c18b0 : ((t251.length : Int) == 1) = false:=beq_eq_false_iff_ne.mpr c18
         have c18b1 : ((t251.length : Int) != 1) = true:=bne_iff_ne.mpr c18
         exact absurd (H.trans (congrArg some HTr_.out)) (by simp)
       ·rw [if_neg c17] at H
        have c17b0 : ((rd t255 0) == 2) = false:=beq_eq_false_iff_ne.mpr c17
        have c17b1 : ((rd t255 0) != 2) = true:=bne_iff_ne.mpr c17
        exact absurd (H.trans (congrArg some HTr_.out)) (by simp)
      ·rw [if_neg c16] at H
       exact absurd H (by simp)
     ·rw [if_neg c15] at H
      have c15b0 : ((t255.length : Int) == 14) = false:=beq_eq_false_iff_ne.mpr c15
      have c15b1 : ((t255.length : Int) != 14) = true:=bne_iff_ne.mpr c15
      exact absurd (H.trans (congrArg some HTr_.out)) (by simp)
    ·replace c14:=Bool.eq_false_iff.mpr c14
     subst c14
     have H1 : (some false) = some r:= by rw [if_neg (show ¬ (false = true) by decide)] at H;exact H
     clear H
     have H:=H1
     clear H1
     exact absurd (H.trans (congrArg some HTr_.out)) (by simp)
  ·replace c12:=Bool.eq_false_iff.mpr c12
   subst c12
   have H1 : (some false) = some r:= by rw [if_neg (show ¬ (false = true) by decide)] at H;exact H
   clear H
   have H:=H1
   clear H1
   exact absurd (H.trans (congrArg some HTr_.out)) (by simp)
 ·replace c11:=Bool.eq_false_iff.mpr c11
  subst c11
  have H1 : (some false) = some r:= by rw [if_neg (show ¬ (false = true) by decide)] at H;exact H
  clear H
  have H:=H1
  clear H1
  exact absurd (H.trans (congrArg some HTr_.out)) (by simp)

end Go.Proofs.Ythfokiabneflpaa.P
