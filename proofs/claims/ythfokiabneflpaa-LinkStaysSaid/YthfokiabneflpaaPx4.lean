/- Contracts of functions of the seat, written by a program of this session (with the kit's print) for the laws of this claim; no condition beside what each states. -/
import Derived.Test.YthfokiabneflpaaPx0
import Derived.Test.YthfokiabneflpaaPx1
import Derived.Test.YthfokiabneflpaaPx3
namespace Go.Proofs.Ythfokiabneflpaa.P
open Go.Proofs.Ythfokiabneflpaa.Aux Go.RowKit Go.Proofs.YthfokiabneflpaaW.PrintWords Go.Proofs.YthfokiabneflpaaW.PrintLast Go.Proofs.YthfokiabneflpaaW.PrintMore
attribute [local go_sem] max2_int min2_int max_two min_two max_three min_three max_four min_four   -- for this text's walks alone
set_option linter.unusedVariables false
set_option linter.unusedSimpArgs false

/-! ### link_Drop: function 14 -/
def link_Drop.f (k : Nat) (l0_0 : List (List Int)) (a0_1 : Int) (a1 : Int) : Option ((List (List Int)) × Int) := (link_has.f l0_0 a0_1 a1 1).bind fun t156 => (if t156 = true then (if 0 ≤ a1 then (if a1 ≤ (l0_0.length : Int) then (if 0 ≤ (wrap64 (a1 + 1)) then (if (wrap64 (a1 + 1)) ≤ (l0_0.length : Int) then ((slices_Concat_byte_byte.f k (([(l0_0.take (a1 : Int).toNat), (l0_0.drop ((wrap64 (a1 + 1)) : Int).toNat)] : List (List (List Int))))).bind fun t170 => ((link_with.f k l0_0 a0_1 t170).bind fun bt173 => (some (bt173.1, bt173.2)))) else (none)) else (none)) else (none)) else (none)) else (some (l0_0, a0_1)))
theorem link_Drop.mono : ∀ a0 a1 a2 k, LeO (link_Drop.f k a0 a1 a2) (link_Drop.f (k + 1) a0 a1 a2) := by
 intro a0 a1 a2 k
 unfold link_Drop.f
 repeat' first
   | (with_reducible exact link_with.mono _ _ _ _)
   | (with_reducible exact slices_Concat_byte_byte.mono _ _)
   | (with_reducible exact LeO.refl _)
   | (with_reducible exact LeO.none _)
   | (with_reducible refine LeO.ite ?_ ?_)
   | (with_reducible refine LeO.bind ?_ (fun _ => ?_))
   | exact link_with.mono _ _ _ _
   | exact slices_Concat_byte_byte.mono _ _
   | exact LeO.none _
   | refine LeO.ite ?_ ?_
   | refine LeO.bind ?_ (fun _ => ?_)
def link_Drop.T3 : Bool × List (List Nat × List Nat) := (true, [([], []), ([], []), ([1], [1]), ([], []), ([2, 3], [2, 3]), ([], []), ([5], [5]), ([], []), ([7], [7]), ([6, 8], [6, 8]), ([4, 9], [4, 9]), ([10], [10]), ([0, 11, 11], [0, 11]), ([12, 12, 0, 1, 2, 3, 4, 5, 6, 7, 8, 9, 10, 11, 12], [12])])
def link_Drop.B3 : List Nat := [0, 0, 2, 0, 14, 0, 32, 0, 128, 480, 1022, 2046, 4095, 8191]
theorem link_Drop.tab3 : rtab .any (opsOf Try.f14 3) = link_Drop.T3 := by kernel_rfl
theorem link_Drop.bits3 : waitsOk link_Drop.T3.2 link_Drop.B3 = true := by kernel_rfl
set_option maxHeartbeats 8000000 in
set_option maxRecDepth 100000 in
theorem link_Drop.calls (k : Nat) (P0_0_ : Nat → Prop) (A0_0 : Option Addr) (c0_0 : Nat) (l0_0 : List (List Int)) (a0_1 : Int) (a1 : Int) (r1 : List (List Int)) (r2 : Int) (w : World) (hs0_0 : Kd.V (Kd.slice 5 (Kd.int .u8)) 25 w w.heap.size (fun k_ => P0_0_ k_) (.slice A0_0 l0_0.length c0_0) l0_0) (h : link_Drop.f k l0_0 a0_1 a1 = some (r1, r2)) :
  Calls Try.prog 14 #[.agg #[.slice A0_0 l0_0.length c0_0, .int .i64 a0_1], .int .i64 a1] w fun e w' => ∃ v0_ : Value, e = .returned (.agg #[v0_, .int .i64 r2]) ∧ Kd.V (Kd.slice 5 (Kd.int .u8)) 25 w' w.heap.size (fun k_ => (P0_0_ k_ ∨ w.heap.size ≤ k_)) v0_ r1 ∧ Below w.heap.size w w' := by
 have hu24:=Try.underlying24
 have HO0_0:=mK (show Kd.V (Kd.slice 5 (Kd.int .u8)) 25 w w.heap.size (fun k_=>(P0_0_ k_ ∨ w.heap.size ≤ k_)) (.slice A0_0 l0_0.length c0_0) l0_0 from Kd.V_mono hs0_0 (fun k_ hk=>.inl hk))
 have HB:=mK (Below.refl w.heap.size w)
 have H : ((link_has.f l0_0 a0_1 a1 1).bind fun t156=>(if t156 = true then (if 0 ≤ a1 then (if a1 ≤ (l0_0.length : Int) then (if 0 ≤ (wrap64 (a1 + 1)) then (if (wrap64 (a1 + 1)) ≤ (l0_0.length : Int) then ((slices_Concat_byte_byte.f k (([(l0_0.take (a1 : Int).toNat),(l0_0.drop ((wrap64 (a1 + 1)) : Int).toNat)] : List (List (List Int))))).bind fun t170=>((link_with.f k l0_0 a0_1 t170).bind fun bt173=>(some (bt173.1,bt173.2)))) else (none)) else (none)) else (none)) else (none)) else (some (l0_0,a0_1)))) = some (r1,r2):=h
 clear h
 replace H:=Option.bind_eq_some_iff.mp H
 obtain ⟨t156,A30,H⟩:=H
 replace H : (if t156 = true then (if 0 ≤ a1 then (if a1 ≤ (l0_0.length : Int) then (if 0 ≤ (wrap64 (a1 + 1)) then (if (wrap64 (a1 + 1)) ≤ (l0_0.length : Int) then ((slices_Concat_byte_byte.f k (([(l0_0.take (a1 : Int).toNat),(l0_0.drop ((wrap64 (a1 + 1)) : Int).toNat)] : List (List (List Int))))).bind fun t170=>((link_with.f k l0_0 a0_1 t170).bind fun bt173=>(some (bt173.1,bt173.2)))) else (none)) else (none)) else (none)) else (none)) else (some (l0_0,a0_1))) = some (r1,r2):=H
 have A3:=mK A30
 clear A30
 by_cases c4 : t156 = true
 ·subst c4
  have H1 : (if 0 ≤ a1 then (if a1 ≤ (l0_0.length : Int) then (if 0 ≤ (wrap64 (a1 + 1)) then (if (wrap64 (a1 + 1)) ≤ (l0_0.length : Int) then ((slices_Concat_byte_byte.f k (([(l0_0.take (a1 : Int).toNat),(l0_0.drop ((wrap64 (a1 + 1)) : Int).toNat)] : List (List (List Int))))).bind fun t170=>((link_with.f k l0_0 a0_1 t170).bind fun bt173=>(some (bt173.1,bt173.2)))) else (none)) else (none)) else (none)) else (none)) = some (r1,r2):= by rw [if_pos rfl] at H;exact H
  clear H
  have H:=H1
  clear H1
  by_cases c5 : 0 ≤ a1
  ·rw [if_pos c5] at H
   have c5b0:=eq_true c5
   have c5b1 : decide (0 ≤ a1) = true:=decide_eq_true c5
   clear c5
   by_cases c6 : a1 ≤ (l0_0.length : Int)
   ·rw [if_pos c6] at H
    have c6b0:=eq_true c6
    have c6b1 : decide (a1 ≤ (l0_0.length : Int)) = true:=decide_eq_true c6
    clear c6
    obtain ⟨y157,hy157⟩ : ∃ y_ : List (List Int),y_ = (l0_0.take (a1 : Int).toNat):=⟨_,rfl⟩
    replace H : (if 0 ≤ (wrap64 (a1 + 1)) then (if (wrap64 (a1 + 1)) ≤ (l0_0.length : Int) then ((slices_Concat_byte_byte.f k (([y157,(l0_0.drop ((wrap64 (a1 + 1)) : Int).toNat)] : List (List (List Int))))).bind fun t170=>((link_with.f k l0_0 a0_1 t170).bind fun bt173=>(some (bt173.1,bt173.2)))) else (none)) else (none)) = some (r1,r2):= by first|(rw [hy157];with_reducible exact H)|(have H2_:=(Option.bind_some _ _).symm.trans H;rw [hy157];with_reducible exact H2_)|(have H2_:=(Option.bind_some _ _).symm.trans H;with_reducible exact H2_)|with_reducible exact H|(rw [hy157];exact H)|exact H
    have Ny157:=mK hy157
    clear hy157
    obtain ⟨ji7,hji7⟩ : ∃ j_ : Int,(wrap64 (a1 + 1)) = j_:=⟨_,rfl⟩
    replace H : (if 0 ≤ (ji7) then (if (ji7) ≤ (l0_0.length : Int) then ((slices_Concat_byte_byte.f k (([y157,(l0_0.drop ((ji7) : Int).toNat)] : List (List (List Int))))).bind fun t170=>((link_with.f k l0_0 a0_1 t170).bind fun bt173=>(some (bt173.1,bt173.2)))) else (none)) else (none)) = some (r1,r2):= by first|(rw [hji7] at H;exact H)|(simp only [hji7] at H ⊢; exact H)
    (try rw [hji7] at A3)
    have hji7w : (IntKind.i64.wrap (a1 + 1)) = ji7:=(i64_w _).trans hji7
    by_cases c8 : 0 ≤ (ji7)
    ·rw [if_pos c8] at H
     have c8b0:=eq_true c8
     have c8b1 : decide (0 ≤ (ji7)) = true:=decide_eq_true c8
     clear c8
     by_cases c9 : (ji7) ≤ (l0_0.length : Int)
     ·rw [if_pos c9] at H
      have c9b0:=eq_true c9
      have c9b1 : decide ((ji7) ≤ (l0_0.length : Int)) = true:=decide_eq_true c9
      clear c9
      obtain ⟨y162,hy162⟩ : ∃ y_ : List (List Int),y_ = (l0_0.drop ((ji7) : Int).toNat):=⟨_,rfl⟩
      replace H : ((slices_Concat_byte_byte.f k (([y157,y162] : List (List (List Int))))).bind fun t170=>((link_with.f k l0_0 a0_1 t170).bind fun bt173=>(some (bt173.1,bt173.2)))) = some (r1,r2):= by first|(rw [hy162];with_reducible exact H)|(have H2_:=(Option.bind_some _ _).symm.trans H;rw [hy162];with_reducible exact H2_)|(have H2_:=(Option.bind_some _ _).symm.trans H;with_reducible exact H2_)|with_reducible exact H|(rw [hy162];exact H)|exact H
      have Ny162:=mK hy162
      clear hy162
      obtain ⟨y167,hy167⟩ : ∃ y_ : List (List (List Int)),y_ = (([y157,y162] : List (List (List Int)))):=⟨_,rfl⟩
      replace H : ((slices_Concat_byte_byte.f k y167).bind fun t170=>((link_with.f k l0_0 a0_1 t170).bind fun bt173=>(some (bt173.1,bt173.2)))) = some (r1,r2):= by first|(rw [hy167];with_reducible exact H)|(have H2_:=(Option.bind_some _ _).symm.trans H;rw [hy167];with_reducible exact H2_)|(have H2_:=(Option.bind_some _ _).symm.trans H;with_reducible exact H2_)|with_reducible exact H|(rw [hy167];exact H)|exact H
      have Ny167:=mK hy167
      clear hy167
      replace H:=Option.bind_eq_some_iff.mp H
      obtain ⟨t170,A100,H⟩:=H
      replace H : ((link_with.f k l0_0 a0_1 t170).bind fun bt173=>(some (bt173.1,bt173.2))) = some (r1,r2):=H
      have A10:=mK A100
      clear A100
      replace H:=Option.bind_eq_some_iff.mp H
      obtain ⟨⟨t173,t176⟩,A110,H⟩:=H
      replace H : (some (t173,t176)) = some (r1,r2):=H
      have A11:=mK A110
      clear A110
      simp only [Option.some.injEq,Prod.mk.injEq] at H
      obtain ⟨rfl,rfl⟩:=H
      go_enter Try.func14,Try.ntmps14
      try go_wp2_with (first|((with_reducible refine gate_dst (N:=2) rfl ?_);refine box_event ?hg (N:=2) ?hd (cs:=#[.slice A0_0 l0_0.length c0_0,.int .i64 a0_1]) (t:=24) ?hr ?_;(case hd=>rfl);(case hg=>rfl);(case hr=>first|(go_simp;done)|(go_simp;rfl));intro gb154 hg w12 hbox hb;have n0_:=mK (Kd.V_below (Kd.V_elderB (by (with_reducible repeat (first|apply vA|apply vN|apply vD));exact HO0_0.out) gb154 (Nat.le_of_eq hg.symm)) hb);have n1_:=mK (below_step (by repeat (first|(with_reducible first|exact HB.out|apply lA|apply lN|apply lD)|exact HB.out)) hb);have n2_:=mK (hbox);have n4_:=mK ((by rw [hg];exact (below_size (by repeat (first|(with_reducible first|exact HB.out|apply lA|apply lN|apply lD)|exact HB.out))) : w.heap.size ≤ gb154));clear HO0_0;clear HB;have HO0_0:=n0_;have HB:=n1_;have BK154:=n2_;have GE154:=n4_;clear n0_ n1_ n2_ n4_;clear hb hbox hg)|((with_reducible refine gate_dst (N:=4) rfl ?_);refine box_event ?hg (N:=4) ?hd (cs:=#[.slice none 0 0,.int .i64 0]) (t:=24) ?hr ?_;(case hd=>rfl);(case hg=>rfl);(case hr=>first|(go_simp;done)|(go_simp;rfl));intro gb155 hg w13 hbox hb;have n0_:=mK (Kd.V_below (Kd.V_elderB (by (with_reducible repeat (first|apply vA|apply vN|apply vD));exact HO0_0.out) gb155 (Nat.le_of_eq hg.symm)) hb);have n1_:=mK (blk_below (g:=gb154) (o:=.cells #[.slice A0_0 l0_0.length c0_0,.int .i64 a0_1] 24 (0,0)) (by (with_reducible repeat (first|apply bN|apply bD|apply bA));exact BK154.out) hb);have n2_:=mK (below_step (by repeat (first|(with_reducible first|exact HB.out|apply lA|apply lN|apply lD|refine lS ?_ GE154.out)|exact HB.out)) hb);have n3_:=mK (hbox);have n5_:=mK ((by rw [hg];exact (below_size (by repeat (first|(with_reducible first|exact HB.out|apply lA|apply lN|apply lD|refine lS ?_ GE154.out)|exact HB.out))) : w.heap.size ≤ gb155));have n6_:=mK ((by rw [hg];exact Nat.ne_of_lt (blk_lt (g:=gb154) (o:=.cells #[.slice A0_0 l0_0.length c0_0,.int .i64 a0_1] 24 (0,0)) (by (with_reducible repeat (first|apply bN|apply bD|apply bA));exact BK154.out)) : gb154 ≠ gb155));have n7_:=mK ((by rw [hg];exact Nat.ne_of_gt (blk_lt (g:=gb154) (o:=.cells #[.slice A0_0 l0_0.length c0_0,.int .i64 a0_1] 24 (0,0)) (by (with_reducible repeat (first|apply bN|apply bD|apply bA));exact BK154.out)) : gb155 ≠ gb154));clear HO0_0;clear BK154;clear HB;have HO0_0:=n0_;have BK154:=n1_;have HB:=n2_;have BK155:=n3_;have GE155:=n5_;have NB154_155:=n6_;have NB155_154:=n7_;clear n0_ n1_ n2_ n3_ n5_ n6_ n7_;clear hb hbox hg;have hnb14:=NB154_155.out;have hnc14:=NB155_154.out;have hcz15_0 : w13.cell? ⟨gb154,0,none⟩ = some (.slice A0_0 l0_0.length c0_0):=(blk_cell BK154.out 0).trans rfl;have hcz15_1 : w13.cell? ⟨gb154,1,none⟩ = some (.int .i64 a0_1):=(blk_cell BK154.out 1).trans rfl;have hfz15_0:=blk_frozen BK154.out 0;have hfz15_1:=blk_frozen BK154.out 1)|((with_reducible refine gate_callee (f:=29) rfl ?_);refine goesL_ (some 7) rfl rfl Try.func29 (by kernel_rfl) rfl #[.agg #[.slice A0_0 l0_0.length c0_0,.int .i64 a0_1],.int .i64 a1,.int .i64 1] rfl (by (try simp only [List.map_toArray,List.map_cons,List.map_nil]);first|done|rfl|(simp only [List.length_drop,List.length_take];rfl)) ?_;(with_reducible refine (link_has.calls _ _ l0_0 a0_1 a1 1 true _ ?side1 ?side2 A3.out).mono ?_);(case side1=>repeat (first|exact (Kd.V_reads' HO0_0.out).2.2|(with_reducible refine Kd.C_alloc ?_ _)|(with_reducible refine Kd.C_drewN ?_ _)|(with_reducible refine Kd.C_drew ?_)));(case side2=>exact (Kd.V_reads' HO0_0.out).2.1);rintro e w16 ⟨rfl,hb⟩;refine ⟨_,rfl,?_⟩;have n0_:=mK (Kd.V_below (by (with_reducible repeat (first|apply vA|apply vN|apply vD));exact HO0_0.out) hb);have n1_:=mK (blk_below (g:=gb154) (o:=.cells #[.slice A0_0 l0_0.length c0_0,.int .i64 a0_1] 24 (0,0)) (by (with_reducible repeat (first|apply bN|apply bD|apply bA));exact BK154.out) hb);have n2_:=mK (blk_below (g:=gb155) (o:=.cells #[.slice none 0 0,.int .i64 0] 24 (0,0)) (by (with_reducible repeat (first|apply bN|apply bD|apply bA));exact BK155.out) hb);have n3_:=mK (below_step (by repeat (first|(with_reducible first|exact HB.out|apply lA|apply lN|apply lD|refine lS ?_ GE154.out|refine lS ?_ GE155.out)|exact HB.out)) hb);clear HO0_0;clear BK154;clear BK155;clear HB;have HO0_0:=n0_;have BK154:=n1_;have BK155:=n2_;have HB:=n3_;clear n0_ n1_ n2_ n3_;(try clear hb);(try clear hb2);(try clear hk);(try clear hi)))
      have n0_:=mK (Kd.V_drew HO0_0.out)
      have n1_:=mK (blk_drew BK154.out)
      have n2_:=mK (blk_drew BK155.out)
      have n3_:=mK (below_drew1 HB.out)
      clear HO0_0
      clear BK154
      clear BK155
      clear HB
      have HO0_0:=n0_
      have BK154:=n1_
      have BK155:=n2_
      have HB:=n3_
      clear n0_ n1_ n2_ n3_
      have q18 : (a1 : Int) ≤ ((l0_0.length : Int) : Int):=of_decide_eq_true (by first|(with_reducible assumption)|assumption)
      obtain ⟨i018,hi018,_,hsz18,_⟩:=info_parts info25
      have hroom18 : l0_0.length ≤ c0_0:=(Kd.V_reads' HO0_0.out).2.1
      have hC18 : Kd.F (Kd.slice 5 (Kd.int .u8)) _ _ A0_0 l0_0.length l0_0:=(Kd.V_at (base:=w.heap.size) HO0_0.out).2.2
      have hcut18:=cut_to (P:=Try.prog) 22 25 .i64 Try.underlying22 hi018 A0_0 l0_0.length c0_0 a1 (of_decide_eq_true (by first|(with_reducible assumption)|assumption)) q18 hroom18
      have hr18:=Kd.F_take (m:=(a1 : Int).toNat) hC18 (by omega)
      have hy18 : y157.length = (a1 : Int).toNat:=(by rw [Ny157.out,List.length_take];omega)
      rw [← Ny157.out] at hr18
      rw [← hy18] at hcut18
      have HO161:=mK (show Kd.V (Kd.slice 5 (Kd.int .u8)) 25 _ w.heap.size _ (.slice A0_0 y157.length c0_0) y157 from Kd.V_mk (by omega) hr18)
      have HC161:=mK (show y157.length ≤ c0_0 from by omega)
      clear hr18 hC18 hroom18 hi018 hsz18
      have KY18:=mK hy18
      clear hy18
      replace q18:=eq_true q18
      have q19 : ((ji7) : Int) ≤ ((l0_0.length : Int) : Int):=of_decide_eq_true (by first|(with_reducible assumption)|assumption)
      obtain ⟨i019,hi019,_,hsz19,_⟩:=info_parts info25
      have hroom19 : l0_0.length ≤ c0_0:=(Kd.V_reads' HO0_0.out).2.1
      have hC19 : Kd.F (Kd.slice 5 (Kd.int .u8)) _ _ A0_0 l0_0.length l0_0:=(Kd.V_at (base:=w.heap.size) HO0_0.out).2.2
      have q019 : (0 : Int) ≤ ((ji7) : Int):=of_decide_eq_true (by first|(with_reducible assumption)|assumption)
      have hcut19:=cut_from (P:=Try.prog) 22 25 .i64 Try.underlying22 hi019 1 hsz19 A0_0 l0_0.length c0_0 (ji7) q019 q19
      have hr19:=Kd.F_cut (m:=((ji7) : Int).toNat) (c:=c0_0) hC19 (by omega) hroom19
      obtain ⟨A19,hA19⟩ : ∃ A1,A1 = (if c0_0 = ((ji7) : Int).toNat then A0_0 else (A0_0 : Option Addr).map (·.add (((ji7) : Int).toNat * 1))):=⟨_,rfl⟩
      obtain ⟨c19,hc19⟩ : ∃ c1,c1 = c0_0 - ((ji7) : Int).toNat:=⟨_,rfl⟩
      have hy19 : y162.length = l0_0.length - ((ji7) : Int).toNat:=(by rw [Ny162.out,List.length_drop] <;> omega)
      rw [show (l0_0).drop ((ji7) : Int).toNat = y162 from Ny162.out.symm] at hr19
      replace hr19 : Kd.F (Kd.slice 5 (Kd.int .u8)) _ _ A19 y162.length y162:=(by rw [hA19];exact hr19)
      rw [← hy19,← hA19,← hc19] at hcut19
      have HO166:=mK (show Kd.V (Kd.slice 5 (Kd.int .u8)) 25 _ w.heap.size _ (.slice A19 y162.length c19) y162 from Kd.V_mk (by rw [hy19,hc19];exact Nat.sub_le_sub_right hroom19 _) hr19)
      have HC166:=mK (show y162.length ≤ c19 from by rw [hy19,hc19];exact Nat.sub_le_sub_right hroom19 _)
      clear hr19 hC19 hroom19 hi019 hsz19 hc19
      have KY19:=mK hy19
      have KA19:=mK hA19
      clear hy19 hA19
      replace q19:=eq_true q19
      refine start_ (n:=14) (S:= fun w'=>w'.cell? ⟨gb154,0,none⟩ = some (.slice A0_0 l0_0.length c0_0)∧w'.cell? ⟨gb154,1,none⟩ = some (.int .i64 a0_1)) (ds:=[]) #[φ,φ,φ,φ,φ,φ,φ,φ,φ,φ,φ,φ,φ,φ] (by kernel_rfl) rfl rfl ⟨(blk_cell BK154.out 0).trans rfl,(blk_cell BK154.out 1).trans rfl⟩ (fun hHeld=>?_);refine with_tabW link_Drop.tab3 link_Drop.bits3 (fun HT_ HW_=>?_)
      generalize w16.drew = w17 at HO0_0 BK154 BK155 HB HO161 HO166 hHeld ⊢
      refine pure_ (i:=1) (N:=some 11) (v:=?_) (a':=?_) #[φ,τ,φ,φ,φ,φ,φ,φ,φ,φ,φ,φ,φ,φ] rfl rfl (any_of HT_.out (by kernel_rfl)) (fun _ _ _ h=>h) (Or.inl ⟨by rfl,?_⟩) ?_ ?_
      rotate_left
      ·intro w'
       go_simp
       with_reducible rfl
      rotate_left
      ·simp only [Act.put,sT,sZ,sS,i64_w,i32_w]
       rfl
      refine pure_ (i:=3) (N:=some 13) (v:=?_) (a':=?_) #[φ,τ,φ,τ,φ,φ,φ,φ,φ,φ,φ,φ,φ,φ] rfl rfl (any_of HT_.out (by kernel_rfl)) (fun _ _ _ h=>h) (Or.inl ⟨by rfl,?_⟩) ?_ ?_
      rotate_left
      ·intro w'
       go_simp
       with_reducible rfl
      rotate_left
      ·simp only [Act.put,sT,sZ,sS,i64_w,i32_w]
       rfl
      refine pure_ (i:=5) (N:=some 15) (v:=?_) (a':=?_) #[φ,τ,φ,τ,φ,τ,φ,φ,φ,φ,φ,φ,φ,φ] rfl rfl (any_of HT_.out (by kernel_rfl)) (fun _ _ _ h=>h) (Or.inl ⟨by rfl,?_⟩) ?_ ?_
      rotate_left
      ·intro w'
       go_simp
       with_reducible rfl
      rotate_left
      ·simp only [Act.put,sT,sZ,sS,i64_w,i32_w]
       rfl
      refine pure_ (i:=7) (N:=some 17) (v:=?_) (a':=?_) #[φ,τ,φ,τ,φ,τ,φ,τ,φ,φ,φ,φ,φ,φ] rfl rfl (any_of HT_.out (by kernel_rfl)) (fun _ _ _ h=>h) (Or.inl ⟨by rfl,?_⟩) ?_ ?_
      rotate_left
      ·intro w'
       go_simp
       with_reducible rfl
      rotate_left
      ·simp only [Act.put,sT,sZ,sS,i64_w,i32_w]
       rfl
      refine pure_ (i:=8) (N:=some 18) (v:=?_) (a':=?_) #[φ,τ,φ,τ,φ,τ,φ,τ,τ,φ,φ,φ,φ,φ] rfl rfl (any_of HT_.out (by kernel_rfl)) (fun _ _ _ h=>h) (Or.inl ⟨by rfl,?_⟩) ?_ ?_
      rotate_left
      ·intro w'
       go_simp
       with_reducible rfl
      rotate_left
      ·simp only [Act.put,sT,sZ,sS,i64_w,i32_w]
       rfl
      refine take_ (i:=0) (N:=some 10) (v:=?_) (a':=?_) #[τ,τ,φ,τ,φ,τ,φ,τ,τ,φ,φ,φ,φ,φ] rfl rfl (take_ofW HT_.out HW_.out (by kernel_rfl)) (fun _ _ _ h=>h) (Or.inl ⟨by rfl,?_⟩) hHeld ?_ ?_
      rotate_left
      ·rintro w' ⟨s0,s1⟩
       go_simp
       with_reducible rfl
      rotate_left
      ·simp only [Act.put,sT,sZ,sS,i64_w,i32_w]
       rfl
      refine take_ (i:=2) (N:=some 12) (v:=?_) (a':=?_) #[τ,τ,τ,τ,φ,τ,φ,τ,τ,φ,φ,φ,φ,φ] rfl rfl (take_ofW HT_.out HW_.out (by kernel_rfl)) (fun _ _ _ h=>h) (Or.inl ⟨by rfl,?_⟩) hHeld ?_ ?_
      rotate_left
      ·rintro w' ⟨s0,s1⟩
       go_simp
       with_reducible rfl
      rotate_left
      ·simp only [Act.put,sT,sZ,sS,i64_w,i32_w]
       rfl
      refine pure_ (i:=4) (N:=some 14) (v:=?_) (a':=?_) #[τ,τ,τ,τ,τ,τ,φ,τ,τ,φ,φ,φ,φ,φ] rfl rfl (any_of HT_.out (by kernel_rfl)) (fun _ _ _ h=>h) (Or.inl ⟨by rfl,?_⟩) ?_ ?_
      rotate_left
      ·intro w'
       go_simp
       with_reducible rfl
      rotate_left
      ·simp only [Act.put,sT,sZ,sS,i64_w,i32_w]
       rfl
      refine take_ (i:=6) (N:=some 16) (v:=?_) (a':=?_) #[τ,τ,τ,τ,τ,τ,τ,τ,τ,φ,φ,φ,φ,φ] rfl rfl (take_ofW HT_.out HW_.out (by kernel_rfl)) (fun _ _ _ h=>h) (Or.inl ⟨by rfl,?_⟩) hHeld ?_ ?_
      rotate_left
      ·rintro w' ⟨s0,s1⟩
       go_simp
       with_reducible rfl
      rotate_left
      ·simp only [Act.put,sT,sZ,sS,i64_w,i32_w]
       rfl
      refine pure_ (i:=9) (N:=some 19) (v:=?_) (a':=?_) #[τ,τ,τ,τ,τ,τ,τ,τ,τ,τ,φ,φ,φ,φ] rfl rfl (any_of HT_.out (by kernel_rfl)) (fun _ _ _ h=>h) (Or.inl ⟨by rfl,?_⟩) ?_ ?_
      rotate_left
      ·intro w'
       go_simp
       with_reducible rfl
      rotate_left
      ·simp only [Act.put,sT,sZ,sS,i64_w,i32_w]
       rfl
      refine one_ (i:=10) (N:=some 20) #[τ,τ,τ,τ,τ,τ,τ,τ,τ,τ,τ,φ,φ,φ] rfl rfl (one_of HT_.out (by kernel_rfl)) (by decide) (fun K hK=>?_)
      refine Kd.N_lit_step (Kd.slice 25 (Kd.slice 5 (Kd.int .u8))) _ 22 ?hg (N':=20) ?hd (xs:=([y157,y162] : List (List (List Int)))) (inner:=[.slice A0_0 y157.length c0_0,.slice A19 y162.length c19]) (ok:=(fun k_=>(P0_0_ k_ ∨ w.heap.size ≤ k_)∧k_ ≠ gb154∧k_ ≠ gb155)) (okp:=(fun k_=>(P0_0_ k_ ∨ w.heap.size ≤ k_)∧k_ ≠ gb154∧k_ ≠ gb155)) ?hr ?hp (fun _ hk=>hk) ((show ∀ k_,w17.heap.size ≤ k_ → (fun k_=>(P0_0_ k_ ∨ w.heap.size ≤ k_)∧k_ ≠ gb154∧k_ ≠ gb155) k_ from fun k_ hk=>⟨(.inr (Nat.le_trans (below_size (by repeat (first|(with_reducible first|exact HB.out|apply lA|apply lN|apply lD|refine lS ?_ GE154.out|refine lS ?_ GE155.out)|exact HB.out))) hk)),Kd.freshB (g:=gb154) (o:=.cells #[.slice A0_0 l0_0.length c0_0,.int .i64 a0_1] 24 (0,0)) (by (with_reducible repeat (first|apply bN|apply bD|apply bA));exact BK154.out) k_ hk,Kd.freshB (g:=gb155) (o:=.cells #[.slice none 0 0,.int .i64 0] 24 (0,0)) (by (with_reducible repeat (first|apply bN|apply bD|apply bA));exact BK155.out) k_ hk⟩) _ (Nat.le_refl _)) (Below.refl _ _) (Nat.le_refl _) (by simp) ?_;(case hd=>rfl);(case hg=>rfl);(case hr=>first|(go_simp;done)|(go_simp;rfl));(case hp=>exact (Reps.one (show Kd.FK (Kd.slice 25 (Kd.slice 5 (Kd.int .u8))) _ _ y157 [.slice A0_0 y157.length c0_0] from (Kd.FK_slice_mk (Kd.V_reads' (Kd.V_mono (ok':=(fun k_=>(P0_0_ k_ ∨ w.heap.size ≤ k_)∧k_ ≠ gb154∧k_ ≠ gb155)) (HO161.out) (fun k_ hk=>⟨hk.1.1,⟨hk.1.2,hk.2⟩⟩))).2.1 (Kd.V_F (Kd.V_mono (ok':=(fun k_=>(P0_0_ k_ ∨ w.heap.size ≤ k_)∧k_ ≠ gb154∧k_ ≠ gb155)) (HO161.out) (fun k_ hk=>⟨hk.1.1,⟨hk.1.2,hk.2⟩⟩))))) (Reps.one (show Kd.FK (Kd.slice 25 (Kd.slice 5 (Kd.int .u8))) _ _ y162 [.slice A19 y162.length c19] from (Kd.FK_slice_mk (Kd.V_reads' (Kd.V_mono (ok':=(fun k_=>(P0_0_ k_ ∨ w.heap.size ≤ k_)∧k_ ≠ gb154∧k_ ≠ gb155)) (HO166.out) (fun k_ hk=>⟨hk.1.1,⟨hk.1.2,hk.2⟩⟩))).2.1 (Kd.V_F (Kd.V_mono (ok':=(fun k_=>(P0_0_ k_ ∨ w.heap.size ≤ k_)∧k_ ≠ gb154∧k_ ≠ gb155)) (HO166.out) (fun k_ hk=>⟨hk.1.1,⟨hk.1.2,hk.2⟩⟩))))) (Reps.none _ _))))
      intro v168 w20 ho21 hb hg_ hnew_
      clear hg_ hnew_
      (first|rw [← Ny167.out] at ho21|(simp only [Int.reduceToNat] at ho21;rw [← Ny167.out] at ho21))
      have n0_:=mK (Kd.V_elder' (by (with_reducible repeat (first|apply vA|apply vN|apply vD));exact HO0_0.out) (by first|exact Kd.N_base ho21|exact Kd.R_base (Kd.S_R ho21)) hb)
      have n3_:=mK (Kd.N_lower ho21 (below_size (by repeat (first|(with_reducible first|exact HB.out|apply lA|apply lN|apply lD|refine lS ?_ GE154.out|refine lS ?_ GE155.out)|exact HB.out))))
      have n4_:=mK (blk_below (g:=gb154) (o:=.cells #[.slice A0_0 l0_0.length c0_0,.int .i64 a0_1] 24 (0,0)) (by (with_reducible repeat (first|apply bN|apply bD|apply bA));exact BK154.out) hb)
      have n5_:=mK (blk_below (g:=gb155) (o:=.cells #[.slice none 0 0,.int .i64 0] 24 (0,0)) (by (with_reducible repeat (first|apply bN|apply bD|apply bA));exact BK155.out) hb)
      have n6_:=mK (below_step (by repeat (first|(with_reducible first|exact HB.out|apply lA|apply lN|apply lD|refine lS ?_ GE154.out|refine lS ?_ GE155.out)|exact HB.out)) hb)
      clear HO0_0
      clear BK154
      clear BK155
      clear HB
      have HO0_0:=n0_
      have HO169:=n3_
      have BK154:=n4_
      have BK155:=n5_
      have HB:=n6_
      clear n0_ n3_ n4_ n5_ n6_
      clear hb ho21
      obtain ⟨Ao22,co22,eo22⟩:=Kd.N_slice HO169.out
      (first|subst eo22|(injection eo22 with f1_ f2_ f3_;have f4_:=f1_.symm;have f5_:=f3_.symm;clear f1_ f2_ f3_;subst f4_;subst f5_))
      refine hK.out _ _ ⟨(blk_cell BK154.out 0).trans rfl,(blk_cell BK154.out 1).trans rfl⟩ (fun hHeld=>?_)
      clear hK K
      refine norm_ (a':=?_) ?_ ?_
      rotate_left
      ·show Act.put _ (some 20) _ = _
       simp only [Act.put,sT,sZ,sS,i64_w,i32_w]
       rfl
      refine one_ (i:=11) (N:=some 21) #[τ,τ,τ,τ,τ,τ,τ,τ,τ,τ,τ,τ,φ,φ] rfl rfl (one_of HT_.out (by kernel_rfl)) (by decide) (fun K hK=>?_)
      refine goes_ Try.func30 (by kernel_rfl) rfl #[.slice Ao22 y167.length co22] (by rfl) rfl rfl (by (try simp only [List.map_toArray,List.map_cons,List.map_nil]);first|done|rfl|(simp only [List.length_drop,List.length_take];rfl)) ?_
      with_reducible refine (slices_Concat_byte_byte.calls k (fun k_=>((P0_0_ k_ ∨ w.heap.size ≤ k_)∧(k_ ≠ gb154∧k_ ≠ gb155))) _ _ y167 t170 _ ?side1 A10.out).mono ?_
      (case side1=>exact Kd.N_V (HO169.out))
      rintro e w23 ⟨v171,rfl,ho0,hb⟩
      refine ⟨_,rfl,?_⟩
      have n0_:=mK (Kd.V_elder' (by (with_reducible repeat (first|apply vA|apply vN|apply vD));exact HO0_0.out) (by first|exact Kd.N_base ho0|exact Kd.R_base (Kd.S_R ho0)) hb)
      have n3_:=mK (Kd.N_elder' (by (with_reducible repeat (first|apply Kd.N_alloc|apply Kd.N_drewN|apply Kd.N_drew));exact HO169.out) (by first|exact Kd.N_base ho0|exact Kd.R_base (Kd.S_R ho0)) hb)
      have n4_:=mK (Kd.N_lower (Kd.N_mono (ok':= fun k_=>(P0_0_ k_ ∨ w.heap.size ≤ k_)∧k_ ≠ gb154∧k_ ≠ gb155) ho0 (fun k_ hk_=>⟨Or.elim hk_ (fun hs_=>hs_.1) (fun hn_=>(.inr (Nat.le_trans (below_size (by repeat (first|(with_reducible first|exact HB.out|apply lA|apply lN|apply lD|refine lS ?_ GE154.out|refine lS ?_ GE155.out)|exact HB.out))) hn_))),Or.elim hk_ (fun hs_=>hs_.2.1) (fun hn_=>(Kd.freshB (g:=gb154) (o:=.cells #[.slice A0_0 l0_0.length c0_0,.int .i64 a0_1] 24 (0,0)) (by (with_reducible repeat (first|apply bN|apply bD|apply bA));exact BK154.out) k_ hn_)),Or.elim hk_ (fun hs_=>hs_.2.2) (fun hn_=>(Kd.freshB (g:=gb155) (o:=.cells #[.slice none 0 0,.int .i64 0] 24 (0,0)) (by (with_reducible repeat (first|apply bN|apply bD|apply bA));exact BK155.out) k_ hn_))⟩)) (below_size (by repeat (first|(with_reducible first|exact HB.out|apply lA|apply lN|apply lD|refine lS ?_ GE154.out|refine lS ?_ GE155.out)|exact HB.out))))
      have n5_:=mK (blk_below (g:=gb154) (o:=.cells #[.slice A0_0 l0_0.length c0_0,.int .i64 a0_1] 24 (0,0)) (by (with_reducible repeat (first|apply bN|apply bD|apply bA));exact BK154.out) hb)
      have n6_:=mK (blk_below (g:=gb155) (o:=.cells #[.slice none 0 0,.int .i64 0] 24 (0,0)) (by (with_reducible repeat (first|apply bN|apply bD|apply bA));exact BK155.out) hb)
      have n7_:=mK (below_step (by repeat (first|(with_reducible first|exact HB.out|apply lA|apply lN|apply lD|refine lS ?_ GE154.out|refine lS ?_ GE155.out)|exact HB.out)) hb)
      clear HO0_0
      clear HO169
      clear BK154
      clear BK155
      clear HB
      have HO0_0:=n0_
      have HO169:=n3_
      have HO172:=n4_
      have BK154:=n5_
      have BK155:=n6_
      have HB:=n7_
      clear n0_ n3_ n4_ n5_ n6_ n7_
      (try clear hb)
      (try clear hb2)
      (try clear hk)
      (try clear hi)
      (try clear ho0)
      obtain ⟨Ao24,co24,eo24⟩:=Kd.N_slice HO172.out
      (first|subst eo24|(injection eo24 with f1_ f2_ f3_;have f4_:=f1_.symm;have f5_:=f3_.symm;clear f1_ f2_ f3_;subst f4_;subst f5_))
      refine hK.out _ _ ⟨(blk_cell BK154.out 0).trans rfl,(blk_cell BK154.out 1).trans rfl⟩ (fun hHeld=>?_)
      clear hK K
      refine norm_ (a':=?_) ?_ ?_
      rotate_left
      ·show Act.put _ (some 21) _ = _
       simp only [Act.put,sT,sZ,sS,i64_w,i32_w]
       rfl
      refine one_ (i:=12) (N:=some 22) #[τ,τ,τ,τ,τ,τ,τ,τ,τ,τ,τ,τ,τ,φ] rfl rfl (one_of HT_.out (by kernel_rfl)) (by decide) (fun K hK=>?_)
      refine goes_ Try.func25 (by kernel_rfl) rfl #[.agg #[.slice A0_0 l0_0.length c0_0,.int .i64 a0_1],.slice Ao24 t170.length co24] (by rfl) rfl rfl (by (try simp only [List.map_toArray,List.map_cons,List.map_nil]);first|done|rfl|(simp only [List.length_drop,List.length_take];rfl)) ?_
      with_reducible refine (link_with.calls k _ _ l0_0 a0_1 _ _ t170 t173 t176 _ ?side1 ?side2 ?side3 ?side4 A11.out).mono ?_
      (case side1=>repeat (first|exact (Kd.V_reads' HO0_0.out).2.2|(with_reducible refine Kd.C_alloc ?_ _)|(with_reducible refine Kd.C_drewN ?_ _)|(with_reducible refine Kd.C_drew ?_)))
      (case side2=>exact (Kd.V_reads' HO0_0.out).2.1)
      (case side3=>repeat (first|exact (Kd.N_reads' HO172.out).2.2|(with_reducible refine Kd.C_alloc ?_ _)|(with_reducible refine Kd.C_drewN ?_ _)|(with_reducible refine Kd.C_drew ?_)))
      (case side4=>exact (Kd.N_reads' HO172.out).2.1)
      rintro e w25 ⟨v174,rfl,ho0,hb⟩
      refine ⟨_,rfl,?_⟩
      have n5_:=mK (Kd.N_lower (Kd.N_mono (ok':= fun k_=>(P0_0_ k_ ∨ w.heap.size ≤ k_)∧some k_ ≠ (.slice Ao22 y167.length co22 : Value).ownBlock∧some k_ ≠ (.slice Ao24 t170.length co24 : Value).ownBlock∧k_ ≠ gb154∧k_ ≠ gb155) (Kd.S_N (Kd.S_bound ho0)) (fun k_ hk_=>⟨(.inr (Nat.le_trans (below_size (by repeat (first|(with_reducible first|exact HB.out|apply lA|apply lN|apply lD|refine lS ?_ GE154.out|refine lS ?_ GE155.out)|exact HB.out))) hk_.2.1)),(Kd.fresh' (Kd.N_lt (by (with_reducible repeat (first|apply Kd.N_alloc|apply Kd.N_drewN|apply Kd.N_drew));exact HO169.out)) k_ hk_.2.1),(Kd.fresh' (Kd.N_lt (by (with_reducible repeat (first|apply Kd.N_alloc|apply Kd.N_drewN|apply Kd.N_drew));exact HO172.out)) k_ hk_.2.1),(Kd.freshB (g:=gb154) (o:=.cells #[.slice A0_0 l0_0.length c0_0,.int .i64 a0_1] 24 (0,0)) (by (with_reducible repeat (first|apply bN|apply bD|apply bA));exact BK154.out) k_ hk_.2.1),(Kd.freshB (g:=gb155) (o:=.cells #[.slice none 0 0,.int .i64 0] 24 (0,0)) (by (with_reducible repeat (first|apply bN|apply bD|apply bA));exact BK155.out) k_ hk_.2.1)⟩)) (below_size (by repeat (first|(with_reducible first|exact HB.out|apply lA|apply lN|apply lD|refine lS ?_ GE154.out|refine lS ?_ GE155.out)|exact HB.out))))
      have n6_:=mK (blk_below (g:=gb154) (o:=.cells #[.slice A0_0 l0_0.length c0_0,.int .i64 a0_1] 24 (0,0)) (by (with_reducible repeat (first|apply bN|apply bD|apply bA));exact BK154.out) hb)
      have n7_:=mK (blk_below (g:=gb155) (o:=.cells #[.slice none 0 0,.int .i64 0] 24 (0,0)) (by (with_reducible repeat (first|apply bN|apply bD|apply bA));exact BK155.out) hb)
      have n8_:=mK (below_step (by repeat (first|(with_reducible first|exact HB.out|apply lA|apply lN|apply lD|refine lS ?_ GE154.out|refine lS ?_ GE155.out)|exact HB.out)) hb)
      clear BK154
      clear BK155
      clear HB
      have HO175:=n5_
      have BK154:=n6_
      have BK155:=n7_
      have HB:=n8_
      clear n5_ n6_ n7_ n8_
      (try clear hb)
      (try clear hb2)
      (try clear hk)
      (try clear hi)
      (try clear ho0)
      obtain ⟨Ao26,co26,eo26⟩:=Kd.N_slice HO175.out
      (first|subst eo26|(injection eo26 with f1_ f2_ f3_;have f4_:=f1_.symm;have f5_:=f3_.symm;clear f1_ f2_ f3_;subst f4_;subst f5_))
      refine hK.out _ _ ⟨(blk_cell BK154.out 0).trans rfl,(blk_cell BK154.out 1).trans rfl⟩ (fun hHeld=>?_)
      clear hK K
      refine norm_ (a':=?_) ?_ ?_
      rotate_left
      ·show Act.put _ (some 22) _ = _
       simp only [Act.put,sT,sZ,sS,i64_w,i32_w]
       rfl
      refine one_ (i:=13) (N:=none) #[τ,τ,τ,τ,τ,τ,τ,τ,τ,τ,τ,τ,τ,τ] rfl rfl (one_of HT_.out (by kernel_rfl)) (by decide) (fun K hK=>?_)
      have hs27 : w25.cell? ⟨gb155,0,none⟩ = some (.slice none 0 0):=(blk_cell BK155.out 0).trans rfl
      have hfs27:=blk_frozen BK155.out 0
      have hns27_0:=NB154_155.out
      have hms27_0:=NB155_154.out
      have hs28 : w25.cell? ⟨gb155,1,none⟩ = some (.int .i64 0):=(blk_cell BK155.out 1).trans rfl
      have hfs28:=blk_frozen BK155.out 1
      have hns28_0:=NB154_155.out
      have hms28_0:=NB155_154.out
      refine skip_ (w1:=?_) (by rfl) rfl ?_ ?_
      rotate_left
      ·go_simp
       rfl
      refine hK.out _ _ ⟨((cell_far (p:=⟨gb155,_,none⟩) NB154_155.out _).trans (((cell_far (p:=⟨gb155,_,none⟩) NB154_155.out _).trans (hHeld.1)))),((cell_far (p:=⟨gb155,_,none⟩) NB154_155.out _).trans (((cell_far (p:=⟨gb155,_,none⟩) NB154_155.out _).trans (hHeld.2))))⟩ (fun hHeld=>?_)
      clear hK K
      refine done_ (done_of HT_.out (by kernel_rfl)) ?_
      try go_wp2
      refine bodyPost_ret (results_cell_row rfl _ _ gb155 24 #[.slice Ao26 t173.length co26,.int .i64 t176] (0,0) _ rfl (by (with_reducible repeat (first|apply bN|apply bD|apply bA));refine blk_put (cs:=#[.slice Ao26 t173.length co26,.int .i64 0]) ?_ 1 _ rfl;(with_reducible repeat (first|apply bN|apply bD|apply bA));refine blk_put (cs:=#[.slice none 0 0,.int .i64 0]) ?_ 0 _ rfl;(with_reducible repeat (first|apply bN|apply bD|apply bA));exact BK155.out) Try.underlying24 rfl (by kernel_rfl)) rfl ?_
      exact ⟨_,by first|rfl|(simp [errW_none,errW_some] <;> rfl)|(simp only [← hji7];first|rfl|(simp [errW_none,errW_some] <;> rfl))|(simp [*,errW_none,errW_some] <;> rfl),Kd.N_V (by (with_reducible repeat (first|apply Kd.N_alloc|apply Kd.N_drewN|apply Kd.N_drew));exact Kd.N_mono (Kd.N_far (p:=⟨gb155,1,none⟩) (Kd.N_far (p:=⟨gb155,0,none⟩) (Kd.N_mono HO175.out (fun k_ hk=>(⟨hk,hk.2.2.2.2⟩ : _∧k_ ≠ gb155))) (fun _ hk=>hk.2) (.slice Ao26 t173.length co26)) (fun _ hk=>hk.2) (.int .i64 t176)) (fun _ hk=>hk.1.1)),by repeat (first|(with_reducible first|exact HB.out|apply lA|apply lN|apply lD|refine lS ?_ GE154.out|refine lS ?_ GE155.out)|exact HB.out)⟩
     ·rw [if_neg c9] at H
      exact absurd H (by simp)
    ·rw [if_neg c8] at H
     exact absurd H (by simp)
   ·rw [if_neg c6] at H
    exact absurd H (by simp)
  ·rw [if_neg c5] at H
   exact absurd H (by simp)
 ·replace c4:=Bool.eq_false_iff.mpr c4
  subst c4
  have H1 : (some (l0_0,a0_1)) = some (r1,r2):= by rw [if_neg (show ¬ (false = true) by decide)] at H;exact H
  clear H
  have H:=H1
  clear H1
  simp only [Option.some.injEq,Prod.mk.injEq] at H
  obtain ⟨rfl,rfl⟩:=H
  go_enter Try.func14,Try.ntmps14
  go_wp2_with (first|((with_reducible refine gate_dst (N:=2) rfl ?_);refine box_event ?hg (N:=2) ?hd (cs:=#[.slice A0_0 l0_0.length c0_0,.int .i64 a0_1]) (t:=24) ?hr ?_;(case hd=>rfl);(case hg=>rfl);(case hr=>first|(go_simp;done)|(go_simp;rfl));intro gb154 hg w29 hbox hb;have n0_:=mK (Kd.V_below (Kd.V_elderB (by (with_reducible repeat (first|apply vA|apply vN|apply vD));exact HO0_0.out) gb154 (Nat.le_of_eq hg.symm)) hb);have n1_:=mK (below_step (by repeat (first|(with_reducible first|exact HB.out|apply lA|apply lN|apply lD)|exact HB.out)) hb);have n2_:=mK (hbox);have n4_:=mK ((by rw [hg];exact (below_size (by repeat (first|(with_reducible first|exact HB.out|apply lA|apply lN|apply lD)|exact HB.out))) : w.heap.size ≤ gb154));clear HO0_0;clear HB;have HO0_0:=n0_;have HB:=n1_;have BK154:=n2_;have GE154:=n4_;clear n0_ n1_ n2_ n4_;clear hb hbox hg)|((with_reducible refine gate_dst (N:=4) rfl ?_);refine box_event ?hg (N:=4) ?hd (cs:=#[.slice none 0 0,.int .i64 0]) (t:=24) ?hr ?_;(case hd=>rfl);(case hg=>rfl);(case hr=>first|(go_simp;done)|(go_simp;rfl));intro gb155 hg w30 hbox hb;have n0_:=mK (Kd.V_below (Kd.V_elderB (by (with_reducible repeat (first|apply vA|apply vN|apply vD));exact HO0_0.out) gb155 (Nat.le_of_eq hg.symm)) hb);have n1_:=mK (blk_below (g:=gb154) (o:=.cells #[.slice A0_0 l0_0.length c0_0,.int .i64 a0_1] 24 (0,0)) (by (with_reducible repeat (first|apply bN|apply bD|apply bA));exact BK154.out) hb);have n2_:=mK (below_step (by repeat (first|(with_reducible first|exact HB.out|apply lA|apply lN|apply lD|refine lS ?_ GE154.out)|exact HB.out)) hb);have n3_:=mK (hbox);have n5_:=mK ((by rw [hg];exact (below_size (by repeat (first|(with_reducible first|exact HB.out|apply lA|apply lN|apply lD|refine lS ?_ GE154.out)|exact HB.out))) : w.heap.size ≤ gb155));have n6_:=mK ((by rw [hg];exact Nat.ne_of_lt (blk_lt (g:=gb154) (o:=.cells #[.slice A0_0 l0_0.length c0_0,.int .i64 a0_1] 24 (0,0)) (by (with_reducible repeat (first|apply bN|apply bD|apply bA));exact BK154.out)) : gb154 ≠ gb155));have n7_:=mK ((by rw [hg];exact Nat.ne_of_gt (blk_lt (g:=gb154) (o:=.cells #[.slice A0_0 l0_0.length c0_0,.int .i64 a0_1] 24 (0,0)) (by (with_reducible repeat (first|apply bN|apply bD|apply bA));exact BK154.out)) : gb155 ≠ gb154));clear HO0_0;clear BK154;clear HB;have HO0_0:=n0_;have BK154:=n1_;have HB:=n2_;have BK155:=n3_;have GE155:=n5_;have NB154_155:=n6_;have NB155_154:=n7_;clear n0_ n1_ n2_ n3_ n5_ n6_ n7_;clear hb hbox hg;have hnb31:=NB154_155.out;have hnc31:=NB155_154.out;have hcz32_0 : w30.cell? ⟨gb154,0,none⟩ = some (.slice A0_0 l0_0.length c0_0):=(blk_cell BK154.out 0).trans rfl;have hcz32_1 : w30.cell? ⟨gb154,1,none⟩ = some (.int .i64 a0_1):=(blk_cell BK154.out 1).trans rfl;have hfz32_0:=blk_frozen BK154.out 0;have hfz32_1:=blk_frozen BK154.out 1)|((with_reducible refine gate_callee (f:=29) rfl ?_);refine goesL_ (some 7) rfl rfl Try.func29 (by kernel_rfl) rfl #[.agg #[.slice A0_0 l0_0.length c0_0,.int .i64 a0_1],.int .i64 a1,.int .i64 1] rfl (by (try simp only [List.map_toArray,List.map_cons,List.map_nil]);first|done|rfl|(simp only [List.length_drop,List.length_take];rfl)) ?_;(with_reducible refine (link_has.calls _ _ l0_0 a0_1 a1 1 false _ ?side1 ?side2 A3.out).mono ?_);(case side1=>repeat (first|exact (Kd.V_reads' HO0_0.out).2.2|(with_reducible refine Kd.C_alloc ?_ _)|(with_reducible refine Kd.C_drewN ?_ _)|(with_reducible refine Kd.C_drew ?_)));(case side2=>exact (Kd.V_reads' HO0_0.out).2.1);rintro e w33 ⟨rfl,hb⟩;refine ⟨_,rfl,?_⟩;have n0_:=mK (Kd.V_below (by (with_reducible repeat (first|apply vA|apply vN|apply vD));exact HO0_0.out) hb);have n1_:=mK (blk_below (g:=gb154) (o:=.cells #[.slice A0_0 l0_0.length c0_0,.int .i64 a0_1] 24 (0,0)) (by (with_reducible repeat (first|apply bN|apply bD|apply bA));exact BK154.out) hb);have n2_:=mK (blk_below (g:=gb155) (o:=.cells #[.slice none 0 0,.int .i64 0] 24 (0,0)) (by (with_reducible repeat (first|apply bN|apply bD|apply bA));exact BK155.out) hb);have n3_:=mK (below_step (by repeat (first|(with_reducible first|exact HB.out|apply lA|apply lN|apply lD|refine lS ?_ GE154.out|refine lS ?_ GE155.out)|exact HB.out)) hb);clear HO0_0;clear BK154;clear BK155;clear HB;have HO0_0:=n0_;have BK154:=n1_;have BK155:=n2_;have HB:=n3_;clear n0_ n1_ n2_ n3_;(try clear hb);(try clear hb2);(try clear hk);(try clear hi);have hcz34_0 : w33.cell? ⟨gb154,0,none⟩ = some (.slice A0_0 l0_0.length c0_0):=(blk_cell BK154.out 0).trans rfl;have hcz34_1 : w33.cell? ⟨gb154,1,none⟩ = some (.int .i64 a0_1):=(blk_cell BK154.out 1).trans rfl;have hfz34_0:=blk_frozen BK154.out 0;have hfz34_1:=blk_frozen BK154.out 1;have hcz35_0 : w33.cell? ⟨gb155,0,none⟩ = some (.slice none 0 0):=(blk_cell BK155.out 0).trans rfl;have hcz35_1 : w33.cell? ⟨gb155,1,none⟩ = some (.int .i64 0):=(blk_cell BK155.out 1).trans rfl;have hfz35_0:=blk_frozen BK155.out 0;have hfz35_1:=blk_frozen BK155.out 1))
  refine bodyPost_ret (results_cell_row rfl _ _ gb155 24 #[.slice A0_0 l0_0.length c0_0,.int .i64 a0_1] (0,0) _ rfl (by (with_reducible repeat (first|apply bN|apply bD|apply bA));refine blk_put (cs:=#[.slice A0_0 l0_0.length c0_0,.int .i64 0]) ?_ 1 _ rfl;(with_reducible repeat (first|apply bN|apply bD|apply bA));refine blk_put (cs:=#[.slice none 0 0,.int .i64 0]) ?_ 0 _ rfl;(with_reducible repeat (first|apply bN|apply bD|apply bA));exact BK155.out) Try.underlying24 rfl (by kernel_rfl)) rfl ?_
  exact ⟨_,by first|rfl|(simp [errW_none,errW_some] <;> rfl)|(simp [*,errW_none,errW_some] <;> rfl),by (with_reducible repeat (first|apply vA|apply vN|apply vD));exact Kd.V_mono (Kd.V_far (p:=⟨gb155,1,none⟩) (Kd.V_far (p:=⟨gb155,0,none⟩) (Kd.V_mono HO0_0.out (fun k_ hk=>(⟨hk,hk.2⟩ : _∧k_ ≠ gb155))) (fun _ hk=>hk.2) (.slice A0_0 l0_0.length c0_0)) (fun _ hk=>hk.2) (.int .i64 a0_1)) (fun _ hk=>hk.1.1.1),by repeat (first|(with_reducible first|exact HB.out|apply lA|apply lN|apply lD|refine lS ?_ GE154.out|refine lS ?_ GE155.out)|exact HB.out)⟩

/-! ### link_Twice: function 16 -/
def link_Twice.j0 : Nat → Int → Bool → List (List Int) → Int → Option ((List (List Int)) × Int)
 | 0, _, _, _, _ => none
 | k + 1, x1, x14, x178000, x178001 => if x14 = true then (some (x178000, x178001)) else (if 0 ≤ (wrap64 (x1 + 1)) then (if (wrap64 (x1 + 1)) ≤ (x178000.length : Int) then (if 0 ≤ x1 then (if x1 ≤ (x178000.length : Int) then ((slices_Concat_byte_byte.f k (([(x178000.take ((wrap64 (x1 + 1)) : Int).toNat), (x178000.drop (x1 : Int).toNat)] : List (List (List Int))))).bind fun t193 => ((link_with.f k x178000 x178001 t193).bind fun bt196 => (some (bt196.1, bt196.2)))) else (none)) else (none)) else (none)) else (none))
def link_Twice.f (k : Nat) (l0_0 : List (List Int)) (a0_1 : Int) (a1 : Int) : Option ((List (List Int)) × Int) := (link_has.f l0_0 a0_1 a1 1).bind fun t179 => (if t179 = true then (link_Twice.j0 k a1 ((l0_0.length : Int) == 32) l0_0 a0_1) else (link_Twice.j0 k a1 true l0_0 a0_1))
theorem link_Twice.mono_l : ∀ k, (∀ y0 y1 y2 y3, LeO (link_Twice.j0 k y0 y1 y2 y3) (link_Twice.j0 (k + 1) y0 y1 y2 y3))
 | 0 => fun _ _ _ _ r h => by simp [link_Twice.j0] at h
 | k + 1 => by
  have ih0 := link_Twice.mono_l k
  ·intro y0 y1 y2 y3
   unfold link_Twice.j0
   repeat' first
   | (with_reducible exact ih0 _ _ _ _)
   | (with_reducible exact link_with.mono _ _ _ _)
   | (with_reducible exact slices_Concat_byte_byte.mono _ _)
   | (with_reducible exact LeO.refl _)
   | (with_reducible exact LeO.none _)
   | (with_reducible refine LeO.ite ?_ ?_)
   | (with_reducible refine LeO.bind ?_ (fun _ => ?_))
   | exact ih0 _ _ _ _
   | exact link_with.mono _ _ _ _
   | exact slices_Concat_byte_byte.mono _ _
   | exact LeO.none _
   | refine LeO.ite ?_ ?_
   | refine LeO.bind ?_ (fun _ => ?_)
theorem link_Twice.mono : ∀ a0 a1 a2 k, LeO (link_Twice.f k a0 a1 a2) (link_Twice.f (k + 1) a0 a1 a2) := by
 intro a0 a1 a2 k
 have ih0 := link_Twice.mono_l k
 unfold link_Twice.f
 repeat' first
   | (with_reducible exact ih0 _ _ _ _)
   | (with_reducible exact link_with.mono _ _ _ _)
   | (with_reducible exact slices_Concat_byte_byte.mono _ _)
   | (with_reducible exact LeO.refl _)
   | (with_reducible exact LeO.none _)
   | (with_reducible refine LeO.ite ?_ ?_)
   | (with_reducible refine LeO.bind ?_ (fun _ => ?_))
   | exact ih0 _ _ _ _
   | exact link_with.mono _ _ _ _
   | exact slices_Concat_byte_byte.mono _ _
   | exact LeO.none _
   | refine LeO.ite ?_ ?_
   | refine LeO.bind ?_ (fun _ => ?_)
def link_Twice.T3 : Bool × List (List Nat × List Nat) := (true, [([], []), ([], []), ([1], [1]), ([], []), ([3], [3]), ([2, 4], [2, 4]), ([], []), ([6], [6]), ([], []), ([7, 8], [7, 8]), ([5, 9], [5, 9]), ([10], [10]), ([0, 11, 11], [0, 11]), ([12, 12, 0, 1, 2, 3, 4, 5, 6, 7, 8, 9, 10, 11, 12], [12])])
def link_Twice.B3 : List Nat := [0, 0, 2, 0, 8, 30, 0, 64, 0, 448, 1022, 2046, 4095, 8191]
theorem link_Twice.tab3 : rtab .any (opsOf Try.f16 3) = link_Twice.T3 := by kernel_rfl
theorem link_Twice.bits3 : waitsOk link_Twice.T3.2 link_Twice.B3 = true := by kernel_rfl
set_option maxHeartbeats 8000000 in
set_option maxRecDepth 100000 in
theorem link_Twice.calls (k : Nat) (P0_0_ : Nat → Prop) (A0_0 : Option Addr) (c0_0 : Nat) (l0_0 : List (List Int)) (a0_1 : Int) (a1 : Int) (r1 : List (List Int)) (r2 : Int) (w : World) (hs0_0 : Kd.V (Kd.slice 5 (Kd.int .u8)) 25 w w.heap.size (fun k_ => P0_0_ k_) (.slice A0_0 l0_0.length c0_0) l0_0) (h : link_Twice.f k l0_0 a0_1 a1 = some (r1, r2)) :
  Calls Try.prog 16 #[.agg #[.slice A0_0 l0_0.length c0_0, .int .i64 a0_1], .int .i64 a1] w fun e w' => ∃ v0_ : Value, e = .returned (.agg #[v0_, .int .i64 r2]) ∧ Kd.V (Kd.slice 5 (Kd.int .u8)) 25 w' w.heap.size (fun k_ => (P0_0_ k_ ∨ w.heap.size ≤ k_)) v0_ r1 ∧ Below w.heap.size w w' := by
 have hu24:=Try.underlying24
 have HO0_0:=mK (show Kd.V (Kd.slice 5 (Kd.int .u8)) 25 w w.heap.size (fun k_=>(P0_0_ k_ ∨ w.heap.size ≤ k_)) (.slice A0_0 l0_0.length c0_0) l0_0 from Kd.V_mono hs0_0 (fun k_ hk=>.inl hk))
 have HB:=mK (Below.refl w.heap.size w)
 have H : ((link_has.f l0_0 a0_1 a1 1).bind fun t179=>(if t179 = true then (link_Twice.j0 k a1 ((l0_0.length : Int) == 32) l0_0 a0_1) else (link_Twice.j0 k a1 true l0_0 a0_1))) = some (r1,r2):=h
 clear h
 have HC3:=mK H
 clear H
 go_enter Try.func16,Try.ntmps16
 go_upto_region 1 with (first|((with_reducible refine gate_dst (N:=2) rfl ?_);(try (refine gate_guard (by rfl) ?_;dsimp only));refine box_event ?hg (N:=2) ?hd (cs:=#[.slice A0_0 l0_0.length c0_0,.int .i64 a0_1]) (t:=24) ?hr ?_;(case hd=>rfl);(case hg=>rfl);(case hr=>first|(go_simp;done)|(go_simp;rfl));intro gb177 hg w4 hbox hb;have n0_:=mK (Kd.V_below (Kd.V_elderB (by (with_reducible repeat (first|apply vA|apply vN|apply vD));exact HO0_0.out) gb177 (Nat.le_of_eq hg.symm)) hb);have n1_:=mK (below_step (by repeat (first|(with_reducible first|exact HB.out|apply lA|apply lN|apply lD)|exact HB.out)) hb);have n2_:=mK (hbox);have n4_:=mK ((by rw [hg];exact (below_size (by repeat (first|(with_reducible first|exact HB.out|apply lA|apply lN|apply lD)|exact HB.out))) : w.heap.size ≤ gb177));clear HO0_0;clear HB;have HO0_0:=n0_;have HB:=n1_;have BK177:=n2_;have GE177:=n4_;clear n0_ n1_ n2_ n4_;clear hb hbox hg)|((with_reducible refine gate_dst (N:=4) rfl ?_);(try (refine gate_guard (by rfl) ?_;dsimp only));refine box_event ?hg (N:=4) ?hd (cs:=#[.slice none 0 0,.int .i64 0]) (t:=24) ?hr ?_;(case hd=>rfl);(case hg=>rfl);(case hr=>first|(go_simp;done)|(go_simp;rfl));intro gb178 hg w5 hbox hb;have n0_:=mK (Kd.V_below (Kd.V_elderB (by (with_reducible repeat (first|apply vA|apply vN|apply vD));exact HO0_0.out) gb178 (Nat.le_of_eq hg.symm)) hb);have n1_:=mK (blk_below (g:=gb177) (o:=.cells #[.slice A0_0 l0_0.length c0_0,.int .i64 a0_1] 24 (0,0)) (by (with_reducible repeat (first|apply bN|apply bD|apply bA));exact BK177.out) hb);have n2_:=mK (below_step (by repeat (first|(with_reducible first|exact HB.out|apply lA|apply lN|apply lD|refine lS ?_ GE177.out)|exact HB.out)) hb);have n3_:=mK (hbox);have n5_:=mK ((by rw [hg];exact (below_size (by repeat (first|(with_reducible first|exact HB.out|apply lA|apply lN|apply lD|refine lS ?_ GE177.out)|exact HB.out))) : w.heap.size ≤ gb178));have n6_:=mK ((by rw [hg];exact Nat.ne_of_lt (blk_lt (g:=gb177) (o:=.cells #[.slice A0_0 l0_0.length c0_0,.int .i64 a0_1] 24 (0,0)) (by (with_reducible repeat (first|apply bN|apply bD|apply bA));exact BK177.out)) : gb177 ≠ gb178));have n7_:=mK ((by rw [hg];exact Nat.ne_of_gt (blk_lt (g:=gb177) (o:=.cells #[.slice A0_0 l0_0.length c0_0,.int .i64 a0_1] 24 (0,0)) (by (with_reducible repeat (first|apply bN|apply bD|apply bA));exact BK177.out)) : gb178 ≠ gb177));clear HO0_0;clear BK177;clear HB;have HO0_0:=n0_;have BK177:=n1_;have HB:=n2_;have BK178:=n3_;have GE178:=n5_;have NB177_178:=n6_;have NB178_177:=n7_;clear n0_ n1_ n2_ n3_ n5_ n6_ n7_;clear hb hbox hg))
 (try simp only [Act.put,sT,sZ,sS])
 go_cut [14] (fun v14 wc=>∃ (kq : Nat) (x14_2 : Bool),v14 = .bool x14_2∧Aside0 (link_Twice.j0 kq a1 x14_2 l0_0 a0_1 = some (r1,r2))∧Aside0 (kq ≤ k)∧Aside0 (Kd.V (Kd.slice 5 (Kd.int .u8)) 25 wc w.heap.size (fun k_=>(P0_0_ k_ ∨ w.heap.size ≤ k_)∧k_ ≠ gb177∧k_ ≠ gb178) (.slice A0_0 l0_0.length c0_0) l0_0)∧Aside0 (wc.heap[gb177]? = some (.cells #[(.slice A0_0 l0_0.length c0_0),.int .i64 a0_1] 24 (0,0)))∧Aside0 (wc.heap[gb178]? = some (.cells #[(.slice none 0 0),.int .i64 0] 24 (0,0)))∧Aside0 (Below w.heap.size w wc))
 case first =>
  have H:=HC3.out
  clear HC3
  replace H:=Option.bind_eq_some_iff.mp H
  obtain ⟨t179,A60,H⟩:=H
  replace H : (if t179 = true then (link_Twice.j0 k a1 ((l0_0.length : Int) == 32) l0_0 a0_1) else (link_Twice.j0 k a1 true l0_0 a0_1)) = some (r1,r2):=H
  have A6:=mK A60
  clear A60
  by_cases c7 : t179 = true
  ·subst c7
   have H1 : (link_Twice.j0 k a1 ((l0_0.length : Int) == 32) l0_0 a0_1) = some (r1,r2):= by rw [if_pos rfl] at H;exact H
   clear H
   have H:=H1
   clear H1
   have H':=mK H
   clear H
   have hnb8:=NB177_178.out
   have hnc8:=NB178_177.out
   have hcz9_0 : w5.cell? ⟨gb177,0,none⟩ = some (.slice A0_0 l0_0.length c0_0):=(blk_cell BK177.out 0).trans rfl
   have hcz9_1 : w5.cell? ⟨gb177,1,none⟩ = some (.int .i64 a0_1):=(blk_cell BK177.out 1).trans rfl
   have hfz9_0:=blk_frozen BK177.out 0
   have hfz9_1:=blk_frozen BK177.out 1
   go_wp2_with (first|((with_reducible refine gate_callee (f:=29) rfl ?_);refine goesL_ (some 7) rfl rfl Try.func29 (by kernel_rfl) rfl #[.agg #[.slice A0_0 l0_0.length c0_0,.int .i64 a0_1],.int .i64 a1,.int .i64 1] rfl (by (try simp only [List.map_toArray,List.map_cons,List.map_nil]);first|done|rfl|(simp only [List.length_drop,List.length_take];rfl)) ?_;(with_reducible refine (link_has.calls _ _ l0_0 a0_1 a1 1 true _ ?side1 ?side2 A6.out).mono ?_);(case side1=>repeat (first|exact (Kd.V_reads' HO0_0.out).2.2|(with_reducible refine Kd.C_alloc ?_ _)|(with_reducible refine Kd.C_drewN ?_ _)|(with_reducible refine Kd.C_drew ?_)));(case side2=>exact (Kd.V_reads' HO0_0.out).2.1);rintro e w10 ⟨rfl,hb⟩;refine ⟨_,rfl,?_⟩;have n0_:=mK (Kd.V_below (by (with_reducible repeat (first|apply vA|apply vN|apply vD));exact HO0_0.out) hb);have n1_:=mK (blk_below (g:=gb177) (o:=.cells #[.slice A0_0 l0_0.length c0_0,.int .i64 a0_1] 24 (0,0)) (by (with_reducible repeat (first|apply bN|apply bD|apply bA));exact BK177.out) hb);have n2_:=mK (blk_below (g:=gb178) (o:=.cells #[.slice none 0 0,.int .i64 0] 24 (0,0)) (by (with_reducible repeat (first|apply bN|apply bD|apply bA));exact BK178.out) hb);have n3_:=mK (below_step (by repeat (first|(with_reducible first|exact HB.out|apply lA|apply lN|apply lD|refine lS ?_ GE177.out|refine lS ?_ GE178.out)|exact HB.out)) hb);clear HO0_0;clear BK177;clear BK178;clear HB;have HO0_0:=n0_;have BK177:=n1_;have BK178:=n2_;have HB:=n3_;clear n0_ n1_ n2_ n3_;(try clear hb);(try clear hb2);(try clear hk);(try clear hi);have hcz11_0 : w10.cell? ⟨gb177,0,none⟩ = some (.slice A0_0 l0_0.length c0_0):=(blk_cell BK177.out 0).trans rfl;have hcz11_1 : w10.cell? ⟨gb177,1,none⟩ = some (.int .i64 a0_1):=(blk_cell BK177.out 1).trans rfl;have hfz11_0:=blk_frozen BK177.out 0;have hfz11_1:=blk_frozen BK177.out 1))
   go_meet
   case rel=>exact ⟨_,(((l0_0.length : Int) == 32)),(by first|rfl|(simp;done)|(simp [*];done)),H',⟨by first|omega|exact Nat.le_refl _⟩,⟨by (with_reducible repeat (first|apply vA|apply vN|apply vD));exact Kd.V_mono HO0_0.out (fun _ hk=>⟨hk.1.1,⟨hk.1.2,hk.2⟩⟩)⟩,⟨by (with_reducible repeat (first|apply bN|apply bD|apply bA));exact BK177.out⟩,⟨by (with_reducible repeat (first|apply bN|apply bD|apply bA));exact BK178.out⟩,⟨by repeat (first|(with_reducible first|exact HB.out|apply lA|apply lN|apply lD|refine lS ?_ GE177.out|refine lS ?_ GE178.out)|exact HB.out)⟩⟩
  ·replace c7:=Bool.eq_false_iff.mpr c7
   subst c7
   have H1 : (link_Twice.j0 k a1 true l0_0 a0_1) = some (r1,r2):= by rw [if_neg (show ¬ (false = true) by decide)] at H;exact H
   clear H
   have H:=H1
   clear H1
   have H':=mK H
   clear H
   have hnb12:=NB177_178.out
   have hnc12:=NB178_177.out
   have hcz13_0 : w5.cell? ⟨gb177,0,none⟩ = some (.slice A0_0 l0_0.length c0_0):=(blk_cell BK177.out 0).trans rfl
   have hcz13_1 : w5.cell? ⟨gb177,1,none⟩ = some (.int .i64 a0_1):=(blk_cell BK177.out 1).trans rfl
   have hfz13_0:=blk_frozen BK177.out 0
   have hfz13_1:=blk_frozen BK177.out 1
   go_wp2_with (first|((with_reducible refine gate_callee (f:=29) rfl ?_);refine goesL_ (some 7) rfl rfl Try.func29 (by kernel_rfl) rfl #[.agg #[.slice A0_0 l0_0.length c0_0,.int .i64 a0_1],.int .i64 a1,.int .i64 1] rfl (by (try simp only [List.map_toArray,List.map_cons,List.map_nil]);first|done|rfl|(simp only [List.length_drop,List.length_take];rfl)) ?_;(with_reducible refine (link_has.calls _ _ l0_0 a0_1 a1 1 false _ ?side1 ?side2 A6.out).mono ?_);(case side1=>repeat (first|exact (Kd.V_reads' HO0_0.out).2.2|(with_reducible refine Kd.C_alloc ?_ _)|(with_reducible refine Kd.C_drewN ?_ _)|(with_reducible refine Kd.C_drew ?_)));(case side2=>exact (Kd.V_reads' HO0_0.out).2.1);rintro e w14 ⟨rfl,hb⟩;refine ⟨_,rfl,?_⟩;have n0_:=mK (Kd.V_below (by (with_reducible repeat (first|apply vA|apply vN|apply vD));exact HO0_0.out) hb);have n1_:=mK (blk_below (g:=gb177) (o:=.cells #[.slice A0_0 l0_0.length c0_0,.int .i64 a0_1] 24 (0,0)) (by (with_reducible repeat (first|apply bN|apply bD|apply bA));exact BK177.out) hb);have n2_:=mK (blk_below (g:=gb178) (o:=.cells #[.slice none 0 0,.int .i64 0] 24 (0,0)) (by (with_reducible repeat (first|apply bN|apply bD|apply bA));exact BK178.out) hb);have n3_:=mK (below_step (by repeat (first|(with_reducible first|exact HB.out|apply lA|apply lN|apply lD|refine lS ?_ GE177.out|refine lS ?_ GE178.out)|exact HB.out)) hb);clear HO0_0;clear BK177;clear BK178;clear HB;have HO0_0:=n0_;have BK177:=n1_;have BK178:=n2_;have HB:=n3_;clear n0_ n1_ n2_ n3_;(try clear hb);(try clear hb2);(try clear hk);(try clear hi)))
   go_meet
   case rel=>exact ⟨_,(true),(by first|rfl|(simp;done)|(simp [*];done)),H',⟨by first|omega|exact Nat.le_refl _⟩,⟨by (with_reducible repeat (first|apply vA|apply vN|apply vD));exact Kd.V_mono HO0_0.out (fun _ hk=>⟨hk.1.1,⟨hk.1.2,hk.2⟩⟩)⟩,⟨by (with_reducible repeat (first|apply bN|apply bD|apply bA));exact BK177.out⟩,⟨by (with_reducible repeat (first|apply bN|apply bD|apply bA));exact BK178.out⟩,⟨by repeat (first|(with_reducible first|exact HB.out|apply lA|apply lN|apply lD|refine lS ?_ GE177.out|refine lS ?_ GE178.out)|exact HB.out)⟩⟩
 case rest =>
  clear HC3
  try clear c1
  try clear c2
  try clear p2
  try clear c7
  try clear c8
  try clear c12
  try clear hcz11_0
  try clear hcz11_1
  try clear hcz13_0
  try clear hcz13_1
  try clear hcz9_0
  try clear hcz9_1
  try clear hfz11_0
  try clear hfz11_1
  try clear hfz13_0
  try clear hfz13_1
  try clear hfz9_0
  try clear hfz9_1
  obtain ⟨kq,x14_2,rfl,HA,HJ2,HO_178000,BK177,BK178,HB⟩:=hcut
  cases kq with
  |zero=>exact absurd HA.out (by simp [link_Twice.j0])
  |succ kj2 =>
   have H:=HA.out
   clear HA
   simp only [link_Twice.j0] at H
   by_cases c15 : x14_2 = true
   ·subst c15
    have H1 : (some (l0_0,a0_1)) = some (r1,r2):= by rw [if_pos rfl] at H;exact H
    clear H
    have H:=H1
    clear H1
    simp only [Option.some.injEq,Prod.mk.injEq] at H
    obtain ⟨rfl,rfl⟩:=H
    have hnb16:=NB177_178.out
    have hnc16:=NB178_177.out
    have hcz17_0 : wc.cell? ⟨gb177,0,none⟩ = some (.slice A0_0 l0_0.length c0_0):=(blk_cell BK177.out 0).trans rfl
    have hcz17_1 : wc.cell? ⟨gb177,1,none⟩ = some (.int .i64 a0_1):=(blk_cell BK177.out 1).trans rfl
    have hfz17_0:=blk_frozen BK177.out 0
    have hfz17_1:=blk_frozen BK177.out 1
    have hcz18_0 : wc.cell? ⟨gb178,0,none⟩ = some (.slice none 0 0):=(blk_cell BK178.out 0).trans rfl
    have hcz18_1 : wc.cell? ⟨gb178,1,none⟩ = some (.int .i64 0):=(blk_cell BK178.out 1).trans rfl
    have hfz18_0:=blk_frozen BK178.out 0
    have hfz18_1:=blk_frozen BK178.out 1
    go_wp2
    refine bodyPost_ret (results_cell_row rfl _ _ gb178 24 #[.slice A0_0 l0_0.length c0_0,.int .i64 a0_1] (0,0) _ rfl (by (with_reducible repeat (first|apply bN|apply bD|apply bA));refine blk_put (cs:=#[.slice A0_0 l0_0.length c0_0,.int .i64 0]) ?_ 1 _ rfl;(with_reducible repeat (first|apply bN|apply bD|apply bA));refine blk_put (cs:=#[.slice none 0 0,.int .i64 0]) ?_ 0 _ rfl;(with_reducible repeat (first|apply bN|apply bD|apply bA));exact BK178.out) Try.underlying24 rfl (by kernel_rfl)) rfl ?_
    exact ⟨_,by first|rfl|(simp [errW_none,errW_some] <;> rfl)|(simp [*,errW_none,errW_some] <;> rfl),by (with_reducible repeat (first|apply vA|apply vN|apply vD));exact Kd.V_mono (Kd.V_far (p:=⟨gb178,1,none⟩) (Kd.V_far (p:=⟨gb178,0,none⟩) (Kd.V_mono HO_178000.out (fun k_ hk=>(⟨hk,hk.2.2⟩ : _∧k_ ≠ gb178))) (fun _ hk=>hk.2) (.slice A0_0 l0_0.length c0_0)) (fun _ hk=>hk.2) (.int .i64 a0_1)) (fun _ hk=>hk.1.1),by repeat (first|(with_reducible first|exact HB.out|apply lA|apply lN|apply lD|refine lS ?_ GE177.out|refine lS ?_ GE178.out)|exact HB.out)⟩
   ·replace c15:=Bool.eq_false_iff.mpr c15
    subst c15
    have H1 : (if 0 ≤ (wrap64 (a1 + 1)) then (if (wrap64 (a1 + 1)) ≤ (l0_0.length : Int) then (if 0 ≤ a1 then (if a1 ≤ (l0_0.length : Int) then ((slices_Concat_byte_byte.f kj2 (([(l0_0.take ((wrap64 (a1 + 1)) : Int).toNat),(l0_0.drop (a1 : Int).toNat)] : List (List (List Int))))).bind fun t193=>((link_with.f kj2 l0_0 a0_1 t193).bind fun bt196=>(some (bt196.1,bt196.2)))) else (none)) else (none)) else (none)) else (none)) = some (r1,r2):= by rw [if_neg (show ¬ (false = true) by decide)] at H;exact H
    clear H
    have H:=H1
    clear H1
    obtain ⟨ji19,hji19⟩ : ∃ j_ : Int,(wrap64 (a1 + 1)) = j_:=⟨_,rfl⟩
    replace H : (if 0 ≤ (ji19) then (if (ji19) ≤ (l0_0.length : Int) then (if 0 ≤ a1 then (if a1 ≤ (l0_0.length : Int) then ((slices_Concat_byte_byte.f kj2 (([(l0_0.take ((ji19) : Int).toNat),(l0_0.drop (a1 : Int).toNat)] : List (List (List Int))))).bind fun t193=>((link_with.f kj2 l0_0 a0_1 t193).bind fun bt196=>(some (bt196.1,bt196.2)))) else (none)) else (none)) else (none)) else (none)) = some (r1,r2):= by first|(rw [hji19] at H;exact H)|(simp only [hji19] at H ⊢; exact H)
    have hji19w : (IntKind.i64.wrap (a1 + 1)) = ji19:=(i64_w _).trans hji19
    by_cases c20 : 0 ≤ (ji19)
    ·rw [if_pos c20] at H
     have c20b0:=eq_true c20
     have c20b1 : decide (0 ≤ (ji19)) = true:=decide_eq_true c20
     clear c20
     by_cases c21 : (ji19) ≤ (l0_0.length : Int)
     ·rw [if_pos c21] at H
      have c21b0:=eq_true c21
      have c21b1 : decide ((ji19) ≤ (l0_0.length : Int)) = true:=decide_eq_true c21
      clear c21
      obtain ⟨y180,hy180⟩ : ∃ y_ : List (List Int),y_ = (l0_0.take ((ji19) : Int).toNat):=⟨_,rfl⟩
      replace H : (if 0 ≤ a1 then (if a1 ≤ (l0_0.length : Int) then ((slices_Concat_byte_byte.f kj2 (([y180,(l0_0.drop (a1 : Int).toNat)] : List (List (List Int))))).bind fun t193=>((link_with.f kj2 l0_0 a0_1 t193).bind fun bt196=>(some (bt196.1,bt196.2)))) else (none)) else (none)) = some (r1,r2):= by first|(rw [hy180];with_reducible exact H)|(have H2_:=(Option.bind_some _ _).symm.trans H;rw [hy180];with_reducible exact H2_)|(have H2_:=(Option.bind_some _ _).symm.trans H;with_reducible exact H2_)|with_reducible exact H|(rw [hy180];exact H)|exact H
      have Ny180:=mK hy180
      clear hy180
      by_cases c22 : 0 ≤ a1
      ·rw [if_pos c22] at H
       have c22b0:=eq_true c22
       have c22b1 : decide (0 ≤ a1) = true:=decide_eq_true c22
       clear c22
       by_cases c23 : a1 ≤ (l0_0.length : Int)
       ·rw [if_pos c23] at H
        have c23b0:=eq_true c23
        have c23b1 : decide (a1 ≤ (l0_0.length : Int)) = true:=decide_eq_true c23
        clear c23
        obtain ⟨y185,hy185⟩ : ∃ y_ : List (List Int),y_ = (l0_0.drop (a1 : Int).toNat):=⟨_,rfl⟩
        replace H : ((slices_Concat_byte_byte.f kj2 (([y180,y185] : List (List (List Int))))).bind fun t193=>((link_with.f kj2 l0_0 a0_1 t193).bind fun bt196=>(some (bt196.1,bt196.2)))) = some (r1,r2):= by first|(rw [hy185];with_reducible exact H)|(have H2_:=(Option.bind_some _ _).symm.trans H;rw [hy185];with_reducible exact H2_)|(have H2_:=(Option.bind_some _ _).symm.trans H;with_reducible exact H2_)|with_reducible exact H|(rw [hy185];exact H)|exact H
        have Ny185:=mK hy185
        clear hy185
        obtain ⟨y190,hy190⟩ : ∃ y_ : List (List (List Int)),y_ = (([y180,y185] : List (List (List Int)))):=⟨_,rfl⟩
        replace H : ((slices_Concat_byte_byte.f kj2 y190).bind fun t193=>((link_with.f kj2 l0_0 a0_1 t193).bind fun bt196=>(some (bt196.1,bt196.2)))) = some (r1,r2):= by first|(rw [hy190];with_reducible exact H)|(have H2_:=(Option.bind_some _ _).symm.trans H;rw [hy190];with_reducible exact H2_)|(have H2_:=(Option.bind_some _ _).symm.trans H;with_reducible exact H2_)|with_reducible exact H|(rw [hy190];exact H)|exact H
        have Ny190:=mK hy190
        clear hy190
        replace H:=Option.bind_eq_some_iff.mp H
        obtain ⟨t193,A240,H⟩:=H
        replace H : ((link_with.f kj2 l0_0 a0_1 t193).bind fun bt196=>(some (bt196.1,bt196.2))) = some (r1,r2):=H
        have A24:=mK A240
        clear A240
        replace H:=Option.bind_eq_some_iff.mp H
        obtain ⟨⟨t196,t199⟩,A250,H⟩:=H
        replace H : (some (t196,t199)) = some (r1,r2):=H
        have A25:=mK A250
        clear A250
        simp only [Option.some.injEq,Prod.mk.injEq] at H
        obtain ⟨rfl,rfl⟩:=H
        try go_wp2
        have n0_:=mK (Kd.V_drew HO_178000.out)
        have n1_:=mK (blk_drew BK177.out)
        have n2_:=mK (blk_drew BK178.out)
        have n3_:=mK (below_drew1 HB.out)
        clear HO_178000
        clear BK177
        clear BK178
        clear HB
        have HO_178000:=n0_
        have BK177:=n1_
        have BK178:=n2_
        have HB:=n3_
        clear n0_ n1_ n2_ n3_
        have q27 : ((ji19) : Int) ≤ ((l0_0.length : Int) : Int):=of_decide_eq_true (by first|(with_reducible assumption)|assumption)
        obtain ⟨i027,hi027,_,hsz27,_⟩:=info_parts info25
        have hroom27 : l0_0.length ≤ c0_0:=(Kd.V_reads' HO_178000.out).2.1
        have hC27 : Kd.F (Kd.slice 5 (Kd.int .u8)) _ _ A0_0 l0_0.length l0_0:=(Kd.V_at (base:=w.heap.size) HO_178000.out).2.2
        have hcut27:=cut_to (P:=Try.prog) 22 25 .i64 Try.underlying22 hi027 A0_0 l0_0.length c0_0 (ji19) (of_decide_eq_true (by first|(with_reducible assumption)|assumption)) q27 hroom27
        have hr27:=Kd.F_take (m:=((ji19) : Int).toNat) hC27 (by omega)
        have hy27 : y180.length = ((ji19) : Int).toNat:=(by rw [Ny180.out,List.length_take];omega)
        rw [← Ny180.out] at hr27
        rw [← hy27] at hcut27
        have HO184:=mK (show Kd.V (Kd.slice 5 (Kd.int .u8)) 25 _ w.heap.size _ (.slice A0_0 y180.length c0_0) y180 from Kd.V_mk (by omega) hr27)
        have HC184:=mK (show y180.length ≤ c0_0 from by omega)
        clear hr27 hC27 hroom27 hi027 hsz27
        have KY27:=mK hy27
        clear hy27
        replace q27:=eq_true q27
        have q28 : (a1 : Int) ≤ ((l0_0.length : Int) : Int):=of_decide_eq_true (by first|(with_reducible assumption)|assumption)
        obtain ⟨i028,hi028,_,hsz28,_⟩:=info_parts info25
        have hroom28 : l0_0.length ≤ c0_0:=(Kd.V_reads' HO_178000.out).2.1
        have hC28 : Kd.F (Kd.slice 5 (Kd.int .u8)) _ _ A0_0 l0_0.length l0_0:=(Kd.V_at (base:=w.heap.size) HO_178000.out).2.2
        have q028 : (0 : Int) ≤ (a1 : Int):=of_decide_eq_true (by first|(with_reducible assumption)|assumption)
        have hcut28:=cut_from (P:=Try.prog) 22 25 .i64 Try.underlying22 hi028 1 hsz28 A0_0 l0_0.length c0_0 a1 q028 q28
        have hr28:=Kd.F_cut (m:=(a1 : Int).toNat) (c:=c0_0) hC28 (by omega) hroom28
        obtain ⟨A28,hA28⟩ : ∃ A1,A1 = (if c0_0 = (a1 : Int).toNat then A0_0 else (A0_0 : Option Addr).map (·.add ((a1 : Int).toNat * 1))):=⟨_,rfl⟩
        obtain ⟨c28,hc28⟩ : ∃ c1,c1 = c0_0 - (a1 : Int).toNat:=⟨_,rfl⟩
        have hy28 : y185.length = l0_0.length - (a1 : Int).toNat:=(by rw [Ny185.out,List.length_drop] <;> omega)
        rw [show (l0_0).drop (a1 : Int).toNat = y185 from Ny185.out.symm] at hr28
        replace hr28 : Kd.F (Kd.slice 5 (Kd.int .u8)) _ _ A28 y185.length y185:=(by rw [hA28];exact hr28)
        rw [← hy28,← hA28,← hc28] at hcut28
        have HO189:=mK (show Kd.V (Kd.slice 5 (Kd.int .u8)) 25 _ w.heap.size _ (.slice A28 y185.length c28) y185 from Kd.V_mk (by rw [hy28,hc28];exact Nat.sub_le_sub_right hroom28 _) hr28)
        have HC189:=mK (show y185.length ≤ c28 from by rw [hy28,hc28];exact Nat.sub_le_sub_right hroom28 _)
        clear hr28 hC28 hroom28 hi028 hsz28 hc28
        have KY28:=mK hy28
        have KA28:=mK hA28
        clear hy28 hA28
        replace q28:=eq_true q28
        refine start_ (n:=14) (S:= fun w'=>w'.cell? ⟨gb177,0,none⟩ = some (.slice A0_0 l0_0.length c0_0)∧w'.cell? ⟨gb177,1,none⟩ = some (.int .i64 a0_1)) (ds:=[]) #[φ,φ,φ,φ,φ,φ,φ,φ,φ,φ,φ,φ,φ,φ] (by kernel_rfl) rfl rfl ⟨(blk_cell BK177.out 0).trans rfl,(blk_cell BK177.out 1).trans rfl⟩ (fun hHeld=>?_);refine with_tabW link_Twice.tab3 link_Twice.bits3 (fun HT_ HW_=>?_)
        generalize wc.drew = w26 at HO_178000 BK177 BK178 HB HO184 HO189 hHeld ⊢
        refine pure_ (i:=1) (N:=some 17) (v:=?_) (a':=?_) #[φ,τ,φ,φ,φ,φ,φ,φ,φ,φ,φ,φ,φ,φ] rfl rfl (any_of HT_.out (by kernel_rfl)) (fun _ _ _ h=>h) (Or.inl ⟨by rfl,?_⟩) ?_ ?_
        rotate_left
        ·intro w'
         go_simp
         with_reducible rfl
        rotate_left
        ·simp only [Act.put,sT,sZ,sS,i64_w,i32_w]
         rfl
        refine pure_ (i:=3) (N:=some 19) (v:=?_) (a':=?_) #[φ,τ,φ,τ,φ,φ,φ,φ,φ,φ,φ,φ,φ,φ] rfl rfl (any_of HT_.out (by kernel_rfl)) (fun _ _ _ h=>h) (Or.inl ⟨by rfl,?_⟩) ?_ ?_
        rotate_left
        ·intro w'
         go_simp
         with_reducible rfl
        rotate_left
        ·simp only [Act.put,sT,sZ,sS,i64_w,i32_w]
         rfl
        refine pure_ (i:=4) (N:=some 20) (v:=?_) (a':=?_) #[φ,τ,φ,τ,τ,φ,φ,φ,φ,φ,φ,φ,φ,φ] rfl rfl (any_of HT_.out (by kernel_rfl)) (fun _ _ _ h=>h) (Or.inl ⟨by rfl,?_⟩) ?_ ?_
        rotate_left
        ·intro w'
         go_simp
         with_reducible rfl
        rotate_left
        ·simp only [Act.put,sT,sZ,sS,i64_w,i32_w]
         rfl
        refine pure_ (i:=6) (N:=some 22) (v:=?_) (a':=?_) #[φ,τ,φ,τ,τ,φ,τ,φ,φ,φ,φ,φ,φ,φ] rfl rfl (any_of HT_.out (by kernel_rfl)) (fun _ _ _ h=>h) (Or.inl ⟨by rfl,?_⟩) ?_ ?_
        rotate_left
        ·intro w'
         go_simp
         with_reducible rfl
        rotate_left
        ·simp only [Act.put,sT,sZ,sS,i64_w,i32_w]
         rfl
        refine pure_ (i:=8) (N:=some 24) (v:=?_) (a':=?_) #[φ,τ,φ,τ,τ,φ,τ,φ,τ,φ,φ,φ,φ,φ] rfl rfl (any_of HT_.out (by kernel_rfl)) (fun _ _ _ h=>h) (Or.inl ⟨by rfl,?_⟩) ?_ ?_
        rotate_left
        ·intro w'
         go_simp
         with_reducible rfl
        rotate_left
        ·simp only [Act.put,sT,sZ,sS,i64_w,i32_w]
         rfl
        refine take_ (i:=0) (N:=some 16) (v:=?_) (a':=?_) #[τ,τ,φ,τ,τ,φ,τ,φ,τ,φ,φ,φ,φ,φ] rfl rfl (take_ofW HT_.out HW_.out (by kernel_rfl)) (fun _ _ _ h=>h) (Or.inl ⟨by rfl,?_⟩) hHeld ?_ ?_
        rotate_left
        ·rintro w' ⟨s0,s1⟩
         go_simp
         with_reducible rfl
        rotate_left
        ·simp only [Act.put,sT,sZ,sS,i64_w,i32_w]
         rfl
        refine take_ (i:=2) (N:=some 18) (v:=?_) (a':=?_) #[τ,τ,τ,τ,τ,φ,τ,φ,τ,φ,φ,φ,φ,φ] rfl rfl (take_ofW HT_.out HW_.out (by kernel_rfl)) (fun _ _ _ h=>h) (Or.inl ⟨by rfl,?_⟩) hHeld ?_ ?_
        rotate_left
        ·rintro w' ⟨s0,s1⟩
         go_simp
         with_reducible rfl
        rotate_left
        ·simp only [Act.put,sT,sZ,sS,i64_w,i32_w]
         rfl
        refine pure_ (i:=5) (N:=some 21) (v:=?_) (a':=?_) #[τ,τ,τ,τ,τ,τ,τ,φ,τ,φ,φ,φ,φ,φ] rfl rfl (any_of HT_.out (by kernel_rfl)) (fun _ _ _ h=>h) (Or.inl ⟨by rfl,?_⟩) ?_ ?_
        rotate_left
        ·intro w'
         go_simp
         with_reducible rfl
        rotate_left
        ·simp only [Act.put,sT,sZ,sS,i64_w,i32_w]
         rfl
        refine take_ (i:=7) (N:=some 23) (v:=?_) (a':=?_) #[τ,τ,τ,τ,τ,τ,τ,τ,τ,φ,φ,φ,φ,φ] rfl rfl (take_ofW HT_.out HW_.out (by kernel_rfl)) (fun _ _ _ h=>h) (Or.inl ⟨by rfl,?_⟩) hHeld ?_ ?_
        rotate_left
        ·rintro w' ⟨s0,s1⟩
         go_simp
         with_reducible rfl
        rotate_left
        ·simp only [Act.put,sT,sZ,sS,i64_w,i32_w]
         rfl
        refine pure_ (i:=9) (N:=some 25) (v:=?_) (a':=?_) #[τ,τ,τ,τ,τ,τ,τ,τ,τ,τ,φ,φ,φ,φ] rfl rfl (any_of HT_.out (by kernel_rfl)) (fun _ _ _ h=>h) (Or.inl ⟨by rfl,?_⟩) ?_ ?_
        rotate_left
        ·intro w'
         go_simp
         with_reducible rfl
        rotate_left
        ·simp only [Act.put,sT,sZ,sS,i64_w,i32_w]
         rfl
        refine one_ (i:=10) (N:=some 26) #[τ,τ,τ,τ,τ,τ,τ,τ,τ,τ,τ,φ,φ,φ] rfl rfl (one_of HT_.out (by kernel_rfl)) (by decide) (fun K hK=>?_)
        refine Kd.N_lit_step (Kd.slice 25 (Kd.slice 5 (Kd.int .u8))) _ 22 ?hg (N':=26) ?hd (xs:=([y180,y185] : List (List (List Int)))) (inner:=[.slice A0_0 y180.length c0_0,.slice A28 y185.length c28]) (ok:=(fun k_=>(P0_0_ k_ ∨ w.heap.size ≤ k_)∧k_ ≠ gb177∧k_ ≠ gb178)) (okp:=(fun k_=>(P0_0_ k_ ∨ w.heap.size ≤ k_)∧k_ ≠ gb177∧k_ ≠ gb178)) ?hr ?hp (fun _ hk=>hk) ((show ∀ k_,w26.heap.size ≤ k_ → (fun k_=>(P0_0_ k_ ∨ w.heap.size ≤ k_)∧k_ ≠ gb177∧k_ ≠ gb178) k_ from fun k_ hk=>⟨(.inr (Nat.le_trans (below_size (by repeat (first|(with_reducible first|exact HB.out|apply lA|apply lN|apply lD|refine lS ?_ GE177.out|refine lS ?_ GE178.out)|exact HB.out))) hk)),Kd.freshB (g:=gb177) (o:=.cells #[.slice A0_0 l0_0.length c0_0,.int .i64 a0_1] 24 (0,0)) (by (with_reducible repeat (first|apply bN|apply bD|apply bA));exact BK177.out) k_ hk,Kd.freshB (g:=gb178) (o:=.cells #[.slice none 0 0,.int .i64 0] 24 (0,0)) (by (with_reducible repeat (first|apply bN|apply bD|apply bA));exact BK178.out) k_ hk⟩) _ (Nat.le_refl _)) (Below.refl _ _) (Nat.le_refl _) (by simp) ?_;(case hd=>rfl);(case hg=>rfl);(case hr=>first|(go_simp;done)|(go_simp;rfl));(case hp=>exact (Reps.one (show Kd.FK (Kd.slice 25 (Kd.slice 5 (Kd.int .u8))) _ _ y180 [.slice A0_0 y180.length c0_0] from (Kd.FK_slice_mk (Kd.V_reads' (Kd.V_mono (ok':=(fun k_=>(P0_0_ k_ ∨ w.heap.size ≤ k_)∧k_ ≠ gb177∧k_ ≠ gb178)) (HO184.out) (fun k_ hk=>⟨hk.1,⟨hk.2.1,hk.2.2⟩⟩))).2.1 (Kd.V_F (Kd.V_mono (ok':=(fun k_=>(P0_0_ k_ ∨ w.heap.size ≤ k_)∧k_ ≠ gb177∧k_ ≠ gb178)) (HO184.out) (fun k_ hk=>⟨hk.1,⟨hk.2.1,hk.2.2⟩⟩))))) (Reps.one (show Kd.FK (Kd.slice 25 (Kd.slice 5 (Kd.int .u8))) _ _ y185 [.slice A28 y185.length c28] from (Kd.FK_slice_mk (Kd.V_reads' (Kd.V_mono (ok':=(fun k_=>(P0_0_ k_ ∨ w.heap.size ≤ k_)∧k_ ≠ gb177∧k_ ≠ gb178)) (HO189.out) (fun k_ hk=>⟨hk.1,⟨hk.2.1,hk.2.2⟩⟩))).2.1 (Kd.V_F (Kd.V_mono (ok':=(fun k_=>(P0_0_ k_ ∨ w.heap.size ≤ k_)∧k_ ≠ gb177∧k_ ≠ gb178)) (HO189.out) (fun k_ hk=>⟨hk.1,⟨hk.2.1,hk.2.2⟩⟩))))) (Reps.none _ _))))
        intro v191 w29 ho30 hb hg_ hnew_
        clear hg_ hnew_
        (first|rw [← Ny190.out] at ho30|(simp only [Int.reduceToNat] at ho30;rw [← Ny190.out] at ho30))
        have n0_:=mK (Kd.V_elder' (by (with_reducible repeat (first|apply vA|apply vN|apply vD));exact HO_178000.out) (by first|exact Kd.N_base ho30|exact Kd.R_base (Kd.S_R ho30)) hb)
        have n3_:=mK (Kd.N_lower ho30 (below_size (by repeat (first|(with_reducible first|exact HB.out|apply lA|apply lN|apply lD|refine lS ?_ GE177.out|refine lS ?_ GE178.out)|exact HB.out))))
        have n4_:=mK (blk_below (g:=gb177) (o:=.cells #[.slice A0_0 l0_0.length c0_0,.int .i64 a0_1] 24 (0,0)) (by (with_reducible repeat (first|apply bN|apply bD|apply bA));exact BK177.out) hb)
        have n5_:=mK (blk_below (g:=gb178) (o:=.cells #[.slice none 0 0,.int .i64 0] 24 (0,0)) (by (with_reducible repeat (first|apply bN|apply bD|apply bA));exact BK178.out) hb)
        have n6_:=mK (below_step (by repeat (first|(with_reducible first|exact HB.out|apply lA|apply lN|apply lD|refine lS ?_ GE177.out|refine lS ?_ GE178.out)|exact HB.out)) hb)
        clear HO_178000
        clear BK177
        clear BK178
        clear HB
        have HO_178000:=n0_
        have HO192:=n3_
        have BK177:=n4_
        have BK178:=n5_
        have HB:=n6_
        clear n0_ n3_ n4_ n5_ n6_
        clear hb ho30
        obtain ⟨Ao31,co31,eo31⟩:=Kd.N_slice HO192.out
        (first|subst eo31|(injection eo31 with f1_ f2_ f3_;have f4_:=f1_.symm;have f5_:=f3_.symm;clear f1_ f2_ f3_;subst f4_;subst f5_))
        refine hK.out _ _ ⟨(blk_cell BK177.out 0).trans rfl,(blk_cell BK177.out 1).trans rfl⟩ (fun hHeld=>?_)
        clear hK K
        refine norm_ (a':=?_) ?_ ?_
        rotate_left
        ·show Act.put _ (some 26) _ = _
         simp only [Act.put,sT,sZ,sS,i64_w,i32_w]
         rfl
        refine one_ (i:=11) (N:=some 27) #[τ,τ,τ,τ,τ,τ,τ,τ,τ,τ,τ,τ,φ,φ] rfl rfl (one_of HT_.out (by kernel_rfl)) (by decide) (fun K hK=>?_)
        refine goes_ Try.func30 (by kernel_rfl) rfl #[.slice Ao31 y190.length co31] (by rfl) rfl rfl (by (try simp only [List.map_toArray,List.map_cons,List.map_nil]);first|done|rfl|(simp only [List.length_drop,List.length_take];rfl)) ?_
        with_reducible refine (slices_Concat_byte_byte.calls kj2 (fun k_=>((P0_0_ k_ ∨ w.heap.size ≤ k_)∧(k_ ≠ gb177∧k_ ≠ gb178))) _ _ y190 t193 _ ?side1 A24.out).mono ?_
        (case side1=>exact Kd.N_V (HO192.out))
        rintro e w32 ⟨v194,rfl,ho0,hb⟩
        refine ⟨_,rfl,?_⟩
        have n0_:=mK (Kd.V_elder' (by (with_reducible repeat (first|apply vA|apply vN|apply vD));exact HO_178000.out) (by first|exact Kd.N_base ho0|exact Kd.R_base (Kd.S_R ho0)) hb)
        have n3_:=mK (Kd.N_elder' (by (with_reducible repeat (first|apply Kd.N_alloc|apply Kd.N_drewN|apply Kd.N_drew));exact HO192.out) (by first|exact Kd.N_base ho0|exact Kd.R_base (Kd.S_R ho0)) hb)
        have n4_:=mK (Kd.N_lower (Kd.N_mono (ok':= fun k_=>(P0_0_ k_ ∨ w.heap.size ≤ k_)∧k_ ≠ gb177∧k_ ≠ gb178) ho0 (fun k_ hk_=>⟨Or.elim hk_ (fun hs_=>hs_.1) (fun hn_=>(.inr (Nat.le_trans (below_size (by repeat (first|(with_reducible first|exact HB.out|apply lA|apply lN|apply lD|refine lS ?_ GE177.out|refine lS ?_ GE178.out)|exact HB.out))) hn_))),Or.elim hk_ (fun hs_=>hs_.2.1) (fun hn_=>(Kd.freshB (g:=gb177) (o:=.cells #[.slice A0_0 l0_0.length c0_0,.int .i64 a0_1] 24 (0,0)) (by (with_reducible repeat (first|apply bN|apply bD|apply bA));exact BK177.out) k_ hn_)),Or.elim hk_ (fun hs_=>hs_.2.2) (fun hn_=>(Kd.freshB (g:=gb178) (o:=.cells #[.slice none 0 0,.int .i64 0] 24 (0,0)) (by (with_reducible repeat (first|apply bN|apply bD|apply bA));exact BK178.out) k_ hn_))⟩)) (below_size (by repeat (first|(with_reducible first|exact HB.out|apply lA|apply lN|apply lD|refine lS ?_ GE177.out|refine lS ?_ GE178.out)|exact HB.out))))
        have n5_:=mK (blk_below (g:=gb177) (o:=.cells #[.slice A0_0 l0_0.length c0_0,.int .i64 a0_1] 24 (0,0)) (by (with_reducible repeat (first|apply bN|apply bD|apply bA));exact BK177.out) hb)
        have n6_:=mK (blk_below (g:=gb178) (o:=.cells #[.slice none 0 0,.int .i64 0] 24 (0,0)) (by (with_reducible repeat (first|apply bN|apply bD|apply bA));exact BK178.out) hb)
        have n7_:=mK (below_step (by repeat (first|(with_reducible first|exact HB.out|apply lA|apply lN|apply lD|refine lS ?_ GE177.out|refine lS ?_ GE178.out)|exact HB.out)) hb)
        clear HO_178000
        clear HO192
        clear BK177
        clear BK178
        clear HB
        have HO_178000:=n0_
        have HO192:=n3_
        have HO195:=n4_
        have BK177:=n5_
        have BK178:=n6_
        have HB:=n7_
        clear n0_ n3_ n4_ n5_ n6_ n7_
        (try clear hb)
        (try clear hb2)
        (try clear hk)
        (try clear hi)
        (try clear ho0)
        obtain ⟨Ao33,co33,eo33⟩:=Kd.N_slice HO195.out
        (first|subst eo33|(injection eo33 with f1_ f2_ f3_;have f4_:=f1_.symm;have f5_:=f3_.symm;clear f1_ f2_ f3_;subst f4_;subst f5_))
        refine hK.out _ _ ⟨(blk_cell BK177.out 0).trans rfl,(blk_cell BK177.out 1).trans rfl⟩ (fun hHeld=>?_)
        clear hK K
        refine norm_ (a':=?_) ?_ ?_
        rotate_left
        ·show Act.put _ (some 27) _ = _
         simp only [Act.put,sT,sZ,sS,i64_w,i32_w]
         rfl
        refine one_ (i:=12) (N:=some 28) #[τ,τ,τ,τ,τ,τ,τ,τ,τ,τ,τ,τ,τ,φ] rfl rfl (one_of HT_.out (by kernel_rfl)) (by decide) (fun K hK=>?_)
        refine goes_ Try.func25 (by kernel_rfl) rfl #[.agg #[.slice A0_0 l0_0.length c0_0,.int .i64 a0_1],.slice Ao33 t193.length co33] (by rfl) rfl rfl (by (try simp only [List.map_toArray,List.map_cons,List.map_nil]);first|done|rfl|(simp only [List.length_drop,List.length_take];rfl)) ?_
        with_reducible refine (link_with.calls kj2 _ _ l0_0 a0_1 _ _ t193 t196 t199 _ ?side1 ?side2 ?side3 ?side4 A25.out).mono ?_
        (case side1=>repeat (first|exact (Kd.V_reads' HO_178000.out).2.2|(with_reducible refine Kd.C_alloc ?_ _)|(with_reducible refine Kd.C_drewN ?_ _)|(with_reducible refine Kd.C_drew ?_)))
        (case side2=>exact (Kd.V_reads' HO_178000.out).2.1)
        (case side3=>repeat (first|exact (Kd.N_reads' HO195.out).2.2|(with_reducible refine Kd.C_alloc ?_ _)|(with_reducible refine Kd.C_drewN ?_ _)|(with_reducible refine Kd.C_drew ?_)))
        (case side4=>exact (Kd.N_reads' HO195.out).2.1)
        rintro e w34 ⟨v197,rfl,ho0,hb⟩
        refine ⟨_,rfl,?_⟩
        have n5_:=mK (Kd.N_lower (Kd.N_mono (ok':= fun k_=>(P0_0_ k_ ∨ w.heap.size ≤ k_)∧some k_ ≠ (.slice Ao31 y190.length co31 : Value).ownBlock∧some k_ ≠ (.slice Ao33 t193.length co33 : Value).ownBlock∧k_ ≠ gb177∧k_ ≠ gb178) (Kd.S_N (Kd.S_bound ho0)) (fun k_ hk_=>⟨(.inr (Nat.le_trans (below_size (by repeat (first|(with_reducible first|exact HB.out|apply lA|apply lN|apply lD|refine lS ?_ GE177.out|refine lS ?_ GE178.out)|exact HB.out))) hk_.2.1)),(Kd.fresh' (Kd.N_lt (by (with_reducible repeat (first|apply Kd.N_alloc|apply Kd.N_drewN|apply Kd.N_drew));exact HO192.out)) k_ hk_.2.1),(Kd.fresh' (Kd.N_lt (by (with_reducible repeat (first|apply Kd.N_alloc|apply Kd.N_drewN|apply Kd.N_drew));exact HO195.out)) k_ hk_.2.1),(Kd.freshB (g:=gb177) (o:=.cells #[.slice A0_0 l0_0.length c0_0,.int .i64 a0_1] 24 (0,0)) (by (with_reducible repeat (first|apply bN|apply bD|apply bA));exact BK177.out) k_ hk_.2.1),(Kd.freshB (g:=gb178) (o:=.cells #[.slice none 0 0,.int .i64 0] 24 (0,0)) (by (with_reducible repeat (first|apply bN|apply bD|apply bA));exact BK178.out) k_ hk_.2.1)⟩)) (below_size (by repeat (first|(with_reducible first|exact HB.out|apply lA|apply lN|apply lD|refine lS ?_ GE177.out|refine lS ?_ GE178.out)|exact HB.out))))
        have n6_:=mK (blk_below (g:=gb177) (o:=.cells #[.slice A0_0 l0_0.length c0_0,.int .i64 a0_1] 24 (0,0)) (by (with_reducible repeat (first|apply bN|apply bD|apply bA));exact BK177.out) hb)
        have n7_:=mK (blk_below (g:=gb178) (o:=.cells #[.slice none 0 0,.int .i64 0] 24 (0,0)) (by (with_reducible repeat (first|apply bN|apply bD|apply bA));exact BK178.out) hb)
        have n8_:=mK (below_step (by repeat (first|(with_reducible first|exact HB.out|apply lA|apply lN|apply lD|refine lS ?_ GE177.out|refine lS ?_ GE178.out)|exact HB.out)) hb)
        clear BK177
        clear BK178
        clear HB
        have HO198:=n5_
        have BK177:=n6_
        have BK178:=n7_
        have HB:=n8_
        clear n5_ n6_ n7_ n8_
        (try clear hb)
        (try clear hb2)
        (try clear hk)
        (try clear hi)
        (try clear ho0)
        obtain ⟨Ao35,co35,eo35⟩:=Kd.N_slice HO198.out
        (first|subst eo35|(injection eo35 with f1_ f2_ f3_;have f4_:=f1_.symm;have f5_:=f3_.symm;clear f1_ f2_ f3_;subst f4_;subst f5_))
        refine hK.out _ _ ⟨(blk_cell BK177.out 0).trans rfl,(blk_cell BK177.out 1).trans rfl⟩ (fun hHeld=>?_)
        clear hK K
        refine norm_ (a':=?_) ?_ ?_
        rotate_left
        ·show Act.put _ (some 28) _ = _
         simp only [Act.put,sT,sZ,sS,i64_w,i32_w]
         rfl
        refine one_ (i:=13) (N:=none) #[τ,τ,τ,τ,τ,τ,τ,τ,τ,τ,τ,τ,τ,τ] rfl rfl (one_of HT_.out (by kernel_rfl)) (by decide) (fun K hK=>?_)
        have hs36 : w34.cell? ⟨gb178,0,none⟩ = some (.slice none 0 0):=(blk_cell BK178.out 0).trans rfl
        have hfs36:=blk_frozen BK178.out 0
        have hns36_0:=NB177_178.out
        have hms36_0:=NB178_177.out
        have hs37 : w34.cell? ⟨gb178,1,none⟩ = some (.int .i64 0):=(blk_cell BK178.out 1).trans rfl
        have hfs37:=blk_frozen BK178.out 1
        have hns37_0:=NB177_178.out
        have hms37_0:=NB178_177.out
        refine skip_ (w1:=?_) (by rfl) rfl ?_ ?_
        rotate_left
        ·go_simp
         rfl
        refine hK.out _ _ ⟨((cell_far (p:=⟨gb178,_,none⟩) NB177_178.out _).trans (((cell_far (p:=⟨gb178,_,none⟩) NB177_178.out _).trans (hHeld.1)))),((cell_far (p:=⟨gb178,_,none⟩) NB177_178.out _).trans (((cell_far (p:=⟨gb178,_,none⟩) NB177_178.out _).trans (hHeld.2))))⟩ (fun hHeld=>?_)
        clear hK K
        refine done_ (done_of HT_.out (by kernel_rfl)) ?_
        try go_wp2
        refine bodyPost_ret (results_cell_row rfl _ _ gb178 24 #[.slice Ao35 t196.length co35,.int .i64 t199] (0,0) _ rfl (by (with_reducible repeat (first|apply bN|apply bD|apply bA));refine blk_put (cs:=#[.slice Ao35 t196.length co35,.int .i64 0]) ?_ 1 _ rfl;(with_reducible repeat (first|apply bN|apply bD|apply bA));refine blk_put (cs:=#[.slice none 0 0,.int .i64 0]) ?_ 0 _ rfl;(with_reducible repeat (first|apply bN|apply bD|apply bA));exact BK178.out) Try.underlying24 rfl (by kernel_rfl)) rfl ?_
        exact ⟨_,by first|rfl|(simp [errW_none,errW_some] <;> rfl)|(simp only [← hji19];first|rfl|(simp [errW_none,errW_some] <;> rfl))|(simp [*,errW_none,errW_some] <;> rfl),Kd.N_V (by (with_reducible repeat (first|apply Kd.N_alloc|apply Kd.N_drewN|apply Kd.N_drew));exact Kd.N_mono (Kd.N_far (p:=⟨gb178,1,none⟩) (Kd.N_far (p:=⟨gb178,0,none⟩) (Kd.N_mono HO198.out (fun k_ hk=>(⟨hk,hk.2.2.2.2⟩ : _∧k_ ≠ gb178))) (fun _ hk=>hk.2) (.slice Ao35 t196.length co35)) (fun _ hk=>hk.2) (.int .i64 t199)) (fun _ hk=>hk.1.1)),by repeat (first|(with_reducible first|exact HB.out|apply lA|apply lN|apply lD|refine lS ?_ GE177.out|refine lS ?_ GE178.out)|exact HB.out)⟩
       ·rw [if_neg c23] at H
        exact absurd H (by simp)
      ·rw [if_neg c22] at H
       exact absurd H (by simp)
     ·rw [if_neg c21] at H
      exact absurd H (by simp)
    ·rw [if_neg c20] at H
     exact absurd H (by simp)

end Go.Proofs.Ythfokiabneflpaa.P
