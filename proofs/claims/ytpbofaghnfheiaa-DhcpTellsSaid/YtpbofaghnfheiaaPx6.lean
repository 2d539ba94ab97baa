/- Contracts of functions of the seat, written by a program of this session (with the kit's print) for the laws of this claim; no condition beside what each states. -/
import Derived.Test.YtpbofaghnfheiaaPx0
import Derived.Test.YtpbofaghnfheiaaPx3
import Derived.Test.YtpbofaghnfheiaaPx5
namespace Go.Proofs.Ytpbofaghnfheiaa.P
open Go.Proofs.Ytpbofaghnfheiaa.Aux Go.RowKit Go.Proofs.YtpbofaghnfheiaaW.PrintWords Go.Proofs.YtpbofaghnfheiaaW.PrintLast Go.Proofs.YtpbofaghnfheiaaW.PrintMore
attribute [local go_sem] max2_int min2_int max_two min_two max_three min_three max_four min_four   -- for this text's walks alone
set_option linter.unusedVariables false
set_option linter.unusedSimpArgs false

/-! ### drawbridgelaw20_DhcpAgain: function 3 -/
def drawbridgelaw20_DhcpAgain.f (k : Nat) (l0 : List Int) : Option (Bool) := if (l0.length : Int) > 3000 then ((drawbridgelaw20_heads.f k).bind fun t171 => (some t171)) else ((dhcp_Get.f k l0).bind fun bt172 => (if bt172.2.2.2.2.2.2.2.2.2.2.2.2 = 0 then ((dhcp_Put.f k bt172.1 bt172.2.1 bt172.2.2.1 bt172.2.2.2.1 bt172.2.2.2.2.1 bt172.2.2.2.2.2.1 bt172.2.2.2.2.2.2.1 bt172.2.2.2.2.2.2.2.1 bt172.2.2.2.2.2.2.2.2.1 bt172.2.2.2.2.2.2.2.2.2.1 bt172.2.2.2.2.2.2.2.2.2.2.1 bt172.2.2.2.2.2.2.2.2.2.2.2.1).bind fun bt190 => ((dhcp_Get.f k bt190.1).bind fun bt194 => (if bt190.2 = 0 then (if bt194.2.2.2.2.2.2.2.2.2.2.2.2 = 0 then ((drawbridgeref20_Same.f bt194.1 bt194.2.1 bt194.2.2.1 bt194.2.2.2.1 bt194.2.2.2.2.1 bt194.2.2.2.2.2.1 bt194.2.2.2.2.2.2.1 bt194.2.2.2.2.2.2.2.1 bt194.2.2.2.2.2.2.2.2.1 bt194.2.2.2.2.2.2.2.2.2.1 bt194.2.2.2.2.2.2.2.2.2.2.1 bt194.2.2.2.2.2.2.2.2.2.2.2.1 bt172.1 bt172.2.1 bt172.2.2.1 bt172.2.2.2.1 bt172.2.2.2.2.1 bt172.2.2.2.2.2.1 bt172.2.2.2.2.2.2.1 bt172.2.2.2.2.2.2.2.1 bt172.2.2.2.2.2.2.2.2.1 bt172.2.2.2.2.2.2.2.2.2.1 bt172.2.2.2.2.2.2.2.2.2.2.1 bt172.2.2.2.2.2.2.2.2.2.2.2.1).bind fun t210 => (if t210 = true then ((drawbridgelaw20_heads.f k).bind fun t211 => (some t211)) else (some false))) else (some false)) else (some false)))) else ((drawbridgeref20_Same.f bt172.1 bt172.2.1 bt172.2.2.1 bt172.2.2.2.1 bt172.2.2.2.2.1 bt172.2.2.2.2.2.1 bt172.2.2.2.2.2.2.1 bt172.2.2.2.2.2.2.2.1 bt172.2.2.2.2.2.2.2.2.1 bt172.2.2.2.2.2.2.2.2.2.1 bt172.2.2.2.2.2.2.2.2.2.2.1 bt172.2.2.2.2.2.2.2.2.2.2.2.1 0 0 0 0 ([] : List Int) 0 0 0 0 0 0 0).bind fun t188 => (if t188 = true then ((drawbridgelaw20_heads.f k).bind fun t189 => (some t189)) else (some false)))))
theorem drawbridgelaw20_DhcpAgain.mono : ∀ a0 k, LeO (drawbridgelaw20_DhcpAgain.f k a0) (drawbridgelaw20_DhcpAgain.f (k + 1) a0) := by
 intro a0 k
 unfold drawbridgelaw20_DhcpAgain.f
 repeat' first
   | (with_reducible exact dhcp_Get.mono _ _)
   | (with_reducible exact dhcp_Put.mono _ _ _ _ _ _ _ _ _ _ _ _ _)
   | (with_reducible exact drawbridgelaw20_heads.mono _)
   | (with_reducible exact LeO.refl _)
   | (with_reducible exact LeO.none _)
   | (with_reducible refine LeO.ite ?_ ?_)
   | (with_reducible refine LeO.bind ?_ (fun _ => ?_))
   | exact dhcp_Get.mono _ _
   | exact dhcp_Put.mono _ _ _ _ _ _ _ _ _ _ _ _ _
   | exact drawbridgelaw20_heads.mono _
   | exact LeO.none _
   | refine LeO.ite ?_ ?_
   | refine LeO.bind ?_ (fun _ => ?_)
set_option maxHeartbeats 8000000 in
set_option maxRecDepth 100000 in
theorem drawbridgelaw20_DhcpAgain.calls (k : Nat) (A0 : Option Addr) (c0 : Nat) (l0 : List Int) (r : Bool) (w : World) (hr0 : Kd.C (Kd.int .u8) w A0 l0.length l0) (hc0 : l0.length ≤ c0) (hT_ : r = true) (h : drawbridgelaw20_DhcpAgain.f k l0 = some r) :
  Calls Try.prog 3 #[.slice A0 l0.length c0] w fun e w' => e = .returned (.bool r) ∧ Below w.heap.size w w' := by
 have HTr_:=mK hT_
 clear hT_
 have hu26:=Try.underlying26
 have HR0:=mK hr0
 have HC0:=mK hc0
 clear hr0 hc0
 have HB:=mK (Below.refl w.heap.size w)
 have H : (if (l0.length : Int) > 3000 then ((drawbridgelaw20_heads.f k).bind fun t171=>(some t171)) else ((dhcp_Get.f k l0).bind fun bt172=>(if bt172.2.2.2.2.2.2.2.2.2.2.2.2 = 0 then ((dhcp_Put.f k bt172.1 bt172.2.1 bt172.2.2.1 bt172.2.2.2.1 bt172.2.2.2.2.1 bt172.2.2.2.2.2.1 bt172.2.2.2.2.2.2.1 bt172.2.2.2.2.2.2.2.1 bt172.2.2.2.2.2.2.2.2.1 bt172.2.2.2.2.2.2.2.2.2.1 bt172.2.2.2.2.2.2.2.2.2.2.1 bt172.2.2.2.2.2.2.2.2.2.2.2.1).bind fun bt190=>((dhcp_Get.f k bt190.1).bind fun bt194=>(if bt190.2 = 0 then (if bt194.2.2.2.2.2.2.2.2.2.2.2.2 = 0 then ((drawbridgeref20_Same.f bt194.1 bt194.2.1 bt194.2.2.1 bt194.2.2.2.1 bt194.2.2.2.2.1 bt194.2.2.2.2.2.1 bt194.2.2.2.2.2.2.1 bt194.2.2.2.2.2.2.2.1 bt194.2.2.2.2.2.2.2.2.1 bt194.2.2.2.2.2.2.2.2.2.1 bt194.2.2.2.2.2.2.2.2.2.2.1 bt194.2.2.2.2.2.2.2.2.2.2.2.1 bt172.1 bt172.2.1 bt172.2.2.1 bt172.2.2.2.1 bt172.2.2.2.2.1 bt172.2.2.2.2.2.1 bt172.2.2.2.2.2.2.1 bt172.2.2.2.2.2.2.2.1 bt172.2.2.2.2.2.2.2.2.1 bt172.2.2.2.2.2.2.2.2.2.1 bt172.2.2.2.2.2.2.2.2.2.2.1 bt172.2.2.2.2.2.2.2.2.2.2.2.1).bind fun t210=>(if t210 = true then ((drawbridgelaw20_heads.f k).bind fun t211=>(some t211)) else (some false))) else (some false)) else (some false)))) else ((drawbridgeref20_Same.f bt172.1 bt172.2.1 bt172.2.2.1 bt172.2.2.2.1 bt172.2.2.2.2.1 bt172.2.2.2.2.2.1 bt172.2.2.2.2.2.2.1 bt172.2.2.2.2.2.2.2.1 bt172.2.2.2.2.2.2.2.2.1 bt172.2.2.2.2.2.2.2.2.2.1 bt172.2.2.2.2.2.2.2.2.2.2.1 bt172.2.2.2.2.2.2.2.2.2.2.2.1 0 0 0 0 ([] : List Int) 0 0 0 0 0 0 0).bind fun t188=>(if t188 = true then ((drawbridgelaw20_heads.f k).bind fun t189=>(some t189)) else (some false)))))) = some r:=h
 clear h
 by_cases c2 : (l0.length : Int) > 3000
 ·rw [if_pos c2] at H
  have c2b0 : decide (3000 < (l0.length : Int)) = true:=decide_eq_true c2
  have c2b1 : decide (3000 < l0.length) = true:=decide_eq_true (by omega)
  clear c2
  replace H:=Option.bind_eq_some_iff.mp H
  obtain ⟨t171,A30,H⟩:=H
  replace H : (some t171) = some r:=H
  have A3:=mK A30
  clear A30
  obtain rfl:=Option.some.inj H
  go_enter Try.func3,Try.ntmps3
  go_wp2_with (first|((with_reducible refine gate_callee (f:=7) rfl ?_);refine goesL_ (some 12) rfl rfl Try.func7 (by kernel_rfl) rfl #[] rfl (by (try simp only [List.map_toArray,List.map_cons,List.map_nil]);first|done|rfl|(simp only [List.length_drop,List.length_take];rfl)) ?_;(with_reducible refine (drawbridgelaw20_heads.calls k  t171 _ (by first|exact HTr_.out|assumption) A3.out).mono ?_);rintro e w4 ⟨rfl,hb⟩;refine ⟨_,rfl,?_⟩;have n0_:=mK (below_step (by repeat (first|(with_reducible first|exact HB.out|apply lA|apply lN|apply lD)|exact HB.out)) hb);clear HB;have HB:=n0_;clear n0_;(try clear hb);(try clear hb2);(try clear hk);(try clear hi)))
  go_ret
  exact ⟨by first|rfl|(simp [errW_none,errW_some] <;> rfl)|(simp [*,errW_none,errW_some] <;> rfl),by repeat (first|(with_reducible first|exact HB.out|apply lA|apply lN|apply lD)|exact HB.out)⟩
 ·rw [if_neg c2] at H
  have c2b0 : decide (3000 < (l0.length : Int)) = false:=decide_eq_false c2
  have c2b1 : decide (3000 < l0.length) = false:=decide_eq_false (by omega)
  clear c2
  replace H:=Option.bind_eq_some_iff.mp H
  obtain ⟨⟨t172,t173,t174,t175,t176,t179,t180,t181,t182,t183,t184,t185,t186⟩,A50,H⟩:=H
  replace H : (if t186 = 0 then ((dhcp_Put.f k t172 t173 t174 t175 t176 t179 t180 t181 t182 t183 t184 t185).bind fun bt190=>((dhcp_Get.f k bt190.1).bind fun bt194=>(if bt190.2 = 0 then (if bt194.2.2.2.2.2.2.2.2.2.2.2.2 = 0 then ((drawbridgeref20_Same.f bt194.1 bt194.2.1 bt194.2.2.1 bt194.2.2.2.1 bt194.2.2.2.2.1 bt194.2.2.2.2.2.1 bt194.2.2.2.2.2.2.1 bt194.2.2.2.2.2.2.2.1 bt194.2.2.2.2.2.2.2.2.1 bt194.2.2.2.2.2.2.2.2.2.1 bt194.2.2.2.2.2.2.2.2.2.2.1 bt194.2.2.2.2.2.2.2.2.2.2.2.1 t172 t173 t174 t175 t176 t179 t180 t181 t182 t183 t184 t185).bind fun t210=>(if t210 = true then ((drawbridgelaw20_heads.f k).bind fun t211=>(some t211)) else (some false))) else (some false)) else (some false)))) else ((drawbridgeref20_Same.f t172 t173 t174 t175 t176 t179 t180 t181 t182 t183 t184 t185 0 0 0 0 ([] : List Int) 0 0 0 0 0 0 0).bind fun t188=>(if t188 = true then ((drawbridgelaw20_heads.f k).bind fun t189=>(some t189)) else (some false)))) = some r:=H
  have A5:=mK A50
  clear A50
  by_cases c6 : t186 = 0
  ·rw [if_pos c6] at H
   have c6b0 : (t186 == 0) = true:=beq_iff_eq.mpr c6
   have c6b1 : (t186 != 0) = false:=bne_eq_false_iff_eq.mpr c6
   clear c6
   replace H:=Option.bind_eq_some_iff.mp H
   obtain ⟨⟨t190,t193⟩,A70,H⟩:=H
   replace H : ((dhcp_Get.f k t190).bind fun bt194=>(if t193 = 0 then (if bt194.2.2.2.2.2.2.2.2.2.2.2.2 = 0 then ((drawbridgeref20_Same.f bt194.1 bt194.2.1 bt194.2.2.1 bt194.2.2.2.1 bt194.2.2.2.2.1 bt194.2.2.2.2.2.1 bt194.2.2.2.2.2.2.1 bt194.2.2.2.2.2.2.2.1 bt194.2.2.2.2.2.2.2.2.1 bt194.2.2.2.2.2.2.2.2.2.1 bt194.2.2.2.2.2.2.2.2.2.2.1 bt194.2.2.2.2.2.2.2.2.2.2.2.1 t172 t173 t174 t175 t176 t179 t180 t181 t182 t183 t184 t185).bind fun t210=>(if t210 = true then ((drawbridgelaw20_heads.f k).bind fun t211=>(some t211)) else (some false))) else (some false)) else (some false))) = some r:=H
   have A7:=mK A70
   clear A70
   replace H:=Option.bind_eq_some_iff.mp H
   obtain ⟨⟨t194,t195,t196,t197,t198,t201,t202,t203,t204,t205,t206,t207,t208⟩,A80,H⟩:=H
   replace H : (if t193 = 0 then (if t208 = 0 then ((drawbridgeref20_Same.f t194 t195 t196 t197 t198 t201 t202 t203 t204 t205 t206 t207 t172 t173 t174 t175 t176 t179 t180 t181 t182 t183 t184 t185).bind fun t210=>(if t210 = true then ((drawbridgelaw20_heads.f k).bind fun t211=>(some t211)) else (some false))) else (some false)) else (some false)) = some r:=H
   have A8:=mK A80
   clear A80
   by_cases c9 : t193 = 0
   ·rw [if_pos c9] at H
    have c9b0 : (t193 == 0) = true:=beq_iff_eq.mpr c9
    have c9b1 : (t193 != 0) = false:=bne_eq_false_iff_eq.mpr c9
    clear c9
    by_cases c10 : t208 = 0
    ·rw [if_pos c10] at H
     have c10b0 : (t208 == 0) = true:=beq_iff_eq.mpr c10
     have c10b1 : (t208 != 0) = false:=bne_eq_false_iff_eq.mpr c10
     clear c10
     replace H:=Option.bind_eq_some_iff.mp H
     obtain ⟨t210,A110,H⟩:=H
     replace H : (if t210 = true then ((drawbridgelaw20_heads.f k).bind fun t211=>(some t211)) else (some false)) = some r:=H
     have A11:=mK A110
     clear A110
     by_cases c12 : t210 = true
     ·subst c12
      have H1 : ((drawbridgelaw20_heads.f k).bind fun t211=>(some t211)) = some r:= by rw [if_pos rfl] at H;exact H
      clear H
      have H:=H1
      clear H1
      replace H:=Option.bind_eq_some_iff.mp H
      obtain ⟨t211,A130,H⟩:=H
      replace H : (some t211) = some r:=H
      have A13:=mK A130
      clear A130
      obtain rfl:=Option.some.inj H
      go_enter Try.func3,Try.ntmps3
      go_wp2_with (first|((with_reducible refine gate_callee (f:=8) rfl ?_);refine goesL_ (some 15) rfl rfl Try.func8 (by kernel_rfl) rfl #[.slice A0 l0.length c0] rfl (by (try simp only [List.map_toArray,List.map_cons,List.map_nil]);first|done|rfl|(simp only [List.length_drop,List.length_take];rfl)) ?_;(with_reducible refine (dhcp_Get.calls k _ _ l0 t172 t173 t174 t175 t176 t179 t180 t181 t182 t183 t184 t185 t186 _ ?side1 ?side2 A5.out).mono ?_);(case side1=>repeat (first|exact HR0.out|(with_reducible refine Kd.C_alloc ?_ _)|(with_reducible refine Kd.C_drewN ?_ _)|(with_reducible refine Kd.C_drew ?_)));(case side2=>exact HC0.out);rintro e w14 ⟨v177,rfl,ho0,hb⟩;refine ⟨_,rfl,?_⟩;have n0_:=mK (Kd.R_lower ho0 (below_size (by repeat (first|(with_reducible first|exact HB.out|apply lA|apply lN|apply lD)|exact HB.out))));have n1_:=mK (below_step (by repeat (first|(with_reducible first|exact HB.out|apply lA|apply lN|apply lD)|exact HB.out)) hb);clear HB;have HO178:=n0_;have HB:=n1_;clear n0_ n1_;(try clear hb);(try clear hb2);(try clear hk);(try clear hi);(try clear ho0))|((with_reducible refine gate_dst (N:=3) rfl ?_);refine box_event ?hg (N:=3) ?hd (cs:=#[.int .i64 0,.int .u32 0,.int .u32 0,.int .u32 0,.slice none 0 0,.int .i64 0,.int .u32 0,.int .u32 0,.int .u32 0,.int .u32 0,.int .u32 0,.int .u32 0]) (t:=26) ?hr ?_;(case hd=>rfl);(case hg=>rfl);(case hr=>first|(go_simp;done)|(go_simp;rfl));intro gb187 hg w15 hbox hb;have n0_:=mK (Kd.R_below (by (with_reducible repeat (first|apply rA|apply rN|apply rD));exact HO178.out) hb);have n1_:=mK (below_step (by repeat (first|(with_reducible first|exact HB.out|apply lA|apply lN|apply lD)|exact HB.out)) hb);have n2_:=mK (hbox);have n4_:=mK ((by rw [hg];exact (below_size (by repeat (first|(with_reducible first|exact HB.out|apply lA|apply lN|apply lD)|exact HB.out))) : w.heap.size ≤ gb187));clear HO178;clear HB;have HO178:=n0_;have HB:=n1_;have BK187:=n2_;have GE187:=n4_;clear n0_ n1_ n2_ n4_;clear hb hbox hg;have hcz16_0 : w15.cell? ⟨gb187,0,none⟩ = some (.int .i64 0):=(blk_cell BK187.out 0).trans rfl;have hcz16_1 : w15.cell? ⟨gb187,1,none⟩ = some (.int .u32 0):=(blk_cell BK187.out 1).trans rfl;have hcz16_2 : w15.cell? ⟨gb187,2,none⟩ = some (.int .u32 0):=(blk_cell BK187.out 2).trans rfl;have hcz16_3 : w15.cell? ⟨gb187,3,none⟩ = some (.int .u32 0):=(blk_cell BK187.out 3).trans rfl;have hcz16_4 : w15.cell? ⟨gb187,4,none⟩ = some (.slice none 0 0):=(blk_cell BK187.out 4).trans rfl;have hcz16_5 : w15.cell? ⟨gb187,5,none⟩ = some (.int .i64 0):=(blk_cell BK187.out 5).trans rfl;have hcz16_6 : w15.cell? ⟨gb187,6,none⟩ = some (.int .u32 0):=(blk_cell BK187.out 6).trans rfl;have hcz16_7 : w15.cell? ⟨gb187,7,none⟩ = some (.int .u32 0):=(blk_cell BK187.out 7).trans rfl;have hcz16_8 : w15.cell? ⟨gb187,8,none⟩ = some (.int .u32 0):=(blk_cell BK187.out 8).trans rfl;have hcz16_9 : w15.cell? ⟨gb187,9,none⟩ = some (.int .u32 0):=(blk_cell BK187.out 9).trans rfl;have hcz16_10 : w15.cell? ⟨gb187,10,none⟩ = some (.int .u32 0):=(blk_cell BK187.out 10).trans rfl;have hcz16_11 : w15.cell? ⟨gb187,11,none⟩ = some (.int .u32 0):=(blk_cell BK187.out 11).trans rfl;have hfz16_0:=blk_frozen BK187.out 0;have hfz16_1:=blk_frozen BK187.out 1;have hfz16_2:=blk_frozen BK187.out 2;have hfz16_3:=blk_frozen BK187.out 3;have hfz16_4:=blk_frozen BK187.out 4;have hfz16_5:=blk_frozen BK187.out 5;have hfz16_6:=blk_frozen BK187.out 6;have hfz16_7:=blk_frozen BK187.out 7;have hfz16_8:=blk_frozen BK187.out 8;have hfz16_9:=blk_frozen BK187.out 9;have hfz16_10:=blk_frozen BK187.out 10;have hfz16_11:=blk_frozen BK187.out 11;obtain ⟨Ao17,co17,eo17⟩:=Kd.R_slice HO178.out;subst eo17)|((with_reducible refine gate_callee (f:=10) rfl ?_);refine goesL_ (some 28) rfl rfl Try.func10 (by kernel_rfl) rfl #[.agg #[.int .i64 t172,.int .u32 t173,.int .u32 t174,.int .u32 t175,.slice Ao17 t176.length co17,.int .i64 t179,.int .u32 t180,.int .u32 t181,.int .u32 t182,.int .u32 t183,.int .u32 t184,.int .u32 t185]] rfl (by (try simp only [List.map_toArray,List.map_cons,List.map_nil]);first|done|rfl|(simp only [List.length_drop,List.length_take];rfl)) ?_;(with_reducible refine (dhcp_Put.calls k t172 t173 t174 t175 _ _ t176 t179 t180 t181 t182 t183 t184 t185 t190 t193 _ ?side1 ?side2 A7.out).mono ?_);(case side1=>refine (Kd.R_reads' (e:=5) (base:=w.heap.size) (ok:= fun k_=>True) (n:=t176.length) (c:=co17) ?_).2.2;exact (by (with_reducible repeat (first|apply rA|apply rN|apply rD));exact (Kd.R_mono (Kd.R_far (p:=⟨gb187,11,none⟩) (Kd.R_far (p:=⟨gb187,10,none⟩) (Kd.R_far (p:=⟨gb187,9,none⟩) (Kd.R_far (p:=⟨gb187,8,none⟩) (Kd.R_far (p:=⟨gb187,7,none⟩) (Kd.R_far (p:=⟨gb187,6,none⟩) (Kd.R_far (p:=⟨gb187,5,none⟩) (Kd.R_far (p:=⟨gb187,4,none⟩) (Kd.R_far (p:=⟨gb187,3,none⟩) (Kd.R_far (p:=⟨gb187,2,none⟩) (Kd.R_far (p:=⟨gb187,1,none⟩) (Kd.R_far (p:=⟨gb187,0,none⟩) (Kd.R_types HO178.out BK187.out (by decide)) (fun _ hk=>hk.2) (.int .i64 t172)) (fun _ hk=>hk.2) (.int .u32 t173)) (fun _ hk=>hk.2) (.int .u32 t174)) (fun _ hk=>hk.2) (.int .u32 t175)) (fun _ hk=>hk.2) (.slice Ao17 t176.length co17)) (fun _ hk=>hk.2) (.int .i64 t179)) (fun _ hk=>hk.2) (.int .u32 t180)) (fun _ hk=>hk.2) (.int .u32 t181)) (fun _ hk=>hk.2) (.int .u32 t182)) (fun _ hk=>hk.2) (.int .u32 t183)) (fun _ hk=>hk.2) (.int .u32 t184)) (fun _ hk=>hk.2) (.int .u32 t185)) (fun _ h_=>h_.1))));(case side2=>exact (Kd.R_reads' HO178.out).2.1);rintro e w18 ⟨v191,rfl,ho0,hb⟩;refine ⟨_,rfl,?_⟩;have n0_:=mK (Kd.R_elder' (by (with_reducible repeat (first|apply rA|apply rN|apply rD));exact (Kd.R_mono (Kd.R_far (p:=⟨gb187,11,none⟩) (Kd.R_far (p:=⟨gb187,10,none⟩) (Kd.R_far (p:=⟨gb187,9,none⟩) (Kd.R_far (p:=⟨gb187,8,none⟩) (Kd.R_far (p:=⟨gb187,7,none⟩) (Kd.R_far (p:=⟨gb187,6,none⟩) (Kd.R_far (p:=⟨gb187,5,none⟩) (Kd.R_far (p:=⟨gb187,4,none⟩) (Kd.R_far (p:=⟨gb187,3,none⟩) (Kd.R_far (p:=⟨gb187,2,none⟩) (Kd.R_far (p:=⟨gb187,1,none⟩) (Kd.R_far (p:=⟨gb187,0,none⟩) (Kd.R_types HO178.out BK187.out (by decide)) (fun _ hk=>hk.2) (.int .i64 t172)) (fun _ hk=>hk.2) (.int .u32 t173)) (fun _ hk=>hk.2) (.int .u32 t174)) (fun _ hk=>hk.2) (.int .u32 t175)) (fun _ hk=>hk.2) (.slice Ao17 t176.length co17)) (fun _ hk=>hk.2) (.int .i64 t179)) (fun _ hk=>hk.2) (.int .u32 t180)) (fun _ hk=>hk.2) (.int .u32 t181)) (fun _ hk=>hk.2) (.int .u32 t182)) (fun _ hk=>hk.2) (.int .u32 t183)) (fun _ hk=>hk.2) (.int .u32 t184)) (fun _ hk=>hk.2) (.int .u32 t185)) (fun _ h_=>h_.1))) (Kd.R_base ho0) hb);have n1_:=mK (Kd.R_lower (Kd.R_new' ho0 (Kd.R_lt (by (with_reducible repeat (first|apply rA|apply rN|apply rD));exact (Kd.R_mono (Kd.R_far (p:=⟨gb187,11,none⟩) (Kd.R_far (p:=⟨gb187,10,none⟩) (Kd.R_far (p:=⟨gb187,9,none⟩) (Kd.R_far (p:=⟨gb187,8,none⟩) (Kd.R_far (p:=⟨gb187,7,none⟩) (Kd.R_far (p:=⟨gb187,6,none⟩) (Kd.R_far (p:=⟨gb187,5,none⟩) (Kd.R_far (p:=⟨gb187,4,none⟩) (Kd.R_far (p:=⟨gb187,3,none⟩) (Kd.R_far (p:=⟨gb187,2,none⟩) (Kd.R_far (p:=⟨gb187,1,none⟩) (Kd.R_far (p:=⟨gb187,0,none⟩) (Kd.R_types HO178.out BK187.out (by decide)) (fun _ hk=>hk.2) (.int .i64 t172)) (fun _ hk=>hk.2) (.int .u32 t173)) (fun _ hk=>hk.2) (.int .u32 t174)) (fun _ hk=>hk.2) (.int .u32 t175)) (fun _ hk=>hk.2) (.slice Ao17 t176.length co17)) (fun _ hk=>hk.2) (.int .i64 t179)) (fun _ hk=>hk.2) (.int .u32 t180)) (fun _ hk=>hk.2) (.int .u32 t181)) (fun _ hk=>hk.2) (.int .u32 t182)) (fun _ hk=>hk.2) (.int .u32 t183)) (fun _ hk=>hk.2) (.int .u32 t184)) (fun _ hk=>hk.2) (.int .u32 t185)) (fun _ h_=>h_.1))))) (below_size (by repeat (first|(with_reducible first|exact HB.out|apply lA|apply lN|apply lD|refine lS ?_ GE187.out)|exact HB.out))));have n2_:=mK (blk_below (g:=gb187) (o:=.cells #[.int .i64 t172,.int .u32 t173,.int .u32 t174,.int .u32 t175,.slice Ao17 t176.length co17,.int .i64 t179,.int .u32 t180,.int .u32 t181,.int .u32 t182,.int .u32 t183,.int .u32 t184,.int .u32 t185] 26 (0,0)) (by (with_reducible repeat (first|apply bN|apply bD|apply bA));refine blk_put (cs:=#[.int .i64 t172,.int .u32 t173,.int .u32 t174,.int .u32 t175,.slice Ao17 t176.length co17,.int .i64 t179,.int .u32 t180,.int .u32 t181,.int .u32 t182,.int .u32 t183,.int .u32 t184,.int .u32 0]) ?_ 11 _ rfl;(with_reducible repeat (first|apply bN|apply bD|apply bA));refine blk_put (cs:=#[.int .i64 t172,.int .u32 t173,.int .u32 t174,.int .u32 t175,.slice Ao17 t176.length co17,.int .i64 t179,.int .u32 t180,.int .u32 t181,.int .u32 t182,.int .u32 t183,.int .u32 0,.int .u32 0]) ?_ 10 _ rfl;(with_reducible repeat (first|apply bN|apply bD|apply bA));refine blk_put (cs:=#[.int .i64 t172,.int .u32 t173,.int .u32 t174,.int .u32 t175,.slice Ao17 t176.length co17,.int .i64 t179,.int .u32 t180,.int .u32 t181,.int .u32 t182,.int .u32 0,.int .u32 0,.int .u32 0]) ?_ 9 _ rfl;(with_reducible repeat (first|apply bN|apply bD|apply bA));refine blk_put (cs:=#[.int .i64 t172,.int .u32 t173,.int .u32 t174,.int .u32 t175,.slice Ao17 t176.length co17,.int .i64 t179,.int .u32 t180,.int .u32 t181,.int .u32 0,.int .u32 0,.int .u32 0,.int .u32 0]) ?_ 8 _ rfl;(with_reducible repeat (first|apply bN|apply bD|apply bA));refine blk_put (cs:=#[.int .i64 t172,.int .u32 t173,.int .u32 t174,.int .u32 t175,.slice Ao17 t176.length co17,.int .i64 t179,.int .u32 t180,.int .u32 0,.int .u32 0,.int .u32 0,.int .u32 0,.int .u32 0]) ?_ 7 _ rfl;(with_reducible repeat (first|apply bN|apply bD|apply bA));refine blk_put (cs:=#[.int .i64 t172,.int .u32 t173,.int .u32 t174,.int .u32 t175,.slice Ao17 t176.length co17,.int .i64 t179,.int .u32 0,.int .u32 0,.int .u32 0,.int .u32 0,.int .u32 0,.int .u32 0]) ?_ 6 _ rfl;(with_reducible repeat (first|apply bN|apply bD|apply bA));refine blk_put (cs:=#[.int .i64 t172,.int .u32 t173,.int .u32 t174,.int .u32 t175,.slice Ao17 t176.length co17,.int .i64 0,.int .u32 0,.int .u32 0,.int .u32 0,.int .u32 0,.int .u32 0,.int .u32 0]) ?_ 5 _ rfl;(with_reducible repeat (first|apply bN|apply bD|apply bA));refine blk_put (cs:=#[.int .i64 t172,.int .u32 t173,.int .u32 t174,.int .u32 t175,.slice none 0 0,.int .i64 0,.int .u32 0,.int .u32 0,.int .u32 0,.int .u32 0,.int .u32 0,.int .u32 0]) ?_ 4 _ rfl;(with_reducible repeat (first|apply bN|apply bD|apply bA));refine blk_put (cs:=#[.int .i64 t172,.int .u32 t173,.int .u32 t174,.int .u32 0,.slice none 0 0,.int .i64 0,.int .u32 0,.int .u32 0,.int .u32 0,.int .u32 0,.int .u32 0,.int .u32 0]) ?_ 3 _ rfl;(with_reducible repeat (first|apply bN|apply bD|apply bA));refine blk_put (cs:=#[.int .i64 t172,.int .u32 t173,.int .u32 0,.int .u32 0,.slice none 0 0,.int .i64 0,.int .u32 0,.int .u32 0,.int .u32 0,.int .u32 0,.int .u32 0,.int .u32 0]) ?_ 2 _ rfl;(with_reducible repeat (first|apply bN|apply bD|apply bA));refine blk_put (cs:=#[.int .i64 t172,.int .u32 0,.int .u32 0,.int .u32 0,.slice none 0 0,.int .i64 0,.int .u32 0,.int .u32 0,.int .u32 0,.int .u32 0,.int .u32 0,.int .u32 0]) ?_ 1 _ rfl;(with_reducible repeat (first|apply bN|apply bD|apply bA));refine blk_put (cs:=#[.int .i64 0,.int .u32 0,.int .u32 0,.int .u32 0,.slice none 0 0,.int .i64 0,.int .u32 0,.int .u32 0,.int .u32 0,.int .u32 0,.int .u32 0,.int .u32 0]) ?_ 0 _ rfl;(with_reducible repeat (first|apply bN|apply bD|apply bA));exact BK187.out) hb);have n3_:=mK (below_step (by repeat (first|(with_reducible first|exact HB.out|apply lA|apply lN|apply lD|refine lS ?_ GE187.out)|exact HB.out)) hb);clear HO178;clear BK187;clear HB;have HO178:=n0_;have HO192:=n1_;have BK187:=n2_;have HB:=n3_;clear n0_ n1_ n2_ n3_;(try clear hb);(try clear hb2);(try clear hk);(try clear hi);(try clear ho0);obtain ⟨Ao19,co19,eo19⟩:=Kd.R_slice HO192.out;subst eo19)|((with_reducible refine gate_callee (f:=8) rfl ?_);refine goesL_ (some 33) rfl rfl Try.func8 (by kernel_rfl) rfl #[.slice Ao19 t190.length co19] rfl (by (try simp only [List.map_toArray,List.map_cons,List.map_nil]);first|done|rfl|(simp only [List.length_drop,List.length_take];rfl)) ?_;(with_reducible refine (dhcp_Get.calls k _ _ t190 t194 t195 t196 t197 t198 t201 t202 t203 t204 t205 t206 t207 t208 _ ?side1 ?side2 A8.out).mono ?_);(case side1=>repeat (first|exact (Kd.R_reads' HO192.out).2.2|(with_reducible refine Kd.C_alloc ?_ _)|(with_reducible refine Kd.C_drewN ?_ _)|(with_reducible refine Kd.C_drew ?_)));(case side2=>exact (Kd.R_reads' HO192.out).2.1);rintro e w20 ⟨v199,rfl,ho0,hb⟩;refine ⟨_,rfl,?_⟩;have n0_:=mK (Kd.R_elder' (by (with_reducible repeat (first|apply rA|apply rN|apply rD));exact HO178.out) (Kd.R_base ho0) hb);have n2_:=mK (Kd.R_lower (Kd.R_new' (Kd.R_new' ho0 (Kd.R_lt (by (with_reducible repeat (first|apply rA|apply rN|apply rD));exact HO178.out))) (Kd.R_lt (by (with_reducible repeat (first|apply rA|apply rN|apply rD));exact HO192.out))) (below_size (by repeat (first|(with_reducible first|exact HB.out|apply lA|apply lN|apply lD|refine lS ?_ GE187.out)|exact HB.out))));have n3_:=mK (blk_below (g:=gb187) (o:=.cells #[.int .i64 t172,.int .u32 t173,.int .u32 t174,.int .u32 t175,.slice Ao17 t176.length co17,.int .i64 t179,.int .u32 t180,.int .u32 t181,.int .u32 t182,.int .u32 t183,.int .u32 t184,.int .u32 t185] 26 (0,0)) (by (with_reducible repeat (first|apply bN|apply bD|apply bA));exact BK187.out) hb);have n4_:=mK (below_step (by repeat (first|(with_reducible first|exact HB.out|apply lA|apply lN|apply lD|refine lS ?_ GE187.out)|exact HB.out)) hb);clear HO178;clear BK187;clear HB;have HO178:=n0_;have HO200:=n2_;have BK187:=n3_;have HB:=n4_;clear n0_ n2_ n3_ n4_;(try clear hb);(try clear hb2);(try clear hk);(try clear hi);(try clear ho0))|((with_reducible refine gate_dst (N:=7) rfl ?_);refine box_event ?hg (N:=7) ?hd (cs:=#[.int .i64 0,.int .u32 0,.int .u32 0,.int .u32 0,.slice none 0 0,.int .i64 0,.int .u32 0,.int .u32 0,.int .u32 0,.int .u32 0,.int .u32 0,.int .u32 0]) (t:=26) ?hr ?_;(case hd=>rfl);(case hg=>rfl);(case hr=>first|(go_simp;done)|(go_simp;rfl));intro gb209 hg w21 hbox hb;have n0_:=mK (Kd.R_below (by (with_reducible repeat (first|apply rA|apply rN|apply rD));exact HO178.out) hb);have n2_:=mK (Kd.R_below (by (with_reducible repeat (first|apply rA|apply rN|apply rD));exact HO200.out) hb);have n3_:=mK (blk_below (g:=gb187) (o:=.cells #[.int .i64 t172,.int .u32 t173,.int .u32 t174,.int .u32 t175,.slice Ao17 t176.length co17,.int .i64 t179,.int .u32 t180,.int .u32 t181,.int .u32 t182,.int .u32 t183,.int .u32 t184,.int .u32 t185] 26 (0,0)) (by (with_reducible repeat (first|apply bN|apply bD|apply bA));exact BK187.out) hb);have n4_:=mK (below_step (by repeat (first|(with_reducible first|exact HB.out|apply lA|apply lN|apply lD|refine lS ?_ GE187.out)|exact HB.out)) hb);have n5_:=mK (hbox);have n7_:=mK ((by rw [hg];exact (below_size (by repeat (first|(with_reducible first|exact HB.out|apply lA|apply lN|apply lD|refine lS ?_ GE187.out)|exact HB.out))) : w.heap.size ≤ gb209));have n8_:=mK ((by rw [hg];exact Nat.ne_of_lt (blk_lt (g:=gb187) (o:=.cells #[.int .i64 t172,.int .u32 t173,.int .u32 t174,.int .u32 t175,.slice Ao17 t176.length co17,.int .i64 t179,.int .u32 t180,.int .u32 t181,.int .u32 t182,.int .u32 t183,.int .u32 t184,.int .u32 t185] 26 (0,0)) (by (with_reducible repeat (first|apply bN|apply bD|apply bA));exact BK187.out)) : gb187 ≠ gb209));have n9_:=mK ((by rw [hg];exact Nat.ne_of_gt (blk_lt (g:=gb187) (o:=.cells #[.int .i64 t172,.int .u32 t173,.int .u32 t174,.int .u32 t175,.slice Ao17 t176.length co17,.int .i64 t179,.int .u32 t180,.int .u32 t181,.int .u32 t182,.int .u32 t183,.int .u32 t184,.int .u32 t185] 26 (0,0)) (by (with_reducible repeat (first|apply bN|apply bD|apply bA));exact BK187.out)) : gb209 ≠ gb187));clear HO178;clear HO200;clear BK187;clear HB;have HO178:=n0_;have HO200:=n2_;have BK187:=n3_;have HB:=n4_;have BK209:=n5_;have GE209:=n7_;have NB187_209:=n8_;have NB209_187:=n9_;clear n0_ n2_ n3_ n4_ n5_ n7_ n8_ n9_;clear hb hbox hg;have hnb22:=NB209_187.out;have hnc22:=NB187_209.out;have hcz23_0 : w21.cell? ⟨gb209,0,none⟩ = some (.int .i64 0):=(blk_cell BK209.out 0).trans rfl;have hcz23_1 : w21.cell? ⟨gb209,1,none⟩ = some (.int .u32 0):=(blk_cell BK209.out 1).trans rfl;have hcz23_2 : w21.cell? ⟨gb209,2,none⟩ = some (.int .u32 0):=(blk_cell BK209.out 2).trans rfl;have hcz23_3 : w21.cell? ⟨gb209,3,none⟩ = some (.int .u32 0):=(blk_cell BK209.out 3).trans rfl;have hcz23_4 : w21.cell? ⟨gb209,4,none⟩ = some (.slice none 0 0):=(blk_cell BK209.out 4).trans rfl;have hcz23_5 : w21.cell? ⟨gb209,5,none⟩ = some (.int .i64 0):=(blk_cell BK209.out 5).trans rfl;have hcz23_6 : w21.cell? ⟨gb209,6,none⟩ = some (.int .u32 0):=(blk_cell BK209.out 6).trans rfl;have hcz23_7 : w21.cell? ⟨gb209,7,none⟩ = some (.int .u32 0):=(blk_cell BK209.out 7).trans rfl;have hcz23_8 : w21.cell? ⟨gb209,8,none⟩ = some (.int .u32 0):=(blk_cell BK209.out 8).trans rfl;have hcz23_9 : w21.cell? ⟨gb209,9,none⟩ = some (.int .u32 0):=(blk_cell BK209.out 9).trans rfl;have hcz23_10 : w21.cell? ⟨gb209,10,none⟩ = some (.int .u32 0):=(blk_cell BK209.out 10).trans rfl;have hcz23_11 : w21.cell? ⟨gb209,11,none⟩ = some (.int .u32 0):=(blk_cell BK209.out 11).trans rfl;have hfz23_0:=blk_frozen BK209.out 0;have hfz23_1:=blk_frozen BK209.out 1;have hfz23_2:=blk_frozen BK209.out 2;have hfz23_3:=blk_frozen BK209.out 3;have hfz23_4:=blk_frozen BK209.out 4;have hfz23_5:=blk_frozen BK209.out 5;have hfz23_6:=blk_frozen BK209.out 6;have hfz23_7:=blk_frozen BK209.out 7;have hfz23_8:=blk_frozen BK209.out 8;have hfz23_9:=blk_frozen BK209.out 9;have hfz23_10:=blk_frozen BK209.out 10;have hfz23_11:=blk_frozen BK209.out 11;obtain ⟨Ao24,co24,eo24⟩:=Kd.R_slice HO200.out;subst eo24;have hcz25_0 : w21.cell? ⟨gb187,0,none⟩ = some (.int .i64 t172):=(blk_cell BK187.out 0).trans rfl;have hcz25_1 : w21.cell? ⟨gb187,1,none⟩ = some (.int .u32 t173):=(blk_cell BK187.out 1).trans rfl;have hcz25_2 : w21.cell? ⟨gb187,2,none⟩ = some (.int .u32 t174):=(blk_cell BK187.out 2).trans rfl;have hcz25_3 : w21.cell? ⟨gb187,3,none⟩ = some (.int .u32 t175):=(blk_cell BK187.out 3).trans rfl;have hcz25_4 : w21.cell? ⟨gb187,4,none⟩ = some (.slice Ao17 t176.length co17):=(blk_cell BK187.out 4).trans rfl;have hcz25_5 : w21.cell? ⟨gb187,5,none⟩ = some (.int .i64 t179):=(blk_cell BK187.out 5).trans rfl;have hcz25_6 : w21.cell? ⟨gb187,6,none⟩ = some (.int .u32 t180):=(blk_cell BK187.out 6).trans rfl;have hcz25_7 : w21.cell? ⟨gb187,7,none⟩ = some (.int .u32 t181):=(blk_cell BK187.out 7).trans rfl;have hcz25_8 : w21.cell? ⟨gb187,8,none⟩ = some (.int .u32 t182):=(blk_cell BK187.out 8).trans rfl;have hcz25_9 : w21.cell? ⟨gb187,9,none⟩ = some (.int .u32 t183):=(blk_cell BK187.out 9).trans rfl;have hcz25_10 : w21.cell? ⟨gb187,10,none⟩ = some (.int .u32 t184):=(blk_cell BK187.out 10).trans rfl;have hcz25_11 : w21.cell? ⟨gb187,11,none⟩ = some (.int .u32 t185):=(blk_cell BK187.out 11).trans rfl;have hfz25_0:=blk_frozen BK187.out 0;have hfz25_1:=blk_frozen BK187.out 1;have hfz25_2:=blk_frozen BK187.out 2;have hfz25_3:=blk_frozen BK187.out 3;have hfz25_4:=blk_frozen BK187.out 4;have hfz25_5:=blk_frozen BK187.out 5;have hfz25_6:=blk_frozen BK187.out 6;have hfz25_7:=blk_frozen BK187.out 7;have hfz25_8:=blk_frozen BK187.out 8;have hfz25_9:=blk_frozen BK187.out 9;have hfz25_10:=blk_frozen BK187.out 10;have hfz25_11:=blk_frozen BK187.out 11)|(go_at_call 9;(with_reducible refine (drawbridgeref20_Same.calls t194 t195 t196 t197 _ _ t198 t201 t202 t203 t204 t205 t206 t207 t172 t173 t174 t175 _ _ t176 t179 t180 t181 t182 t183 t184 t185 true _ ?side1 ?side2 ?side3 ?side4 A11.out).mono ?_);(case side1=>refine (Kd.R_reads' (e:=5) (base:=w.heap.size) (ok:= fun k_=>((True∧some k_ ≠ (.slice Ao17 t176.length co17 : Value).ownBlock)∧some k_ ≠ (.slice Ao19 t190.length co19 : Value).ownBlock)) (n:=t198.length) (c:=co24) ?_).2.2;exact (by (with_reducible repeat (first|apply rA|apply rN|apply rD));exact (Kd.R_mono (Kd.R_far (p:=⟨gb209,11,none⟩) (Kd.R_far (p:=⟨gb209,10,none⟩) (Kd.R_far (p:=⟨gb209,9,none⟩) (Kd.R_far (p:=⟨gb209,8,none⟩) (Kd.R_far (p:=⟨gb209,7,none⟩) (Kd.R_far (p:=⟨gb209,6,none⟩) (Kd.R_far (p:=⟨gb209,5,none⟩) (Kd.R_far (p:=⟨gb209,4,none⟩) (Kd.R_far (p:=⟨gb209,3,none⟩) (Kd.R_far (p:=⟨gb209,2,none⟩) (Kd.R_far (p:=⟨gb209,1,none⟩) (Kd.R_far (p:=⟨gb209,0,none⟩) (Kd.R_types HO200.out BK209.out (by decide)) (fun _ hk=>hk.2) (.int .i64 t194)) (fun _ hk=>hk.2) (.int .u32 t195)) (fun _ hk=>hk.2) (.int .u32 t196)) (fun _ hk=>hk.2) (.int .u32 t197)) (fun _ hk=>hk.2) (.slice Ao24 t198.length co24)) (fun _ hk=>hk.2) (.int .i64 t201)) (fun _ hk=>hk.2) (.int .u32 t202)) (fun _ hk=>hk.2) (.int .u32 t203)) (fun _ hk=>hk.2) (.int .u32 t204)) (fun _ hk=>hk.2) (.int .u32 t205)) (fun _ hk=>hk.2) (.int .u32 t206)) (fun _ hk=>hk.2) (.int .u32 t207)) (fun _ h_=>h_.1))));(case side2=>exact (Kd.R_reads' HO200.out).2.1);(case side3=>refine (Kd.R_reads' (e:=5) (base:=w.heap.size) (ok:= fun k_=>((True∧some k_ ≠ (.slice Ao19 t190.length co19 : Value).ownBlock)∧some k_ ≠ (.slice Ao24 t198.length co24 : Value).ownBlock)) (n:=t176.length) (c:=co17) ?_).2.2;exact (by (with_reducible repeat (first|apply rA|apply rN|apply rD));exact (Kd.R_mono (Kd.R_far (p:=⟨gb209,11,none⟩) (Kd.R_far (p:=⟨gb209,10,none⟩) (Kd.R_far (p:=⟨gb209,9,none⟩) (Kd.R_far (p:=⟨gb209,8,none⟩) (Kd.R_far (p:=⟨gb209,7,none⟩) (Kd.R_far (p:=⟨gb209,6,none⟩) (Kd.R_far (p:=⟨gb209,5,none⟩) (Kd.R_far (p:=⟨gb209,4,none⟩) (Kd.R_far (p:=⟨gb209,3,none⟩) (Kd.R_far (p:=⟨gb209,2,none⟩) (Kd.R_far (p:=⟨gb209,1,none⟩) (Kd.R_far (p:=⟨gb209,0,none⟩) (Kd.R_types HO178.out BK209.out (by decide)) (fun _ hk=>hk.2) (.int .i64 t194)) (fun _ hk=>hk.2) (.int .u32 t195)) (fun _ hk=>hk.2) (.int .u32 t196)) (fun _ hk=>hk.2) (.int .u32 t197)) (fun _ hk=>hk.2) (.slice Ao24 t198.length co24)) (fun _ hk=>hk.2) (.int .i64 t201)) (fun _ hk=>hk.2) (.int .u32 t202)) (fun _ hk=>hk.2) (.int .u32 t203)) (fun _ hk=>hk.2) (.int .u32 t204)) (fun _ hk=>hk.2) (.int .u32 t205)) (fun _ hk=>hk.2) (.int .u32 t206)) (fun _ hk=>hk.2) (.int .u32 t207)) (fun _ h_=>h_.1))));(case side4=>exact (Kd.R_reads' HO178.out).2.1);rintro e w26 ⟨rfl,hb⟩;have n5_:=mK (below_step (by repeat (first|(with_reducible first|exact HB.out|apply lA|apply lN|apply lD|refine lS ?_ GE187.out|refine lS ?_ GE209.out)|exact HB.out)) hb);clear HB;have HB:=n5_;clear n5_;(try clear hb);(try clear hb2);(try clear hk);(try clear hi))|(go_at_call 7;(with_reducible refine (drawbridgelaw20_heads.calls k  t211 _ (by first|exact HTr_.out|assumption) A13.out).mono ?_);rintro e w27 ⟨rfl,hb⟩;have n5_:=mK (below_step (by repeat (first|(with_reducible first|exact HB.out|apply lA|apply lN|apply lD|refine lS ?_ GE187.out|refine lS ?_ GE209.out)|exact HB.out)) hb);clear HB;have HB:=n5_;clear n5_;(try clear hb);(try clear hb2);(try clear hk);(try clear hi)))
      go_ret
      exact ⟨by first|rfl|(simp [errW_none,errW_some] <;> rfl)|(simp [*,errW_none,errW_some] <;> rfl),by repeat (first|(with_reducible first|exact HB.out|apply lA|apply lN|apply lD|refine lS ?_ GE187.out|refine lS ?_ GE209.out)|exact HB.out)⟩
     ·replace c12:=Bool.eq_false_iff.mpr c12
      subst c12
      have H1 : (some false) = some r:= by rw [if_neg (show ¬ (false = true) by decide)] at H;exact H
      clear H
      have H:=H1
      clear H1
      exact absurd (H.trans (congrArg some HTr_.out)) (by simp)
    ·rw [if_neg c10] at H
     have c10b0 : (t208 == 0) = false:=beq_eq_false_iff_ne.mpr c10
     have c10b1 : (t208 != 0) = true:=bne_iff_ne.mpr c10
     exact absurd (H.trans (congrArg some HTr_.out)) (by simp)
   ·rw [if_neg c9] at H
    have c9b0 : (t193 == 0) = false:=beq_eq_false_iff_ne.mpr c9
    have c9b1 : (t193 != 0) = true:=bne_iff_ne.mpr c9
    exact absurd (H.trans (congrArg some HTr_.out)) (by simp)
  ·rw [if_neg c6] at H
   have c6b0 : (t186 == 0) = false:=beq_eq_false_iff_ne.mpr c6
   have c6b1 : (t186 != 0) = true:=bne_iff_ne.mpr c6
   replace H:=Option.bind_eq_some_iff.mp H
   obtain ⟨t188,A280,H⟩:=H
   replace H : (if t188 = true then ((drawbridgelaw20_heads.f k).bind fun t189=>(some t189)) else (some false)) = some r:=H
   have A28:=mK A280
   clear A280
   by_cases c29 : t188 = true
   ·subst c29
    have H1 : ((drawbridgelaw20_heads.f k).bind fun t189=>(some t189)) = some r:= by rw [if_pos rfl] at H;exact H
    clear H
    have H:=H1
    clear H1
    replace H:=Option.bind_eq_some_iff.mp H
    obtain ⟨t189,A300,H⟩:=H
    replace H : (some t189) = some r:=H
    have A30:=mK A300
    clear A300
    obtain rfl:=Option.some.inj H
    go_enter Try.func3,Try.ntmps3
    go_wp2_with (first|((with_reducible refine gate_callee (f:=8) rfl ?_);refine goesL_ (some 15) rfl rfl Try.func8 (by kernel_rfl) rfl #[.slice A0 l0.length c0] rfl (by (try simp only [List.map_toArray,List.map_cons,List.map_nil]);first|done|rfl|(simp only [List.length_drop,List.length_take];rfl)) ?_;(with_reducible refine (dhcp_Get.calls k _ _ l0 t172 t173 t174 t175 t176 t179 t180 t181 t182 t183 t184 t185 t186 _ ?side1 ?side2 A5.out).mono ?_);(case side1=>repeat (first|exact HR0.out|(with_reducible refine Kd.C_alloc ?_ _)|(with_reducible refine Kd.C_drewN ?_ _)|(with_reducible refine Kd.C_drew ?_)));(case side2=>exact HC0.out);rintro e w31 ⟨v177,rfl,ho0,hb⟩;refine ⟨_,rfl,?_⟩;have n0_:=mK (Kd.R_lower ho0 (below_size (by repeat (first|(with_reducible first|exact HB.out|apply lA|apply lN|apply lD)|exact HB.out))));have n1_:=mK (below_step (by repeat (first|(with_reducible first|exact HB.out|apply lA|apply lN|apply lD)|exact HB.out)) hb);clear HB;have HO178:=n0_;have HB:=n1_;clear n0_ n1_;(try clear hb);(try clear hb2);(try clear hk);(try clear hi);(try clear ho0))|((with_reducible refine gate_dst (N:=3) rfl ?_);refine box_event ?hg (N:=3) ?hd (cs:=#[.int .i64 0,.int .u32 0,.int .u32 0,.int .u32 0,.slice none 0 0,.int .i64 0,.int .u32 0,.int .u32 0,.int .u32 0,.int .u32 0,.int .u32 0,.int .u32 0]) (t:=26) ?hr ?_;(case hd=>rfl);(case hg=>rfl);(case hr=>first|(go_simp;done)|(go_simp;rfl));intro gb187 hg w32 hbox hb;have n0_:=mK (Kd.R_below (by (with_reducible repeat (first|apply rA|apply rN|apply rD));exact HO178.out) hb);have n1_:=mK (below_step (by repeat (first|(with_reducible first|exact HB.out|apply lA|apply lN|apply lD)|exact HB.out)) hb);have n2_:=mK (hbox);have n4_:=mK ((by rw [hg];exact (below_size (by repeat (first|(with_reducible first|exact HB.out|apply lA|apply lN|apply lD)|exact HB.out))) : w.heap.size ≤ gb187));clear HO178;clear HB;have HO178:=n0_;have HB:=n1_;have BK187:=n2_;have GE187:=n4_;clear n0_ n1_ n2_ n4_;clear hb hbox hg;have hcz33_0 : w32.cell? ⟨gb187,0,none⟩ = some (.int .i64 0):=(blk_cell BK187.out 0).trans rfl;have hcz33_1 : w32.cell? ⟨gb187,1,none⟩ = some (.int .u32 0):=(blk_cell BK187.out 1).trans rfl;have hcz33_2 : w32.cell? ⟨gb187,2,none⟩ = some (.int .u32 0):=(blk_cell BK187.out 2).trans rfl;have hcz33_3 : w32.cell? ⟨gb187,3,none⟩ = some (.int .u32 0):=(blk_cell BK187.out 3).trans rfl;have hcz33_4 : w32.cell? ⟨gb187,4,none⟩ = some (.slice none 0 0):=(blk_cell BK187.out 4).trans rfl;have hcz33_5 : w32.cell? ⟨gb187,5,none⟩ = some (.int .i64 0):=(blk_cell BK187.out 5).trans rfl;have hcz33_6 : w32.cell? ⟨gb187,6,none⟩ = some (.int .u32 0):=(blk_cell BK187.out 6).trans rfl;have hcz33_7 : w32.cell? ⟨gb187,7,none⟩ = some (.int .u32 0):=(blk_cell BK187.out 7).trans rfl;have hcz33_8 : w32.cell? ⟨gb187,8,none⟩ = some (.int .u32 0):=(blk_cell BK187.out 8).trans rfl;have hcz33_9 : w32.cell? ⟨gb187,9,none⟩ = some (.int .u32 0):=(blk_cell BK187.out 9).trans rfl;have hcz33_10 : w32.cell? ⟨gb187,10,none⟩ = some (.int .u32 0):=(blk_cell BK187.out 10).trans rfl;have hcz33_11 : w32.cell? ⟨gb187,11,none⟩ = some (.int .u32 0):=(blk_cell BK187.out 11).trans rfl;have hfz33_0:=blk_frozen BK187.out 0;have hfz33_1:=blk_frozen BK187.out 1;have hfz33_2:=blk_frozen BK187.out 2;have hfz33_3:=blk_frozen BK187.out 3;have hfz33_4:=blk_frozen BK187.out 4;have hfz33_5:=blk_frozen BK187.out 5;have hfz33_6:=blk_frozen BK187.out 6;have hfz33_7:=blk_frozen BK187.out 7;have hfz33_8:=blk_frozen BK187.out 8;have hfz33_9:=blk_frozen BK187.out 9;have hfz33_10:=blk_frozen BK187.out 10;have hfz33_11:=blk_frozen BK187.out 11;obtain ⟨Ao34,co34,eo34⟩:=Kd.R_slice HO178.out;subst eo34)|((with_reducible refine gate_callee (f:=9) rfl ?_);refine goesL_ (some 22) rfl rfl Try.func9 (by kernel_rfl) rfl #[.agg #[.int .i64 t172,.int .u32 t173,.int .u32 t174,.int .u32 t175,.slice Ao34 t176.length co34,.int .i64 t179,.int .u32 t180,.int .u32 t181,.int .u32 t182,.int .u32 t183,.int .u32 t184,.int .u32 t185],.agg #[.int .i64 0,.int .u32 0,.int .u32 0,.int .u32 0,.slice none 0 0,.int .i64 0,.int .u32 0,.int .u32 0,.int .u32 0,.int .u32 0,.int .u32 0,.int .u32 0]] rfl (by (try simp only [List.map_toArray,List.map_cons,List.map_nil]);first|done|rfl|(simp only [List.length_drop,List.length_take];rfl)) ?_;(refine (drawbridgeref20_Same.calls t172 t173 t174 t175 _ _ t176 t179 t180 t181 t182 t183 t184 t185 0 0 0 0 _ _ ([] : List Int) 0 0 0 0 0 0 0 true _ ?side1 ?side2 ?side3 ?side4 A28.out).mono ?_);(case side1=>refine (Kd.R_reads' (e:=5) (base:=w.heap.size) (ok:= fun k_=>True) (n:=t176.length) (c:=co34) ?_).2.2;exact (by (with_reducible repeat (first|apply rA|apply rN|apply rD));exact (Kd.R_mono (Kd.R_far (p:=⟨gb187,11,none⟩) (Kd.R_far (p:=⟨gb187,10,none⟩) (Kd.R_far (p:=⟨gb187,9,none⟩) (Kd.R_far (p:=⟨gb187,8,none⟩) (Kd.R_far (p:=⟨gb187,7,none⟩) (Kd.R_far (p:=⟨gb187,6,none⟩) (Kd.R_far (p:=⟨gb187,5,none⟩) (Kd.R_far (p:=⟨gb187,4,none⟩) (Kd.R_far (p:=⟨gb187,3,none⟩) (Kd.R_far (p:=⟨gb187,2,none⟩) (Kd.R_far (p:=⟨gb187,1,none⟩) (Kd.R_far (p:=⟨gb187,0,none⟩) (Kd.R_types HO178.out BK187.out (by decide)) (fun _ hk=>hk.2) (.int .i64 t172)) (fun _ hk=>hk.2) (.int .u32 t173)) (fun _ hk=>hk.2) (.int .u32 t174)) (fun _ hk=>hk.2) (.int .u32 t175)) (fun _ hk=>hk.2) (.slice Ao34 t176.length co34)) (fun _ hk=>hk.2) (.int .i64 t179)) (fun _ hk=>hk.2) (.int .u32 t180)) (fun _ hk=>hk.2) (.int .u32 t181)) (fun _ hk=>hk.2) (.int .u32 t182)) (fun _ hk=>hk.2) (.int .u32 t183)) (fun _ hk=>hk.2) (.int .u32 t184)) (fun _ hk=>hk.2) (.int .u32 t185)) (fun _ h_=>h_.1))));(case side2=>exact (Kd.R_reads' HO178.out).2.1);(case side3=>exact Kd.C_nil _ _);(case side4=>exact Nat.le_refl _);rintro e w35 ⟨rfl,hb⟩;refine ⟨_,rfl,?_⟩;have n2_:=mK (below_step (by repeat (first|(with_reducible first|exact HB.out|apply lA|apply lN|apply lD|refine lS ?_ GE187.out)|exact HB.out)) hb);clear HB;have HB:=n2_;clear n2_;(try clear hb);(try clear hb2);(try clear hk);(try clear hi))|(go_at_call 7;(with_reducible refine (drawbridgelaw20_heads.calls k  t189 _ (by first|exact HTr_.out|assumption) A30.out).mono ?_);rintro e w36 ⟨rfl,hb⟩;have n2_:=mK (below_step (by repeat (first|(with_reducible first|exact HB.out|apply lA|apply lN|apply lD|refine lS ?_ GE187.out)|exact HB.out)) hb);clear HB;have HB:=n2_;clear n2_;(try clear hb);(try clear hb2);(try clear hk);(try clear hi)))
    go_ret
    exact ⟨by first|rfl|(simp [errW_none,errW_some] <;> rfl)|(simp [*,errW_none,errW_some] <;> rfl),by repeat (first|(with_reducible first|exact HB.out|apply lA|apply lN|apply lD|refine lS ?_ GE187.out)|exact HB.out)⟩
   ·replace c29:=Bool.eq_false_iff.mpr c29
    subst c29
    have H1 : (some false) = some r:= by rw [if_neg (show ¬ (false = true) by decide)] at H;exact H
    clear H
    have H:=H1
    clear H1
    exact absurd (H.trans (congrArg some HTr_.out)) (by simp)

/-! ### drawbridgeref01_Put: function 30 -/
mutual
def drawbridgeref01_Put.l0 : Nat → Int → Int → Bool → List Int → Int → Option (List Int)
 | 0, _, _, _, _, _ => none
 | k + 1, x0, x1, x2, x7, x8 => if x8 < x1 then (drawbridgeref01_Put.j1 k x0 x1 x2 x7 x8 (decide (x8 < 8))) else (drawbridgeref01_Put.j1 k x0 x1 x2 x7 x8 false)
def drawbridgeref01_Put.j1 : Nat → Int → Int → Bool → List Int → Int → Bool → Option (List Int)
 | 0, _, _, _, _, _, _ => none
 | k + 1, x0, x1, x2, x7, x8, x16 => if x16 = true then (if 0 ≤ (IntKind.u64.wrap (wrap64 (8 * x8))) then (if x2 = true then ((some (([(shr .u64 x0 (IntKind.u64.wrap (wrap64 (8 * x8)))) % 256] : List Int) : List Int)).bind fun y212 => (if y212.length + x7.length < 140737488355328 then (drawbridgeref01_Put.l0 k x0 x1 x2 (y212 ++ x7) (wrap64 (x8 + 1))) else (none))) else (if x7.length < 140737488355328 then (drawbridgeref01_Put.l0 k x0 x1 x2 (x7 ++ [(shr .u64 x0 (IntKind.u64.wrap (wrap64 (8 * x8)))) % 256]) (wrap64 (x8 + 1))) else (none))) else (none)) else (some x7)
end
def drawbridgeref01_Put.f (k : Nat) (a0 : Int) (a1 : Int) (a2 : Bool) : Option (List Int) := drawbridgeref01_Put.l0 k a0 a1 a2 ([] : List Int) 0
theorem drawbridgeref01_Put.mono_l : ∀ k, (∀ y0 y1 y2 y3 y4, LeO (drawbridgeref01_Put.l0 k y0 y1 y2 y3 y4) (drawbridgeref01_Put.l0 (k + 1) y0 y1 y2 y3 y4)) ∧ (∀ y0 y1 y2 y3 y4 y5, LeO (drawbridgeref01_Put.j1 k y0 y1 y2 y3 y4 y5) (drawbridgeref01_Put.j1 (k + 1) y0 y1 y2 y3 y4 y5))
 | 0 => ⟨fun _ _ _ _ _ r h => by simp [drawbridgeref01_Put.l0] at h, fun _ _ _ _ _ _ r h => by simp [drawbridgeref01_Put.j1] at h⟩
 | k + 1 => by
  obtain ⟨ih0, ih1⟩ := drawbridgeref01_Put.mono_l k
  refine ⟨?_, ?_⟩
  ·intro y0 y1 y2 y3 y4
   unfold drawbridgeref01_Put.l0
   repeat' first
   | (with_reducible exact ih0 _ _ _ _ _)
   | (with_reducible exact ih1 _ _ _ _ _ _)
   | (with_reducible exact LeO.refl _)
   | (with_reducible exact LeO.none _)
   | (with_reducible refine LeO.ite ?_ ?_)
   | (with_reducible refine LeO.bind ?_ (fun _ => ?_))
   | exact ih0 _ _ _ _ _
   | exact ih1 _ _ _ _ _ _
   | exact LeO.none _
   | refine LeO.ite ?_ ?_
   | refine LeO.bind ?_ (fun _ => ?_)
  ·intro y0 y1 y2 y3 y4 y5
   unfold drawbridgeref01_Put.j1
   repeat' first
   | (with_reducible exact ih0 _ _ _ _ _)
   | (with_reducible exact ih1 _ _ _ _ _ _)
   | (with_reducible exact LeO.refl _)
   | (with_reducible exact LeO.none _)
   | (with_reducible refine LeO.ite ?_ ?_)
   | (with_reducible refine LeO.bind ?_ (fun _ => ?_))
   | exact ih0 _ _ _ _ _
   | exact ih1 _ _ _ _ _ _
   | exact LeO.none _
   | refine LeO.ite ?_ ?_
   | refine LeO.bind ?_ (fun _ => ?_)
theorem drawbridgeref01_Put.mono : ∀ a0 a1 a2 k, LeO (drawbridgeref01_Put.f k a0 a1 a2) (drawbridgeref01_Put.f (k + 1) a0 a1 a2) := by
 intro a0 a1 a2 k
 obtain ⟨ih0, ih1⟩ := drawbridgeref01_Put.mono_l k
 unfold drawbridgeref01_Put.f
 repeat' first
   | (with_reducible exact ih0 _ _ _ _ _)
   | (with_reducible exact ih1 _ _ _ _ _ _)
   | (with_reducible exact LeO.refl _)
   | (with_reducible exact LeO.none _)
   | (with_reducible refine LeO.ite ?_ ?_)
   | (with_reducible refine LeO.bind ?_ (fun _ => ?_))
   | exact ih0 _ _ _ _ _
   | exact ih1 _ _ _ _ _ _
   | exact LeO.none _
   | refine LeO.ite ?_ ?_
   | refine LeO.bind ?_ (fun _ => ?_)
set_option maxHeartbeats 8000000 in
set_option maxRecDepth 100000 in
theorem drawbridgeref01_Put.calls (k : Nat) (a0 : Int) (a1 : Int) (a2 : Bool) (r : List Int) (w : World) (h : drawbridgeref01_Put.f k a0 a1 a2 = some r) :
  Calls Try.prog 30 #[.int .u64 a0, .int .i64 a1, .bool a2] w fun e w' => ∃ v0_ : Value, e = .returned (v0_) ∧ Kd.R (Kd.int .u8) 5 w' w.heap.size (fun _ => True) v0_ r ∧ Below w.heap.size w w' := by
 have HB:=mK (Below.refl w.heap.size w)
 have H : (drawbridgeref01_Put.l0 k a0 a1 a2 ([] : List Int) 0) = some r:=h
 clear h
 have H':=mK H
 clear H
 go_enter Try.func30,Try.ntmps30
 go_wp2
 go_loopg [7,8] k (fun kq v7 v8 w'=>∃ (x7_1 : List Int) (x8_1 : Int),v8 = .int .i64 x8_1∧Aside0 (drawbridgeref01_Put.l0 kq a0 a1 a2 x7_1 x8_1 = some r)∧Aside0 (kq ≤ k)∧Aside0 (Kd.R (Kd.int .u8) 5 w' w.heap.size (fun _=>True) v7 x7_1)∧Aside0 (Below w.heap.size w w'))
 case atStart=>exact ⟨(([] : List Int)),(0),(by first|rfl|(simp;done)|(simp [*];done)),H',⟨Nat.le_refl _⟩,⟨by first|exact Kd.R_nil _ _ _ _ _|exact Kd.N_nil _ _ _ _ _|exact Kd.V_nil _ _ _ _ _|exact Kd.Q_nil _ _ _ _ _|exact Kd.S_nil _ _ _ _ _⟩,⟨by repeat (first|(with_reducible first|exact HB.out|apply lA|apply lN|apply lD)|exact HB.out)⟩⟩
 case round =>
  clear H'
  try clear p2
  try clear c3
  obtain ⟨x7_1,x8_1,rfl,HA,HK1,HO_7,HB⟩:=hrel
  cases gk with
  |zero=>exact absurd HA.out (by simp [drawbridgeref01_Put.l0])
  |succ k1 =>
   have H:=HA.out
   clear HA
   simp only [drawbridgeref01_Put.l0] at H
   have HC4:=mK H
   clear H
   go_upto_region 3 with (fail)
   go_cut [16] (fun v16 wc=>∃ (kq : Nat) (x16_3 : Bool),v16 = .bool x16_3∧Aside0 (drawbridgeref01_Put.j1 kq a0 a1 a2 x7_1 x8_1 x16_3 = some r)∧Aside0 (kq ≤ k1)∧Aside0 (Kd.R (Kd.int .u8) 5 wc w.heap.size (fun _=>True) u7 x7_1)∧Aside0 (Below w.heap.size w wc))
   case first =>
    have H:=HC4.out
    clear HC4
    by_cases c5 : x8_1 < a1
    ·rw [if_pos c5] at H
     have c5b0 : decide (x8_1 < a1) = true:=decide_eq_true c5
     clear c5
     (first|rw [c5b0]|(simp only [i64_w,i32_w];rw [c5b0])|skip)
     have H':=mK H
     clear H
     go_wp2
     go_meet
     case rel=>exact ⟨_,(decide (x8_1 < 8)),(by first|rfl|(simp;done)|(simp [*];done)),H',⟨by have:=HK1.out;first|omega|exact Nat.le_refl _⟩,⟨by (with_reducible repeat (first|apply rA|apply rN|apply rD));exact HO_7.out⟩,⟨by repeat (first|(with_reducible first|exact HB.out|apply lA|apply lN|apply lD)|exact HB.out)⟩⟩
    ·rw [if_neg c5] at H
     have c5b0 : decide (x8_1 < a1) = false:=decide_eq_false c5
     clear c5
     (first|rw [c5b0]|(simp only [i64_w,i32_w];rw [c5b0])|skip)
     have H':=mK H
     clear H
     go_wp2
     go_meet
     case rel=>exact ⟨_,(false),(by first|rfl|(simp;done)|(simp [*];done)),H',⟨by have:=HK1.out;first|omega|exact Nat.le_refl _⟩,⟨by (with_reducible repeat (first|apply rA|apply rN|apply rD));exact HO_7.out⟩,⟨by repeat (first|(with_reducible first|exact HB.out|apply lA|apply lN|apply lD)|exact HB.out)⟩⟩
   case rest =>
    clear HC4
    try clear p2
    try clear c3
    try clear c5
    try clear c5b0
    try clear p2
    obtain ⟨kq,x16_3,rfl,HA,HJ3,HO_7,HB⟩:=hcut
    cases kq with
    |zero=>exact absurd HA.out (by simp [drawbridgeref01_Put.j1])
    |succ kj3 =>
     have H:=HA.out
     clear HA
     simp only [drawbridgeref01_Put.j1] at H
     by_cases c6 : x16_3 = true
     ·subst c6
      have H1 : (if 0 ≤ (IntKind.u64.wrap (wrap64 (8 * x8_1))) then (if a2 = true then ((some (([(shr .u64 a0 (IntKind.u64.wrap (wrap64 (8 * x8_1)))) % 256] : List Int) : List Int)).bind fun y212=>(if y212.length + x7_1.length < 140737488355328 then (drawbridgeref01_Put.l0 kj3 a0 a1 a2 (y212 ++ x7_1) (wrap64 (x8_1 + 1))) else (none))) else (if x7_1.length < 140737488355328 then (drawbridgeref01_Put.l0 kj3 a0 a1 a2 (x7_1 ++ [(shr .u64 a0 (IntKind.u64.wrap (wrap64 (8 * x8_1)))) % 256]) (wrap64 (x8_1 + 1))) else (none))) else (none)) = some r:= by rw [if_pos rfl] at H;exact H
      clear H
      have H:=H1
      clear H1
      obtain ⟨ji7,hji7⟩ : ∃ j_ : Int,(IntKind.u64.wrap (wrap64 (8 * x8_1))) = j_:=⟨_,rfl⟩
      replace H : (if 0 ≤ (ji7) then (if a2 = true then ((some (([(shr .u64 a0 (ji7)) % 256] : List Int) : List Int)).bind fun y212=>(if y212.length + x7_1.length < 140737488355328 then (drawbridgeref01_Put.l0 kj3 a0 a1 a2 (y212 ++ x7_1) (wrap64 (x8_1 + 1))) else (none))) else (if x7_1.length < 140737488355328 then (drawbridgeref01_Put.l0 kj3 a0 a1 a2 (x7_1 ++ [(shr .u64 a0 (ji7)) % 256]) (wrap64 (x8_1 + 1))) else (none))) else (none)) = some r:= by first|(rw [hji7] at H;exact H)|(simp only [hji7] at H ⊢; exact H)
      by_cases c8 : 0 ≤ (ji7)
      ·rw [if_pos c8] at H
       have c8b0:=eq_true c8
       have c8b1 : decide (0 ≤ (ji7)) = true:=decide_eq_true c8
       clear c8
       obtain ⟨ji9,hji9⟩ : ∃ j_ : Int,(shr .u64 a0 (ji7)) = j_:=⟨_,rfl⟩
       replace H : (if a2 = true then ((some (([(ji9) % 256] : List Int) : List Int)).bind fun y212=>(if y212.length + x7_1.length < 140737488355328 then (drawbridgeref01_Put.l0 kj3 a0 a1 a2 (y212 ++ x7_1) (wrap64 (x8_1 + 1))) else (none))) else (if x7_1.length < 140737488355328 then (drawbridgeref01_Put.l0 kj3 a0 a1 a2 (x7_1 ++ [(ji9) % 256]) (wrap64 (x8_1 + 1))) else (none))) = some r:= by first|(rw [hji9] at H;exact H)|(simp only [hji9] at H ⊢; exact H)
       have hji9_ : (a0 / 2 ^ min (ji7).toNat 64) = ji9:=hji9
       have hji9z : (ji7) ≤ 64 → (a0 / 2 ^ (ji7).toNat) = ji9:=shr_small hji9
       by_cases c10 : a2 = true
       ·subst c10
        have H1 : ((some (([(ji9) % 256] : List Int) : List Int)).bind fun y212=>(if y212.length + x7_1.length < 140737488355328 then (drawbridgeref01_Put.l0 kj3 a0 a1 true (y212 ++ x7_1) (wrap64 (x8_1 + 1))) else (none))) = some r:= by rw [if_pos rfl] at H;exact H
        clear H
        have H:=H1
        clear H1
        obtain ⟨y212,hy212⟩ : ∃ y_ : List Int,y_ = (([(ji9) % 256] : List Int)):=⟨_,rfl⟩
        replace H : (if y212.length + x7_1.length < 140737488355328 then (drawbridgeref01_Put.l0 kj3 a0 a1 true (y212 ++ x7_1) (wrap64 (x8_1 + 1))) else (none)) = some r:= by first|(rw [hy212];with_reducible exact H)|(have H2_:=(Option.bind_some _ _).symm.trans H;rw [hy212];with_reducible exact H2_)|(have H2_:=(Option.bind_some _ _).symm.trans H;with_reducible exact H2_)|with_reducible exact H|(rw [hy212];exact H)|exact H
        have Ny212:=mK hy212
        clear hy212
        by_cases c11 : y212.length + x7_1.length < 140737488355328
        ·rw [if_pos c11] at H
         have LMc11:=mK c11
         clear c11
         obtain ⟨y215,hy215⟩ : ∃ y_ : List Int,y_ = (y212 ++ x7_1):=⟨_,rfl⟩
         replace H : (drawbridgeref01_Put.l0 kj3 a0 a1 true y215 (wrap64 (x8_1 + 1))) = some r:= by first|(rw [hy215];with_reducible exact H)|(have H2_:=(Option.bind_some _ _).symm.trans H;rw [hy215];with_reducible exact H2_)|(have H2_:=(Option.bind_some _ _).symm.trans H;with_reducible exact H2_)|with_reducible exact H|(rw [hy215];exact H)|exact H
         have Ny215:=mK hy215
         clear hy215
         have H':=mK H
         clear H
         go_wp2_with (first|((with_reducible refine gate_dst (N:=27) rfl ?_);refine Kd.R_lit (Kd.int .u8) _ 5 ?hg (N:=27) ?hd (xs:=([(ji9) % 256] : List Int)) (inner:=[.int .u8 ((ji9) % 256)]) (ok:= fun _=>True) (okp:= fun _=>True) ?hr ?hp (fun _ hk=>hk) trivial (Below.refl _ _) (Nat.le_refl _) (by simp) ?_;(case hd=>rfl);(case hg=>rfl);(case hr=>first|(go_simp;done)|(go_simp;rfl));(case hp=>exact (Reps.one (show Kd.M (Kd.int .u8) _ _ _ ((ji9) % 256) [.int .u8 ((ji9) % 256)] from rfl) (Reps.none _ _)));intro v213 w12 ho13 hb hg_ hnew_;clear hg_ hnew_;(first|rw [← Ny212.out] at ho13|(simp only [Int.reduceToNat] at ho13;rw [← Ny212.out] at ho13));have n0_:=mK (Kd.R_elder' (by (with_reducible repeat (first|apply rA|apply rN|apply rD));exact HO_7.out) (Kd.R_base ho13) hb);have n1_:=mK (Kd.R_lower (Kd.R_new' ho13 (Kd.R_lt (by (with_reducible repeat (first|apply rA|apply rN|apply rD));exact HO_7.out))) (below_size (by repeat (first|(with_reducible first|exact HB.out|apply lA|apply lN|apply lD)|exact HB.out))));have n2_:=mK (below_step (by repeat (first|(with_reducible first|exact HB.out|apply lA|apply lN|apply lD)|exact HB.out)) hb);clear HO_7;clear HB;have HO_7:=n0_;have HO214:=n1_;have HB:=n2_;clear n0_ n1_ n2_;clear hb ho13;obtain ⟨Ao15,co15,eo15⟩:=Kd.R_slice HO_7.out;subst eo15)|((with_reducible refine gate_builtin (b:=.append) (xs:=#[.tmp 27,.tmp 28]) rfl ?_);at_builtin;refine Kd.R_append_rows (Kd.int .u8) (w0:=w) w.heap.size rfl (.tmp 27) (.tmp 28) 22 5 (.int .u8 0) 1 rfl Try.underlying22 info5 rfl (by decide) (by omega) v213 y212 x7_1 _ _ _ (fun k_=>some k_ ≠ (.slice Ao15 x7_1.length co15 : Value).ownBlock) (fun _=>False) rfl rfl ?aO ?aR (fun _ _ h=>h) (fun _ h=>h.elim) ?aF ?aB ?aS ?aL ?_;(case aR=>repeat (first|exact (Kd.R_reads' HO_7.out).2.2|(with_reducible refine Kd.C_alloc ?_ _)|(with_reducible refine Kd.C_drewN ?_ _)|(with_reducible refine Kd.C_drew ?_)));(case aB=>exact (by repeat (first|(with_reducible first|exact HB.out|apply lA|apply lN|apply lD)|exact HB.out)));(case aF=>exact (fun k_ hk=>Kd.fresh' (Kd.R_lt (by (with_reducible repeat (first|apply rA|apply rN|apply rD));exact HO_7.out)) k_ hk));(case aO=>exact (by (with_reducible repeat (first|apply rA|apply rN|apply rD));exact Kd.R_mono HO214.out (fun _ hk=>hk.2)));(case aS=>exact (below_size (by repeat (first|(with_reducible first|exact HB.out|apply lA|apply lN|apply lD)|exact HB.out))));(case aL=>have:=LMc11.out;omega);intro v216 w14 ho hb hg hat;rw [← Ny215.out] at ho;have n1_:=mK (hb);have n2_:=mK (ho);clear HB;clear HO214;have HB:=n1_;have HO217:=n2_;clear n1_ n2_;clear ho hb hg hat))
         go_roundg kj3
         case measure=>have:=HK1.out;have:=HJ3.out;omega
         case rel=>exact ⟨(y215),(wrap64 (x8_1 + 1)),(by first|rfl|(simp;done)|(simp [*];done)),H',⟨by have:=HK1.out;have:=HJ3.out;omega⟩,⟨by (with_reducible repeat (first|apply rA|apply rN|apply rD));exact Kd.R_mono HO217.out (fun _ hk=>trivial)⟩,⟨by repeat (first|(with_reducible first|exact HB.out|apply lA|apply lN|apply lD)|exact HB.out)⟩⟩
        ·rw [if_neg c11] at H
         exact absurd H (by simp)
       ·replace c10:=Bool.eq_false_iff.mpr c10
        subst c10
        have H1 : (if x7_1.length < 140737488355328 then (drawbridgeref01_Put.l0 kj3 a0 a1 false (x7_1 ++ [(ji9) % 256]) (wrap64 (x8_1 + 1))) else (none)) = some r:= by rw [if_neg (show ¬ (false = true) by decide)] at H;exact H
        clear H
        have H:=H1
        clear H1
        by_cases c16 : x7_1.length < 140737488355328
        ·rw [if_pos c16] at H
         have LMc16:=mK c16
         clear c16
         obtain ⟨y218,hy218⟩ : ∃ y_ : List Int,y_ = (x7_1 ++ [(ji9) % 256]):=⟨_,rfl⟩
         replace H : (drawbridgeref01_Put.l0 kj3 a0 a1 false y218 (wrap64 (x8_1 + 1))) = some r:= by first|(rw [hy218];with_reducible exact H)|(have H2_:=(Option.bind_some _ _).symm.trans H;rw [hy218];with_reducible exact H2_)|(have H2_:=(Option.bind_some _ _).symm.trans H;with_reducible exact H2_)|with_reducible exact H|(rw [hy218];exact H)|exact H
         have Ny218:=mK hy218
         clear hy218
         have H':=mK H
         clear H
         go_wp2_with (first|((with_reducible refine gate_builtin (b:=.append) (xs:=#[.tmp 30,.tmp 32]) rfl ?_);at_builtin;refine Kd.R_append (Kd.int .u8) (w0:=w) w.heap.size rfl (.tmp 30) (.tmp 32) 22 5 (.int .u8 0) 1 rfl Try.underlying22 info5 rfl (by decide) (by omega) u7 x7_1 ((ji9) % 256) [.int .u8 ((ji9) % 256)] (fun _=>True) (fun _=>False) rfl rfl ?aP (fun _ hk=>hk.elim) ?aF ?aO ?aB ?aS ?aL ?_;(case aP=>exact rfl);(case aB=>exact (by repeat (first|(with_reducible first|exact HB.out|apply lA|apply lN|apply lD)|exact HB.out)));(case aF=>exact (fun _ _=>trivial));(case aO=>exact (by (with_reducible repeat (first|apply rA|apply rN|apply rD));exact HO_7.out));(case aS=>exact (below_size (by repeat (first|(with_reducible first|exact HB.out|apply lA|apply lN|apply lD)|exact HB.out))));(case aL=>have:=LMc16.out;omega);intro v219 w17 ho hb hg hat;rw [← Ny218.out] at ho;have n0_:=mK (hb);have n1_:=mK (ho);clear HB;clear HO_7;have HB:=n0_;have HO220:=n1_;clear n0_ n1_;clear ho hb hg hat))
         go_roundg kj3
         case measure=>have:=HK1.out;have:=HJ3.out;omega
         case rel=>exact ⟨(y218),(wrap64 (x8_1 + 1)),(by first|rfl|(simp;done)|(simp [*];done)),H',⟨by have:=HK1.out;have:=HJ3.out;omega⟩,⟨by (with_reducible repeat (first|apply rA|apply rN|apply rD));exact HO220.out⟩,⟨by repeat (first|(with_reducible first|exact HB.out|apply lA|apply lN|apply lD)|exact HB.out)⟩⟩
        ·rw [if_neg c16] at H
         exact absurd H (by simp)
      ·rw [if_neg c8] at H
       exact absurd H (by simp)
     ·replace c6:=Bool.eq_false_iff.mpr c6
      subst c6
      have H1 : (some x7_1) = some r:= by rw [if_neg (show ¬ (false = true) by decide)] at H;exact H
      clear H
      have H:=H1
      clear H1
      obtain rfl:=Option.some.inj H
      go_wp2
      go_ret
      exact ⟨_,by first|rfl|(simp [errW_none,errW_some] <;> rfl)|(simp [*,errW_none,errW_some] <;> rfl),by (with_reducible repeat (first|apply rA|apply rN|apply rD));exact HO_7.out,by repeat (first|(with_reducible first|exact HB.out|apply lA|apply lN|apply lD)|exact HB.out)⟩

/-! ### drawbridgeref20_four: function 22 -/
def drawbridgeref20_four.f (k : Nat) (a0 : Int) : Option (List Int) := (drawbridgeref01_Put.f k (IntKind.u64.wrap (a0)) 4 true).bind fun t221 => (some t221)
theorem drawbridgeref20_four.mono : ∀ a0 k, LeO (drawbridgeref20_four.f k a0) (drawbridgeref20_four.f (k + 1) a0) := by
 intro a0 k
 unfold drawbridgeref20_four.f
 repeat' first
   | (with_reducible exact drawbridgeref01_Put.mono _ _ _ _)
   | (with_reducible exact LeO.refl _)
   | (with_reducible exact LeO.none _)
   | (with_reducible refine LeO.ite ?_ ?_)
   | (with_reducible refine LeO.bind ?_ (fun _ => ?_))
   | exact drawbridgeref01_Put.mono _ _ _ _
   | exact LeO.none _
   | refine LeO.ite ?_ ?_
   | refine LeO.bind ?_ (fun _ => ?_)
set_option maxHeartbeats 8000000 in
set_option maxRecDepth 100000 in
theorem drawbridgeref20_four.calls (k : Nat) (a0 : Int) (r : List Int) (w : World) (h : drawbridgeref20_four.f k a0 = some r) :
  Calls Try.prog 22 #[.int .u32 a0] w fun e w' => ∃ v0_ : Value, e = .returned (v0_) ∧ Kd.R (Kd.int .u8) 5 w' w.heap.size (fun _ => True) v0_ r ∧ Below w.heap.size w w' := by
 have HB:=mK (Below.refl w.heap.size w)
 have H : ((drawbridgeref01_Put.f k (IntKind.u64.wrap (a0)) 4 true).bind fun t221=>(some t221)) = some r:=h
 clear h
 replace H:=Option.bind_eq_some_iff.mp H
 obtain ⟨t221,A20,H⟩:=H
 replace H : (some t221) = some r:=H
 have A2:=mK A20
 clear A20
 obtain rfl:=Option.some.inj H
 go_enter Try.func22,Try.ntmps22
 go_wp2_with (first|((with_reducible refine gate_callee (f:=30) rfl ?_);refine goesL_ (some 5) rfl rfl Try.func30 (by kernel_rfl) rfl #[.int .u64 (IntKind.u64.wrap (a0)),.int .i64 4,.bool true] rfl (by (try simp only [List.map_toArray,List.map_cons,List.map_nil]);first|done|rfl|(simp only [List.length_drop,List.length_take];rfl)) ?_;(with_reducible refine (drawbridgeref01_Put.calls k (IntKind.u64.wrap (a0)) 4 true t221 _ A2.out).mono ?_);rintro e w3 ⟨v222,rfl,ho0,hb⟩;refine ⟨_,rfl,?_⟩;have n0_:=mK (Kd.R_lower ho0 (below_size (by repeat (first|(with_reducible first|exact HB.out|apply lA|apply lN|apply lD)|exact HB.out))));have n1_:=mK (below_step (by repeat (first|(with_reducible first|exact HB.out|apply lA|apply lN|apply lD)|exact HB.out)) hb);clear HB;have HO223:=n0_;have HB:=n1_;clear n0_ n1_;(try clear hb);(try clear hb2);(try clear hk);(try clear hi);(try clear ho0)))
 go_ret
 exact ⟨_,by first|rfl|(simp [errW_none,errW_some] <;> rfl)|(simp [*,errW_none,errW_some] <;> rfl),by (with_reducible repeat (first|apply rA|apply rN|apply rD));exact HO223.out,by repeat (first|(with_reducible first|exact HB.out|apply lA|apply lN|apply lD)|exact HB.out)⟩

/-! ### drawbridgeref20_option: function 23 -/
def drawbridgeref20_option.f (k : Nat) (a0 : Int) (a1 : Int) : Option (List Int) := if a1 = 0 then (some ([] : List Int)) else ((some (([a0, 4] : List Int) : List Int)).bind fun y224 => ((drawbridgeref20_four.f k a1).bind fun t227 => (if y224.length + t227.length < 140737488355328 then (some (y224 ++ t227)) else (none))))
theorem drawbridgeref20_option.mono : ∀ a0 a1 k, LeO (drawbridgeref20_option.f k a0 a1) (drawbridgeref20_option.f (k + 1) a0 a1) := by
 intro a0 a1 k
 unfold drawbridgeref20_option.f
 repeat' first
   | (with_reducible exact drawbridgeref20_four.mono _ _)
   | (with_reducible exact LeO.refl _)
   | (with_reducible exact LeO.none _)
   | (with_reducible refine LeO.ite ?_ ?_)
   | (with_reducible refine LeO.bind ?_ (fun _ => ?_))
   | exact drawbridgeref20_four.mono _ _
   | exact LeO.none _
   | refine LeO.ite ?_ ?_
   | refine LeO.bind ?_ (fun _ => ?_)
set_option maxHeartbeats 8000000 in
set_option maxRecDepth 100000 in
theorem drawbridgeref20_option.calls (k : Nat) (a0 : Int) (a1 : Int) (r : List Int) (w : World) (h : drawbridgeref20_option.f k a0 a1 = some r) :
  Calls Try.prog 23 #[.int .u8 a0, .int .u32 a1] w fun e w' => ∃ v0_ : Value, e = .returned (v0_) ∧ Kd.R (Kd.int .u8) 5 w' w.heap.size (fun _ => True) v0_ r ∧ Below w.heap.size w w' := by
 have HB:=mK (Below.refl w.heap.size w)
 have H : (if a1 = 0 then (some ([] : List Int)) else ((some (([a0,4] : List Int) : List Int)).bind fun y224=>((drawbridgeref20_four.f k a1).bind fun t227=>(if y224.length + t227.length < 140737488355328 then (some (y224 ++ t227)) else (none))))) = some r:=h
 clear h
 by_cases c3 : a1 = 0
 ·rw [if_pos c3] at H
  have c3b0 : (a1 == 0) = true:=beq_iff_eq.mpr c3
  have c3b1 : (a1 != 0) = false:=bne_eq_false_iff_eq.mpr c3
  clear c3
  obtain rfl:=Option.some.inj H
  go_enter Try.func23,Try.ntmps23
  go_wp2
  go_ret
  exact ⟨_,by first|rfl|(simp [errW_none,errW_some] <;> rfl)|(simp [*,errW_none,errW_some] <;> rfl),by first|exact Kd.R_nil _ _ _ _ _|exact Kd.N_nil _ _ _ _ _|exact Kd.V_nil _ _ _ _ _|exact Kd.Q_nil _ _ _ _ _|exact Kd.S_nil _ _ _ _ _,by repeat (first|(with_reducible first|exact HB.out|apply lA|apply lN|apply lD)|exact HB.out)⟩
 ·rw [if_neg c3] at H
  have c3b0 : (a1 == 0) = false:=beq_eq_false_iff_ne.mpr c3
  have c3b1 : (a1 != 0) = true:=bne_iff_ne.mpr c3
  obtain ⟨y224,hy224⟩ : ∃ y_ : List Int,y_ = (([a0,4] : List Int)):=⟨_,rfl⟩
  replace H : ((drawbridgeref20_four.f k a1).bind fun t227=>(if y224.length + t227.length < 140737488355328 then (some (y224 ++ t227)) else (none))) = some r:= by first|(rw [hy224];with_reducible exact H)|(have H2_:=(Option.bind_some _ _).symm.trans H;rw [hy224];with_reducible exact H2_)|(have H2_:=(Option.bind_some _ _).symm.trans H;with_reducible exact H2_)|with_reducible exact H|(rw [hy224];exact H)|exact H
  have Ny224:=mK hy224
  clear hy224
  replace H:=Option.bind_eq_some_iff.mp H
  obtain ⟨t227,A40,H⟩:=H
  replace H : (if y224.length + t227.length < 140737488355328 then (some (y224 ++ t227)) else (none)) = some r:=H
  have A4:=mK A40
  clear A40
  by_cases c5 : y224.length + t227.length < 140737488355328
  ·rw [if_pos c5] at H
   have LMc5:=mK c5
   clear c5
   obtain ⟨y230,hy230⟩ : ∃ y_ : List Int,y_ = (y224 ++ t227):=⟨_,rfl⟩
   replace H : (some y230) = some r:= by first|(rw [hy230];with_reducible exact H)|(have H2_:=(Option.bind_some _ _).symm.trans H;rw [hy230];with_reducible exact H2_)|(have H2_:=(Option.bind_some _ _).symm.trans H;with_reducible exact H2_)|with_reducible exact H|(rw [hy230];exact H)|exact H
   have Ny230:=mK hy230
   clear hy230
   obtain rfl:=Option.some.inj H
   go_enter Try.func23,Try.ntmps23
   go_wp2_with (first|((with_reducible refine gate_dst (N:=8) rfl ?_);refine Kd.R_lit (Kd.int .u8) _ 5 ?hg (N:=8) ?hd (xs:=([a0,4] : List Int)) (inner:=[.int .u8 a0,.int .u8 4]) (ok:= fun _=>True) (okp:= fun _=>True) ?hr ?hp (fun _ hk=>hk) trivial (Below.refl _ _) (Nat.le_refl _) (by simp) ?_;(case hd=>rfl);(case hg=>rfl);(case hr=>first|(go_simp;done)|(go_simp;rfl));(case hp=>exact (Reps.one (show Kd.M (Kd.int .u8) _ _ _ a0 [.int .u8 a0] from rfl) (Reps.one (show Kd.M (Kd.int .u8) _ _ _ 4 [.int .u8 4] from rfl) (Reps.none _ _))));intro v225 w6 ho7 hb hg_ hnew_;clear hg_ hnew_;(first|rw [← Ny224.out] at ho7|(simp only [Int.reduceToNat] at ho7;rw [← Ny224.out] at ho7));have n0_:=mK (Kd.R_lower ho7 (below_size (by repeat (first|(with_reducible first|exact HB.out|apply lA|apply lN|apply lD)|exact HB.out))));have n1_:=mK (below_step (by repeat (first|(with_reducible first|exact HB.out|apply lA|apply lN|apply lD)|exact HB.out)) hb);clear HB;have HO226:=n0_;have HB:=n1_;clear n0_ n1_;clear hb ho7)|((with_reducible refine gate_callee (f:=22) rfl ?_);refine goesL_ (some 10) rfl rfl Try.func22 (by kernel_rfl) rfl #[.int .u32 a1] rfl (by (try simp only [List.map_toArray,List.map_cons,List.map_nil]);first|done|rfl|(simp only [List.length_drop,List.length_take];rfl)) ?_;(with_reducible refine (drawbridgeref20_four.calls k a1 t227 _ A4.out).mono ?_);rintro e w8 ⟨v228,rfl,ho0,hb⟩;refine ⟨_,rfl,?_⟩;have n0_:=mK (Kd.R_elder' (by (with_reducible repeat (first|apply rA|apply rN|apply rD));exact HO226.out) (Kd.R_base ho0) hb);have n1_:=mK (Kd.R_lower (Kd.R_new' ho0 (Kd.R_lt (by (with_reducible repeat (first|apply rA|apply rN|apply rD));exact HO226.out))) (below_size (by repeat (first|(with_reducible first|exact HB.out|apply lA|apply lN|apply lD)|exact HB.out))));have n2_:=mK (below_step (by repeat (first|(with_reducible first|exact HB.out|apply lA|apply lN|apply lD)|exact HB.out)) hb);clear HO226;clear HB;have HO226:=n0_;have HO229:=n1_;have HB:=n2_;clear n0_ n1_ n2_;(try clear hb);(try clear hb2);(try clear hk);(try clear hi);(try clear ho0);obtain ⟨Ao10,co10,eo10⟩:=Kd.R_slice HO229.out;subst eo10)|((with_reducible refine gate_builtin (b:=.append) (xs:=#[.tmp 8,.tmp 10]) rfl ?_);at_builtin;refine Kd.R_append_rows (Kd.int .u8) (w0:=w) w.heap.size rfl (.tmp 8) (.tmp 10) 22 5 (.int .u8 0) 1 rfl Try.underlying22 info5 rfl (by decide) (by omega) v225 y224 t227 _ _ _ (fun k_=>some k_ ≠ (.slice Ao10 t227.length co10 : Value).ownBlock) (fun _=>False) rfl rfl ?aO ?aR (fun _ _ h=>h) (fun _ h=>h.elim) ?aF ?aB ?aS ?aL ?_;(case aR=>repeat (first|exact (Kd.R_reads' HO229.out).2.2|(with_reducible refine Kd.C_alloc ?_ _)|(with_reducible refine Kd.C_drewN ?_ _)|(with_reducible refine Kd.C_drew ?_)));(case aB=>exact (by repeat (first|(with_reducible first|exact HB.out|apply lA|apply lN|apply lD)|exact HB.out)));(case aF=>exact (fun k_ hk=>Kd.fresh' (Kd.R_lt (by (with_reducible repeat (first|apply rA|apply rN|apply rD));exact HO229.out)) k_ hk));(case aO=>exact (by (with_reducible repeat (first|apply rA|apply rN|apply rD));exact Kd.R_mono HO226.out (fun _ hk=>hk.2)));(case aS=>exact (below_size (by repeat (first|(with_reducible first|exact HB.out|apply lA|apply lN|apply lD)|exact HB.out))));(case aL=>have:=LMc5.out;omega);intro v231 w9 ho hb hg hat;rw [← Ny230.out] at ho;have n1_:=mK (hb);have n2_:=mK (ho);clear HB;clear HO226;have HB:=n1_;have HO232:=n2_;clear n1_ n2_;clear ho hb hg hat))
   go_ret
   exact ⟨_,by first|rfl|(simp [errW_none,errW_some] <;> rfl)|(simp [*,errW_none,errW_some] <;> rfl),by (with_reducible repeat (first|apply rA|apply rN|apply rD));exact Kd.R_mono HO232.out (fun _ hk=>trivial),by repeat (first|(with_reducible first|exact HB.out|apply lA|apply lN|apply lD)|exact HB.out)⟩
  ·rw [if_neg c5] at H
   exact absurd H (by simp)

end Go.Proofs.Ytpbofaghnfheiaa.P
