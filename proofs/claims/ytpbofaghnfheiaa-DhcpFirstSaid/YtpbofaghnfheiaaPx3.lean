/- Contracts of functions of the seat, written by a program of this session (with the kit's print) for the laws of this claim; no condition beside what each states. -/
import Derived.Test.YtpbofaghnfheiaaPx0
import Derived.Test.YtpbofaghnfheiaaPx1
import Derived.Test.YtpbofaghnfheiaaPx2
namespace Go.Proofs.Ytpbofaghnfheiaa.P
open Go.Proofs.Ytpbofaghnfheiaa.Aux Go.RowKit Go.Proofs.YtpbofaghnfheiaaW.PrintWords Go.Proofs.YtpbofaghnfheiaaW.PrintLast Go.Proofs.YtpbofaghnfheiaaW.PrintMore
attribute [local go_sem] max2_int min2_int max_two min_two max_three min_three max_four min_four   -- for this text's walks alone
set_option linter.unusedVariables false
set_option linter.unusedSimpArgs false

/-! ### dhcp_Get: function 8 -/
def dhcp_Get.look (mp : List (Int × Int)) (a : Int) : Int := (mp.lookup a).getD 0
theorem dhcp_Get.run_look {W : World} {bm n : Nat} {mp : List (Int × Int)} (h : W.ownsMap (H := Unit) Try.prog 5 (plainElem Try.prog 24) bm n (mapD .u8 .u32 mp)) (a : Int) (h0 : 0 ≤ a) (h1 : a < 256) : (Instr.lookup 45 (.map (some bm)) (.int .u8 a) false).run Try.prog W = .ok (.int .u32 (dhcp_Get.look mp a)) W := by
 obtain ⟨c, hrun, hat, _⟩ := h.lookup_int (Go.Maps.int_keyed Try.underlying5) Try.underlying45 Try.underlying24 (by kernel_rfl) (Go.Maps.keyOf_int_mk Try.underlying5 (wf_u8 h0 h1))
 rw [mapD_at] at hat
 injection hat with hat
 injection hat with _ hat
 rw [hrun, dhcp_Get.look, hat]
def dhcp_Get.bad (l0 : List Int) (mp : List (Int × Int)) (mg : Int) : Bool := decide (rd l0 0 < 1) || decide (2 < rd l0 0) || (rd l0 1 != 1) || (rd l0 2 != 6) || (mg != 1669485411) || decide (dhcp_Get.look mp 53 < 1) || decide (8 < dhcp_Get.look mp 53)
def dhcp_Get.g (k : Nat) (l0 : List Int) (mp : List (Int × Int)) : Option (Int × Int × Int × Int × List Int × Int × Int × Int × Int × Int × Int × Int × Int) := (dhcp_Get_1.f k l0 4).bind fun x => (dhcp_Get_1.f k l0 12).bind fun ci => (dhcp_Get_1.f k l0 16).bind fun yi => (slices_Clone_byte_byte.f ((l0.take 34).drop 28)).bind fun m => some (wrap64 (rd l0 0), x, ci, yi, m, wrap64 (dhcp_Get.look mp 53), dhcp_Get.look mp 50, dhcp_Get.look mp 54, dhcp_Get.look mp 51, dhcp_Get.look mp 1, dhcp_Get.look mp 3, dhcp_Get.look mp 6, 0)
def dhcp_Get.h (k : Nat) (l0 : List Int) : Option (List (Int × Int)) → Option (Int × Int × Int × Int × List Int × Int × Int × Int × Int × Int × Int × Int × Int)
 | none => some (0, 0, 0, 0, ([] : List Int), 0, 0, 0, 0, 0, 0, 0, 161)
 | some mp => (dhcp_Get_1.f k l0 236).bind fun mg => if dhcp_Get.bad l0 mp mg = true then some (0, 0, 0, 0, ([] : List Int), 0, 0, 0, 0, 0, 0, 0, 161) else dhcp_Get.g k l0 mp
def dhcp_Get.f (k : Nat) (l0 : List Int) : Option (Int × Int × Int × Int × List Int × Int × Int × Int × Int × Int × Int × Int × Int) := if (l0.length : Int) < 240 then some (0, 0, 0, 0, ([] : List Int), 0, 0, 0, 0, 0, 0, 0, 160) else (dhcp_options.f k (l0.drop 240)).bind (dhcp_Get.h k l0)
theorem dhcp_Get.mono : ∀ l0 k, LeO (dhcp_Get.f k l0) (dhcp_Get.f (k + 1) l0) := by
 intro l0 k
 unfold dhcp_Get.f
 refine LeO.ite (LeO.refl _) (LeO.bind (dhcp_options.mono _ _) (fun o_ => ?_))
 cases o_ with
 | none => exact LeO.refl _
 | some mp =>
  unfold dhcp_Get.h dhcp_Get.g
  repeat' first | with_reducible exact LeO.refl _ | with_reducible exact dhcp_Get_1.mono _ _ _ | with_reducible refine LeO.bind ?_ (fun _ => ?_) | with_reducible refine LeO.ite ?_ ?_
/-- A call of a function value with captured variables, as one step of a region that draws. -/
theorem goesC_ {P : Program} {ops : Array Oper} {Q : Exit → Act → World → Prop} {oi : Oper} {N : Option Tmp} {a : Act} {w : World} {K : Act → World → Prop} {f : FuncId} {fn : Func} {as_ : Array Operand} {ts : Array TypeId} {t : Tmp} {cap : Array Value} (hf : P.funcs[f]? = some fn) (hname : (fn.name == "runtime.NumGoroutine") = false) (hb : fn.body.isSome = true) (args : Array Value)
  (hw : Region.wanted oi (yielded ops a.tmps) = true) (hN : oi.dst = N) (hop : oi.op = .call { callee := .value (.tmp t), args := as_, argTypes := ts }) (hv : a.eval (.tmp t) = .func (.func f) #[] cap) (hargs : as_.map a.eval ++ cap = args)
  (h : Calls P f args w fun e w' => ∃ v, e = .returned v ∧ K (a.put N v) w') : if Region.wanted oi (yielded ops a.tmps) = true then Oper.wp P oi a w K Q else K (a.put N undef) w := by
 refine call_ f args hw hN ?_ h
 have he := enters_ hf hname hb args w
 subst hargs
 unfold execOp
 simp [hop, resolve, Deferred.ofValue, invoke, hv, he]
structure GetSt (w W : World) (gb g2 : Nat) (A0 : Option Addr) (n c0 : Nat) : Prop where
 hb : W.heap[gb]? = some (.cells #[.slice A0 n c0] 22 (0, 0))
 h2 : W.heap[g2]? = some (.cells #[.int .i64 0, .int .u32 0, .int .u32 0, .int .u32 0, .slice none 0 0, .int .i64 0, .int .u32 0, .int .u32 0, .int .u32 0, .int .u32 0, .int .u32 0, .int .u32 0] 26 (0, 0))
 hw : Below w.heap.size w W
 ge : w.heap.size ≤ g2
theorem GetSt.below {w W W1 : World} {gb g2 : Nat} {A0 : Option Addr} {n c0 : Nat} (h : GetSt w W gb g2 A0 n c0) (k : Below W.heap.size W W1) : GetSt w W1 gb g2 A0 n c0 := ⟨blk_below h.hb k, blk_below h.h2 k, below_step h.hw k, h.ge⟩
theorem GetSt.drew {w W : World} {gb g2 : Nat} {A0 : Option Addr} {n c0 : Nat} (h : GetSt w W gb g2 A0 n c0) : GetSt w W.drew gb g2 A0 n c0 := ⟨blk_drew h.hb, blk_drew h.h2, below_drew1 h.hw, h.ge⟩
def dhcp_Get.T8 : Bool × List (List Nat × List Nat) := (true, [([], []), ([0], [0]), ([1], [1]), ([2], [2]), ([], []), ([4], [4]), ([], []), ([6, 5], [6]), ([], []), ([8, 7], [8]), ([], []), ([10], [10]), ([11, 9], [11]), ([], []), ([13], [13]), ([], []), ([15], [15]), ([], []), ([17], [17]), ([], []), ([19], [19]), ([], []), ([21], [21]), ([], []), ([23], [23]), ([], []), ([25], [25]), ([3, 5, 7, 9, 12, 14, 16, 18, 20, 22, 24, 26], [3, 5, 7, 9, 12, 14, 16, 18, 20, 22, 24, 26]), ([27, 12, 0, 1, 2, 3, 4, 5, 6, 7, 8, 9, 10, 11, 12, 13, 14, 15, 16, 17, 18, 19, 20, 21, 22, 23, 24, 25, 26, 27], [27]), ([28, 0, 1, 2, 3, 4, 5, 6, 7, 8, 9, 10, 11, 12, 13, 14, 15, 16, 17, 18, 19, 20, 21, 22, 23, 24, 25, 26, 27, 28], [])])
def dhcp_Get.B8 : List Nat := [0, 1, 3, 7, 0, 16, 0, 112, 0, 496, 0, 1024, 4080, 0, 8192, 0, 32768, 0, 131072, 0, 524288, 0, 2097152, 0, 8388608, 0, 33554432, 134217727, 268435455, 536870911]
theorem dhcp_Get.tab8 : rtab .any (opsOf Try.f8 8) = dhcp_Get.T8 := by kernel_rfl
theorem dhcp_Get.bits8 : waitsOk dhcp_Get.T8.2 dhcp_Get.B8 = true := by kernel_rfl

set_option maxHeartbeats 1000000 in
set_option maxRecDepth 100000 in
theorem dhcp_Get.calls (k : Nat) (A0 : Option Addr) (c0 : Nat) (l0 : List Int) (r1 : Int) (r2 : Int) (r3 : Int) (r4 : Int) (r5 : List Int) (r6 : Int) (r7 : Int) (r8 : Int) (r9 : Int) (r10 : Int) (r11 : Int) (r12 : Int) (r13 : Int) (w : World) (hr0 : Kd.C (Kd.int .u8) w A0 l0.length l0) (hc0 : l0.length ≤ c0) (h : dhcp_Get.f k l0 = some (r1, r2, r3, r4, r5, r6, r7, r8, r9, r10, r11, r12, r13)) :
 Calls Try.prog 8 #[.slice A0 l0.length c0] w fun e w' => ∃ v4_ : Value, e = .returned (.tuple #[.agg #[.int .i64 r1, .int .u32 r2, .int .u32 r3, .int .u32 r4, v4_, .int .i64 r6, .int .u32 r7, .int .u32 r8, .int .u32 r9, .int .u32 r10, .int .u32 r11, .int .u32 r12], .int .i64 r13]) ∧ Kd.R (Kd.int .u8) 5 w' w.heap.size (fun _ => True) v4_ r5 ∧ Below w.heap.size w w' := by
 have hu26:=Try.underlying26
 have HR0:=mK hr0
 have HC0:=mK hc0
 have H:=h
 clear hr0 hc0 h
 have HB:=mK (Below.refl w.heap.size w)
 unfold dhcp_Get.f at H
 go_enter Try.func8,Try.ntmps8
 go_upto_region 1 with (first|((with_reducible refine gate_dst (N:=1) rfl ?_);(try (refine gate_guard (by rfl) ?_;dsimp only));refine box_event ?hg (N:=1) ?hd (cs:=#[.slice A0 l0.length c0]) (t:=22) ?hr ?_;(case hd=>rfl);(case hg=>rfl);(case hr=>first|(go_simp;done)|(go_simp;rfl));intro gb hg w3 hbox hb;have n0_:=mK (below_step HB.out hb);clear HB;have HB:=n0_;have BKb:=mK hbox;clear n0_ hb hbox hg)|((with_reducible refine gate_dst (N:=2) rfl ?_);(try (refine gate_guard (by rfl) ?_;dsimp only));refine box_event ?hg (N:=2) ?hd (cs:=#[.int .i64 0,.int .u32 0,.int .u32 0,.int .u32 0,.slice none 0 0,.int .i64 0,.int .u32 0,.int .u32 0,.int .u32 0,.int .u32 0,.int .u32 0,.int .u32 0]) (t:=26) ?hr ?_;(case hd=>rfl);(case hg=>rfl);(case hr=>first|(go_simp;done)|(go_simp;rfl));intro g2 hg w4 hbox hb;have HS:=mK (show GetSt w w4 gb g2 A0 l0.length c0 from ⟨blk_below BKb.out hb,hbox,below_step HB.out hb,by rw [hg];exact below_size HB.out⟩);clear BKb HB hb hbox hg))
 have hb0 : w4.cell? ⟨gb,0,none⟩ = some (.slice A0 l0.length c0):=(blk_cell HS.out.hb 0).trans rfl
 by_cases c1 : (l0.length : Int) < 240
 case pos =>
  rw [if_pos c1] at H
  have d1 : decide ((l0.length : Int) < 240) = true:=decide_eq_true c1
  have hz0_ : w4.cell? ⟨g2,0,none⟩ = some (.int .i64 0):=(blk_cell HS.out.h2 0).trans rfl
  have hf0_:=blk_frozen HS.out.h2 0
  have hz1_ : w4.cell? ⟨g2,1,none⟩ = some (.int .u32 0):=(blk_cell HS.out.h2 1).trans rfl
  have hf1_:=blk_frozen HS.out.h2 1
  have hz2_ : w4.cell? ⟨g2,2,none⟩ = some (.int .u32 0):=(blk_cell HS.out.h2 2).trans rfl
  have hf2_:=blk_frozen HS.out.h2 2
  have hz3_ : w4.cell? ⟨g2,3,none⟩ = some (.int .u32 0):=(blk_cell HS.out.h2 3).trans rfl
  have hf3_:=blk_frozen HS.out.h2 3
  have hz4_ : w4.cell? ⟨g2,4,none⟩ = some (.slice none 0 0):=(blk_cell HS.out.h2 4).trans rfl
  have hf4_:=blk_frozen HS.out.h2 4
  have hz5_ : w4.cell? ⟨g2,5,none⟩ = some (.int .i64 0):=(blk_cell HS.out.h2 5).trans rfl
  have hf5_:=blk_frozen HS.out.h2 5
  have hz6_ : w4.cell? ⟨g2,6,none⟩ = some (.int .u32 0):=(blk_cell HS.out.h2 6).trans rfl
  have hf6_:=blk_frozen HS.out.h2 6
  have hz7_ : w4.cell? ⟨g2,7,none⟩ = some (.int .u32 0):=(blk_cell HS.out.h2 7).trans rfl
  have hf7_:=blk_frozen HS.out.h2 7
  have hz8_ : w4.cell? ⟨g2,8,none⟩ = some (.int .u32 0):=(blk_cell HS.out.h2 8).trans rfl
  have hf8_:=blk_frozen HS.out.h2 8
  have hz9_ : w4.cell? ⟨g2,9,none⟩ = some (.int .u32 0):=(blk_cell HS.out.h2 9).trans rfl
  have hf9_:=blk_frozen HS.out.h2 9
  have hz10_ : w4.cell? ⟨g2,10,none⟩ = some (.int .u32 0):=(blk_cell HS.out.h2 10).trans rfl
  have hf10_:=blk_frozen HS.out.h2 10
  have hz11_ : w4.cell? ⟨g2,11,none⟩ = some (.int .u32 0):=(blk_cell HS.out.h2 11).trans rfl
  have hf11_:=blk_frozen HS.out.h2 11
  simp only [Option.some.injEq,Prod.mk.injEq] at H
  obtain ⟨rfl,rfl,rfl,rfl,rfl,rfl,rfl,rfl,rfl,rfl,rfl,rfl,rfl⟩:=H
  go_wp2
  refine bodyPost_ret (results_ct rfl _ _ g2 26 #[.int .i64 0,.int .u32 0,.int .u32 0,.int .u32 0,.slice none 0 0,.int .i64 0,.int .u32 0,.int .u32 0,.int .u32 0,.int .u32 0,.int .u32 0,.int .u32 0] (0,0) _ rfl (by refine blk_put (cs:=#[.int .i64 0,.int .u32 0,.int .u32 0,.int .u32 0,.slice none 0 0,.int .i64 0,.int .u32 0,.int .u32 0,.int .u32 0,.int .u32 0,.int .u32 0,.int .u32 0]) ?_ 11 _ rfl;refine blk_put (cs:=#[.int .i64 0,.int .u32 0,.int .u32 0,.int .u32 0,.slice none 0 0,.int .i64 0,.int .u32 0,.int .u32 0,.int .u32 0,.int .u32 0,.int .u32 0,.int .u32 0]) ?_ 10 _ rfl;refine blk_put (cs:=#[.int .i64 0,.int .u32 0,.int .u32 0,.int .u32 0,.slice none 0 0,.int .i64 0,.int .u32 0,.int .u32 0,.int .u32 0,.int .u32 0,.int .u32 0,.int .u32 0]) ?_ 9 _ rfl;refine blk_put (cs:=#[.int .i64 0,.int .u32 0,.int .u32 0,.int .u32 0,.slice none 0 0,.int .i64 0,.int .u32 0,.int .u32 0,.int .u32 0,.int .u32 0,.int .u32 0,.int .u32 0]) ?_ 8 _ rfl;refine blk_put (cs:=#[.int .i64 0,.int .u32 0,.int .u32 0,.int .u32 0,.slice none 0 0,.int .i64 0,.int .u32 0,.int .u32 0,.int .u32 0,.int .u32 0,.int .u32 0,.int .u32 0]) ?_ 7 _ rfl;refine blk_put (cs:=#[.int .i64 0,.int .u32 0,.int .u32 0,.int .u32 0,.slice none 0 0,.int .i64 0,.int .u32 0,.int .u32 0,.int .u32 0,.int .u32 0,.int .u32 0,.int .u32 0]) ?_ 6 _ rfl;refine blk_put (cs:=#[.int .i64 0,.int .u32 0,.int .u32 0,.int .u32 0,.slice none 0 0,.int .i64 0,.int .u32 0,.int .u32 0,.int .u32 0,.int .u32 0,.int .u32 0,.int .u32 0]) ?_ 5 _ rfl;refine blk_put (cs:=#[.int .i64 0,.int .u32 0,.int .u32 0,.int .u32 0,.slice none 0 0,.int .i64 0,.int .u32 0,.int .u32 0,.int .u32 0,.int .u32 0,.int .u32 0,.int .u32 0]) ?_ 4 _ rfl;refine blk_put (cs:=#[.int .i64 0,.int .u32 0,.int .u32 0,.int .u32 0,.slice none 0 0,.int .i64 0,.int .u32 0,.int .u32 0,.int .u32 0,.int .u32 0,.int .u32 0,.int .u32 0]) ?_ 3 _ rfl;refine blk_put (cs:=#[.int .i64 0,.int .u32 0,.int .u32 0,.int .u32 0,.slice none 0 0,.int .i64 0,.int .u32 0,.int .u32 0,.int .u32 0,.int .u32 0,.int .u32 0,.int .u32 0]) ?_ 2 _ rfl;refine blk_put (cs:=#[.int .i64 0,.int .u32 0,.int .u32 0,.int .u32 0,.slice none 0 0,.int .i64 0,.int .u32 0,.int .u32 0,.int .u32 0,.int .u32 0,.int .u32 0,.int .u32 0]) ?_ 1 _ rfl;refine blk_put (cs:=#[.int .i64 0,.int .u32 0,.int .u32 0,.int .u32 0,.slice none 0 0,.int .i64 0,.int .u32 0,.int .u32 0,.int .u32 0,.int .u32 0,.int .u32 0,.int .u32 0]) ?_ 0 _ rfl;exact HS.out.h2) hu26 (by rfl) (by rfl)) rfl ?_
  exact ⟨_,rfl,Kd.R_nil _ _ _ _ _,by (with_reducible repeat (first|exact HS.out.hw|refine lS ?_ HS.out.ge))⟩
 rw [if_neg c1] at H
 have d1 : decide ((l0.length : Int) < 240) = false:=decide_eq_false c1
 have hlen : 240 ≤ l0.length:= by omega
 obtain ⟨ob,hob,H⟩:=Option.bind_eq_some_iff.1 H
 obtain ⟨i0,hi0,_,hsz,_⟩:=info_parts info5
 obtain ⟨Ab,hcutb,hAb,hCb⟩:=print_drop_of (P:=Try.prog) (Value.int .u8) 0 22 5 .i64 Try.underlying22 hi0 hsz A0 c0 l0 240 (by omega) (by omega) HC0.out
 obtain ⟨Am,hcutm,hAm,hCm⟩:=print_mid_of (P:=Try.prog) (Value.int .u8) 0 22 5 .i64 .i64 Try.underlying22 hi0 hsz A0 c0 l0 28 34 (by omega) (by omega) (by omega) HC0.out
 obtain ⟨yb,hyb⟩ : ∃ y_ : List Int,y_ = l0.drop 240:=⟨_,rfl⟩
 obtain ⟨ym,hym⟩ : ∃ y_ : List Int,y_ = (l0.take 34).drop 28:=⟨_,rfl⟩
 rw [← hyb] at hob
 have HRb:=mK (Kd.C_of_reads (h1:= fun _=>rfl) (hAb _ (Kd.reads_of_C HR0.out)))
 have HRm:=mK (Kd.C_of_reads (h1:= fun _=>rfl) (hAm _ (Kd.reads_of_C HR0.out)))
 simp only [show (240 : Int).toNat = 240 from rfl,← hyb] at hcutb HRb hCb
 simp only [show (28 : Int).toNat = 28 from rfl,show (34 : Int).toNat = 34 from rfl,← hym] at hcutm HRm hCm
 have HCb:=mK hCb
 have HCm:=mK hCm
 have Nym:=mK hym
 have HOB:=mK hob
 clear hi0 hsz hAb hAm hCb hCm hyb hym hob
 cases ob with
 |none =>
  replace H : some (0,0,0,0,([] : List Int),0,0,0,0,0,0,0,161) = some (r1,r2,r3,r4,r5,r6,r7,r8,r9,r10,r11,r12,r13):=H
  have hnil : ∀ W : World,(Instr.lookup 45 (.map none) (.int .u8 53) false).run Try.prog W = .ok (.int .u32 0) W:= fun W=>by simpa using Go.Maps.look_nil (P:=Try.prog) (w:=W) (t:=45) (e:=24) false (Go.Maps.int_keyed Try.underlying5) Try.underlying45 (z:=.int .u32 0) (by kernel_rfl) (Go.Maps.keyOf_int_mk Try.underlying5 (wf_u8 (by decide) (by decide)))
  go_upto_region 7 with ((go_at_call 16;(with_reducible refine (dhcp_options.calls k _ _ yb _ _ ?side1 ?side2 HOB.out).mono ?_);(case side1=>exact Kd.C_below HRb.out HS.out.hw);(case side2=>exact HCb.out);rintro e w5 ⟨hb5,hor⟩;rcases hor with ⟨_,rfl⟩|⟨_,_,_,hab_,_⟩;(case inr=>cases hab_);have HS2:=mK (GetSt.below HS.out hb5);clear HS hb5;have HS:=HS2;clear HS2))
  have hz0_ : w5.cell? ⟨g2,0,none⟩ = some (.int .i64 0):=(blk_cell HS.out.h2 0).trans rfl
  have hf0_:=blk_frozen HS.out.h2 0
  have hz1_ : w5.cell? ⟨g2,1,none⟩ = some (.int .u32 0):=(blk_cell HS.out.h2 1).trans rfl
  have hf1_:=blk_frozen HS.out.h2 1
  have hz2_ : w5.cell? ⟨g2,2,none⟩ = some (.int .u32 0):=(blk_cell HS.out.h2 2).trans rfl
  have hf2_:=blk_frozen HS.out.h2 2
  have hz3_ : w5.cell? ⟨g2,3,none⟩ = some (.int .u32 0):=(blk_cell HS.out.h2 3).trans rfl
  have hf3_:=blk_frozen HS.out.h2 3
  have hz4_ : w5.cell? ⟨g2,4,none⟩ = some (.slice none 0 0):=(blk_cell HS.out.h2 4).trans rfl
  have hf4_:=blk_frozen HS.out.h2 4
  have hz5_ : w5.cell? ⟨g2,5,none⟩ = some (.int .i64 0):=(blk_cell HS.out.h2 5).trans rfl
  have hf5_:=blk_frozen HS.out.h2 5
  have hz6_ : w5.cell? ⟨g2,6,none⟩ = some (.int .u32 0):=(blk_cell HS.out.h2 6).trans rfl
  have hf6_:=blk_frozen HS.out.h2 6
  have hz7_ : w5.cell? ⟨g2,7,none⟩ = some (.int .u32 0):=(blk_cell HS.out.h2 7).trans rfl
  have hf7_:=blk_frozen HS.out.h2 7
  have hz8_ : w5.cell? ⟨g2,8,none⟩ = some (.int .u32 0):=(blk_cell HS.out.h2 8).trans rfl
  have hf8_:=blk_frozen HS.out.h2 8
  have hz9_ : w5.cell? ⟨g2,9,none⟩ = some (.int .u32 0):=(blk_cell HS.out.h2 9).trans rfl
  have hf9_:=blk_frozen HS.out.h2 9
  have hz10_ : w5.cell? ⟨g2,10,none⟩ = some (.int .u32 0):=(blk_cell HS.out.h2 10).trans rfl
  have hf10_:=blk_frozen HS.out.h2 10
  have hz11_ : w5.cell? ⟨g2,11,none⟩ = some (.int .u32 0):=(blk_cell HS.out.h2 11).trans rfl
  have hf11_:=blk_frozen HS.out.h2 11
  simp only [Option.some.injEq,Prod.mk.injEq] at H
  obtain ⟨rfl,rfl,rfl,rfl,rfl,rfl,rfl,rfl,rfl,rfl,rfl,rfl,rfl⟩:=H
  go_wp2
  refine bodyPost_ret (results_ct rfl _ _ g2 26 #[.int .i64 0,.int .u32 0,.int .u32 0,.int .u32 0,.slice none 0 0,.int .i64 0,.int .u32 0,.int .u32 0,.int .u32 0,.int .u32 0,.int .u32 0,.int .u32 0] (0,0) _ rfl (by refine blk_put (cs:=#[.int .i64 0,.int .u32 0,.int .u32 0,.int .u32 0,.slice none 0 0,.int .i64 0,.int .u32 0,.int .u32 0,.int .u32 0,.int .u32 0,.int .u32 0,.int .u32 0]) ?_ 11 _ rfl;refine blk_put (cs:=#[.int .i64 0,.int .u32 0,.int .u32 0,.int .u32 0,.slice none 0 0,.int .i64 0,.int .u32 0,.int .u32 0,.int .u32 0,.int .u32 0,.int .u32 0,.int .u32 0]) ?_ 10 _ rfl;refine blk_put (cs:=#[.int .i64 0,.int .u32 0,.int .u32 0,.int .u32 0,.slice none 0 0,.int .i64 0,.int .u32 0,.int .u32 0,.int .u32 0,.int .u32 0,.int .u32 0,.int .u32 0]) ?_ 9 _ rfl;refine blk_put (cs:=#[.int .i64 0,.int .u32 0,.int .u32 0,.int .u32 0,.slice none 0 0,.int .i64 0,.int .u32 0,.int .u32 0,.int .u32 0,.int .u32 0,.int .u32 0,.int .u32 0]) ?_ 8 _ rfl;refine blk_put (cs:=#[.int .i64 0,.int .u32 0,.int .u32 0,.int .u32 0,.slice none 0 0,.int .i64 0,.int .u32 0,.int .u32 0,.int .u32 0,.int .u32 0,.int .u32 0,.int .u32 0]) ?_ 7 _ rfl;refine blk_put (cs:=#[.int .i64 0,.int .u32 0,.int .u32 0,.int .u32 0,.slice none 0 0,.int .i64 0,.int .u32 0,.int .u32 0,.int .u32 0,.int .u32 0,.int .u32 0,.int .u32 0]) ?_ 6 _ rfl;refine blk_put (cs:=#[.int .i64 0,.int .u32 0,.int .u32 0,.int .u32 0,.slice none 0 0,.int .i64 0,.int .u32 0,.int .u32 0,.int .u32 0,.int .u32 0,.int .u32 0,.int .u32 0]) ?_ 5 _ rfl;refine blk_put (cs:=#[.int .i64 0,.int .u32 0,.int .u32 0,.int .u32 0,.slice none 0 0,.int .i64 0,.int .u32 0,.int .u32 0,.int .u32 0,.int .u32 0,.int .u32 0,.int .u32 0]) ?_ 4 _ rfl;refine blk_put (cs:=#[.int .i64 0,.int .u32 0,.int .u32 0,.int .u32 0,.slice none 0 0,.int .i64 0,.int .u32 0,.int .u32 0,.int .u32 0,.int .u32 0,.int .u32 0,.int .u32 0]) ?_ 3 _ rfl;refine blk_put (cs:=#[.int .i64 0,.int .u32 0,.int .u32 0,.int .u32 0,.slice none 0 0,.int .i64 0,.int .u32 0,.int .u32 0,.int .u32 0,.int .u32 0,.int .u32 0,.int .u32 0]) ?_ 2 _ rfl;refine blk_put (cs:=#[.int .i64 0,.int .u32 0,.int .u32 0,.int .u32 0,.slice none 0 0,.int .i64 0,.int .u32 0,.int .u32 0,.int .u32 0,.int .u32 0,.int .u32 0,.int .u32 0]) ?_ 1 _ rfl;refine blk_put (cs:=#[.int .i64 0,.int .u32 0,.int .u32 0,.int .u32 0,.slice none 0 0,.int .i64 0,.int .u32 0,.int .u32 0,.int .u32 0,.int .u32 0,.int .u32 0,.int .u32 0]) ?_ 0 _ rfl;exact HS.out.h2) hu26 (by rfl) (by rfl)) rfl ?_
  exact ⟨_,rfl,Kd.R_nil _ _ _ _ _,by (with_reducible repeat (first|exact HS.out.hw|refine lS ?_ HS.out.ge))⟩
 |some mp =>
  replace H : ((dhcp_Get_1.f k l0 236).bind fun mg=>if dhcp_Get.bad l0 mp mg = true then some (0,0,0,0,([] : List Int),0,0,0,0,0,0,0,161) else dhcp_Get.g k l0 mp) = some (r1,r2,r3,r4,r5,r6,r7,r8,r9,r10,r11,r12,r13):=H
  obtain ⟨mg,hmg,H⟩:=Option.bind_eq_some_iff.1 H
  have HMG:=mK hmg
  have HH:=mK H
  clear H hmg
  go_upto_region 6 with ((go_at_call 16;(with_reducible refine (dhcp_options.calls k _ _ yb _ _ ?side1 ?side2 HOB.out).mono ?_);(case side1=>exact Kd.C_below HRb.out HS.out.hw);(case side2=>exact HCb.out);rintro e w5 ⟨hb5,hor⟩;rcases hor with ⟨hab_,_⟩|⟨mp',bm,nn,hmp,rfl,hbm,hom⟩;(case inl=>cases hab_);cases hmp;have HS2:=mK (GetSt.below HS.out hb5);clear HS hb5;have HS:=HS2;clear HS2;have HM:=mK hom;have hl53:=dhcp_Get.run_look hom 53 (by decide) (by decide);have hb5 : w5.cell? ⟨gb,0,none⟩ = some (.slice A0 l0.length c0):=(blk_cell HS.out.hb 0).trans rfl))
  go_cut [59] (fun v59 wc=>∃ x : Bool,v59 = .bool x∧Aside0 (x = dhcp_Get.bad l0 mp mg)∧Aside0 (GetSt w wc gb g2 A0 l0.length c0)∧Aside0 (wc.ownsMap (H:=Unit) Try.prog 5 (plainElem Try.prog 24) bm nn (mapD .u8 .u32 mp)))
  case first =>
   obtain ⟨ad0,eA0,hx0⟩:=Kd.at_int HR0.out 0 (by omega) (by omega)
   subst eA0
   replace hx0:=(HS.out.hw.cell (World.block_lt_of_cell? w _ hx0)).trans hx0
   (try rw [show ((0 : Int)).toNat = 0 from rfl] at hx0)
   have p0:=eq_true (show (0 : Int) < (l0.length : Int) by omega)
   have p0':=eq_true (show 0 < l0.length by omega)
   obtain ⟨ad1,eA1,hx1⟩:=Kd.at_int HR0.out 1 (by omega) (by omega)
   obtain rfl : ad0 = ad1:=(by injection eA1)
   replace hx1:=(HS.out.hw.cell (World.block_lt_of_cell? w _ hx1)).trans hx1
   (try rw [show ((1 : Int)).toNat = 1 from rfl] at hx1)
   have p1:=eq_true (show (1 : Int) < (l0.length : Int) by omega)
   have p1':=eq_true (show 1 < l0.length by omega)
   obtain ⟨ad2,eA2,hx2⟩:=Kd.at_int HR0.out 2 (by omega) (by omega)
   obtain rfl : ad0 = ad2:=(by injection eA2)
   replace hx2:=(HS.out.hw.cell (World.block_lt_of_cell? w _ hx2)).trans hx2
   (try rw [show ((2 : Int)).toNat = 2 from rfl] at hx2)
   have p2:=eq_true (show (2 : Int) < (l0.length : Int) by omega)
   have p2':=eq_true (show 2 < l0.length by omega)
   (try rw [Addr.add_zero'] at hx0)
   (try simp [Addr.add] at hx1)
   (try simp [Addr.add] at hx2)
   by_cases d2 : rd l0 0 < 1
   case pos =>
    have d2b : decide (rd l0 0 < 1) = true:=decide_eq_true d2
    go_wp2
    go_meet
    case rel=>exact ⟨true,rfl,⟨by simp [dhcp_Get.bad, *]⟩,HS,HM⟩
   have d2b : decide (rd l0 0 < 1) = false:=decide_eq_false d2
   by_cases d3 : 2 < rd l0 0
   case pos =>
    have d3b : decide (2 < rd l0 0) = true:=decide_eq_true d3
    go_wp2
    go_meet
    case rel=>exact ⟨true,rfl,⟨by simp [dhcp_Get.bad, *]⟩,HS,HM⟩
   have d3b : decide (2 < rd l0 0) = false:=decide_eq_false d3
   by_cases d4 : rd l0 1 = 1
   case neg =>
    have d4b : (rd l0 1 != 1) = true:=bne_iff_ne.2 d4
    go_wp2
    go_meet
    case rel=>exact ⟨true,rfl,⟨by simp [dhcp_Get.bad, *]⟩,HS,HM⟩
   have d4b : (rd l0 1 != 1) = false:=bne_eq_false_iff_eq.2 d4
   replace d4:=mK d4
   by_cases d5 : rd l0 2 = 6
   case neg =>
    have d5b : (rd l0 2 != 6) = true:=bne_iff_ne.2 d5
    go_wp2
    go_meet
    case rel=>exact ⟨true,rfl,⟨by simp [dhcp_Get.bad, *]⟩,HS,HM⟩
   have d5b : (rd l0 2 != 6) = false:=bne_eq_false_iff_eq.2 d5
   replace d5:=mK d5
   by_cases d6 : mg = 1669485411
   case neg =>
    have d6b : (mg != 1669485411) = true:=bne_iff_ne.2 d6
    go_wp2_with ((go_at_call 14;refine (dhcp_Get_1.calls k gb _ c0 l0 236 mg _ HS.out.hb (Kd.C_below HR0.out HS.out.hw) HC0.out HMG.out).mono ?_;rintro e w6 ⟨rfl,hb6⟩;have HM2:=mK (ownsMap_below HM.out hb6 (World.ownsMap.lt HM.out));have HS2:=mK (GetSt.below HS.out hb6);clear HS HM hb6;have HS:=HS2;have HM:=HM2;clear HS2 HM2))
    go_meet
    case rel=>exact ⟨true,rfl,⟨by simp [dhcp_Get.bad, *]⟩,HS,HM⟩
   have d6b : (mg != 1669485411) = false:=bne_eq_false_iff_eq.2 d6
   replace d6:=mK d6
   by_cases d7 : dhcp_Get.look mp 53 < 1
   case pos =>
    have d7b : decide (dhcp_Get.look mp 53 < 1) = true:=decide_eq_true d7
    go_wp2_with ((go_at_call 14;refine (dhcp_Get_1.calls k gb _ c0 l0 236 mg _ HS.out.hb (Kd.C_below HR0.out HS.out.hw) HC0.out HMG.out).mono ?_;rintro e w6 ⟨rfl,hb6⟩;have HM2:=mK (ownsMap_below HM.out hb6 (World.ownsMap.lt HM.out));have HS2:=mK (GetSt.below HS.out hb6);clear HS HM hb6;have HS:=HS2;have HM:=HM2;clear HS2 HM2))
    go_meet
    case rel=>exact ⟨true,rfl,⟨by simp [dhcp_Get.bad, *]⟩,HS,HM⟩
   have d7b : decide (dhcp_Get.look mp 53 < 1) = false:=decide_eq_false d7
   go_wp2_with ((go_at_call 14;refine (dhcp_Get_1.calls k gb _ c0 l0 236 mg _ HS.out.hb (Kd.C_below HR0.out HS.out.hw) HC0.out HMG.out).mono ?_;rintro e w6 ⟨rfl,hb6⟩;have HM2:=mK (ownsMap_below HM.out hb6 (World.ownsMap.lt HM.out));have HS2:=mK (GetSt.below HS.out hb6);clear HS HM hb6;have HS:=HS2;have HM:=HM2;clear HS2 HM2))
   go_meet
   case rel=>exact ⟨decide (8 < dhcp_Get.look mp 53),rfl,⟨by simp [dhcp_Get.bad, *]⟩,HS,HM⟩
  case rest =>
   obtain ⟨x,rfl,HX,HS,HM⟩:=hcut
   have H:=HH.out
   clear HH
   rw [← HX.out] at H
   cases x with
   |true =>
    rw [if_pos rfl] at H
    have hz0_ : wc.cell? ⟨g2,0,none⟩ = some (.int .i64 0):=(blk_cell HS.out.h2 0).trans rfl
    have hf0_:=blk_frozen HS.out.h2 0
    have hz1_ : wc.cell? ⟨g2,1,none⟩ = some (.int .u32 0):=(blk_cell HS.out.h2 1).trans rfl
    have hf1_:=blk_frozen HS.out.h2 1
    have hz2_ : wc.cell? ⟨g2,2,none⟩ = some (.int .u32 0):=(blk_cell HS.out.h2 2).trans rfl
    have hf2_:=blk_frozen HS.out.h2 2
    have hz3_ : wc.cell? ⟨g2,3,none⟩ = some (.int .u32 0):=(blk_cell HS.out.h2 3).trans rfl
    have hf3_:=blk_frozen HS.out.h2 3
    have hz4_ : wc.cell? ⟨g2,4,none⟩ = some (.slice none 0 0):=(blk_cell HS.out.h2 4).trans rfl
    have hf4_:=blk_frozen HS.out.h2 4
    have hz5_ : wc.cell? ⟨g2,5,none⟩ = some (.int .i64 0):=(blk_cell HS.out.h2 5).trans rfl
    have hf5_:=blk_frozen HS.out.h2 5
    have hz6_ : wc.cell? ⟨g2,6,none⟩ = some (.int .u32 0):=(blk_cell HS.out.h2 6).trans rfl
    have hf6_:=blk_frozen HS.out.h2 6
    have hz7_ : wc.cell? ⟨g2,7,none⟩ = some (.int .u32 0):=(blk_cell HS.out.h2 7).trans rfl
    have hf7_:=blk_frozen HS.out.h2 7
    have hz8_ : wc.cell? ⟨g2,8,none⟩ = some (.int .u32 0):=(blk_cell HS.out.h2 8).trans rfl
    have hf8_:=blk_frozen HS.out.h2 8
    have hz9_ : wc.cell? ⟨g2,9,none⟩ = some (.int .u32 0):=(blk_cell HS.out.h2 9).trans rfl
    have hf9_:=blk_frozen HS.out.h2 9
    have hz10_ : wc.cell? ⟨g2,10,none⟩ = some (.int .u32 0):=(blk_cell HS.out.h2 10).trans rfl
    have hf10_:=blk_frozen HS.out.h2 10
    have hz11_ : wc.cell? ⟨g2,11,none⟩ = some (.int .u32 0):=(blk_cell HS.out.h2 11).trans rfl
    have hf11_:=blk_frozen HS.out.h2 11
    simp only [Option.some.injEq,Prod.mk.injEq] at H
    obtain ⟨rfl,rfl,rfl,rfl,rfl,rfl,rfl,rfl,rfl,rfl,rfl,rfl,rfl⟩:=H
    go_wp2
    refine bodyPost_ret (results_ct rfl _ _ g2 26 #[.int .i64 0,.int .u32 0,.int .u32 0,.int .u32 0,.slice none 0 0,.int .i64 0,.int .u32 0,.int .u32 0,.int .u32 0,.int .u32 0,.int .u32 0,.int .u32 0] (0,0) _ rfl (by refine blk_put (cs:=#[.int .i64 0,.int .u32 0,.int .u32 0,.int .u32 0,.slice none 0 0,.int .i64 0,.int .u32 0,.int .u32 0,.int .u32 0,.int .u32 0,.int .u32 0,.int .u32 0]) ?_ 11 _ rfl;refine blk_put (cs:=#[.int .i64 0,.int .u32 0,.int .u32 0,.int .u32 0,.slice none 0 0,.int .i64 0,.int .u32 0,.int .u32 0,.int .u32 0,.int .u32 0,.int .u32 0,.int .u32 0]) ?_ 10 _ rfl;refine blk_put (cs:=#[.int .i64 0,.int .u32 0,.int .u32 0,.int .u32 0,.slice none 0 0,.int .i64 0,.int .u32 0,.int .u32 0,.int .u32 0,.int .u32 0,.int .u32 0,.int .u32 0]) ?_ 9 _ rfl;refine blk_put (cs:=#[.int .i64 0,.int .u32 0,.int .u32 0,.int .u32 0,.slice none 0 0,.int .i64 0,.int .u32 0,.int .u32 0,.int .u32 0,.int .u32 0,.int .u32 0,.int .u32 0]) ?_ 8 _ rfl;refine blk_put (cs:=#[.int .i64 0,.int .u32 0,.int .u32 0,.int .u32 0,.slice none 0 0,.int .i64 0,.int .u32 0,.int .u32 0,.int .u32 0,.int .u32 0,.int .u32 0,.int .u32 0]) ?_ 7 _ rfl;refine blk_put (cs:=#[.int .i64 0,.int .u32 0,.int .u32 0,.int .u32 0,.slice none 0 0,.int .i64 0,.int .u32 0,.int .u32 0,.int .u32 0,.int .u32 0,.int .u32 0,.int .u32 0]) ?_ 6 _ rfl;refine blk_put (cs:=#[.int .i64 0,.int .u32 0,.int .u32 0,.int .u32 0,.slice none 0 0,.int .i64 0,.int .u32 0,.int .u32 0,.int .u32 0,.int .u32 0,.int .u32 0,.int .u32 0]) ?_ 5 _ rfl;refine blk_put (cs:=#[.int .i64 0,.int .u32 0,.int .u32 0,.int .u32 0,.slice none 0 0,.int .i64 0,.int .u32 0,.int .u32 0,.int .u32 0,.int .u32 0,.int .u32 0,.int .u32 0]) ?_ 4 _ rfl;refine blk_put (cs:=#[.int .i64 0,.int .u32 0,.int .u32 0,.int .u32 0,.slice none 0 0,.int .i64 0,.int .u32 0,.int .u32 0,.int .u32 0,.int .u32 0,.int .u32 0,.int .u32 0]) ?_ 3 _ rfl;refine blk_put (cs:=#[.int .i64 0,.int .u32 0,.int .u32 0,.int .u32 0,.slice none 0 0,.int .i64 0,.int .u32 0,.int .u32 0,.int .u32 0,.int .u32 0,.int .u32 0,.int .u32 0]) ?_ 2 _ rfl;refine blk_put (cs:=#[.int .i64 0,.int .u32 0,.int .u32 0,.int .u32 0,.slice none 0 0,.int .i64 0,.int .u32 0,.int .u32 0,.int .u32 0,.int .u32 0,.int .u32 0,.int .u32 0]) ?_ 1 _ rfl;refine blk_put (cs:=#[.int .i64 0,.int .u32 0,.int .u32 0,.int .u32 0,.slice none 0 0,.int .i64 0,.int .u32 0,.int .u32 0,.int .u32 0,.int .u32 0,.int .u32 0,.int .u32 0]) ?_ 0 _ rfl;exact HS.out.h2) hu26 (by rfl) (by rfl)) rfl ?_
    exact ⟨_,rfl,Kd.R_nil _ _ _ _ _,by (with_reducible repeat (first|exact HS.out.hw|refine lS ?_ HS.out.ge))⟩
   |false =>
    rw [if_neg (by decide)] at H
    unfold dhcp_Get.g at H
    obtain ⟨x4,qx4,H⟩:=Option.bind_eq_some_iff.1 H
    replace qx4:=mK qx4
    obtain ⟨x12,qx12,H⟩:=Option.bind_eq_some_iff.1 H
    replace qx12:=mK qx12
    obtain ⟨x16,qx16,H⟩:=Option.bind_eq_some_iff.1 H
    replace qx16:=mK qx16
    obtain ⟨m,qm,H⟩:=Option.bind_eq_some_iff.1 H
    replace qm:=mK qm
    simp only [Option.some.injEq,Prod.mk.injEq] at H
    obtain ⟨rfl,rfl,rfl,rfl,rfl,rfl,rfl,rfl,rfl,rfl,rfl,rfl,rfl⟩:=H
    have qm' : Aside0 (slices_Clone_byte_byte.f ym = some m):= by rw [Nym.out];exact qm
    obtain ⟨ad0,eA0,hx0⟩:=Kd.at_int HR0.out 0 (by omega) (by omega)
    subst eA0
    (try rw [show ((0 : Int)).toNat = 0 from rfl,Addr.add_zero'] at hx0)
    have hadlt:=mK (World.block_lt_of_cell? w _ hx0)
    have p0:=eq_true (show (0 : Int) < (l0.length : Int) by omega)
    have p0':=eq_true (show 0 < l0.length by omega)
    clear hlen c1
    go_upto_region 8 with (fail)
    replace HS:=mK HS.out.drew
    replace HM:=mK (World.ownsMap.drew HM.out)
    replace hx0:=(HS.out.hw.cell hadlt.out).trans hx0
    have hb0:=(blk_cell HS.out.hb 0).trans rfl
    have hm0:=HM.out
    refine start_ (n:=30) (S:= fun w'=>w'.cell? ⟨gb,0,none⟩ = some (.slice (some ad0) l0.length c0)∧w'.cell? ad0 = some (.int .u8 (rd l0 0))∧w'.ownsMap (H:=Unit) Try.prog 5 (plainElem Try.prog 24) bm nn (mapD .u8 .u32 mp)) (ds:=[]) #[φ,φ,φ,φ,φ,φ,φ,φ,φ,φ,φ,φ,φ,φ,φ,φ,φ,φ,φ,φ,φ,φ,φ,φ,φ,φ,φ,φ,φ,φ] (by kernel_rfl) rfl rfl ⟨hb0,hx0,hm0⟩ (fun hHeld=>?_);refine with_tabW dhcp_Get.tab8 dhcp_Get.bits8 (fun HT_ HW_=>?_)
    clear hb0 hx0 hm0
    generalize wc.drew = V0 at HS HM hHeld ⊢
    refine take_ (i:=0) (N:=some 61) (v:=?_) (a':=?_) #[τ,φ,φ,φ,φ,φ,φ,φ,φ,φ,φ,φ,φ,φ,φ,φ,φ,φ,φ,φ,φ,φ,φ,φ,φ,φ,φ,φ,φ,φ] rfl rfl (take_ofW HT_.out HW_.out (by kernel_rfl)) (fun _ _ _ h=>h) (Or.inl ⟨by rfl,?_⟩) hHeld ?_ ?_
    rotate_left
    ·rintro w' ⟨s0,s1,s2⟩
     go_simp
     with_reducible rfl
    rotate_left
    ·simp only [Act.put,sT,sZ,sS,i64_w,i32_w]
     rfl
    refine pure_ (i:=1) (N:=some 62) (v:=?_) (a':=?_) #[τ,τ,φ,φ,φ,φ,φ,φ,φ,φ,φ,φ,φ,φ,φ,φ,φ,φ,φ,φ,φ,φ,φ,φ,φ,φ,φ,φ,φ,φ] rfl rfl (any_of HT_.out (by kernel_rfl)) (fun _ _ _ h=>h) (Or.inl ⟨by rfl,?_⟩) ?_ ?_
    rotate_left
    ·intro w'
     go_simp
     with_reducible rfl
    rotate_left
    ·simp only [Act.put,sT,sZ,sS,i64_w,i32_w]
     rfl
    refine take_ (i:=2) (N:=some 63) (v:=?_) (a':=?_) #[τ,τ,τ,φ,φ,φ,φ,φ,φ,φ,φ,φ,φ,φ,φ,φ,φ,φ,φ,φ,φ,φ,φ,φ,φ,φ,φ,φ,φ,φ] rfl rfl (take_ofW HT_.out HW_.out (by kernel_rfl)) (fun _ _ _ h=>h) (Or.inl ⟨by rfl,?_⟩) hHeld ?_ ?_
    rotate_left
    ·rintro w' ⟨s0,s1,s2⟩
     go_simp
     with_reducible rfl
    rotate_left
    ·simp only [Act.put,sT,sZ,sS,i64_w,i32_w]
     rfl
    refine pure_ (i:=3) (N:=some 64) (v:=?_) (a':=?_) #[τ,τ,τ,τ,φ,φ,φ,φ,φ,φ,φ,φ,φ,φ,φ,φ,φ,φ,φ,φ,φ,φ,φ,φ,φ,φ,φ,φ,φ,φ] rfl rfl (any_of HT_.out (by kernel_rfl)) (fun _ _ _ h=>h) (Or.inl ⟨by rfl,?_⟩) ?_ ?_
    rotate_left
    ·intro w'
     go_simp
     with_reducible rfl
    rotate_left
    ·simp only [Act.put,sT,sZ,sS,i64_w,i32_w]
     rfl
    refine pure_ (i:=4) (N:=some 65) (v:=?_) (a':=?_) #[τ,τ,τ,τ,τ,φ,φ,φ,φ,φ,φ,φ,φ,φ,φ,φ,φ,φ,φ,φ,φ,φ,φ,φ,φ,φ,φ,φ,φ,φ] rfl rfl (any_of HT_.out (by kernel_rfl)) (fun _ _ _ h=>h) (Or.inl ⟨by rfl,?_⟩) ?_ ?_
    rotate_left
    ·intro w'
     go_simp
     with_reducible rfl
    rotate_left
    ·simp only [Act.put,sT,sZ,sS,i64_w,i32_w]
     rfl
    refine pure_ (i:=6) (N:=some 67) (v:=?_) (a':=?_) #[τ,τ,τ,τ,τ,φ,τ,φ,φ,φ,φ,φ,φ,φ,φ,φ,φ,φ,φ,φ,φ,φ,φ,φ,φ,φ,φ,φ,φ,φ] rfl rfl (any_of HT_.out (by kernel_rfl)) (fun _ _ _ h=>h) (Or.inl ⟨by rfl,?_⟩) ?_ ?_
    rotate_left
    ·intro w'
     go_simp
     with_reducible rfl
    rotate_left
    ·simp only [Act.put,sT,sZ,sS,i64_w,i32_w]
     rfl
    refine pure_ (i:=8) (N:=some 69) (v:=?_) (a':=?_) #[τ,τ,τ,τ,τ,φ,τ,φ,τ,φ,φ,φ,φ,φ,φ,φ,φ,φ,φ,φ,φ,φ,φ,φ,φ,φ,φ,φ,φ,φ] rfl rfl (any_of HT_.out (by kernel_rfl)) (fun _ _ _ h=>h) (Or.inl ⟨by rfl,?_⟩) ?_ ?_
    rotate_left
    ·intro w'
     go_simp
     with_reducible rfl
    rotate_left
    ·simp only [Act.put,sT,sZ,sS,i64_w,i32_w]
     rfl
    refine take_ (i:=10) (N:=some 71) (v:=?_) (a':=?_) #[τ,τ,τ,τ,τ,φ,τ,φ,τ,φ,τ,φ,φ,φ,φ,φ,φ,φ,φ,φ,φ,φ,φ,φ,φ,φ,φ,φ,φ,φ] rfl rfl (take_ofW HT_.out HW_.out (by kernel_rfl)) (fun _ _ _ h=>h) (Or.inl ⟨by rfl,?_⟩) hHeld ?_ ?_
    rotate_left
    ·rintro w' ⟨s0,s1,s2⟩
     go_simp
     with_reducible rfl
    rotate_left
    ·simp only [Act.put,sT,sZ,sS,i64_w,i32_w]
     rfl
    refine pure_ (i:=11) (N:=some 72) (v:=?_) (a':=?_) #[τ,τ,τ,τ,τ,φ,τ,φ,τ,φ,τ,τ,φ,φ,φ,φ,φ,φ,φ,φ,φ,φ,φ,φ,φ,φ,φ,φ,φ,φ] rfl rfl (any_of HT_.out (by kernel_rfl)) (fun _ _ _ h=>h) (Or.inl ⟨by rfl,?_⟩) ?_ ?_
    rotate_left
    ·intro w'
     go_simp
     with_reducible rfl
    rotate_left
    ·simp only [Act.put,sT,sZ,sS,i64_w,i32_w]
     rfl
    refine pure_ (i:=13) (N:=some 74) (v:=?_) (a':=?_) #[τ,τ,τ,τ,τ,φ,τ,φ,τ,φ,τ,τ,φ,τ,φ,φ,φ,φ,φ,φ,φ,φ,φ,φ,φ,φ,φ,φ,φ,φ] rfl rfl (any_of HT_.out (by kernel_rfl)) (fun _ _ _ h=>h) (Or.inl ⟨by rfl,?_⟩) ?_ ?_
    rotate_left
    ·intro w'
     go_simp
     with_reducible rfl
    rotate_left
    ·simp only [Act.put,sT,sZ,sS,i64_w,i32_w]
     rfl
    refine pure_ (i:=14) (N:=some 75) (v:=?_) (a':=?_) #[τ,τ,τ,τ,τ,φ,τ,φ,τ,φ,τ,τ,φ,τ,τ,φ,φ,φ,φ,φ,φ,φ,φ,φ,φ,φ,φ,φ,φ,φ] rfl rfl (any_of HT_.out (by kernel_rfl)) (fun _ _ _ h=>h) (Or.inl ⟨by rfl,?_⟩) ?_ ?_
    rotate_left
    ·intro w'
     go_simp
     with_reducible rfl
    rotate_left
    ·simp only [Act.put,sT,sZ,sS,i64_w,i32_w]
     rfl
    refine pure_ (i:=15) (N:=some 76) (v:=?_) (a':=?_) #[τ,τ,τ,τ,τ,φ,τ,φ,τ,φ,τ,τ,φ,τ,τ,τ,φ,φ,φ,φ,φ,φ,φ,φ,φ,φ,φ,φ,φ,φ] rfl rfl (any_of HT_.out (by kernel_rfl)) (fun _ _ _ h=>h) (Or.inl ⟨by rfl,?_⟩) ?_ ?_
    rotate_left
    ·intro w'
     go_simp
     with_reducible rfl
    rotate_left
    ·simp only [Act.put,sT,sZ,sS,i64_w,i32_w]
     rfl
    refine pure_ (i:=17) (N:=some 78) (v:=?_) (a':=?_) #[τ,τ,τ,τ,τ,φ,τ,φ,τ,φ,τ,τ,φ,τ,τ,τ,φ,τ,φ,φ,φ,φ,φ,φ,φ,φ,φ,φ,φ,φ] rfl rfl (any_of HT_.out (by kernel_rfl)) (fun _ _ _ h=>h) (Or.inl ⟨by rfl,?_⟩) ?_ ?_
    rotate_left
    ·intro w'
     go_simp
     with_reducible rfl
    rotate_left
    ·simp only [Act.put,sT,sZ,sS,i64_w,i32_w]
     rfl
    refine pure_ (i:=19) (N:=some 80) (v:=?_) (a':=?_) #[τ,τ,τ,τ,τ,φ,τ,φ,τ,φ,τ,τ,φ,τ,τ,τ,φ,τ,φ,τ,φ,φ,φ,φ,φ,φ,φ,φ,φ,φ] rfl rfl (any_of HT_.out (by kernel_rfl)) (fun _ _ _ h=>h) (Or.inl ⟨by rfl,?_⟩) ?_ ?_
    rotate_left
    ·intro w'
     go_simp
     with_reducible rfl
    rotate_left
    ·simp only [Act.put,sT,sZ,sS,i64_w,i32_w]
     rfl
    refine pure_ (i:=21) (N:=some 82) (v:=?_) (a':=?_) #[τ,τ,τ,τ,τ,φ,τ,φ,τ,φ,τ,τ,φ,τ,τ,τ,φ,τ,φ,τ,φ,τ,φ,φ,φ,φ,φ,φ,φ,φ] rfl rfl (any_of HT_.out (by kernel_rfl)) (fun _ _ _ h=>h) (Or.inl ⟨by rfl,?_⟩) ?_ ?_
    rotate_left
    ·intro w'
     go_simp
     with_reducible rfl
    rotate_left
    ·simp only [Act.put,sT,sZ,sS,i64_w,i32_w]
     rfl
    refine pure_ (i:=23) (N:=some 84) (v:=?_) (a':=?_) #[τ,τ,τ,τ,τ,φ,τ,φ,τ,φ,τ,τ,φ,τ,τ,τ,φ,τ,φ,τ,φ,τ,φ,τ,φ,φ,φ,φ,φ,φ] rfl rfl (any_of HT_.out (by kernel_rfl)) (fun _ _ _ h=>h) (Or.inl ⟨by rfl,?_⟩) ?_ ?_
    rotate_left
    ·intro w'
     go_simp
     with_reducible rfl
    rotate_left
    ·simp only [Act.put,sT,sZ,sS,i64_w,i32_w]
     rfl
    refine pure_ (i:=25) (N:=some 86) (v:=?_) (a':=?_) #[τ,τ,τ,τ,τ,φ,τ,φ,τ,φ,τ,τ,φ,τ,τ,τ,φ,τ,φ,τ,φ,τ,φ,τ,φ,τ,φ,φ,φ,φ] rfl rfl (any_of HT_.out (by kernel_rfl)) (fun _ _ _ h=>h) (Or.inl ⟨by rfl,?_⟩) ?_ ?_
    rotate_left
    ·intro w'
     go_simp
     with_reducible rfl
    rotate_left
    ·simp only [Act.put,sT,sZ,sS,i64_w,i32_w]
     rfl
    refine take_ (i:=16) (N:=some 77) (v:=?_) (a':=?_) #[τ,τ,τ,τ,τ,φ,τ,φ,τ,φ,τ,τ,φ,τ,τ,τ,τ,τ,φ,τ,φ,τ,φ,τ,φ,τ,φ,φ,φ,φ] rfl rfl (take_ofW HT_.out HW_.out (by kernel_rfl)) (fun _ _ _ h=>h) (Or.inl ⟨by rfl,?_⟩) hHeld ?_ ?_
    rotate_left
    ·rintro w' ⟨s0,s1,s2⟩
     have l_:=dhcp_Get.run_look s2 50 (by decide) (by decide)
     go_simp
     with_reducible rfl
    rotate_left
    ·simp only [Act.put,sT,sZ,sS,i64_w,i32_w]
     rfl
    refine take_ (i:=18) (N:=some 79) (v:=?_) (a':=?_) #[τ,τ,τ,τ,τ,φ,τ,φ,τ,φ,τ,τ,φ,τ,τ,τ,τ,τ,τ,τ,φ,τ,φ,τ,φ,τ,φ,φ,φ,φ] rfl rfl (take_ofW HT_.out HW_.out (by kernel_rfl)) (fun _ _ _ h=>h) (Or.inl ⟨by rfl,?_⟩) hHeld ?_ ?_
    rotate_left
    ·rintro w' ⟨s0,s1,s2⟩
     have l_:=dhcp_Get.run_look s2 54 (by decide) (by decide)
     go_simp
     with_reducible rfl
    rotate_left
    ·simp only [Act.put,sT,sZ,sS,i64_w,i32_w]
     rfl
    refine take_ (i:=20) (N:=some 81) (v:=?_) (a':=?_) #[τ,τ,τ,τ,τ,φ,τ,φ,τ,φ,τ,τ,φ,τ,τ,τ,τ,τ,τ,τ,τ,τ,φ,τ,φ,τ,φ,φ,φ,φ] rfl rfl (take_ofW HT_.out HW_.out (by kernel_rfl)) (fun _ _ _ h=>h) (Or.inl ⟨by rfl,?_⟩) hHeld ?_ ?_
    rotate_left
    ·rintro w' ⟨s0,s1,s2⟩
     have l_:=dhcp_Get.run_look s2 51 (by decide) (by decide)
     go_simp
     with_reducible rfl
    rotate_left
    ·simp only [Act.put,sT,sZ,sS,i64_w,i32_w]
     rfl
    refine take_ (i:=22) (N:=some 83) (v:=?_) (a':=?_) #[τ,τ,τ,τ,τ,φ,τ,φ,τ,φ,τ,τ,φ,τ,τ,τ,τ,τ,τ,τ,τ,τ,τ,τ,φ,τ,φ,φ,φ,φ] rfl rfl (take_ofW HT_.out HW_.out (by kernel_rfl)) (fun _ _ _ h=>h) (Or.inl ⟨by rfl,?_⟩) hHeld ?_ ?_
    rotate_left
    ·rintro w' ⟨s0,s1,s2⟩
     have l_:=dhcp_Get.run_look s2 1 (by decide) (by decide)
     go_simp
     with_reducible rfl
    rotate_left
    ·simp only [Act.put,sT,sZ,sS,i64_w,i32_w]
     rfl
    refine take_ (i:=24) (N:=some 85) (v:=?_) (a':=?_) #[τ,τ,τ,τ,τ,φ,τ,φ,τ,φ,τ,τ,φ,τ,τ,τ,τ,τ,τ,τ,τ,τ,τ,τ,τ,τ,φ,φ,φ,φ] rfl rfl (take_ofW HT_.out HW_.out (by kernel_rfl)) (fun _ _ _ h=>h) (Or.inl ⟨by rfl,?_⟩) hHeld ?_ ?_
    rotate_left
    ·rintro w' ⟨s0,s1,s2⟩
     have l_:=dhcp_Get.run_look s2 3 (by decide) (by decide)
     go_simp
     with_reducible rfl
    rotate_left
    ·simp only [Act.put,sT,sZ,sS,i64_w,i32_w]
     rfl
    refine take_ (i:=26) (N:=some 87) (v:=?_) (a':=?_) #[τ,τ,τ,τ,τ,φ,τ,φ,τ,φ,τ,τ,φ,τ,τ,τ,τ,τ,τ,τ,τ,τ,τ,τ,τ,τ,τ,φ,φ,φ] rfl rfl (take_ofW HT_.out HW_.out (by kernel_rfl)) (fun _ _ _ h=>h) (Or.inl ⟨by rfl,?_⟩) hHeld ?_ ?_
    rotate_left
    ·rintro w' ⟨s0,s1,s2⟩
     have l_:=dhcp_Get.run_look s2 6 (by decide) (by decide)
     go_simp
     with_reducible rfl
    rotate_left
    ·simp only [Act.put,sT,sZ,sS,i64_w,i32_w]
     rfl
    refine one_ (i:=5) (N:=some 66) #[τ,τ,τ,τ,τ,τ,τ,φ,τ,φ,τ,τ,φ,τ,τ,τ,τ,τ,τ,τ,τ,τ,τ,τ,τ,τ,τ,φ,φ,φ] rfl rfl (one_of HT_.out (by kernel_rfl)) (by decide) (fun K hK=>?_)
    refine goesC_ (fn:=Try.f14) (f:=14) (t:=65) (by kernel_rfl) rfl rfl #[.int .i64 4,.pointer (some ⟨gb,0,none⟩)] (by rfl) rfl rfl rfl (by simp [Act.eval]) ?_
    refine (dhcp_Get_1.calls k gb _ c0 l0 4 x4 _ HS.out.hb (Kd.C_below HR0.out HS.out.hw) HC0.out qx4.out).mono ?_
    rintro e V1 ⟨rfl,hb6⟩
    refine ⟨_,rfl,?_⟩
    have HM2:=mK (ownsMap_below HM.out hb6 (World.ownsMap.lt HM.out))
    have HS2:=mK (GetSt.below HS.out hb6)
    refine hK.out _ _ ⟨(blk_cell HS2.out.hb 0).trans rfl,(hb6.cell (Nat.lt_of_lt_of_le hadlt.out HS.out.hw.size)).trans hHeld.2.1,HM2.out⟩ (fun hHeld=>?_)
    clear hK K
    replace HS:=HS2
    replace HM:=HM2
    clear HS2 HM2
    clear hb6
    refine one_ (i:=7) (N:=some 68) #[τ,τ,τ,τ,τ,τ,τ,τ,τ,φ,τ,τ,φ,τ,τ,τ,τ,τ,τ,τ,τ,τ,τ,τ,τ,τ,τ,φ,φ,φ] rfl rfl (one_of HT_.out (by kernel_rfl)) (by decide) (fun K hK=>?_)
    refine goesC_ (fn:=Try.f14) (f:=14) (t:=67) (by kernel_rfl) rfl rfl #[.int .i64 12,.pointer (some ⟨gb,0,none⟩)] (by rfl) rfl rfl rfl (by simp [Act.eval]) ?_
    refine (dhcp_Get_1.calls k gb _ c0 l0 12 x12 _ HS.out.hb (Kd.C_below HR0.out HS.out.hw) HC0.out qx12.out).mono ?_
    rintro e V2 ⟨rfl,hb6⟩
    refine ⟨_,rfl,?_⟩
    have HM2:=mK (ownsMap_below HM.out hb6 (World.ownsMap.lt HM.out))
    have HS2:=mK (GetSt.below HS.out hb6)
    refine hK.out _ _ ⟨(blk_cell HS2.out.hb 0).trans rfl,(hb6.cell (Nat.lt_of_lt_of_le hadlt.out HS.out.hw.size)).trans hHeld.2.1,HM2.out⟩ (fun hHeld=>?_)
    clear hK K
    replace HS:=HS2
    replace HM:=HM2
    clear HS2 HM2
    clear hb6
    refine one_ (i:=9) (N:=some 70) #[τ,τ,τ,τ,τ,τ,τ,τ,τ,τ,τ,τ,φ,τ,τ,τ,τ,τ,τ,τ,τ,τ,τ,τ,τ,τ,τ,φ,φ,φ] rfl rfl (one_of HT_.out (by kernel_rfl)) (by decide) (fun K hK=>?_)
    refine goesC_ (fn:=Try.f14) (f:=14) (t:=69) (by kernel_rfl) rfl rfl #[.int .i64 16,.pointer (some ⟨gb,0,none⟩)] (by rfl) rfl rfl rfl (by simp [Act.eval]) ?_
    refine (dhcp_Get_1.calls k gb _ c0 l0 16 x16 _ HS.out.hb (Kd.C_below HR0.out HS.out.hw) HC0.out qx16.out).mono ?_
    rintro e V3 ⟨rfl,hb6⟩
    refine ⟨_,rfl,?_⟩
    have HM2:=mK (ownsMap_below HM.out hb6 (World.ownsMap.lt HM.out))
    have HS2:=mK (GetSt.below HS.out hb6)
    refine hK.out _ _ ⟨(blk_cell HS2.out.hb 0).trans rfl,(hb6.cell (Nat.lt_of_lt_of_le hadlt.out HS.out.hw.size)).trans hHeld.2.1,HM2.out⟩ (fun hHeld=>?_)
    clear hK K
    replace HS:=HS2
    replace HM:=HM2
    clear HS2 HM2
    clear hb6
    refine one_ (i:=12) (N:=some 73) #[τ,τ,τ,τ,τ,τ,τ,τ,τ,τ,τ,τ,τ,τ,τ,τ,τ,τ,τ,τ,τ,τ,τ,τ,τ,τ,τ,φ,φ,φ] rfl rfl (one_of HT_.out (by kernel_rfl)) (by decide) (fun K hK=>?_)
    refine goes_ Try.func17 (by kernel_rfl) rfl #[.slice Am ym.length (c0 - 28)] (by rfl) rfl rfl (by first|rfl|(simp only [List.map_toArray,List.map_cons,List.map_nil];rfl)) ?_
    refine (slices_Clone_byte_byte.calls Am (c0 - 28) ym m _ (Kd.C_below HRm.out HS.out.hw) HCm.out qm'.out).mono ?_
    rintro e V4 ⟨v7,rfl,ho7,hb7⟩
    obtain ⟨Ao,co,eo⟩:=Kd.R_slice ho7
    subst eo
    refine ⟨_,rfl,?_⟩
    have HO:=mK (Kd.R_lower ho7 (below_size HS.out.hw))
    have HM2:=mK (ownsMap_below HM.out hb7 (World.ownsMap.lt HM.out))
    have HS2:=mK (GetSt.below HS.out hb7)
    refine hK.out _ _ ⟨(blk_cell HS2.out.hb 0).trans rfl,(hb7.cell (Nat.lt_of_lt_of_le hadlt.out HS.out.hw.size)).trans hHeld.2.1,HM2.out⟩ (fun hHeld=>?_)
    clear hK K
    replace HS:=HS2
    replace HM:=HM2
    clear HS2 HM2
    clear hb7 ho7
    refine pure_ (i:=27) (N:=some 88) (v:=?_) (a':=?_) #[τ,τ,τ,τ,τ,τ,τ,τ,τ,τ,τ,τ,τ,τ,τ,τ,τ,τ,τ,τ,τ,τ,τ,τ,τ,τ,τ,τ,φ,φ] rfl rfl (any_of HT_.out (by kernel_rfl)) (fun _ _ _ h=>h) (Or.inl ⟨by rfl,?_⟩) ?_ ?_
    rotate_left
    ·intro w'
     go_simp
     with_reducible rfl
    rotate_left
    ·simp only [Act.put,sT,sZ,sS,i64_w,i32_w]
     rfl
    refine one_ (i:=28) (N:=none) #[τ,τ,τ,τ,τ,τ,τ,τ,τ,τ,τ,τ,τ,τ,τ,τ,τ,τ,τ,τ,τ,τ,τ,τ,τ,τ,τ,τ,τ,φ] rfl rfl (one_of HT_.out (by kernel_rfl)) (by decide) (fun K hK=>?_)
    have hz0_ : V4.cell? ⟨g2,0,none⟩ = some (.int .i64 0):=(blk_cell HS.out.h2 0).trans rfl
    have hf0_:=blk_frozen HS.out.h2 0
    have hz1_ : V4.cell? ⟨g2,1,none⟩ = some (.int .u32 0):=(blk_cell HS.out.h2 1).trans rfl
    have hf1_:=blk_frozen HS.out.h2 1
    have hz2_ : V4.cell? ⟨g2,2,none⟩ = some (.int .u32 0):=(blk_cell HS.out.h2 2).trans rfl
    have hf2_:=blk_frozen HS.out.h2 2
    have hz3_ : V4.cell? ⟨g2,3,none⟩ = some (.int .u32 0):=(blk_cell HS.out.h2 3).trans rfl
    have hf3_:=blk_frozen HS.out.h2 3
    have hz4_ : V4.cell? ⟨g2,4,none⟩ = some (.slice none 0 0):=(blk_cell HS.out.h2 4).trans rfl
    have hf4_:=blk_frozen HS.out.h2 4
    have hz5_ : V4.cell? ⟨g2,5,none⟩ = some (.int .i64 0):=(blk_cell HS.out.h2 5).trans rfl
    have hf5_:=blk_frozen HS.out.h2 5
    have hz6_ : V4.cell? ⟨g2,6,none⟩ = some (.int .u32 0):=(blk_cell HS.out.h2 6).trans rfl
    have hf6_:=blk_frozen HS.out.h2 6
    have hz7_ : V4.cell? ⟨g2,7,none⟩ = some (.int .u32 0):=(blk_cell HS.out.h2 7).trans rfl
    have hf7_:=blk_frozen HS.out.h2 7
    have hz8_ : V4.cell? ⟨g2,8,none⟩ = some (.int .u32 0):=(blk_cell HS.out.h2 8).trans rfl
    have hf8_:=blk_frozen HS.out.h2 8
    have hz9_ : V4.cell? ⟨g2,9,none⟩ = some (.int .u32 0):=(blk_cell HS.out.h2 9).trans rfl
    have hf9_:=blk_frozen HS.out.h2 9
    have hz10_ : V4.cell? ⟨g2,10,none⟩ = some (.int .u32 0):=(blk_cell HS.out.h2 10).trans rfl
    have hf10_:=blk_frozen HS.out.h2 10
    have hz11_ : V4.cell? ⟨g2,11,none⟩ = some (.int .u32 0):=(blk_cell HS.out.h2 11).trans rfl
    have hf11_:=blk_frozen HS.out.h2 11
    have hgb2 : gb ≠ g2:= by
     intro e_
     have a_:=HS.out.hb
     rw [e_,HS.out.h2] at a_
     exact absurd a_ (by simp)
    have had2 : ad0.block ≠ g2:= by have:=hadlt.out;have:=HS.out.ge;omega
    have hbm2 : bm ≠ g2:= by
     rintro rfl
     obtain ⟨_,_,a_,_⟩:=HM.out
     rw [HS.out.h2] at a_
     cases a_
    replace hgb2:=mK hgb2
    replace had2:=mK had2
    replace hbm2:=mK hbm2
    refine skip_ (w1:=?_) (by rfl) rfl ?_ ?_
    rotate_left
    ·go_simp
     rfl
    refine hK.out _ _ ⟨?_,?_,?_⟩ (fun hHeld=>?_)
    ·(with_reducible repeat (refine (cell_far (p:=⟨g2,_,none⟩) hgb2.out _).trans ?_))
     exact hHeld.1
    ·(with_reducible repeat (refine (cell_far (p:=⟨g2,_,none⟩) had2.out _).trans ?_))
     exact hHeld.2.1
    ·(with_reducible repeat (refine World.ownsMap.setCell (a:=⟨g2,_,none⟩) ?_ hbm2.out _))
     exact hHeld.2.2
    clear hK K
    refine pure_ (i:=29) (N:=some 3) (v:=?_) (a':=?_) #[τ,τ,τ,τ,τ,τ,τ,τ,τ,τ,τ,τ,τ,τ,τ,τ,τ,τ,τ,τ,τ,τ,τ,τ,τ,τ,τ,τ,τ,τ] rfl rfl (any_of HT_.out (by kernel_rfl)) (fun _ _ _ h=>h) (Or.inl ⟨by rfl,?_⟩) ?_ ?_
    rotate_left
    ·intro w'
     go_simp
     with_reducible rfl
    rotate_left
    ·simp only [Act.put,sT,sZ,sS,i64_w,i32_w]
     rfl
    refine done_ (done_of HT_.out (by kernel_rfl)) ?_
    go_wp2
    refine bodyPost_ret (results_ct rfl _ _ g2 26 #[.int .i64 (wrap64 (rd l0 0)),.int .u32 x4,.int .u32 x12,.int .u32 x16,.slice Ao m.length co,.int .i64 (wrap64 (dhcp_Get.look mp 53)),.int .u32 (dhcp_Get.look mp 50),.int .u32 (dhcp_Get.look mp 54),.int .u32 (dhcp_Get.look mp 51),.int .u32 (dhcp_Get.look mp 1),.int .u32 (dhcp_Get.look mp 3),.int .u32 (dhcp_Get.look mp 6)] (0,0) _ rfl (by refine blk_put (cs:=#[.int .i64 (wrap64 (rd l0 0)),.int .u32 x4,.int .u32 x12,.int .u32 x16,.slice Ao m.length co,.int .i64 (wrap64 (dhcp_Get.look mp 53)),.int .u32 (dhcp_Get.look mp 50),.int .u32 (dhcp_Get.look mp 54),.int .u32 (dhcp_Get.look mp 51),.int .u32 (dhcp_Get.look mp 1),.int .u32 (dhcp_Get.look mp 3),.int .u32 0]) ?_ 11 _ rfl;refine blk_put (cs:=#[.int .i64 (wrap64 (rd l0 0)),.int .u32 x4,.int .u32 x12,.int .u32 x16,.slice Ao m.length co,.int .i64 (wrap64 (dhcp_Get.look mp 53)),.int .u32 (dhcp_Get.look mp 50),.int .u32 (dhcp_Get.look mp 54),.int .u32 (dhcp_Get.look mp 51),.int .u32 (dhcp_Get.look mp 1),.int .u32 0,.int .u32 0]) ?_ 10 _ rfl;refine blk_put (cs:=#[.int .i64 (wrap64 (rd l0 0)),.int .u32 x4,.int .u32 x12,.int .u32 x16,.slice Ao m.length co,.int .i64 (wrap64 (dhcp_Get.look mp 53)),.int .u32 (dhcp_Get.look mp 50),.int .u32 (dhcp_Get.look mp 54),.int .u32 (dhcp_Get.look mp 51),.int .u32 0,.int .u32 0,.int .u32 0]) ?_ 9 _ rfl;refine blk_put (cs:=#[.int .i64 (wrap64 (rd l0 0)),.int .u32 x4,.int .u32 x12,.int .u32 x16,.slice Ao m.length co,.int .i64 (wrap64 (dhcp_Get.look mp 53)),.int .u32 (dhcp_Get.look mp 50),.int .u32 (dhcp_Get.look mp 54),.int .u32 0,.int .u32 0,.int .u32 0,.int .u32 0]) ?_ 8 _ rfl;refine blk_put (cs:=#[.int .i64 (wrap64 (rd l0 0)),.int .u32 x4,.int .u32 x12,.int .u32 x16,.slice Ao m.length co,.int .i64 (wrap64 (dhcp_Get.look mp 53)),.int .u32 (dhcp_Get.look mp 50),.int .u32 0,.int .u32 0,.int .u32 0,.int .u32 0,.int .u32 0]) ?_ 7 _ rfl;refine blk_put (cs:=#[.int .i64 (wrap64 (rd l0 0)),.int .u32 x4,.int .u32 x12,.int .u32 x16,.slice Ao m.length co,.int .i64 (wrap64 (dhcp_Get.look mp 53)),.int .u32 0,.int .u32 0,.int .u32 0,.int .u32 0,.int .u32 0,.int .u32 0]) ?_ 6 _ rfl;refine blk_put (cs:=#[.int .i64 (wrap64 (rd l0 0)),.int .u32 x4,.int .u32 x12,.int .u32 x16,.slice Ao m.length co,.int .i64 0,.int .u32 0,.int .u32 0,.int .u32 0,.int .u32 0,.int .u32 0,.int .u32 0]) ?_ 5 _ rfl;refine blk_put (cs:=#[.int .i64 (wrap64 (rd l0 0)),.int .u32 x4,.int .u32 x12,.int .u32 x16,.slice none 0 0,.int .i64 0,.int .u32 0,.int .u32 0,.int .u32 0,.int .u32 0,.int .u32 0,.int .u32 0]) ?_ 4 _ rfl;refine blk_put (cs:=#[.int .i64 (wrap64 (rd l0 0)),.int .u32 x4,.int .u32 x12,.int .u32 0,.slice none 0 0,.int .i64 0,.int .u32 0,.int .u32 0,.int .u32 0,.int .u32 0,.int .u32 0,.int .u32 0]) ?_ 3 _ rfl;refine blk_put (cs:=#[.int .i64 (wrap64 (rd l0 0)),.int .u32 x4,.int .u32 0,.int .u32 0,.slice none 0 0,.int .i64 0,.int .u32 0,.int .u32 0,.int .u32 0,.int .u32 0,.int .u32 0,.int .u32 0]) ?_ 2 _ rfl;refine blk_put (cs:=#[.int .i64 (wrap64 (rd l0 0)),.int .u32 0,.int .u32 0,.int .u32 0,.slice none 0 0,.int .i64 0,.int .u32 0,.int .u32 0,.int .u32 0,.int .u32 0,.int .u32 0,.int .u32 0]) ?_ 1 _ rfl;refine blk_put (cs:=#[.int .i64 0,.int .u32 0,.int .u32 0,.int .u32 0,.slice none 0 0,.int .i64 0,.int .u32 0,.int .u32 0,.int .u32 0,.int .u32 0,.int .u32 0,.int .u32 0]) ?_ 0 _ rfl;exact HS.out.h2) Try.underlying26 rfl (by kernel_rfl)) rfl ?_
    refine ⟨_,rfl,Kd.R_mono (ok:= fun k_=>True∧k_ ≠ g2) ?_ (fun _ _=>trivial),by (with_reducible repeat (first|exact HS.out.hw|refine lS ?_ HS.out.ge))⟩
    have HO2:=Kd.R_types HO.out HS.out.h2 (by decide)
    (with_reducible repeat (first|exact HO2|refine Kd.R_far (p:=⟨g2,_,none⟩) ?_ (fun _ hk=>hk.2) _))


/-! ### drawbridgeref20_Same: function 9 -/
def drawbridgeref20_Same.f (a0_0 : Int) (a0_1 : Int) (a0_2 : Int) (a0_3 : Int) (l0_4 : List Int) (a0_5 : Int) (a0_6 : Int) (a0_7 : Int) (a0_8 : Int) (a0_9 : Int) (a0_10 : Int) (a0_11 : Int) (a1_0 : Int) (a1_1 : Int) (a1_2 : Int) (a1_3 : Int) (l1_4 : List Int) (a1_5 : Int) (a1_6 : Int) (a1_7 : Int) (a1_8 : Int) (a1_9 : Int) (a1_10 : Int) (a1_11 : Int) : Option (Bool) := if a0_0 = a1_0 then (if a0_1 = a1_1 then (if a0_2 = a1_2 then (if a0_3 = a1_3 then (if (strOfNums l0_4).toList = (strOfNums l1_4).toList then (if a0_5 = a1_5 then (if a0_6 = a1_6 then (if a0_7 = a1_7 then (if a0_8 = a1_8 then (if a0_9 = a1_9 then (if a0_10 = a1_10 then (some (a0_11 == a1_11)) else (some false)) else (some false)) else (some false)) else (some false)) else (some false)) else (some false)) else (some false)) else (some false)) else (some false)) else (some false)) else (some false)

set_option maxHeartbeats 8000000 in
set_option maxRecDepth 100000 in
theorem drawbridgeref20_Same.calls (a0_0 : Int) (a0_1 : Int) (a0_2 : Int) (a0_3 : Int) (A0_4 : Option Addr) (c0_4 : Nat) (l0_4 : List Int) (a0_5 : Int) (a0_6 : Int) (a0_7 : Int) (a0_8 : Int) (a0_9 : Int) (a0_10 : Int) (a0_11 : Int) (a1_0 : Int) (a1_1 : Int) (a1_2 : Int) (a1_3 : Int) (A1_4 : Option Addr) (c1_4 : Nat) (l1_4 : List Int) (a1_5 : Int) (a1_6 : Int) (a1_7 : Int) (a1_8 : Int) (a1_9 : Int) (a1_10 : Int) (a1_11 : Int) (r : Bool) (w : World) (hr0_4 : Kd.C (Kd.int .u8) w A0_4 l0_4.length l0_4) (hc0_4 : l0_4.length ≤ c0_4) (hr1_4 : Kd.C (Kd.int .u8) w A1_4 l1_4.length l1_4) (hc1_4 : l1_4.length ≤ c1_4) (h : drawbridgeref20_Same.f a0_0 a0_1 a0_2 a0_3 l0_4 a0_5 a0_6 a0_7 a0_8 a0_9 a0_10 a0_11 a1_0 a1_1 a1_2 a1_3 l1_4 a1_5 a1_6 a1_7 a1_8 a1_9 a1_10 a1_11 = some r) :
  Calls Try.prog 9 #[.agg #[.int .i64 a0_0, .int .u32 a0_1, .int .u32 a0_2, .int .u32 a0_3, .slice A0_4 l0_4.length c0_4, .int .i64 a0_5, .int .u32 a0_6, .int .u32 a0_7, .int .u32 a0_8, .int .u32 a0_9, .int .u32 a0_10, .int .u32 a0_11], .agg #[.int .i64 a1_0, .int .u32 a1_1, .int .u32 a1_2, .int .u32 a1_3, .slice A1_4 l1_4.length c1_4, .int .i64 a1_5, .int .u32 a1_6, .int .u32 a1_7, .int .u32 a1_8, .int .u32 a1_9, .int .u32 a1_10, .int .u32 a1_11]] w fun e w' => e = .returned (.bool r) ∧ Below w.heap.size w w' := by
 have hu26:=Try.underlying26
 have HR0_4:=mK hr0_4
 have HC0_4:=mK hc0_4
 clear hr0_4 hc0_4
 have HR1_4:=mK hr1_4
 have HC1_4:=mK hc1_4
 clear hr1_4 hc1_4
 have HB:=mK (Below.refl w.heap.size w)
 have H : (if a0_0 = a1_0 then (if a0_1 = a1_1 then (if a0_2 = a1_2 then (if a0_3 = a1_3 then (if (strOfNums l0_4).toList = (strOfNums l1_4).toList then (if a0_5 = a1_5 then (if a0_6 = a1_6 then (if a0_7 = a1_7 then (if a0_8 = a1_8 then (if a0_9 = a1_9 then (if a0_10 = a1_10 then (some (a0_11 == a1_11)) else (some false)) else (some false)) else (some false)) else (some false)) else (some false)) else (some false)) else (some false)) else (some false)) else (some false)) else (some false)) else (some false)) = some r:=h
 clear h
 have HH_:=mK H
 clear H
 go_enter Try.func9,Try.ntmps9
 go_upto_region 1 with (first|((with_reducible refine gate_dst (N:=2) rfl ?_);refine box_event ?hg (N:=2) ?hd (cs:=#[.int .i64 a0_0,.int .u32 a0_1,.int .u32 a0_2,.int .u32 a0_3,.slice A0_4 l0_4.length c0_4,.int .i64 a0_5,.int .u32 a0_6,.int .u32 a0_7,.int .u32 a0_8,.int .u32 a0_9,.int .u32 a0_10,.int .u32 a0_11]) (t:=26) ?hr ?_;(case hd=>rfl);(case hg=>rfl);(case hr=>first|(go_simp;done)|(go_simp;rfl));intro gb103 hg w14 hbox hb;have n0_:=mK (below_step (by repeat (first|(with_reducible first|exact HB.out|apply lA|apply lN|apply lD)|exact HB.out)) hb);have n1_:=mK (hbox);have n3_:=mK ((by rw [hg];exact (below_size (by repeat (first|(with_reducible first|exact HB.out|apply lA|apply lN|apply lD)|exact HB.out))) : w.heap.size ≤ gb103));clear HB;have HB:=n0_;have BK103:=n1_;have GE103:=n3_;clear n0_ n1_ n3_;clear hb hbox hg)|((with_reducible refine gate_dst (N:=3) rfl ?_);refine box_event ?hg (N:=3) ?hd (cs:=#[.int .i64 a1_0,.int .u32 a1_1,.int .u32 a1_2,.int .u32 a1_3,.slice A1_4 l1_4.length c1_4,.int .i64 a1_5,.int .u32 a1_6,.int .u32 a1_7,.int .u32 a1_8,.int .u32 a1_9,.int .u32 a1_10,.int .u32 a1_11]) (t:=26) ?hr ?_;(case hd=>rfl);(case hg=>rfl);(case hr=>first|(go_simp;done)|(go_simp;rfl));intro gb104 hg w15 hbox hb;have n0_:=mK (blk_below (g:=gb103) (o:=.cells #[.int .i64 a0_0,.int .u32 a0_1,.int .u32 a0_2,.int .u32 a0_3,.slice A0_4 l0_4.length c0_4,.int .i64 a0_5,.int .u32 a0_6,.int .u32 a0_7,.int .u32 a0_8,.int .u32 a0_9,.int .u32 a0_10,.int .u32 a0_11] 26 (0,0)) (by (with_reducible repeat (first|apply bN|apply bD|apply bA));exact BK103.out) hb);have n1_:=mK (below_step (by repeat (first|(with_reducible first|exact HB.out|apply lA|apply lN|apply lD|refine lS ?_ GE103.out)|exact HB.out)) hb);have n2_:=mK (hbox);have n4_:=mK ((by rw [hg];exact (below_size (by repeat (first|(with_reducible first|exact HB.out|apply lA|apply lN|apply lD|refine lS ?_ GE103.out)|exact HB.out))) : w.heap.size ≤ gb104));have n5_:=mK ((by rw [hg];exact Nat.ne_of_lt (blk_lt (g:=gb103) (o:=.cells #[.int .i64 a0_0,.int .u32 a0_1,.int .u32 a0_2,.int .u32 a0_3,.slice A0_4 l0_4.length c0_4,.int .i64 a0_5,.int .u32 a0_6,.int .u32 a0_7,.int .u32 a0_8,.int .u32 a0_9,.int .u32 a0_10,.int .u32 a0_11] 26 (0,0)) (by (with_reducible repeat (first|apply bN|apply bD|apply bA));exact BK103.out)) : gb103 ≠ gb104));have n6_:=mK ((by rw [hg];exact Nat.ne_of_gt (blk_lt (g:=gb103) (o:=.cells #[.int .i64 a0_0,.int .u32 a0_1,.int .u32 a0_2,.int .u32 a0_3,.slice A0_4 l0_4.length c0_4,.int .i64 a0_5,.int .u32 a0_6,.int .u32 a0_7,.int .u32 a0_8,.int .u32 a0_9,.int .u32 a0_10,.int .u32 a0_11] 26 (0,0)) (by (with_reducible repeat (first|apply bN|apply bD|apply bA));exact BK103.out)) : gb104 ≠ gb103));clear BK103;clear HB;have BK103:=n0_;have HB:=n1_;have BK104:=n2_;have GE104:=n4_;have NB103_104:=n5_;have NB104_103:=n6_;clear n0_ n1_ n2_ n4_ n5_ n6_;clear hb hbox hg;have hnb16:=NB103_104.out;have hnc16:=NB104_103.out;have hcz17_0 : w15.cell? ⟨gb103,0,none⟩ = some (.int .i64 a0_0):=(blk_cell BK103.out 0).trans rfl;have hcz17_1 : w15.cell? ⟨gb103,1,none⟩ = some (.int .u32 a0_1):=(blk_cell BK103.out 1).trans rfl;have hcz17_2 : w15.cell? ⟨gb103,2,none⟩ = some (.int .u32 a0_2):=(blk_cell BK103.out 2).trans rfl;have hcz17_3 : w15.cell? ⟨gb103,3,none⟩ = some (.int .u32 a0_3):=(blk_cell BK103.out 3).trans rfl;have hcz17_4 : w15.cell? ⟨gb103,4,none⟩ = some (.slice A0_4 l0_4.length c0_4):=(blk_cell BK103.out 4).trans rfl;have hcz17_5 : w15.cell? ⟨gb103,5,none⟩ = some (.int .i64 a0_5):=(blk_cell BK103.out 5).trans rfl;have hcz17_6 : w15.cell? ⟨gb103,6,none⟩ = some (.int .u32 a0_6):=(blk_cell BK103.out 6).trans rfl;have hcz17_7 : w15.cell? ⟨gb103,7,none⟩ = some (.int .u32 a0_7):=(blk_cell BK103.out 7).trans rfl;have hcz17_8 : w15.cell? ⟨gb103,8,none⟩ = some (.int .u32 a0_8):=(blk_cell BK103.out 8).trans rfl;have hcz17_9 : w15.cell? ⟨gb103,9,none⟩ = some (.int .u32 a0_9):=(blk_cell BK103.out 9).trans rfl;have hcz17_10 : w15.cell? ⟨gb103,10,none⟩ = some (.int .u32 a0_10):=(blk_cell BK103.out 10).trans rfl;have hcz17_11 : w15.cell? ⟨gb103,11,none⟩ = some (.int .u32 a0_11):=(blk_cell BK103.out 11).trans rfl;have hfz17_0:=blk_frozen BK103.out 0;have hfz17_1:=blk_frozen BK103.out 1;have hfz17_2:=blk_frozen BK103.out 2;have hfz17_3:=blk_frozen BK103.out 3;have hfz17_4:=blk_frozen BK103.out 4;have hfz17_5:=blk_frozen BK103.out 5;have hfz17_6:=blk_frozen BK103.out 6;have hfz17_7:=blk_frozen BK103.out 7;have hfz17_8:=blk_frozen BK103.out 8;have hfz17_9:=blk_frozen BK103.out 9;have hfz17_10:=blk_frozen BK103.out 10;have hfz17_11:=blk_frozen BK103.out 11;have hcz18_0 : w15.cell? ⟨gb104,0,none⟩ = some (.int .i64 a1_0):=(blk_cell BK104.out 0).trans rfl;have hcz18_1 : w15.cell? ⟨gb104,1,none⟩ = some (.int .u32 a1_1):=(blk_cell BK104.out 1).trans rfl;have hcz18_2 : w15.cell? ⟨gb104,2,none⟩ = some (.int .u32 a1_2):=(blk_cell BK104.out 2).trans rfl;have hcz18_3 : w15.cell? ⟨gb104,3,none⟩ = some (.int .u32 a1_3):=(blk_cell BK104.out 3).trans rfl;have hcz18_4 : w15.cell? ⟨gb104,4,none⟩ = some (.slice A1_4 l1_4.length c1_4):=(blk_cell BK104.out 4).trans rfl;have hcz18_5 : w15.cell? ⟨gb104,5,none⟩ = some (.int .i64 a1_5):=(blk_cell BK104.out 5).trans rfl;have hcz18_6 : w15.cell? ⟨gb104,6,none⟩ = some (.int .u32 a1_6):=(blk_cell BK104.out 6).trans rfl;have hcz18_7 : w15.cell? ⟨gb104,7,none⟩ = some (.int .u32 a1_7):=(blk_cell BK104.out 7).trans rfl;have hcz18_8 : w15.cell? ⟨gb104,8,none⟩ = some (.int .u32 a1_8):=(blk_cell BK104.out 8).trans rfl;have hcz18_9 : w15.cell? ⟨gb104,9,none⟩ = some (.int .u32 a1_9):=(blk_cell BK104.out 9).trans rfl;have hcz18_10 : w15.cell? ⟨gb104,10,none⟩ = some (.int .u32 a1_10):=(blk_cell BK104.out 10).trans rfl;have hcz18_11 : w15.cell? ⟨gb104,11,none⟩ = some (.int .u32 a1_11):=(blk_cell BK104.out 11).trans rfl;have hfz18_0:=blk_frozen BK104.out 0;have hfz18_1:=blk_frozen BK104.out 1;have hfz18_2:=blk_frozen BK104.out 2;have hfz18_3:=blk_frozen BK104.out 3;have hfz18_4:=blk_frozen BK104.out 4;have hfz18_5:=blk_frozen BK104.out 5;have hfz18_6:=blk_frozen BK104.out 6;have hfz18_7:=blk_frozen BK104.out 7;have hfz18_8:=blk_frozen BK104.out 8;have hfz18_9:=blk_frozen BK104.out 9;have hfz18_10:=blk_frozen BK104.out 10;have hfz18_11:=blk_frozen BK104.out 11;have hcv19:=Kd.C_string (P:=Try.prog) (A:=A0_4) (c:=c0_4) Try.underlying22 Try.underlying5 Try.underlying9 (Kd.C_below HR0_4.out HB.out);have hcv20:=Kd.C_string (P:=Try.prog) (A:=A1_4) (c:=c1_4) Try.underlying22 Try.underlying5 Try.underlying9 (Kd.C_below HR1_4.out HB.out)))
 have H:=HH_.out
 clear HH_
 by_cases c3 : a0_0 = a1_0
 ·rw [if_pos c3] at H
  have c3b0 : (a0_0 == a1_0) = true:=beq_iff_eq.mpr c3
  have c3b1 : (a0_0 != a1_0) = false:=bne_eq_false_iff_eq.mpr c3
  clear c3
  by_cases c4 : a0_1 = a1_1
  ·rw [if_pos c4] at H
   have c4b0 : (a0_1 == a1_1) = true:=beq_iff_eq.mpr c4
   have c4b1 : (a0_1 != a1_1) = false:=bne_eq_false_iff_eq.mpr c4
   clear c4
   by_cases c5 : a0_2 = a1_2
   ·rw [if_pos c5] at H
    have c5b0 : (a0_2 == a1_2) = true:=beq_iff_eq.mpr c5
    have c5b1 : (a0_2 != a1_2) = false:=bne_eq_false_iff_eq.mpr c5
    clear c5
    by_cases c6 : a0_3 = a1_3
    ·rw [if_pos c6] at H
     have c6b0 : (a0_3 == a1_3) = true:=beq_iff_eq.mpr c6
     have c6b1 : (a0_3 != a1_3) = false:=bne_eq_false_iff_eq.mpr c6
     clear c6
     by_cases c7 : (strOfNums l0_4).toList = (strOfNums l1_4).toList
     ·rw [if_pos c7] at H
      have c7b0 : ((strOfNums l0_4).toList == (strOfNums l1_4).toList) = true:=beq_iff_eq.mpr c7
      have c7b1 : ((strOfNums l0_4).toList != (strOfNums l1_4).toList) = false:=bne_eq_false_iff_eq.mpr c7
      clear c7
      by_cases c8 : a0_5 = a1_5
      ·rw [if_pos c8] at H
       have c8b0 : (a0_5 == a1_5) = true:=beq_iff_eq.mpr c8
       have c8b1 : (a0_5 != a1_5) = false:=bne_eq_false_iff_eq.mpr c8
       clear c8
       by_cases c9 : a0_6 = a1_6
       ·rw [if_pos c9] at H
        have c9b0 : (a0_6 == a1_6) = true:=beq_iff_eq.mpr c9
        have c9b1 : (a0_6 != a1_6) = false:=bne_eq_false_iff_eq.mpr c9
        clear c9
        by_cases c10 : a0_7 = a1_7
        ·rw [if_pos c10] at H
         have c10b0 : (a0_7 == a1_7) = true:=beq_iff_eq.mpr c10
         have c10b1 : (a0_7 != a1_7) = false:=bne_eq_false_iff_eq.mpr c10
         clear c10
         by_cases c11 : a0_8 = a1_8
         ·rw [if_pos c11] at H
          have c11b0 : (a0_8 == a1_8) = true:=beq_iff_eq.mpr c11
          have c11b1 : (a0_8 != a1_8) = false:=bne_eq_false_iff_eq.mpr c11
          clear c11
          by_cases c12 : a0_9 = a1_9
          ·rw [if_pos c12] at H
           have c12b0 : (a0_9 == a1_9) = true:=beq_iff_eq.mpr c12
           have c12b1 : (a0_9 != a1_9) = false:=bne_eq_false_iff_eq.mpr c12
           clear c12
           by_cases c13 : a0_10 = a1_10
           ·rw [if_pos c13] at H
            have c13b0 : (a0_10 == a1_10) = true:=beq_iff_eq.mpr c13
            have c13b1 : (a0_10 != a1_10) = false:=bne_eq_false_iff_eq.mpr c13
            clear c13
            obtain rfl:=Option.some.inj H
            go_wp2
            go_ret
            exact ⟨by first|rfl|(simp [errW_none,errW_some] <;> rfl)|(simp [*,errW_none,errW_some] <;> rfl),by repeat (first|(with_reducible first|exact HB.out|apply lA|apply lN|apply lD|refine lS ?_ GE103.out|refine lS ?_ GE104.out)|exact HB.out)⟩
           ·rw [if_neg c13] at H
            have c13b0 : (a0_10 == a1_10) = false:=beq_eq_false_iff_ne.mpr c13
            have c13b1 : (a0_10 != a1_10) = true:=bne_iff_ne.mpr c13
            obtain rfl:=Option.some.inj H
            go_wp2
            go_ret
            exact ⟨by first|rfl|(simp [errW_none,errW_some] <;> rfl)|(simp [*,errW_none,errW_some] <;> rfl),by repeat (first|(with_reducible first|exact HB.out|apply lA|apply lN|apply lD|refine lS ?_ GE103.out|refine lS ?_ GE104.out)|exact HB.out)⟩
          ·rw [if_neg c12] at H
           have c12b0 : (a0_9 == a1_9) = false:=beq_eq_false_iff_ne.mpr c12
           have c12b1 : (a0_9 != a1_9) = true:=bne_iff_ne.mpr c12
           obtain rfl:=Option.some.inj H
           go_wp2
           go_ret
           exact ⟨by first|rfl|(simp [errW_none,errW_some] <;> rfl)|(simp [*,errW_none,errW_some] <;> rfl),by repeat (first|(with_reducible first|exact HB.out|apply lA|apply lN|apply lD|refine lS ?_ GE103.out|refine lS ?_ GE104.out)|exact HB.out)⟩
         ·rw [if_neg c11] at H
          have c11b0 : (a0_8 == a1_8) = false:=beq_eq_false_iff_ne.mpr c11
          have c11b1 : (a0_8 != a1_8) = true:=bne_iff_ne.mpr c11
          obtain rfl:=Option.some.inj H
          go_wp2
          go_ret
          exact ⟨by first|rfl|(simp [errW_none,errW_some] <;> rfl)|(simp [*,errW_none,errW_some] <;> rfl),by repeat (first|(with_reducible first|exact HB.out|apply lA|apply lN|apply lD|refine lS ?_ GE103.out|refine lS ?_ GE104.out)|exact HB.out)⟩
        ·rw [if_neg c10] at H
         have c10b0 : (a0_7 == a1_7) = false:=beq_eq_false_iff_ne.mpr c10
         have c10b1 : (a0_7 != a1_7) = true:=bne_iff_ne.mpr c10
         obtain rfl:=Option.some.inj H
         go_wp2
         go_ret
         exact ⟨by first|rfl|(simp [errW_none,errW_some] <;> rfl)|(simp [*,errW_none,errW_some] <;> rfl),by repeat (first|(with_reducible first|exact HB.out|apply lA|apply lN|apply lD|refine lS ?_ GE103.out|refine lS ?_ GE104.out)|exact HB.out)⟩
       ·rw [if_neg c9] at H
        have c9b0 : (a0_6 == a1_6) = false:=beq_eq_false_iff_ne.mpr c9
        have c9b1 : (a0_6 != a1_6) = true:=bne_iff_ne.mpr c9
        obtain rfl:=Option.some.inj H
        go_wp2
        go_ret
        exact ⟨by first|rfl|(simp [errW_none,errW_some] <;> rfl)|(simp [*,errW_none,errW_some] <;> rfl),by repeat (first|(with_reducible first|exact HB.out|apply lA|apply lN|apply lD|refine lS ?_ GE103.out|refine lS ?_ GE104.out)|exact HB.out)⟩
      ·rw [if_neg c8] at H
       have c8b0 : (a0_5 == a1_5) = false:=beq_eq_false_iff_ne.mpr c8
       have c8b1 : (a0_5 != a1_5) = true:=bne_iff_ne.mpr c8
       obtain rfl:=Option.some.inj H
       go_wp2
       go_ret
       exact ⟨by first|rfl|(simp [errW_none,errW_some] <;> rfl)|(simp [*,errW_none,errW_some] <;> rfl),by repeat (first|(with_reducible first|exact HB.out|apply lA|apply lN|apply lD|refine lS ?_ GE103.out|refine lS ?_ GE104.out)|exact HB.out)⟩
     ·rw [if_neg c7] at H
      have c7b0 : ((strOfNums l0_4).toList == (strOfNums l1_4).toList) = false:=beq_eq_false_iff_ne.mpr c7
      have c7b1 : ((strOfNums l0_4).toList != (strOfNums l1_4).toList) = true:=bne_iff_ne.mpr c7
      obtain rfl:=Option.some.inj H
      go_wp2
      go_ret
      exact ⟨by first|rfl|(simp [errW_none,errW_some] <;> rfl)|(simp [*,errW_none,errW_some] <;> rfl),by repeat (first|(with_reducible first|exact HB.out|apply lA|apply lN|apply lD|refine lS ?_ GE103.out|refine lS ?_ GE104.out)|exact HB.out)⟩
    ·rw [if_neg c6] at H
     have c6b0 : (a0_3 == a1_3) = false:=beq_eq_false_iff_ne.mpr c6
     have c6b1 : (a0_3 != a1_3) = true:=bne_iff_ne.mpr c6
     obtain rfl:=Option.some.inj H
     go_wp2
     go_ret
     exact ⟨by first|rfl|(simp [errW_none,errW_some] <;> rfl)|(simp [*,errW_none,errW_some] <;> rfl),by repeat (first|(with_reducible first|exact HB.out|apply lA|apply lN|apply lD|refine lS ?_ GE103.out|refine lS ?_ GE104.out)|exact HB.out)⟩
   ·rw [if_neg c5] at H
    have c5b0 : (a0_2 == a1_2) = false:=beq_eq_false_iff_ne.mpr c5
    have c5b1 : (a0_2 != a1_2) = true:=bne_iff_ne.mpr c5
    obtain rfl:=Option.some.inj H
    go_wp2
    go_ret
    exact ⟨by first|rfl|(simp [errW_none,errW_some] <;> rfl)|(simp [*,errW_none,errW_some] <;> rfl),by repeat (first|(with_reducible first|exact HB.out|apply lA|apply lN|apply lD|refine lS ?_ GE103.out|refine lS ?_ GE104.out)|exact HB.out)⟩
  ·rw [if_neg c4] at H
   have c4b0 : (a0_1 == a1_1) = false:=beq_eq_false_iff_ne.mpr c4
   have c4b1 : (a0_1 != a1_1) = true:=bne_iff_ne.mpr c4
   obtain rfl:=Option.some.inj H
   go_wp2
   go_ret
   exact ⟨by first|rfl|(simp [errW_none,errW_some] <;> rfl)|(simp [*,errW_none,errW_some] <;> rfl),by repeat (first|(with_reducible first|exact HB.out|apply lA|apply lN|apply lD|refine lS ?_ GE103.out|refine lS ?_ GE104.out)|exact HB.out)⟩
 ·rw [if_neg c3] at H
  have c3b0 : (a0_0 == a1_0) = false:=beq_eq_false_iff_ne.mpr c3
  have c3b1 : (a0_0 != a1_0) = true:=bne_iff_ne.mpr c3
  obtain rfl:=Option.some.inj H
  go_wp2
  go_ret
  exact ⟨by first|rfl|(simp [errW_none,errW_some] <;> rfl)|(simp [*,errW_none,errW_some] <;> rfl),by repeat (first|(with_reducible first|exact HB.out|apply lA|apply lN|apply lD|refine lS ?_ GE103.out|refine lS ?_ GE104.out)|exact HB.out)⟩

end Go.Proofs.Ytpbofaghnfheiaa.P
