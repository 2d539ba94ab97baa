/- Contracts of functions of the seat, written by a program of this session (with the kit's print) for the laws of this claim; no condition beside what each states. -/
import Derived.Test.YtpbofaghnfheiaaPx0
namespace Go.Proofs.Ytpbofaghnfheiaa.P
open Go.Proofs.Ytpbofaghnfheiaa.Aux Go.RowKit Go.Proofs.YtpbofaghnfheiaaW.PrintWords Go.Proofs.YtpbofaghnfheiaaW.PrintLast Go.Proofs.YtpbofaghnfheiaaW.PrintMore
attribute [local go_sem] max2_int min2_int max_two min_two max_three min_three max_four min_four   -- for this text's walks alone
set_option linter.unusedVariables false
set_option linter.unusedSimpArgs false

/-! ### bits_Get: function 15 -/
def bits_Get.l0 : Nat → List Int → Bool → Int → Int → Int → Int → Option (Int)
 | 0, _, _, _, _, _, _ => none
 | k + 1, x0, x1, x5, x6, x12, x13 => if x13 < x12 then (if x1 = true then (if 0 ≤ (wrap64 ((wrap64 (x6 - 1)) - x13)) then (if (wrap64 ((wrap64 (x6 - 1)) - x13)) < (x0.length : Int) then (if 0 ≤ (wrap64 (8 * x13)) then (bits_Get.l0 k x0 x1 (Go.bits .or .u64 x5 (shl .u64 (IntKind.u64.wrap (rd x0 (wrap64 ((wrap64 (x6 - 1)) - x13)))) (wrap64 (8 * x13)))) x6 x12 (wrap64 (x13 + 1))) else (none)) else (none)) else (none)) else (if 0 ≤ x13 then (if x13 < (x0.length : Int) then (if 0 ≤ (wrap64 (8 * x13)) then (bits_Get.l0 k x0 x1 (Go.bits .or .u64 x5 (shl .u64 (IntKind.u64.wrap (rd x0 x13)) (wrap64 (8 * x13)))) x6 x12 (wrap64 (x13 + 1))) else (none)) else (none)) else (none))) else (some x5)
def bits_Get.f (k : Nat) (l0 : List Int) (a1 : Bool) : Option (Int) := bits_Get.l0 k l0 a1 0 (mn (l0.length : Int) 8) (mn (l0.length : Int) 8) 0
theorem bits_Get.mono_l : ∀ k, (∀ y0 y1 y2 y3 y4 y5, LeO (bits_Get.l0 k y0 y1 y2 y3 y4 y5) (bits_Get.l0 (k + 1) y0 y1 y2 y3 y4 y5))
 | 0 => fun _ _ _ _ _ _ r h => by simp [bits_Get.l0] at h
 | k + 1 => by
  have ih0 := bits_Get.mono_l k
  ·intro y0 y1 y2 y3 y4 y5
   unfold bits_Get.l0
   repeat' first
   | (with_reducible exact ih0 _ _ _ _ _ _)
   | (with_reducible exact LeO.refl _)
   | (with_reducible exact LeO.none _)
   | (with_reducible refine LeO.ite ?_ ?_)
   | (with_reducible refine LeO.bind ?_ (fun _ => ?_))
   | exact ih0 _ _ _ _ _ _
   | exact LeO.none _
   | refine LeO.ite ?_ ?_
   | refine LeO.bind ?_ (fun _ => ?_)
theorem bits_Get.mono : ∀ a0 a1 k, LeO (bits_Get.f k a0 a1) (bits_Get.f (k + 1) a0 a1) := by
 intro a0 a1 k
 have ih0 := bits_Get.mono_l k
 unfold bits_Get.f
 repeat' first
   | (with_reducible exact ih0 _ _ _ _ _ _)
   | (with_reducible exact LeO.refl _)
   | (with_reducible exact LeO.none _)
   | (with_reducible refine LeO.ite ?_ ?_)
   | (with_reducible refine LeO.bind ?_ (fun _ => ?_))
   | exact ih0 _ _ _ _ _ _
   | exact LeO.none _
   | refine LeO.ite ?_ ?_
   | refine LeO.bind ?_ (fun _ => ?_)
set_option maxHeartbeats 8000000 in
set_option maxRecDepth 100000 in
theorem bits_Get.calls (k : Nat) (A0 : Option Addr) (c0 : Nat) (l0 : List Int) (a1 : Bool) (r : Int) (w : World) (hr0 : Kd.C (Kd.int .u8) w A0 l0.length l0) (hc0 : l0.length ≤ c0) (h : bits_Get.f k l0 a1 = some r) :
  Calls Try.prog 15 #[.slice A0 l0.length c0, .bool a1] w fun e w' => e = .returned (.int .u64 r) ∧ Below w.heap.size w w' := by
 have HR0:=mK hr0
 have HC0:=mK hc0
 clear hr0 hc0
 have HB:=mK (Below.refl w.heap.size w)
 have H : (bits_Get.l0 k l0 a1 0 (mn (l0.length : Int) 8) (mn (l0.length : Int) 8) 0) = some r:=h
 clear h
 obtain ⟨ji3,hji3⟩ : ∃ j_ : Int,(mn (l0.length : Int) 8) = j_:=⟨_,rfl⟩
 replace H : (bits_Get.l0 k l0 a1 0 ji3 ji3 0) = some r:= by first|(rw [hji3] at H;exact H)|(simp only [hji3] at H ⊢; exact H)
 (try (have hji3h : ji3 ≤ 8:= by (rw [← hji3];unfold mn;(repeat' split) <;> omega)))
 (try (have hji3g : ji3 ≤ 64:= by omega))
 (try (have hji3l : 0 ≤ ji3:= by (rw [← hji3];unfold mn;(repeat' split) <;> omega)))
 (try (have hji3m : 0 ≤ ji3:= by omega))
 have hji3_ : (if 8 < (l0.length : Int) then 8 else (l0.length : Int)) = ji3:=hji3
 have H':=mK H
 clear H
 go_enter Try.func15,Try.ntmps15
 go_wp2
 go_loopg [5,13] k (fun kq v5 v13 w'=>∃ (x5_1 : Int) (x13_1 : Int),v5 = .int .u64 x5_1∧v13 = .int .i64 x13_1∧Aside0 (bits_Get.l0 kq l0 a1 x5_1 ji3 ji3 x13_1 = some r)∧Aside0 (kq ≤ k)∧Aside0 (Below w.heap.size w w'))
 case atStart=>exact ⟨(0),(0),(by first|rfl|(simp;done)|(simp [*];done)),(by first|rfl|(simp;done)|(simp [*];done)),H',⟨Nat.le_refl _⟩,⟨by repeat (first|(with_reducible first|exact HB.out|apply lA|apply lN|apply lD)|exact HB.out)⟩⟩
 case round =>
  clear H'
  try clear c1
  try clear p2
  obtain ⟨x5_1,x13_1,rfl,rfl,HA,HK1,HB⟩:=hrel
  cases gk with
  |zero=>exact absurd HA.out (by simp [bits_Get.l0])
  |succ k1 =>
   have H:=HA.out
   clear HA
   simp only [bits_Get.l0] at H
   by_cases c4 : x13_1 < ji3
   ·rw [if_pos c4] at H
    have c4b0 : decide (x13_1 < ji3) = true:=decide_eq_true c4
    clear c4
    by_cases c5 : a1 = true
    ·subst c5
     have H1 : (if 0 ≤ (wrap64 ((wrap64 (ji3 - 1)) - x13_1)) then (if (wrap64 ((wrap64 (ji3 - 1)) - x13_1)) < (l0.length : Int) then (if 0 ≤ (wrap64 (8 * x13_1)) then (bits_Get.l0 k1 l0 true (Go.bits .or .u64 x5_1 (shl .u64 (IntKind.u64.wrap (rd l0 (wrap64 ((wrap64 (ji3 - 1)) - x13_1)))) (wrap64 (8 * x13_1)))) ji3 ji3 (wrap64 (x13_1 + 1))) else (none)) else (none)) else (none)) = some r:= by rw [if_pos rfl] at H;exact H
     clear H
     have H:=H1
     clear H1
     obtain ⟨ji6,hji6⟩ : ∃ j_ : Int,(wrap64 ((wrap64 (ji3 - 1)) - x13_1)) = j_:=⟨_,rfl⟩
     replace H : (if 0 ≤ (ji6) then (if (ji6) < (l0.length : Int) then (if 0 ≤ (wrap64 (8 * x13_1)) then (bits_Get.l0 k1 l0 true (Go.bits .or .u64 x5_1 (shl .u64 (IntKind.u64.wrap (rd l0 (ji6))) (wrap64 (8 * x13_1)))) ji3 ji3 (wrap64 (x13_1 + 1))) else (none)) else (none)) else (none)) = some r:= by first|(rw [hji6] at H;exact H)|(simp only [hji6] at H ⊢; exact H)
     have hji6w : (IntKind.i64.wrap ((wrap64 (ji3 - 1)) - x13_1)) = ji6:=(i64_w _).trans hji6
     have hji6u : wrap64 (ji3 - 1 - x13_1) = ji6:=(by rw [← hji6];unfold wrap64;omega)
     by_cases c7 : 0 ≤ (ji6)
     ·rw [if_pos c7] at H
      have c7b0 : decide (0 ≤ (ji6)) = true:=decide_eq_true c7
      clear c7
      by_cases c8 : (ji6) < (l0.length : Int)
      ·rw [if_pos c8] at H
       have c8b0 : decide ((ji6) < (l0.length : Int)) = true:=decide_eq_true c8
       clear c8
       obtain ⟨ji9,hji9⟩ : ∃ j_ : Int,(wrap64 (8 * x13_1)) = j_:=⟨_,rfl⟩
       replace H : (if 0 ≤ (ji9) then (bits_Get.l0 k1 l0 true (Go.bits .or .u64 x5_1 (shl .u64 (IntKind.u64.wrap (rd l0 (ji6))) (ji9))) ji3 ji3 (wrap64 (x13_1 + 1))) else (none)) = some r:= by first|(rw [hji9] at H;exact H)|(simp only [hji9] at H ⊢; exact H)
       have hji9w : (IntKind.i64.wrap (8 * x13_1)) = ji9:=(i64_w _).trans hji9
       by_cases c10 : 0 ≤ (ji9)
       ·rw [if_pos c10] at H
        have c10b0:=eq_true c10
        have c10b1 : decide (0 ≤ (ji9)) = true:=decide_eq_true c10
        clear c10
        obtain ⟨ji11,hji11⟩ : ∃ j_ : Int,(shl .u64 (IntKind.u64.wrap (rd l0 (ji6))) (ji9)) = j_:=⟨_,rfl⟩
        replace H : (bits_Get.l0 k1 l0 true (Go.bits .or .u64 x5_1 (ji11)) ji3 ji3 (wrap64 (x13_1 + 1))) = some r:= by first|(rw [hji11] at H;exact H)|(simp only [hji11] at H ⊢; exact H)
        have hji11_ : (IntKind.u64.wrap ((IntKind.u64.wrap (rd l0 (ji6))) * 2 ^ min (ji9).toNat 64)) = ji11:=hji11
        have hji11z : (ji9) ≤ 64 → (IntKind.u64.wrap ((IntKind.u64.wrap (rd l0 (ji6))) * 2 ^ (ji9).toNat)) = ji11:=shl_small hji11
        have H':=mK H
        clear H
        have p101 : 0 ≤ ((ji6) : Int):=of_decide_eq_true (by first|(with_reducible assumption)|assumption)
        have q101 : (ji6) < (l0.length : Int):=of_decide_eq_true (by first|(with_reducible assumption)|assumption)
        obtain ⟨ad101,e101,hx101_0⟩:=Kd.at_int HR0.out (ji6) p101 q101
        cases e101
        replace hx101_0:=(HB.out.cell (World.block_lt_of_cell? w _ hx101_0)).trans hx101_0
        replace p101:=eq_true p101
        replace q101:=eq_true q101
        go_wp2
        go_roundg k1
        case measure=>have:=HK1.out;omega
        case rel=>exact ⟨(Go.bits .or .u64 x5_1 (ji11)),(wrap64 (x13_1 + 1)),(by first|rfl|(simp;done)|(simp only [← hji11] <;> (first|rfl|simp))|(simp [*];done)),(by first|rfl|(simp;done)|(simp [*];done)),H',⟨by have:=HK1.out;omega⟩,⟨by repeat (first|(with_reducible first|exact HB.out|apply lA|apply lN|apply lD)|exact HB.out)⟩⟩
       ·rw [if_neg c10] at H
        exact absurd H (by simp)
      ·rw [if_neg c8] at H
       exact absurd H (by simp)
     ·rw [if_neg c7] at H
      exact absurd H (by simp)
    ·replace c5:=Bool.eq_false_iff.mpr c5
     subst c5
     have H1 : (if 0 ≤ x13_1 then (if x13_1 < (l0.length : Int) then (if 0 ≤ (wrap64 (8 * x13_1)) then (bits_Get.l0 k1 l0 false (Go.bits .or .u64 x5_1 (shl .u64 (IntKind.u64.wrap (rd l0 x13_1)) (wrap64 (8 * x13_1)))) ji3 ji3 (wrap64 (x13_1 + 1))) else (none)) else (none)) else (none)) = some r:= by rw [if_neg (show ¬ (false = true) by decide)] at H;exact H
     clear H
     have H:=H1
     clear H1
     by_cases c12 : 0 ≤ x13_1
     ·rw [if_pos c12] at H
      have c12b0 : decide (0 ≤ x13_1) = true:=decide_eq_true c12
      clear c12
      by_cases c13 : x13_1 < (l0.length : Int)
      ·rw [if_pos c13] at H
       have c13b0 : decide (x13_1 < (l0.length : Int)) = true:=decide_eq_true c13
       clear c13
       obtain ⟨ji14,hji14⟩ : ∃ j_ : Int,(wrap64 (8 * x13_1)) = j_:=⟨_,rfl⟩
       replace H : (if 0 ≤ (ji14) then (bits_Get.l0 k1 l0 false (Go.bits .or .u64 x5_1 (shl .u64 (IntKind.u64.wrap (rd l0 x13_1)) (ji14))) ji3 ji3 (wrap64 (x13_1 + 1))) else (none)) = some r:= by first|(rw [hji14] at H;exact H)|(simp only [hji14] at H ⊢; exact H)
       have hji14w : (IntKind.i64.wrap (8 * x13_1)) = ji14:=(i64_w _).trans hji14
       by_cases c15 : 0 ≤ (ji14)
       ·rw [if_pos c15] at H
        have c15b0:=eq_true c15
        have c15b1 : decide (0 ≤ (ji14)) = true:=decide_eq_true c15
        clear c15
        obtain ⟨ji16,hji16⟩ : ∃ j_ : Int,(shl .u64 (IntKind.u64.wrap (rd l0 x13_1)) (ji14)) = j_:=⟨_,rfl⟩
        replace H : (bits_Get.l0 k1 l0 false (Go.bits .or .u64 x5_1 (ji16)) ji3 ji3 (wrap64 (x13_1 + 1))) = some r:= by first|(rw [hji16] at H;exact H)|(simp only [hji16] at H ⊢; exact H)
        have hji16_ : (IntKind.u64.wrap ((IntKind.u64.wrap (rd l0 x13_1)) * 2 ^ min (ji14).toNat 64)) = ji16:=hji16
        have hji16z : (ji14) ≤ 64 → (IntKind.u64.wrap ((IntKind.u64.wrap (rd l0 x13_1)) * 2 ^ (ji14).toNat)) = ji16:=shl_small hji16
        have H':=mK H
        clear H
        have p102 : 0 ≤ (x13_1 : Int):=of_decide_eq_true (by first|(with_reducible assumption)|assumption)
        have q102 : x13_1 < (l0.length : Int):=of_decide_eq_true (by first|(with_reducible assumption)|assumption)
        obtain ⟨ad102,e102,hx102_0⟩:=Kd.at_int HR0.out x13_1 p102 q102
        cases e102
        replace hx102_0:=(HB.out.cell (World.block_lt_of_cell? w _ hx102_0)).trans hx102_0
        replace p102:=eq_true p102
        replace q102:=eq_true q102
        go_wp2
        go_roundg k1
        case measure=>have:=HK1.out;omega
        case rel=>exact ⟨(Go.bits .or .u64 x5_1 (ji16)),(wrap64 (x13_1 + 1)),(by first|rfl|(simp;done)|(simp only [← hji16] <;> (first|rfl|simp))|(simp [*];done)),(by first|rfl|(simp;done)|(simp [*];done)),H',⟨by have:=HK1.out;omega⟩,⟨by repeat (first|(with_reducible first|exact HB.out|apply lA|apply lN|apply lD)|exact HB.out)⟩⟩
       ·rw [if_neg c15] at H
        exact absurd H (by simp)
      ·rw [if_neg c13] at H
       exact absurd H (by simp)
     ·rw [if_neg c12] at H
      exact absurd H (by simp)
   ·rw [if_neg c4] at H
    have c4b0 : decide (x13_1 < ji3) = false:=decide_eq_false c4
    clear c4
    obtain rfl:=Option.some.inj H
    go_wp2
    go_ret
    exact ⟨by first|rfl|(simp [errW_none,errW_some] <;> rfl)|(simp only [← hji3];first|rfl|(simp [errW_none,errW_some] <;> rfl))|(simp [*,errW_none,errW_some] <;> rfl),by repeat (first|(with_reducible first|exact HB.out|apply lA|apply lN|apply lD)|exact HB.out)⟩

/-! ### dhcp_Get_1: function 14 -/
def dhcp_Get_1.f (k : Nat) (l0 : List Int) (a : Int) : Option Int :=
 if 0 ≤ a ∧ a ≤ wrap64 (a + 4) ∧ wrap64 (a + 4) ≤ (l0.length : Int) then (bits_Get.f k ((l0.take (wrap64 (a + 4)).toNat).drop a.toNat) true).map (fun r => IntKind.u32.wrap r) else none
theorem dhcp_Get_1.mono : ∀ l0 a k, LeO (dhcp_Get_1.f k l0 a) (dhcp_Get_1.f (k + 1) l0 a) := by
 intro l0 a k r h
 unfold dhcp_Get_1.f at *
 split at h
 ·rename_i hq
  rw [if_pos hq]
  obtain ⟨x, hx, rfl⟩ := Option.map_eq_some_iff.1 h
  exact Option.map_eq_some_iff.2 ⟨x, bits_Get.mono _ _ _ _ hx, rfl⟩
 ·cases h
set_option maxHeartbeats 400000 in
set_option maxRecDepth 100000 in
theorem dhcp_Get_1.calls (k : Nat) (gb : Nat) (A0 : Option Addr) (c0 : Nat) (l0 : List Int) (a r : Int) (w : World) (hb : w.heap[gb]? = some (.cells #[.slice A0 l0.length c0] 22 (0, 0))) (hr0 : Kd.C (Kd.int .u8) w A0 l0.length l0) (hc0 : l0.length ≤ c0) (h : dhcp_Get_1.f k l0 a = some r) :
  Calls Try.prog 14 #[.int .i64 a, .pointer (some ⟨gb, 0, none⟩)] w fun e w' => e = .returned (.int .u32 r) ∧ Below w.heap.size w w' := by
 unfold dhcp_Get_1.f at h
 by_cases hq : 0 ≤ a∧a ≤ wrap64 (a + 4)∧wrap64 (a + 4) ≤ (l0.length : Int)
 case neg=>rw [if_neg hq] at h;cases h
 rw [if_pos hq] at h
 obtain ⟨q1,q2,q3⟩:=hq
 obtain ⟨x,hx,rfl⟩:=Option.map_eq_some_iff.1 h
 clear h
 obtain ⟨i0,hi0,_,hsz,_⟩:=info_parts info5
 have hcut:=cut_mid (P:=Try.prog) 22 5 .i64 .i64 Try.underlying22 hi0 1 hsz A0 l0.length c0 a (wrap64 (a + 4)) q1 q2 q3 hc0
 have hr:=Kd.C_mid (lo:=a.toNat) (hi:=(wrap64 (a + 4)).toNat) (c:=c0) hr0 (by omega) (by omega) hc0
 have hcell : w.cell? ⟨gb,0,none⟩ = some (.slice A0 l0.length c0):=(blk_cell hb 0).trans rfl
 obtain ⟨A1,hA1⟩ : ∃ A1,A1 = (if c0 = a.toNat then A0 else (A0 : Option Addr).map (·.add (a.toNat * 1))):=⟨_,rfl⟩
 obtain ⟨y,hy⟩ : ∃ y,y = (l0.take (wrap64 (a + 4)).toNat).drop a.toNat:=⟨_,rfl⟩
 have hyl : y.length = (wrap64 (a + 4)).toNat - a.toNat:= by rw [hy];simp;omega
 rw [← hA1,← hyl] at hcut
 have HR:=mK (show Kd.C (Kd.int .u8) w A1 y.length y by rw [hA1,hy];exact hr)
 have HC:=mK (show y.length ≤ c0 - a.toNat by omega)
 rw [← hy] at hx
 have HX:=mK hx
 clear hx hr hr0 hb hyl hy hA1 q1 q2 q3 hc0
 go_enter Try.func14,Try.ntmps14
 go_wp2_with (go_at_call 15;refine (bits_Get.calls k A1 (c0 - a.toNat) y true x _ HR.out HC.out HX.out).mono ?_;rintro e w1 ⟨rfl,hb1⟩;have HB:=mK hb1;clear hb1)
 go_ret
 exact ⟨rfl,HB.out⟩


/-! ### dhcp_size: function 27 -/
def dhcp_size.f (a0 : Int) : Option (Int) := if a0 = 53 then (some 1) else (if a0 = 50 then (some 4) else (if a0 = 54 then (some 4) else (if a0 = 51 then (some 4) else (if a0 = 1 then (some 4) else (if a0 = 3 then (some 4) else (if a0 = 6 then (some 4) else (some 0)))))))
set_option maxHeartbeats 8000000 in
set_option maxRecDepth 100000 in
theorem dhcp_size.calls (a0 : Int) (r : Int) (w : World) (h : dhcp_size.f a0 = some r) :
  Calls Try.prog 27 #[.int .u8 a0] w fun e w' => e = .returned (.int .i64 r) ∧ Drawn0 w w' := by
 have H : (if a0 = 53 then (some 1) else (if a0 = 50 then (some 4) else (if a0 = 54 then (some 4) else (if a0 = 51 then (some 4) else (if a0 = 1 then (some 4) else (if a0 = 3 then (some 4) else (if a0 = 6 then (some 4) else (some 0)))))))) = some r:=h
 clear h
 by_cases c2 : a0 = 53
 ·rw [if_pos c2] at H
  have c2b0 : (a0 == 53) = true:=beq_iff_eq.mpr c2
  have c2b1 : (a0 != 53) = false:=bne_eq_false_iff_eq.mpr c2
  clear c2
  obtain rfl:=Option.some.inj H
  go_enter Try.func27,Try.ntmps27
  go_wp2
  go_ret
  exact ⟨by first|rfl|(simp;done)|(simp [*];done),by repeat (first|exact Drawn0.refl _|apply Drawn0.step)⟩
 ·rw [if_neg c2] at H
  have c2b0 : (a0 == 53) = false:=beq_eq_false_iff_ne.mpr c2
  have c2b1 : (a0 != 53) = true:=bne_iff_ne.mpr c2
  by_cases c3 : a0 = 50
  ·rw [if_pos c3] at H
   have c3b0 : (a0 == 50) = true:=beq_iff_eq.mpr c3
   have c3b1 : (a0 != 50) = false:=bne_eq_false_iff_eq.mpr c3
   clear c3
   obtain rfl:=Option.some.inj H
   go_enter Try.func27,Try.ntmps27
   go_wp2
   go_ret
   exact ⟨by first|rfl|(simp;done)|(simp [*];done),by repeat (first|exact Drawn0.refl _|apply Drawn0.step)⟩
  ·rw [if_neg c3] at H
   have c3b0 : (a0 == 50) = false:=beq_eq_false_iff_ne.mpr c3
   have c3b1 : (a0 != 50) = true:=bne_iff_ne.mpr c3
   by_cases c4 : a0 = 54
   ·rw [if_pos c4] at H
    have c4b0 : (a0 == 54) = true:=beq_iff_eq.mpr c4
    have c4b1 : (a0 != 54) = false:=bne_eq_false_iff_eq.mpr c4
    clear c4
    obtain rfl:=Option.some.inj H
    go_enter Try.func27,Try.ntmps27
    go_wp2
    go_ret
    exact ⟨by first|rfl|(simp;done)|(simp [*];done),by repeat (first|exact Drawn0.refl _|apply Drawn0.step)⟩
   ·rw [if_neg c4] at H
    have c4b0 : (a0 == 54) = false:=beq_eq_false_iff_ne.mpr c4
    have c4b1 : (a0 != 54) = true:=bne_iff_ne.mpr c4
    by_cases c5 : a0 = 51
    ·rw [if_pos c5] at H
     have c5b0 : (a0 == 51) = true:=beq_iff_eq.mpr c5
     have c5b1 : (a0 != 51) = false:=bne_eq_false_iff_eq.mpr c5
     clear c5
     obtain rfl:=Option.some.inj H
     go_enter Try.func27,Try.ntmps27
     go_wp2
     go_ret
     exact ⟨by first|rfl|(simp;done)|(simp [*];done),by repeat (first|exact Drawn0.refl _|apply Drawn0.step)⟩
    ·rw [if_neg c5] at H
     have c5b0 : (a0 == 51) = false:=beq_eq_false_iff_ne.mpr c5
     have c5b1 : (a0 != 51) = true:=bne_iff_ne.mpr c5
     by_cases c6 : a0 = 1
     ·rw [if_pos c6] at H
      have c6b0 : (a0 == 1) = true:=beq_iff_eq.mpr c6
      have c6b1 : (a0 != 1) = false:=bne_eq_false_iff_eq.mpr c6
      clear c6
      obtain rfl:=Option.some.inj H
      go_enter Try.func27,Try.ntmps27
      go_wp2
      go_ret
      exact ⟨by first|rfl|(simp;done)|(simp [*];done),by repeat (first|exact Drawn0.refl _|apply Drawn0.step)⟩
     ·rw [if_neg c6] at H
      have c6b0 : (a0 == 1) = false:=beq_eq_false_iff_ne.mpr c6
      have c6b1 : (a0 != 1) = true:=bne_iff_ne.mpr c6
      by_cases c7 : a0 = 3
      ·rw [if_pos c7] at H
       have c7b0 : (a0 == 3) = true:=beq_iff_eq.mpr c7
       have c7b1 : (a0 != 3) = false:=bne_eq_false_iff_eq.mpr c7
       clear c7
       obtain rfl:=Option.some.inj H
       go_enter Try.func27,Try.ntmps27
       go_wp2
       go_ret
       exact ⟨by first|rfl|(simp;done)|(simp [*];done),by repeat (first|exact Drawn0.refl _|apply Drawn0.step)⟩
      ·rw [if_neg c7] at H
       have c7b0 : (a0 == 3) = false:=beq_eq_false_iff_ne.mpr c7
       have c7b1 : (a0 != 3) = true:=bne_iff_ne.mpr c7
       by_cases c8 : a0 = 6
       ·rw [if_pos c8] at H
        have c8b0 : (a0 == 6) = true:=beq_iff_eq.mpr c8
        have c8b1 : (a0 != 6) = false:=bne_eq_false_iff_eq.mpr c8
        clear c8
        obtain rfl:=Option.some.inj H
        go_enter Try.func27,Try.ntmps27
        go_wp2
        go_ret
        exact ⟨by first|rfl|(simp;done)|(simp [*];done),by repeat (first|exact Drawn0.refl _|apply Drawn0.step)⟩
       ·rw [if_neg c8] at H
        have c8b0 : (a0 == 6) = false:=beq_eq_false_iff_ne.mpr c8
        have c8b1 : (a0 != 6) = true:=bne_iff_ne.mpr c8
        obtain rfl:=Option.some.inj H
        go_enter Try.func27,Try.ntmps27
        go_wp2
        go_ret
        exact ⟨by first|rfl|(simp;done)|(simp [*];done),by repeat (first|exact Drawn0.refl _|apply Drawn0.step)⟩

end Go.Proofs.Ytpbofaghnfheiaa.P
