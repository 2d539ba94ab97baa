/- Contracts, printed by a program of this session. -/
import Derived.Test.YtgkgekaiajjcaaaT0
namespace Go.Proofs.Ytgkgekaiajjcaaa.S
open Go Go.SL Go.RowKit
set_option linter.unusedVariables false
set_option linter.unusedSimpArgs false
/-! (*drawbridge/drawbridgeref22.Wheel).Due -/
noncomputable def ref22_Wheel_Due.f (a1 : TWheel) (a2 : Int) : Option ((List TAlarm) × TWheel) :=
  (loop (fun s1 => ((if decide (s1 < (a1.l.length : Int)) = true then (idx a1.l s1).bind fun x1 => some (decide (x1.At ≤ a2)) else some (false))).bind (fun j1 => (if j1 = true then lt (IntKind.i64.wrap (s1 + 1)) fun y1 => some (.inl y1) else some (.inr (s1))))) 0).bind (fun j2 => (cut a1.l 0 j2).bind fun x2 => (app ([] : List TAlarm) x2).bind fun x3 => (cut a1.l j2 (a1.l.length : Int)).bind fun x4 => (app ([] : List TAlarm) x4).bind fun x5 => lt (⟨x5⟩ : TWheel) fun y2 => some ((x3, y2)))
set_option maxRecDepth 100000 in
set_option maxHeartbeats 4000000 in
theorem ref22_Wheel_Due.spc (b1 : Nat) (a1 : TWheel) (a2 : Int) (ha2 : InR .i64 a2) (r : (List TAlarm) × TWheel) (H : ref22_Wheel_Due.f a1 a2 = some r) : Spc Try.prog 18 [pt b1, .int .i64 a2] [] [Fld KWheel b1 0 a1] (fun (s : Value) => s) (fun s => [Val (Kd.osl KAlarm) s r.1, Fld KWheel b1 0 r.2]) := by
 unfold ref22_Wheel_Due.f at H
 refine Spc.go Try.func18 rfl (by kernel_rfl) rfl rfl all_nil fun F a w h => ?_
 refine T.gg h <| T.qr rfl <| T.a (o_assign rfl) <| T.d <| T.qr rfl <| T.a (o_assign rfl) <| T.d <| T.q <| T.bl <| bE H fun o1 hl G1 => T.at fun h => ?_
 refine g_cut (fun G => ∀ j2 (a : Act) (w : World), o1 = j2 → InR .i64 j2 → St Try.f18.ntmps F [(0, pt b1), (5, .int .i64 j2)] [Fld KWheel b1 0 a1] a w → G a w) 2 ?_ fun J2 => ?_
 ·intro j2 a w ho_ g4 h
  rw [ho_] at G1
  refine T.gg h <| have H := G1; T.qr rfl <| T.s (o_bs (K := KAlarm) (vs := []) (xs := ([] : List TAlarm)) rfl rfl pvs_nil t_a22 (by decide) (by decide)) fun v3 => T.mv rfl <| T.a (o_nilc rfl) <| T.a (fa rfl t_f64_0) <| T.s (o_lfv 1 rfl rfl sWheel_l rfl Per_sl t_y22) fun v4 => T.mv rfl <| bE H fun x2 ex2 H => T.s (o_cuth rfl (pv_at Per_sl 0 rfl) rfl ex2 t_v22) fun v5 => bE H fun x3 ex3 H => T.s (o_app (K := KAlarm) 2 rfl rfl rfl (rd_at 0 rfl) ex3 t_a22 t_n22) fun v6 => T.a (o_assign rfl) <| T.d <| T.qr rfl <| T.mv rfl <| T.s (o_bs (K := KAlarm) (vs := []) (xs := ([] : List TAlarm)) rfl rfl pvs_nil t_a22 (by decide) (by decide)) fun v7 => T.mv rfl <| T.a (o_nilc rfl) <| T.a (fa rfl t_f64_0) <| T.s (o_lfv 4 rfl rfl sWheel_l rfl Per_sl t_y22) fun v8 => T.mv rfl <| bE H fun x4 ex4 H => T.s (o_cutl rfl (pv_at Per_sl 0 rfl) rfl ex4 t_v22) fun v9 => bE H fun x5 ex5 H => T.s (o_app (K := KAlarm) 2 rfl rfl rfl (rd_at 0 rfl) ex5 t_a22 t_n22) fun v10 => T.a (o_nilc rfl) <| T.a (fa rfl t_f64_0) <| T.mm (fun m => m.freeze 2 rfl) <| lE H fun y2 ey2 H => T.z (o_stp (x0 := a1) (y := x5) 6 t_uWheel_0_1 rfl rfl rfl rfl (pv_at Per_sl 2 rfl) t_w22) <| T.at fun h => ?_
  rw [ey2] at h
  refine T.gm h <| T.d <| T.qr rfl <| T.mv rfl <| T.a (o_assign rfl) <| T.d <| T.at fun h => ?_
  rw [← som H]
  exact g_ret (vs := [v6]) h Try.func18 ⟨rfl, trivial⟩ ⟨v6, rfl, (h.mem.pick [5, 6] (by decide) rfl)⟩
 refine g_loop (fun s1 G => ∀  (a : Act) (w : World), InR .i64 s1 → St Try.f18.ntmps F [(0, pt b1), (1, .int .i64 a2), (5, .int .i64 s1)] [Fld KWheel b1 0 a1] a w → G a w) hl (fun s1 p1 H i1 => ?_) fun I_ => ?_
 ·intro  a w g1 h
  refine T.gg h <| T.q <| T.q <| bE H fun o2 H G2 => T.at fun h => ?_
  refine g_cut (fun G => ∀ j1 (a : Act) (w : World), o2 = j1 → St Try.f18.ntmps F [(0, pt b1), (1, .int .i64 a2), (5, .int .i64 s1), (25, .bool j1)] [Fld KWheel b1 0 a1] a w → G a w) 1 ?_ fun J1 => ?_
  ·intro j1 a w ho_ h
   rw [ho_] at G2
   have H := G2
   by_cases c2 : j1 = true
   ·refine T.gg h <| have H := ifT c2 H; T.tt rfl c2 <| T.sk <| T.bl <| T.r rfl <| T.mv rfl <| T.a (o_bin rfl rfl rfl) <| lE H fun y1 ey1 H => T.a (o_assign' rfl (congrArg (fun z => Value.int .i64 z) ey1)) <| T.d <| T.ib <| T.at fun h => ?_
    have e_ := som H; subst e_
    exact Go.inLoop (nx_in i1 _ _ (ey1 ▸ (wrap_in _ _)) (h.wr [0]))
   ·refine T.gg h <| have H := ifF c2 H; T.ff rfl c2 <| T.ex rfl <| T.at fun h => ?_
    have e_ := som H; subst e_
    exact J2 s1 _ _ (nx_out i1).symm g1 (h.wr [0])
  refine T.gg h <| T.r rfl <| T.mv rfl <| T.mv rfl <| T.a (o_nilc rfl) <| T.a (fa rfl t_f64_0) <| T.s (o_lfv 0 rfl rfl sWheel_l rfl Per_sl t_y22) fun v1 => T.u (fun m => (len_at 0 rfl m)) fun g2 => T.a (o_ln rfl (rd_at 0 rfl) t_v22) <| T.a (o_bin rfl rfl rfl) <| T.mv rfl <| T.at fun h => ?_
  by_cases c1 : decide (s1 < (a1.l.length : Int)) = true
  ·exact T.gm h <| have H := ifT c1 H; T.ga rfl rfl c1 (o_move rfl) <| T.ga rfl rfl c1 (o_nilc rfl) <| T.ga rfl rfl c1 (fa rfl t_f64_0) <| T.gs rfl rfl c1 (o_lfv 1 rfl rfl sWheel_l rfl Per_sl t_y22) fun v2 => T.ga rfl rfl c1 (o_move rfl) <| bE H fun x1 ex1 H => T.ga rfl rfl c1 (o_ix rfl rfl (rd_at 0 rfl) ex1 t_v22) <| T.ga rfl rfl c1 (o_fae (k' := s1.toNat * Kd.n KAlarm + 0) rfl (rd_at 0 rfl) ex1 (by decide) t_f28_0 rfl rfl) <| T.u (fun m => (in1 (rd_sub sAlarm_At (rd_at 0 rfl) ex1 m))) fun g3 => T.ga rfl rfl c1 (o_lsx rfl (rd_at 0 rfl) ex1 sAlarm_At X_int t_y3 (by decide)) <| T.ga rfl rfl c1 (o_move rfl) <| T.ga rfl rfl c1 (o_bin rfl rfl rfl) <| T.a (o_pickT rfl rfl c1) <| T.d <| T.at fun h => J1 (decide (x1.At ≤ a2)) _ _ (som H).symm (h.wr [2])
  ·exact T.gm h <| have H := ifF c1 H; T.gk rfl rfl (nb_f c1) <| T.gk rfl rfl (nb_f c1) <| T.gk rfl rfl (nb_f c1) <| T.gk rfl rfl (nb_f c1) <| T.gk rfl rfl (nb_f c1) <| T.gk rfl rfl (nb_f c1) <| T.gk rfl rfl (nb_f c1) <| T.gk rfl rfl (nb_f c1) <| T.gk rfl rfl (nb_f c1) <| T.gk rfl rfl (nb_f c1) <| T.a (o_pickF rfl rfl c1) <| T.d <| T.at fun h => J1 false _ _ (som H).symm (h.wr [1])
 ·exact I_ _ _ (show InR .i64 0 by decide) (h.wr [0])
def ref22_Wheel_Due.g (k_ : Nat) (a1 : TWheel) (a2 : Int) : Option ((List TAlarm) × TWheel) :=
  (loopK k_ (fun s1 => ((if decide (s1 < (a1.l.length : Int)) = true then (idx a1.l s1).bind fun x1 => some (decide (x1.At ≤ a2)) else some (false))).bind (fun j1 => (if j1 = true then lt (IntKind.i64.wrap (s1 + 1)) fun y1 => some (.inl y1) else some (.inr (s1))))) 0).bind (fun j2 => (cut a1.l 0 j2).bind fun x2 => (app ([] : List TAlarm) x2).bind fun x3 => (cut a1.l j2 (a1.l.length : Int)).bind fun x4 => (app ([] : List TAlarm) x4).bind fun x5 => lt (⟨x5⟩ : TWheel) fun y2 => some ((x3, y2)))
theorem ref22_Wheel_Due.le (k_ : Nat) (a1 : TWheel) (a2 : Int) : Le (ref22_Wheel_Due.g k_ a1 a2) (ref22_Wheel_Due.f a1 a2) := by
 unfold ref22_Wheel_Due.g ref22_Wheel_Due.f
 repeat' (first | with_reducible refine le_loop fun _ => ?_ | with_reducible refine le_bind ?_ fun _ => ?_ | with_reducible refine le_ite ?_ ?_ | with_reducible refine le_lt fun _ => ?_ | with_reducible refine le_elim (fun _ => ?_) (fun _ => ?_) _ | with_reducible exact le_refl _)
/-! (*drawbridge/drawbridgeref22.Wheel).Next -/
noncomputable def ref22_Wheel_Next.f (a1 : TWheel) : Option (TAlarm × Bool × TWheel) :=
  (if decide ((a1.l.length : Int) = 0) = true then some (((⟨0, 0⟩ : TAlarm), false, a1)) else (idx a1.l 0).bind fun x1 => some ((x1, true, a1)))
set_option maxRecDepth 100000 in
set_option maxHeartbeats 4000000 in
theorem ref22_Wheel_Next.spc (b1 : Nat) (a1 : TWheel) (r : TAlarm × Bool × TWheel) (H : ref22_Wheel_Next.f a1 = some r) : Spc Try.prog 20 [pt b1] [] [Fld KWheel b1 0 a1] (fun (s : Value) => .tuple #[s, .bool r.2.1]) (fun s => [Val KAlarm s r.1, Fld KWheel b1 0 r.2.2]) := by
 unfold ref22_Wheel_Next.f at H
 refine Spc.go Try.func20 rfl (by kernel_rfl) rfl rfl all_nil fun F a w h => ?_
 refine T.gg h <| T.qr rfl <| T.s (o_alloc (K := KAlarm) (z := (.agg #[.int .i64 0, .int .i64 0])) rfl ZAlarm) fun b2 => T.a (o_assign rfl) <| T.d <| T.q <| T.qr rfl <| T.mv rfl <| T.a (o_nilc rfl) <| T.a (fa rfl t_f64_0) <| T.s (o_lfv 1 rfl rfl sWheel_l rfl Per_sl t_y22) fun v1 => T.u (fun m => (len_at 0 rfl m)) fun g1 => T.a (o_ln rfl (rd_at 0 rfl) t_v22) <| T.a (o_bin rfl rfl rfl) <| T.d <| T.at fun h => ?_
 by_cases c1 : decide ((a1.l.length : Int) = 0) = true
 ·refine T.gg h <| have H := ifT c1 H; T.tt rfl c1 <| T.qr rfl <| T.s (o_build (K := KAlarm) (x := (⟨0, 0⟩ : TAlarm)) (ps := []) rfl (zs := zsAlarm) rfl t_b28 rfl (show PB (Kd.pair (Kd.int .i64) (Kd.last (Kd.int .i64))) (0, 0) 0 zsAlarm _ _ from (pb_zero z_int (pb_lastz z_int)))) fun v2 => T.z (o_st 2 rfl rfl rfl (pv_at PAlarm 0 rfl) rfl t_w28) <| T.a (o_assign rfl) <| T.d <| T.at fun h => ?_
  obtain ⟨v3, h, u1⟩ := h.peek 2 rfl PAlarm t_y28
  rw [← som H]
  exact g_ret (vs := [v3, .bool false]) h Try.func20 ⟨⟨_, rfl, u1⟩, ⟨rfl, trivial⟩⟩ ⟨v3, rfl, (h.mem.pick [0, 4] (by decide) rfl)⟩
 ·refine T.gg h <| have H := ifF c1 H; T.ff rfl c1 <| T.sk <| T.qr rfl <| T.mv rfl <| T.a (o_nilc rfl) <| T.a (fa rfl t_f64_0) <| T.s (o_lfv 2 rfl rfl sWheel_l rfl Per_sl t_y22) fun v4 => bE H fun x1 ex1 H => T.a (o_ix rfl rfl (rd_at 0 rfl) ex1 t_v22) <| T.s (o_lev rfl (rd_at 0 rfl) ex1 t_y28 (by decide)) fun v5 => T.z (o_st 3 rfl rfl rfl (pv_at PAlarm 0 rfl) rfl t_w28) <| T.a (o_assign rfl) <| T.d <| T.at fun h => ?_
  obtain ⟨v6, h, u2⟩ := h.peek 3 rfl PAlarm t_y28
  rw [← som H]
  exact g_ret (vs := [v6, .bool true]) h Try.func20 ⟨⟨_, rfl, u2⟩, ⟨rfl, trivial⟩⟩ ⟨v6, rfl, (h.mem.pick [0, 5] (by decide) rfl)⟩
def ref22_Wheel_Next.g (k_ : Nat) (a1 : TWheel) : Option (TAlarm × Bool × TWheel) :=
  (if decide ((a1.l.length : Int) = 0) = true then some (((⟨0, 0⟩ : TAlarm), false, a1)) else (idx a1.l 0).bind fun x1 => some ((x1, true, a1)))
theorem ref22_Wheel_Next.le (k_ : Nat) (a1 : TWheel) : Le (ref22_Wheel_Next.g k_ a1) (ref22_Wheel_Next.f a1) := by
 unfold ref22_Wheel_Next.g ref22_Wheel_Next.f
 repeat' (first | with_reducible refine le_loop fun _ => ?_ | with_reducible refine le_bind ?_ fun _ => ?_ | with_reducible refine le_ite ?_ ?_ | with_reducible refine le_lt fun _ => ?_ | with_reducible refine le_elim (fun _ => ?_) (fun _ => ?_) _ | with_reducible exact le_refl _)
/-! (*drawbridge/drawbridgeref22.Wheel).All -/
noncomputable def ref22_Wheel_All.f (a1 : TWheel) : Option ((List TAlarm) × TWheel) :=
  (app ([] : List TAlarm) a1.l).bind fun x1 => some ((x1, a1))
set_option maxRecDepth 100000 in
set_option maxHeartbeats 4000000 in
theorem ref22_Wheel_All.spc (b1 : Nat) (a1 : TWheel) (r : (List TAlarm) × TWheel) (H : ref22_Wheel_All.f a1 = some r) : Spc Try.prog 21 [pt b1] [] [Fld KWheel b1 0 a1] (fun (s : Value) => s) (fun s => [Val (Kd.osl KAlarm) s r.1, Fld KWheel b1 0 r.2]) := by
 unfold ref22_Wheel_All.f at H
 refine Spc.go Try.func21 rfl (by kernel_rfl) rfl rfl all_nil fun F a w h => ?_
 refine T.gg h <| T.qr rfl <| T.a (o_assign rfl) <| T.d <| T.qr rfl <| T.s (o_bs (K := KAlarm) (vs := []) (xs := ([] : List TAlarm)) rfl rfl pvs_nil t_a22 (by decide) (by decide)) fun v1 => T.mv rfl <| T.a (o_nilc rfl) <| T.a (fa rfl t_f64_0) <| T.s (o_lfv 1 rfl rfl sWheel_l rfl Per_sl t_y22) fun v2 => bE H fun x1 ex1 H => T.s (o_app (K := KAlarm) 1 rfl rfl rfl (rd_at 0 rfl) ex1 t_a22 t_n22) fun v3 => T.a (o_assign rfl) <| T.d <| T.at fun h => ?_
 rw [← som H]
 exact g_ret (vs := [v3]) h Try.func21 ⟨rfl, trivial⟩ ⟨v3, rfl, (h.mem.pick [1, 2] (by decide) rfl)⟩
def ref22_Wheel_All.g (k_ : Nat) (a1 : TWheel) : Option ((List TAlarm) × TWheel) :=
  (app ([] : List TAlarm) a1.l).bind fun x1 => some ((x1, a1))
theorem ref22_Wheel_All.le (k_ : Nat) (a1 : TWheel) : Le (ref22_Wheel_All.g k_ a1) (ref22_Wheel_All.f a1) := by
 unfold ref22_Wheel_All.g ref22_Wheel_All.f
 repeat' (first | with_reducible refine le_loop fun _ => ?_ | with_reducible refine le_bind ?_ fun _ => ?_ | with_reducible refine le_ite ?_ ?_ | with_reducible refine le_lt fun _ => ?_ | with_reducible refine le_elim (fun _ => ?_) (fun _ => ?_) _ | with_reducible exact le_refl _)
end Go.Proofs.Ytgkgekaiajjcaaa.S
