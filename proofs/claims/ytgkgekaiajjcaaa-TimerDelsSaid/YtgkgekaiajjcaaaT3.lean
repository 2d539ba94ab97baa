/- Contracts, printed by a program of this session. -/
import Derived.Test.YtgkgekaiajjcaaaT2
namespace Go.Proofs.Ytgkgekaiajjcaaa.S
open Go Go.SL Go.RowKit
set_option linter.unusedVariables false
set_option linter.unusedSimpArgs false
/-! drawbridge/drawbridgeref22.Same -/
noncomputable def ref22_Same.f (a1 : List TAlarm) (a2 : List TAlarm) : Option (Bool) :=
  (if (!decide ((a1.length : Int) = (a2.length : Int))) = true then some (false) else (loop (fun s1 => (if decide (s1 < (a1.length : Int)) = true then (idx a1 s1).bind fun x1 => (idx a2 s1).bind fun x2 => (if (!(decide (x1.At = x2.At) && (decide (x1.Id = x2.Id)))) = true then some (.inr (.inr (false))) else lt (IntKind.i64.wrap (s1 + 1)) fun y1 => some (.inl y1)) else some (.inr (.inl (()))))) 0).bind (Sum.elim (fun j1 => some (true)) (fun z_ => some (z_))))
set_option maxRecDepth 100000 in
set_option maxHeartbeats 4000000 in
theorem ref22_Same.spc (v1 : Value) (a1 : List TAlarm) (v2 : Value) (a2 : List TAlarm) (r : Bool) (H : ref22_Same.f a1 a2 = some r) : Spc Try.prog 13 [v1, v2] [Val (Kd.sl KAlarm) v1 a1, Val (Kd.sl KAlarm) v2 a2] [] (fun (s : Unit) => .bool r) (fun s => []) := by
 unfold ref22_Same.f at H
 refine Spc.go Try.func13 rfl (by kernel_rfl) rfl rfl (all_cons (Val.per Per_sl) (all_cons (Val.per Per_sl) all_nil)) fun F a w h => ?_
 refine T.gg h <| T.qr rfl <| T.a (o_assign rfl) <| T.d <| T.q <| T.qr rfl <| T.mv rfl <| T.u (fun m => (len_at 0 rfl m)) fun g1 => T.a (o_ln rfl (rd_at 0 rfl) t_v22) <| T.mv rfl <| T.u (fun m => (len_at 1 rfl m)) fun g2 => T.a (o_ln rfl (rd_at 1 rfl) t_v22) <| T.a (o_bin rfl rfl rfl) <| T.d <| T.at fun h => ?_
 by_cases c1 : (!decide ((a1.length : Int) = (a2.length : Int))) = true
 ·refine T.gg h <| have H := ifT c1 H; T.tt rfl c1 <| T.qr rfl <| T.a (o_assign rfl) <| T.d <| T.at fun h => ?_
  rw [← som H]
  exact g_ret (vs := [.bool false]) h Try.func13 ⟨rfl, trivial⟩ ⟨(), rfl, (h.mem.pick [] (by decide) rfl)⟩
 ·refine T.gg h <| have H := ifF c1 H; T.ff rfl c1 <| T.sk <| T.q <| T.qr rfl <| T.a (o_assign rfl) <| T.d <| T.bl <| bE H fun o1 hl G1 => T.at fun h => ?_
  refine g_cut (fun G => ∀ j1 (a : Act) (w : World), o1 = .inl (j1) → St Try.f13.ntmps F [] [] a w → G a w) 2 ?_ fun J1 => ?_
  ·intro j1 a w ho_ h
   rw [ho_] at G1
   refine T.gg h <| have H := eInl G1; T.qr rfl <| T.a (o_assign rfl) <| T.d <| T.at fun h => ?_
   rw [← som H]
   exact g_ret (vs := [.bool true]) h Try.func13 ⟨rfl, trivial⟩ ⟨(), rfl, (h.mem.pick [] (by decide) rfl)⟩
  refine g_loop (fun s1 G => ∀  (a : Act) (w : World), InR .i64 s1 → St Try.f13.ntmps F [(0, v1), (1, v2), (5, .int .i64 s1)] [Val (Kd.sl KAlarm) v1 a1, Val (Kd.sl KAlarm) v2 a2] a w → G a w) hl (fun s1 p1 H i1 => ?_) fun I_ => ?_
  ·intro  a w g3 h
   refine T.gg h <| T.q <| T.qr rfl <| T.mv rfl <| T.mv rfl <| T.u (fun m => (len_at 0 rfl m)) fun g4 => T.a (o_ln rfl (rd_at 0 rfl) t_v22) <| T.a (o_bin rfl rfl rfl) <| T.d <| T.at fun h => ?_
   by_cases c2 : decide (s1 < (a1.length : Int)) = true
   ·refine T.gg h <| have H := ifT c2 H; T.tt rfl c2 <| T.sk <| T.q <| T.bl <| T.q <| T.w [(0, v1), (1, v2), (5, .int .i64 s1)] [Val (Kd.sl KAlarm) v1 a1, Val (Kd.sl KAlarm) v2 a2] [0, 1] rfl (by decide) rfl <| bE H fun x1 ex1 H => bE H fun x2 ex2 H => T.at fun h => ?_
    refine Go.draw (E := [(0, v1), (1, v2), (5, .int .i64 s1)]) [] (L := [Val (Kd.sl KAlarm) v1 a1, Val (Kd.sl KAlarm) v2 a2]) h rfl rfl 8 [cn (v1), cn (.int .i64 s1), ce [0, 1] (elemP v1 (s1.toNat * Kd.n KAlarm)), cw [0, 1, 2] [] [] fun u => [Val KAlarm u x1], cn (v2), cn (.int .i64 s1), ce [4, 5] (elemP v2 (s1.toNat * Kd.n KAlarm)), cw [4, 5, 6] [] [] fun u => [Val KAlarm u x2]] rfl t_mxo (by kernel_rfl) (by rfl) ?_ fun f1 _ _ h => ?_
    ·exact ox rfl (o_move rfl) (ox rfl (o_move rfl) (ox rfl (o_ix rfl rfl (rd_at 0 rfl) ex1 t_v22) (oy rfl (o_lev rfl (rd_at 0 rfl) ex1 t_y28 (by decide)) (ox rfl (o_move rfl) (ox rfl (o_move rfl) (ox rfl (o_ix rfl rfl (rd_at 1 rfl) ex2 t_v22) (oy rfl (o_lev rfl (rd_at 1 rfl) ex2 t_y28 (by decide)) (obs_nil))))))))
    replace h := h.wk (E' := [(0, v1), (1, v2), (5, .int .i64 s1), (20, (f1 3)), (24, (f1 7))]) (L' := [Val KAlarm (f1 3) x1, Val KAlarm (f1 7) x2, Val (Kd.sl KAlarm) v1 a1, Val (Kd.sl KAlarm) v2 a2]) (by kernel_rfl) [0, 1, 2, 3] (by decide) (by kernel_rfl)
    refine T.gr h <| T.lo rfl <| T.a (o_nev rfl rfl (pv_at PAlarm 0 rfl) (pv_at PAlarm 1 rfl) rfl t_e28 (.cons sAlarm_At (eq_int t_u3) (.last sAlarm_Id (eq_int t_u3)))) <| T.d <| T.at fun h => ?_
    by_cases c3 : (!(decide (x1.At = x2.At) && (decide (x1.Id = x2.Id)))) = true
    ·refine T.gg h <| have H := ifT c3 H; T.tt rfl c3 <| T.qr rfl <| T.a (o_assign rfl) <| T.d <| T.at fun h => ?_
     have e_ := som H; subst e_
     rw [← nx_out i1] at G1
     have H := G1
     rw [← som H]
     exact g_ret (vs := [.bool false]) h Try.func13 ⟨rfl, trivial⟩ ⟨(), rfl, (h.mem.pick [] (by decide) rfl)⟩
    ·refine T.gg h <| have H := ifF c3 H; T.ff rfl c3 <| T.sk <| T.ib <| T.r rfl <| T.mv rfl <| T.a (o_bin rfl rfl rfl) <| lE H fun y1 ey1 H => T.a (o_assign' rfl (congrArg (fun z => Value.int .i64 z) ey1)) <| T.d <| T.at fun h => ?_
     have e_ := som H; subst e_
     exact Go.inLoop (nx_in i1 _ _ (ey1 ▸ (wrap_in _ _)) (h.wr [2, 3]))
   ·refine T.gg h <| have H := ifF c2 H; T.ff rfl c2 <| T.ex rfl <| T.at fun h => ?_
    have e_ := som H; subst e_
    exact J1 () _ _ (nx_out i1).symm (h.wr [])
  ·exact I_ _ _ (show InR .i64 0 by decide) (h.wr [0, 1])
def ref22_Same.g (k_ : Nat) (a1 : List TAlarm) (a2 : List TAlarm) : Option (Bool) :=
  (if (!decide ((a1.length : Int) = (a2.length : Int))) = true then some (false) else (loopK k_ (fun s1 => (if decide (s1 < (a1.length : Int)) = true then (idx a1 s1).bind fun x1 => (idx a2 s1).bind fun x2 => (if (!(decide (x1.At = x2.At) && (decide (x1.Id = x2.Id)))) = true then some (.inr (.inr (false))) else lt (IntKind.i64.wrap (s1 + 1)) fun y1 => some (.inl y1)) else some (.inr (.inl (()))))) 0).bind (Sum.elim (fun j1 => some (true)) (fun z_ => some (z_))))
theorem ref22_Same.le (k_ : Nat) (a1 : List TAlarm) (a2 : List TAlarm) : Le (ref22_Same.g k_ a1 a2) (ref22_Same.f a1 a2) := by
 unfold ref22_Same.g ref22_Same.f
 repeat' (first | with_reducible refine le_loop fun _ => ?_ | with_reducible refine le_bind ?_ fun _ => ?_ | with_reducible refine le_ite ?_ ?_ | with_reducible refine le_lt fun _ => ?_ | with_reducible refine le_elim (fun _ => ?_) (fun _ => ?_) _ | with_reducible exact le_refl _)
/-! drawbridge/drawbridgelaw22.heads -/
noncomputable def law22_heads.f  : Option (Bool) :=
  (timer_New.f).bind fun r1 => (r1).bind fun y1 => (timer_Wheel_Set.f y1 5 1).bind fun r2 => (timer_Wheel_Set.f r2 9 2).bind fun r3 => (timer_Wheel_Set.f r3 5 0).bind fun r4 => (timer_Wheel_Set.f r4 3 2).bind fun r5 => (timer_Wheel_Set.f r5 7 4).bind fun r6 => (timer_Wheel_Del.f r6 4).bind fun r7 => (timer_Wheel_Del.f r7.2 4).bind fun r8 => (timer_Wheel_Next.f r8.2).bind fun r9 => (timer_Wheel_Due.f r9.2.2 5).bind fun r10 => (timer_Wheel_Next.f r10.2).bind fun r11 => ((if r7.1 = true then (if (!r8.1) = true then (if r9.2.1 = true then (if decide (r9.1.Id = 2) = true then (if decide (r9.1.At = 3) = true then (ref22_Same.f r10.1 ([(⟨3, 2⟩ : TAlarm), (⟨5, 0⟩ : TAlarm), (⟨5, 1⟩ : TAlarm)] : List TAlarm)).bind fun r12 => (if r12 = true then (if (!r11.2.1) = true then (timer_Wheel_Len.f r11.2.2).bind fun r13 => lt (decide (r13.1 = 0)) fun y2 => some ((y2, r13.2)) else some ((false, r11.2.2))) else some ((false, r11.2.2))) else some ((false, r11.2.2))) else some ((false, r11.2.2))) else some ((false, r11.2.2))) else some ((false, r11.2.2))) else some ((false, r11.2.2)))).bind (fun j1 => some (j1.1))
set_option maxRecDepth 100000 in
set_option maxHeartbeats 4000000 in
theorem law22_heads.spc  (r : Bool) (H : law22_heads.f  = some r) : Spc Try.prog 7 [] [] [] (fun (s : Unit) => .bool r) (fun s => []) := by
 unfold law22_heads.f at H
 refine Spc.go Try.func7 rfl (by kernel_rfl) rfl rfl all_nil fun F a w h => ?_
 refine T.gg h <| T.qr rfl <| T.a (o_assign rfl) <| T.d <| T.qr rfl <| bE H fun r1 er1 H => T.s (o_call (timer_New.spc  r1 er1) rfl [] [] (by decide) rfl rfl) fun v1 => T.a (o_assign rfl) <| T.d <| T.q <| T.q <| bE H fun y1 ey1 H => T.at fun h => ?_
 obtain ⟨b1, eb1, h⟩ := h.unb 0 rfl ey1
 subst eb1
 refine T.gg h <| T.r rfl <| T.mv rfl <| T.a (o_ptn rfl t_u24) <| T.d <| T.ff rfl Bool.false_ne_true <| T.sk <| T.qr rfl <| T.mv rfl <| bE H fun r2 er2 H => T.a (o_call (timer_Wheel_Set.spc b1 y1 5 (show InR .i64 5 by decide) 1 (show InR .i64 1 by decide) r2 er2) rfl [] [0] (by decide) rfl rfl) <| T.d <| T.qr rfl <| T.mv rfl <| bE H fun r3 er3 H => T.a (o_call (timer_Wheel_Set.spc b1 r2 9 (show InR .i64 9 by decide) 2 (show InR .i64 2 by decide) r3 er3) rfl [] [0] (by decide) rfl rfl) <| T.d <| T.qr rfl <| T.mv rfl <| bE H fun r4 er4 H => T.a (o_call (timer_Wheel_Set.spc b1 r3 5 (show InR .i64 5 by decide) 0 (show InR .i64 0 by decide) r4 er4) rfl [] [0] (by decide) rfl rfl) <| T.d <| T.qr rfl <| T.mv rfl <| bE H fun r5 er5 H => T.a (o_call (timer_Wheel_Set.spc b1 r4 3 (show InR .i64 3 by decide) 2 (show InR .i64 2 by decide) r5 er5) rfl [] [0] (by decide) rfl rfl) <| T.d <| T.qr rfl <| T.mv rfl <| bE H fun r6 er6 H => T.a (o_call (timer_Wheel_Set.spc b1 r5 7 (show InR .i64 7 by decide) 4 (show InR .i64 4 by decide) r6 er6) rfl [] [0] (by decide) rfl rfl) <| T.d <| T.qr rfl <| T.mv rfl <| bE H fun r7 er7 H => T.a (o_call (timer_Wheel_Del.spc b1 r6 4 (show InR .i64 4 by decide) r7 er7) rfl [] [0] (by decide) rfl rfl) <| T.a (o_assign rfl) <| T.d <| T.qr rfl <| T.mv rfl <| bE H fun r8 er8 H => T.a (o_call (timer_Wheel_Del.spc b1 r7.2 4 (show InR .i64 4 by decide) r8 er8) rfl [] [0] (by decide) rfl rfl) <| T.a (o_assign rfl) <| T.d <| T.qr rfl <| T.mv rfl <| bE H fun r9 er9 H => T.s (o_call (timer_Wheel_Next.spc b1 r8.2 r9 er9) rfl [] [0] (by decide) rfl rfl) fun v2 => T.mv rfl <| T.a (o_extract rfl rfl) <| T.a (o_extract rfl rfl) <| T.s (o_alloc (K := KAlarm) (z := (.agg #[.int .i64 0, .int .i64 0])) rfl ZAlarm) fun b2 => T.z (o_st 0 rfl rfl rfl (pv_at PAlarm 1 rfl) rfl t_w28) <| T.a (o_assign rfl) <| T.d <| T.qr rfl <| T.mv rfl <| bE H fun r10 er10 H => T.s (o_call (timer_Wheel_Due.spc b1 r9.2.2 5 (show InR .i64 5 by decide) r10 er10) rfl [] [2] (by decide) rfl rfl) fun v3 => T.a (o_assign rfl) <| T.d <| T.qr rfl <| T.mv rfl <| bE H fun r11 er11 H => T.s (o_call (timer_Wheel_Next.spc b1 r10.2 r11 er11) rfl [] [1] (by decide) rfl rfl) fun v4 => T.mv rfl <| T.a (o_extract rfl rfl) <| T.a (o_extract rfl rfl) <| T.s (o_alloc (K := KAlarm) (z := (.agg #[.int .i64 0, .int .i64 0])) rfl ZAlarm) fun b3 => T.z (o_st 0 rfl rfl rfl (pv_at PAlarm 1 rfl) rfl t_w28) <| T.a (o_assign rfl) <| T.d <| T.q <| bE H fun o1 H G1 => T.at fun h => ?_
 refine g_cut (fun G => ∀ j1 (a : Act) (w : World), o1 = j1 → St Try.f7.ntmps F [(0, .bool j1.1)] [Fld Kwhl b1 0 j1.2, Fld KAlarm b3 0 r11.1, Fld KAlarm b2 0 r9.1] a w → G a w) 1 ?_ fun J1 => ?_
 ·intro j1 a w ho_ h
  rw [ho_] at G1
  have H := G1
  rw [← som H]
  exact g_ret (vs := [.bool j1.1]) h Try.func7 ⟨rfl, trivial⟩ ⟨(), rfl, (h.mem.pick [] (by decide) rfl)⟩
 refine T.gg h <| T.r rfl <| T.mv rfl <| T.mv rfl <| T.at fun h => ?_
 by_cases c1 : r7.1 = true
 ·refine T.gm h <| have H := ifT c1 H; T.ga rfl rfl c1 (o_move rfl) <| T.ga rfl rfl c1 (o_not rfl) <| T.a (o_pickT rfl rfl c1) <| T.mv rfl <| T.at fun h => ?_
  by_cases c2 : (!r8.1) = true
  ·refine T.gm h <| have H := ifT c2 H; T.ga rfl rfl c2 (o_move rfl) <| T.a (o_pickT rfl rfl c2) <| T.mv rfl <| T.at fun h => ?_
   by_cases c3 : r9.2.1 = true
   ·refine T.gm h <| have H := ifT c3 H; T.ga rfl rfl c3 (fa rfl t_f28_1) <| T.u (fun m => (in2 (fd_sub sAlarm_Id 5 rfl m))) fun g1 => T.ga rfl rfl c3 (o_lfx 5 rfl rfl sAlarm_Id rfl X_int t_y3) <| T.ga rfl rfl c3 (o_bin rfl rfl rfl) <| T.a (o_pickT rfl rfl c3) <| T.mv rfl <| T.at fun h => ?_
    by_cases c4 : decide (r9.1.Id = 2) = true
    ·refine T.gm h <| have H := ifT c4 H; T.ga rfl rfl c4 (fa rfl t_f28_0) <| T.u (fun m => (in2 (fd_sub sAlarm_At 5 rfl m))) fun g2 => T.ga rfl rfl c4 (o_lfx 5 rfl rfl sAlarm_At rfl X_int t_y3) <| T.ga rfl rfl c4 (o_bin rfl rfl rfl) <| T.a (o_pickT rfl rfl c4) <| T.mv rfl <| T.at fun h => ?_
     by_cases c5 : decide (r9.1.At = 3) = true
     ·refine T.gm h <| have H := ifT c5 H; T.ga rfl rfl c5 (o_move rfl) <| T.gs rfl rfl c5 (o_build (K := KAlarm) (x := (⟨3, 2⟩ : TAlarm)) (ps := [(0, .int .i64 3), (1, .int .i64 2)]) rfl (zs := zsAlarm) rfl t_b28 rfl (show PB (Kd.pair (Kd.int .i64) (Kd.last (Kd.int .i64))) (3, 2) 0 zsAlarm _ _ from (pb_part (pv_int (show InR .i64 3 by decide)) rfl (pb_lastp (pv_int (show InR .i64 2 by decide)) rfl)))) fun v5 => T.gs rfl rfl c5 (o_build (K := KAlarm) (x := (⟨5, 0⟩ : TAlarm)) (ps := [(0, .int .i64 5), (1, .int .i64 0)]) rfl (zs := zsAlarm) rfl t_b28 rfl (show PB (Kd.pair (Kd.int .i64) (Kd.last (Kd.int .i64))) (5, 0) 0 zsAlarm _ _ from (pb_part (pv_int (show InR .i64 5 by decide)) rfl (pb_lastp (pv_int (show InR .i64 0 by decide)) rfl)))) fun v6 => T.gs rfl rfl c5 (o_build (K := KAlarm) (x := (⟨5, 1⟩ : TAlarm)) (ps := [(0, .int .i64 5), (1, .int .i64 1)]) rfl (zs := zsAlarm) rfl t_b28 rfl (show PB (Kd.pair (Kd.int .i64) (Kd.last (Kd.int .i64))) (5, 1) 0 zsAlarm _ _ from (pb_part (pv_int (show InR .i64 5 by decide)) rfl (pb_lastp (pv_int (show InR .i64 1 by decide)) rfl)))) fun v7 => T.gs rfl rfl c5 (o_bs (K := KAlarm) (vs := [v5, v6, v7]) (xs := ([(⟨3, 2⟩ : TAlarm), (⟨5, 0⟩ : TAlarm), (⟨5, 1⟩ : TAlarm)] : List TAlarm)) rfl rfl (pvs_cons (pv_at PAlarm 2 rfl) (pvs_cons (pv_at PAlarm 1 rfl) (pvs_cons (pv_at PAlarm 0 rfl) pvs_nil))) t_a22 (by decide) (by decide)) fun v8 => T.mm (fun m => m.freeze 7 rfl) <| T.mm (fun m => m.freeze 0 rfl) <| bE H fun r12 er12 H => T.ga rfl rfl c5 (o_call (ref22_Same.spc v3 r10.1 v8 ([(⟨3, 2⟩ : TAlarm), (⟨5, 0⟩ : TAlarm), (⟨5, 1⟩ : TAlarm)] : List TAlarm) r12 er12) rfl [7, 0] [] (by decide) rfl rfl) <| T.a (o_pickT rfl rfl c5) <| T.mv rfl <| T.at fun h => ?_
      by_cases c6 : r12 = true
      ·refine T.gm h <| have H := ifT c6 H; T.ga rfl rfl c6 (o_move rfl) <| T.ga rfl rfl c6 (o_not rfl) <| T.a (o_pickT rfl rfl c6) <| T.mv rfl <| T.at fun h => ?_
       by_cases c7 : (!r11.2.1) = true
       ·exact T.gm h <| have H := ifT c7 H; T.ga rfl rfl c7 (o_move rfl) <| bE H fun r13 er13 H => T.ga rfl rfl c7 (o_call (timer_Wheel_Len.spc b1 r11.2.2 r13 er13) rfl [] [6] (by decide) rfl rfl) <| T.u (fun m => m.pur 0 rfl) fun g3 => T.ga rfl rfl c7 (o_bin rfl rfl rfl) <| T.a (o_pickT rfl rfl c7) <| lE H fun y2 ey2 H => T.a (o_assign' rfl (congrArg Value.bool ey2)) <| T.d <| T.at fun h => J1 (y2, r13.2) _ _ (som H).symm (h.wr [1, 6, 11])
       ·exact T.gm h <| have H := ifF c7 H; T.gk rfl rfl (nb_f c7) <| T.gk rfl rfl (nb_f c7) <| T.gk rfl rfl (nb_f c7) <| T.a (o_pickF rfl rfl c7) <| T.a (o_assign rfl) <| T.d <| T.at fun h => J1 (false, r11.2.2) _ _ (som H).symm (h.wr [6, 4, 9])
      ·exact T.gm h <| have H := ifF c6 H; T.gk rfl rfl (nb_f c6) <| T.gk rfl rfl (nb_f c6) <| T.a (o_pickF rfl rfl c6) <| T.mv rfl <| T.gk rfl rfl (nb_f Bool.false_ne_true) <| T.gk rfl rfl (nb_f Bool.false_ne_true) <| T.gk rfl rfl (nb_f Bool.false_ne_true) <| T.a (o_pickF rfl rfl Bool.false_ne_true) <| T.a (o_assign rfl) <| T.d <| T.at fun h => J1 (false, r11.2.2) _ _ (som H).symm (h.wr [6, 4, 9])
     ·exact T.gm h <| have H := ifF c5 H; T.gk rfl rfl (nb_f c5) <| T.gk rfl rfl (nb_f c5) <| T.gk rfl rfl (nb_f c5) <| T.gk rfl rfl (nb_f c5) <| T.gk rfl rfl (nb_f c5) <| T.gk rfl rfl (nb_f c5) <| T.a (o_pickF rfl rfl c5) <| T.mv rfl <| T.gk rfl rfl (nb_f Bool.false_ne_true) <| T.gk rfl rfl (nb_f Bool.false_ne_true) <| T.a (o_pickF rfl rfl Bool.false_ne_true) <| T.mv rfl <| T.gk rfl rfl (nb_f Bool.false_ne_true) <| T.gk rfl rfl (nb_f Bool.false_ne_true) <| T.gk rfl rfl (nb_f Bool.false_ne_true) <| T.a (o_pickF rfl rfl Bool.false_ne_true) <| T.a (o_assign rfl) <| T.d <| T.at fun h => J1 (false, r11.2.2) _ _ (som H).symm (h.wr [2, 0, 5])
    ·exact T.gm h <| have H := ifF c4 H; T.gk rfl rfl (nb_f c4) <| T.gk rfl rfl (nb_f c4) <| T.gk rfl rfl (nb_f c4) <| T.a (o_pickF rfl rfl c4) <| T.mv rfl <| T.gk rfl rfl (nb_f Bool.false_ne_true) <| T.gk rfl rfl (nb_f Bool.false_ne_true) <| T.gk rfl rfl (nb_f Bool.false_ne_true) <| T.gk rfl rfl (nb_f Bool.false_ne_true) <| T.gk rfl rfl (nb_f Bool.false_ne_true) <| T.gk rfl rfl (nb_f Bool.false_ne_true) <| T.a (o_pickF rfl rfl Bool.false_ne_true) <| T.mv rfl <| T.gk rfl rfl (nb_f Bool.false_ne_true) <| T.gk rfl rfl (nb_f Bool.false_ne_true) <| T.a (o_pickF rfl rfl Bool.false_ne_true) <| T.mv rfl <| T.gk rfl rfl (nb_f Bool.false_ne_true) <| T.gk rfl rfl (nb_f Bool.false_ne_true) <| T.gk rfl rfl (nb_f Bool.false_ne_true) <| T.a (o_pickF rfl rfl Bool.false_ne_true) <| T.a (o_assign rfl) <| T.d <| T.at fun h => J1 (false, r11.2.2) _ _ (som H).symm (h.wr [2, 0, 5])
   ·exact T.gm h <| have H := ifF c3 H; T.gk rfl rfl (nb_f c3) <| T.gk rfl rfl (nb_f c3) <| T.gk rfl rfl (nb_f c3) <| T.a (o_pickF rfl rfl c3) <| T.mv rfl <| T.gk rfl rfl (nb_f Bool.false_ne_true) <| T.gk rfl rfl (nb_f Bool.false_ne_true) <| T.gk rfl rfl (nb_f Bool.false_ne_true) <| T.a (o_pickF rfl rfl Bool.false_ne_true) <| T.mv rfl <| T.gk rfl rfl (nb_f Bool.false_ne_true) <| T.gk rfl rfl (nb_f Bool.false_ne_true) <| T.gk rfl rfl (nb_f Bool.false_ne_true) <| T.gk rfl rfl (nb_f Bool.false_ne_true) <| T.gk rfl rfl (nb_f Bool.false_ne_true) <| T.gk rfl rfl (nb_f Bool.false_ne_true) <| T.a (o_pickF rfl rfl Bool.false_ne_true) <| T.mv rfl <| T.gk rfl rfl (nb_f Bool.false_ne_true) <| T.gk rfl rfl (nb_f Bool.false_ne_true) <| T.a (o_pickF rfl rfl Bool.false_ne_true) <| T.mv rfl <| T.gk rfl rfl (nb_f Bool.false_ne_true) <| T.gk rfl rfl (nb_f Bool.false_ne_true) <| T.gk rfl rfl (nb_f Bool.false_ne_true) <| T.a (o_pickF rfl rfl Bool.false_ne_true) <| T.a (o_assign rfl) <| T.d <| T.at fun h => J1 (false, r11.2.2) _ _ (som H).symm (h.wr [2, 0, 5])
  ·exact T.gm h <| have H := ifF c2 H; T.gk rfl rfl (nb_f c2) <| T.a (o_pickF rfl rfl c2) <| T.mv rfl <| T.gk rfl rfl (nb_f Bool.false_ne_true) <| T.gk rfl rfl (nb_f Bool.false_ne_true) <| T.gk rfl rfl (nb_f Bool.false_ne_true) <| T.a (o_pickF rfl rfl Bool.false_ne_true) <| T.mv rfl <| T.gk rfl rfl (nb_f Bool.false_ne_true) <| T.gk rfl rfl (nb_f Bool.false_ne_true) <| T.gk rfl rfl (nb_f Bool.false_ne_true) <| T.a (o_pickF rfl rfl Bool.false_ne_true) <| T.mv rfl <| T.gk rfl rfl (nb_f Bool.false_ne_true) <| T.gk rfl rfl (nb_f Bool.false_ne_true) <| T.gk rfl rfl (nb_f Bool.false_ne_true) <| T.gk rfl rfl (nb_f Bool.false_ne_true) <| T.gk rfl rfl (nb_f Bool.false_ne_true) <| T.gk rfl rfl (nb_f Bool.false_ne_true) <| T.a (o_pickF rfl rfl Bool.false_ne_true) <| T.mv rfl <| T.gk rfl rfl (nb_f Bool.false_ne_true) <| T.gk rfl rfl (nb_f Bool.false_ne_true) <| T.a (o_pickF rfl rfl Bool.false_ne_true) <| T.mv rfl <| T.gk rfl rfl (nb_f Bool.false_ne_true) <| T.gk rfl rfl (nb_f Bool.false_ne_true) <| T.gk rfl rfl (nb_f Bool.false_ne_true) <| T.a (o_pickF rfl rfl Bool.false_ne_true) <| T.a (o_assign rfl) <| T.d <| T.at fun h => J1 (false, r11.2.2) _ _ (som H).symm (h.wr [2, 0, 5])
 ·exact T.gm h <| have H := ifF c1 H; T.gk rfl rfl (nb_f c1) <| T.gk rfl rfl (nb_f c1) <| T.a (o_pickF rfl rfl c1) <| T.mv rfl <| T.gk rfl rfl (nb_f Bool.false_ne_true) <| T.a (o_pickF rfl rfl Bool.false_ne_true) <| T.mv rfl <| T.gk rfl rfl (nb_f Bool.false_ne_true) <| T.gk rfl rfl (nb_f Bool.false_ne_true) <| T.gk rfl rfl (nb_f Bool.false_ne_true) <| T.a (o_pickF rfl rfl Bool.false_ne_true) <| T.mv rfl <| T.gk rfl rfl (nb_f Bool.false_ne_true) <| T.gk rfl rfl (nb_f Bool.false_ne_true) <| T.gk rfl rfl (nb_f Bool.false_ne_true) <| T.a (o_pickF rfl rfl Bool.false_ne_true) <| T.mv rfl <| T.gk rfl rfl (nb_f Bool.false_ne_true) <| T.gk rfl rfl (nb_f Bool.false_ne_true) <| T.gk rfl rfl (nb_f Bool.false_ne_true) <| T.gk rfl rfl (nb_f Bool.false_ne_true) <| T.gk rfl rfl (nb_f Bool.false_ne_true) <| T.gk rfl rfl (nb_f Bool.false_ne_true) <| T.a (o_pickF rfl rfl Bool.false_ne_true) <| T.mv rfl <| T.gk rfl rfl (nb_f Bool.false_ne_true) <| T.gk rfl rfl (nb_f Bool.false_ne_true) <| T.a (o_pickF rfl rfl Bool.false_ne_true) <| T.mv rfl <| T.gk rfl rfl (nb_f Bool.false_ne_true) <| T.gk rfl rfl (nb_f Bool.false_ne_true) <| T.gk rfl rfl (nb_f Bool.false_ne_true) <| T.a (o_pickF rfl rfl Bool.false_ne_true) <| T.a (o_assign rfl) <| T.d <| T.at fun h => J1 (false, r11.2.2) _ _ (som H).symm (h.wr [2, 0, 5])
def law22_heads.g (k_ : Nat)  : Option (Bool) :=
  (timer_New.g k_).bind fun r1 => (r1).bind fun y1 => (timer_Wheel_Set.g k_ y1 5 1).bind fun r2 => (timer_Wheel_Set.g k_ r2 9 2).bind fun r3 => (timer_Wheel_Set.g k_ r3 5 0).bind fun r4 => (timer_Wheel_Set.g k_ r4 3 2).bind fun r5 => (timer_Wheel_Set.g k_ r5 7 4).bind fun r6 => (timer_Wheel_Del.g k_ r6 4).bind fun r7 => (timer_Wheel_Del.g k_ r7.2 4).bind fun r8 => (timer_Wheel_Next.g k_ r8.2).bind fun r9 => (timer_Wheel_Due.g k_ r9.2.2 5).bind fun r10 => (timer_Wheel_Next.g k_ r10.2).bind fun r11 => ((if r7.1 = true then (if (!r8.1) = true then (if r9.2.1 = true then (if decide (r9.1.Id = 2) = true then (if decide (r9.1.At = 3) = true then (ref22_Same.g k_ r10.1 ([(⟨3, 2⟩ : TAlarm), (⟨5, 0⟩ : TAlarm), (⟨5, 1⟩ : TAlarm)] : List TAlarm)).bind fun r12 => (if r12 = true then (if (!r11.2.1) = true then (timer_Wheel_Len.g k_ r11.2.2).bind fun r13 => lt (decide (r13.1 = 0)) fun y2 => some ((y2, r13.2)) else some ((false, r11.2.2))) else some ((false, r11.2.2))) else some ((false, r11.2.2))) else some ((false, r11.2.2))) else some ((false, r11.2.2))) else some ((false, r11.2.2))) else some ((false, r11.2.2)))).bind (fun j1 => some (j1.1))
theorem law22_heads.le (k_ : Nat)  : Le (law22_heads.g k_ ) (law22_heads.f ) := by
 unfold law22_heads.g law22_heads.f
 repeat' (first | with_reducible refine le_loop fun _ => ?_ | with_reducible refine le_bind ?_ fun _ => ?_ | with_reducible refine le_ite ?_ ?_ | with_reducible refine le_lt fun _ => ?_ | with_reducible refine le_elim (fun _ => ?_) (fun _ => ?_) _ | with_reducible apply ref22_Same.le | with_reducible apply timer_New.le | with_reducible apply timer_Wheel_Del.le | with_reducible apply timer_Wheel_Due.le | with_reducible apply timer_Wheel_Len.le | with_reducible apply timer_Wheel_Next.le | with_reducible apply timer_Wheel_Set.le | with_reducible exact le_refl _)
/-! drawbridge/drawbridgelaw22.TimerDels -/
noncomputable def law22_TimerDels.f (a1 : List TAlarm) (a2 : Int) (a3 : Int) : Option (Bool) :=
  (if decide (100 < (a1.length : Int)) = true then (law22_heads.f).bind fun r1 => some (r1) else (timer_New.f).bind fun r2 => (timer_New.f).bind fun r3 => (r2).bind fun y1 => (r3).bind fun y2 => (some (false)).bind (fun j1 => (if j1 = true then some (false) else (loop (fun s1 => (if decide (s1.1 < (a1.length : Int)) = true then (((idx a1 s1.1).bind fun x1 => (idx a1 s1.1).bind fun x2 => (timer_Wheel_Set.f s1.2.2 x1.At x2.Id).bind fun r4 => (idx a1 s1.1).bind fun x3 => (if (!decide (x3.Id = a2)) = true then (idx a1 s1.1).bind fun x4 => (idx a1 s1.1).bind fun x5 => (timer_Wheel_Set.f s1.2.1 x4.At x5.Id).bind fun r5 => some ((r5, r4)) else some ((s1.2.1, r4)))).bind (fun j2 => some ((j2.1, j2.2)))).bind (fun j3 => lt (IntKind.i64.wrap (s1.1 + 1)) fun y3 => some (.inl (y3, j3.1, j3.2))) else some (.inr ((s1.2.1, s1.2.2))))) (0, y2, y1)).bind (fun j4 => (timer_Wheel_Len.f j4.2).bind fun r6 => (timer_Wheel_Del.f r6.2 a2).bind fun r7 => ((timer_Wheel_Len.f j4.1).bind fun r8 => (if (!(r7.1 == (!decide (r6.1 = r8.1)))) = true then some ((true, r8.2, r7.2)) else (timer_Wheel_All.f r7.2).bind fun r9 => (timer_Wheel_All.f r8.2).bind fun r10 => (ref22_Same.f r9.1 r10.1).bind fun r11 => some (((!r11), r10.2, r9.2)))).bind (fun j5 => (if j5.1 = true then some (false) else (timer_Wheel_Due.f j5.2.2 a3).bind fun r12 => (timer_Wheel_Due.f j5.2.1 a3).bind fun r13 => (loop (fun s2 => (if decide (s2 < (r12.1.length : Int)) = true then (idx r12.1 s2).bind fun x6 => (if decide (x6.Id = a2) = true then some (.inr (.inr (false))) else lt (IntKind.i64.wrap (s2 + 1)) fun y4 => some (.inl y4)) else some (.inr (.inl (()))))) 0).bind (Sum.elim (fun j6 => ((ref22_Same.f r12.1 r13.1).bind fun r14 => (if r14 = true then (timer_Wheel_Len.f r12.2).bind fun r15 => (timer_Wheel_Len.f r13.2).bind fun r16 => (if decide (r15.1 = r16.1) = true then (law22_heads.f).bind fun r17 => some ((r17, r16.2, r15.2)) else some ((false, r16.2, r15.2))) else some ((false, r13.2, r12.2)))).bind (fun j7 => some (j7.1))) (fun z_ => some (z_)))))))))
set_option maxRecDepth 100000 in
set_option maxHeartbeats 4000000 in
theorem law22_TimerDels.spc (v1 : Value) (a1 : List TAlarm) (a2 : Int) (ha2 : InR .i64 a2) (a3 : Int) (ha3 : InR .i64 a3) (r : Bool) (H : law22_TimerDels.f a1 a2 a3 = some r) : Spc Try.prog 4 [v1, .int .i64 a2, .int .i64 a3] [Val (Kd.sl KAlarm) v1 a1] [] (fun (s : Unit) => .bool r) (fun s => []) := by
 unfold law22_TimerDels.f at H
 refine Spc.go Try.func4 rfl (by kernel_rfl) rfl rfl (all_cons (Val.per Per_sl) all_nil) fun F a w h => ?_
 refine T.gg h <| T.qr rfl <| T.a (o_assign rfl) <| T.d <| T.q <| T.qr rfl <| T.mv rfl <| T.u (fun m => (len_at 0 rfl m)) fun g1 => T.a (o_ln rfl (rd_at 0 rfl) t_v22) <| T.a (o_bin rfl rfl rfl) <| T.d <| T.at fun h => ?_
 by_cases c1 : decide (100 < (a1.length : Int)) = true
 ·refine T.gg h <| have H := ifT c1 H; T.tt rfl c1 <| T.qr rfl <| bE H fun r1 er1 H => T.a (o_call (law22_heads.spc  r1 er1) rfl [] [] (by decide) rfl rfl) <| T.a (o_assign rfl) <| T.d <| T.at fun h => ?_
  rw [← som H]
  exact g_ret (vs := [.bool r1]) h Try.func4 ⟨rfl, trivial⟩ ⟨(), rfl, (h.mem.pick [] (by decide) rfl)⟩
 ·refine T.gg h <| have H := ifF c1 H; T.ff rfl c1 <| T.sk <| T.qr rfl <| bE H fun r2 er2 H => T.s (o_call (timer_New.spc  r2 er2) rfl [] [] (by decide) rfl rfl) fun v2 => bE H fun r3 er3 H => T.s (o_call (timer_New.spc  r3 er3) rfl [] [] (by decide) rfl rfl) fun v3 => T.a (o_assign rfl) <| T.a (o_assign rfl) <| T.d <| T.q <| T.q <| bE H fun y1 ey1 H => T.at fun h => ?_
  obtain ⟨b1, eb1, h⟩ := h.unb 1 rfl ey1
  subst eb1
  obtain ⟨y2, ey2, H⟩ := bindE H
  obtain ⟨b2, eb2, h⟩ := h.unb 0 rfl ey2
  subst eb2
  obtain ⟨o1, H, G1⟩ := bindE H
  refine g_cut (fun G => ∀ j1 (a : Act) (w : World), o1 = j1 → St Try.f4.ntmps F [(0, v1), (1, .int .i64 a2), (2, .int .i64 a3), (7, pt b1), (8, pt b2), (26, .bool j1)] [Val (Kd.sl KAlarm) v1 a1, Fld Kwhl b2 0 y2, Fld Kwhl b1 0 y1] a w → G a w) 1 ?_ fun J1 => ?_
  ·intro j1 a w ho_ h
   rw [ho_] at G1
   have H := G1
   by_cases c2 : j1 = true
   ·refine T.gg h <| have H := ifT c2 H; T.tt rfl c2 <| T.qr rfl <| T.a (o_assign rfl) <| T.d <| T.at fun h => ?_
    rw [← som H]
    exact g_ret (vs := [.bool false]) h Try.func4 ⟨rfl, trivial⟩ ⟨(), rfl, (h.mem.pick [] (by decide) rfl)⟩
   ·refine T.gg h <| have H := ifF c2 H; T.ff rfl c2 <| T.sk <| T.q <| T.qr rfl <| T.a (o_assign rfl) <| T.d <| T.bl <| bE H fun o2 hl G2 => T.at fun h => ?_
    refine g_cut (fun G => ∀ j4 (a : Act) (w : World), o2 = j4 → St Try.f4.ntmps F [(1, .int .i64 a2), (2, .int .i64 a3), (7, pt b1), (8, pt b2)] [Fld Kwhl b2 0 j4.1, Fld Kwhl b1 0 j4.2] a w → G a w) 2 ?_ fun J4 => ?_
    ·intro j4 a w ho_ h
     rw [ho_] at G2
     refine T.gg h <| have H := G2; T.qr rfl <| T.mv rfl <| bE H fun r6 er6 H => T.a (o_call (timer_Wheel_Len.spc b1 j4.2 r6 er6) rfl [] [1] (by decide) rfl rfl) <| T.u (fun m => m.pur 0 rfl) fun g9 => T.a (o_assign rfl) <| T.d <| T.qr rfl <| T.mv rfl <| T.mv rfl <| bE H fun r7 er7 H => T.a (o_call (timer_Wheel_Del.spc b1 r6.2 a2 ha2 r7 er7) rfl [] [1] (by decide) rfl rfl) <| T.a (o_assign rfl) <| T.d <| T.q <| T.q <| bE H fun o5 H G5 => T.at fun h => ?_
     refine g_cut (fun G => ∀ j5 (a : Act) (w : World), o5 = j5 → St Try.f4.ntmps F [(1, .int .i64 a2), (2, .int .i64 a3), (7, pt b1), (8, pt b2), (82, .bool j5.1)] [Fld Kwhl b2 0 j5.2.1, Fld Kwhl b1 0 j5.2.2] a w → G a w) 1 ?_ fun J5 => ?_
     ·intro j5 a w ho_ h
      rw [ho_] at G5
      have H := G5
      by_cases c6 : j5.1 = true
      ·refine T.gg h <| have H := ifT c6 H; T.tt rfl c6 <| T.qr rfl <| T.a (o_assign rfl) <| T.d <| T.at fun h => ?_
       rw [← som H]
       exact g_ret (vs := [.bool false]) h Try.func4 ⟨rfl, trivial⟩ ⟨(), rfl, (h.mem.pick [] (by decide) rfl)⟩
      ·refine T.gg h <| have H := ifF c6 H; T.ff rfl c6 <| T.sk <| T.qr rfl <| T.mv rfl <| T.mv rfl <| bE H fun r12 er12 H => T.s (o_call (timer_Wheel_Due.spc b1 j5.2.2 a3 ha3 r12 er12) rfl [] [1] (by decide) rfl rfl) fun v6 => T.mv rfl <| T.mv rfl <| bE H fun r13 er13 H => T.s (o_call (timer_Wheel_Due.spc b2 j5.2.1 a3 ha3 r13 er13) rfl [] [2] (by decide) rfl rfl) fun v7 => T.a (o_assign rfl) <| T.a (o_assign rfl) <| T.d <| T.q <| T.qr rfl <| T.a (o_assign rfl) <| T.d <| T.bl <| bE H fun o6 hl G6 => T.at fun h => ?_
       refine g_cut (fun G => ∀ j6 (a : Act) (w : World), o6 = .inl (j6) → St Try.f4.ntmps F [(7, pt b1), (8, pt b2), (12, v6), (13, v7)] [Val (Kd.osl KAlarm) v6 r12.1, Val (Kd.osl KAlarm) v7 r13.1, Fld Kwhl b2 0 r13.2, Fld Kwhl b1 0 r12.2] a w → G a w) 2 ?_ fun J6 => ?_
       ·intro j6 a w ho_ h
        rw [ho_] at G6
        refine T.gg h <| have H := eInl G6; T.q <| bE H fun o7 H G7 => T.at fun h => ?_
        refine g_cut (fun G => ∀ j7 (a : Act) (w : World), o7 = j7 → St Try.f4.ntmps F [(6, .bool j7.1)] [Fld Kwhl b2 0 j7.2.1, Fld Kwhl b1 0 j7.2.2] a w → G a w) 1 ?_ fun J7 => ?_
        ·intro j7 a w ho_ h
         rw [ho_] at G7
         have H := G7
         rw [← som H]
         exact g_ret (vs := [.bool j7.1]) h Try.func4 ⟨rfl, trivial⟩ ⟨(), rfl, (h.mem.pick [] (by decide) rfl)⟩
        refine T.gg h <| T.r rfl <| T.mv rfl <| T.mv rfl <| T.mm (fun m => m.freeze 0 rfl) <| T.mm (fun m => m.freeze 1 rfl) <| bE H fun r14 er14 H => T.a (o_call (ref22_Same.spc v6 r12.1 v7 r13.1 r14 er14) rfl [0, 1] [] (by decide) rfl rfl) <| T.mv rfl <| T.at fun h => ?_
        by_cases c9 : r14 = true
        ·refine T.gm h <| have H := ifT c9 H; T.ga rfl rfl c9 (o_move rfl) <| bE H fun r15 er15 H => T.ga rfl rfl c9 (o_call (timer_Wheel_Len.spc b1 r12.2 r15 er15) rfl [] [3] (by decide) rfl rfl) <| T.u (fun m => m.pur 0 rfl) fun g14 => T.ga rfl rfl c9 (o_move rfl) <| bE H fun r16 er16 H => T.ga rfl rfl c9 (o_call (timer_Wheel_Len.spc b2 r13.2 r16 er16) rfl [] [4] (by decide) rfl rfl) <| T.u (fun m => m.pur 0 rfl) fun g15 => T.ga rfl rfl c9 (o_bin rfl rfl rfl) <| T.a (o_pickT rfl rfl c9) <| T.mv rfl <| T.at fun h => ?_
         by_cases c10 : decide (r15.1 = r16.1) = true
         ·exact T.gm h <| have H := ifT c10 H; bE H fun r17 er17 H => T.ga rfl rfl c10 (o_call (law22_heads.spc  r17 er17) rfl [] [] (by decide) rfl rfl) <| T.a (o_pickT rfl rfl c10) <| T.a (o_assign rfl) <| T.d <| T.at fun h => J7 (r17, r16.2, r15.2) _ _ (som H).symm (h.wr [1, 3])
         ·exact T.gm h <| have H := ifF c10 H; T.gk rfl rfl (nb_f c10) <| T.a (o_pickF rfl rfl c10) <| T.a (o_assign rfl) <| T.d <| T.at fun h => J7 (false, r16.2, r15.2) _ _ (som H).symm (h.wr [1, 3])
        ·exact T.gm h <| have H := ifF c9 H; T.gk rfl rfl (nb_f c9) <| T.gk rfl rfl (nb_f c9) <| T.gk rfl rfl (nb_f c9) <| T.gk rfl rfl (nb_f c9) <| T.gk rfl rfl (nb_f c9) <| T.a (o_pickF rfl rfl c9) <| T.mv rfl <| T.gk rfl rfl (nb_f Bool.false_ne_true) <| T.a (o_pickF rfl rfl Bool.false_ne_true) <| T.a (o_assign rfl) <| T.d <| T.at fun h => J7 (false, r13.2, r12.2) _ _ (som H).symm (h.wr [2, 3])
       refine g_loop (fun s2 G => ∀  (a : Act) (w : World), InR .i64 s2 → St Try.f4.ntmps F [(1, .int .i64 a2), (7, pt b1), (8, pt b2), (12, v6), (13, v7), (14, .int .i64 s2)] [Val (Kd.osl KAlarm) v6 r12.1, Val (Kd.osl KAlarm) v7 r13.1, Fld Kwhl b2 0 r13.2, Fld Kwhl b1 0 r12.2] a w → G a w) hl (fun s2 p2 H i2 => ?_) fun I_ => ?_
       ·intro  a w g11 h
        refine T.gg h <| T.q <| T.qr rfl <| T.mv rfl <| T.mv rfl <| T.u (fun m => (len_own 0 rfl m)) fun g12 => T.a (o_ln rfl (rd_own 0 rfl) t_v22) <| T.a (o_bin rfl rfl rfl) <| T.d <| T.at fun h => ?_
        by_cases c7 : decide (s2 < (r12.1.length : Int)) = true
        ·refine T.gg h <| have H := ifT c7 H; T.tt rfl c7 <| T.sk <| T.q <| T.bl <| T.qr rfl <| T.mv rfl <| T.mv rfl <| bE H fun x6 ex6 H => T.a (o_ix rfl rfl (rd_own 0 rfl) ex6 t_v22) <| T.a (o_fae (k' := s2.toNat * Kd.n KAlarm + 1) rfl (rd_own 0 rfl) ex6 (by decide) t_f28_1 rfl rfl) <| T.u (fun m => (in1 (rd_sub sAlarm_Id (rd_own 0 rfl) ex6 m))) fun g13 => T.a (o_lsx rfl (rd_own 0 rfl) ex6 sAlarm_Id X_int t_y3 (by decide)) <| T.mv rfl <| T.a (o_bin rfl rfl rfl) <| T.d <| T.at fun h => ?_
         by_cases c8 : decide (x6.Id = a2) = true
         ·refine T.gg h <| have H := ifT c8 H; T.tt rfl c8 <| T.qr rfl <| T.a (o_assign rfl) <| T.d <| T.at fun h => ?_
          have e_ := som H; subst e_
          rw [← nx_out i2] at G6
          have H := G6
          rw [← som H]
          exact g_ret (vs := [.bool false]) h Try.func4 ⟨rfl, trivial⟩ ⟨(), rfl, (h.mem.pick [] (by decide) rfl)⟩
         ·refine T.gg h <| have H := ifF c8 H; T.ff rfl c8 <| T.sk <| T.ib <| T.r rfl <| T.mv rfl <| T.a (o_bin rfl rfl rfl) <| lE H fun y4 ey4 H => T.a (o_assign' rfl (congrArg (fun z => Value.int .i64 z) ey4)) <| T.d <| T.at fun h => ?_
          have e_ := som H; subst e_
          exact Go.inLoop (nx_in i2 _ _ (ey4 ▸ (wrap_in _ _)) (h.wr [0, 1, 2, 3]))
        ·refine T.gg h <| have H := ifF c7 H; T.ff rfl c7 <| T.ex rfl <| T.at fun h => ?_
         have e_ := som H; subst e_
         exact J6 () _ _ (nx_out i2).symm (h.wr [0, 1, 2, 3])
       ·exact I_ _ _ (show InR .i64 0 by decide) (h.wr [2, 0, 1, 3])
     refine T.gg h <| T.r rfl <| T.mv rfl <| T.mv rfl <| T.mv rfl <| bE H fun r8 er8 H => T.a (o_call (timer_Wheel_Len.spc b2 j4.1 r8 er8) rfl [] [3] (by decide) rfl rfl) <| T.u (fun m => m.pur 0 rfl) fun g10 => T.a (o_bin rfl rfl rfl) <| T.a (o_neb rfl rfl t_u4) <| T.mv rfl <| T.at fun h => ?_
     by_cases c5 : (!(r7.1 == (!decide (r6.1 = r8.1)))) = true
     ·exact T.gm h <| have H := ifT c5 H; T.gk rfl rfl (nb_t c5) <| T.gk rfl rfl (nb_t c5) <| T.gk rfl rfl (nb_t c5) <| T.gk rfl rfl (nb_t c5) <| T.gk rfl rfl (nb_t c5) <| T.gk rfl rfl (nb_t c5) <| T.a (o_pickT rfl rfl c5) <| T.d <| T.at fun h => J5 (true, r8.2, r7.2) _ _ (som H).symm (h.wr [1, 2])
     ·exact T.gm h <| have H := ifF c5 H; T.ga rfl rfl (nbF c5) (o_move rfl) <| bE H fun r9 er9 H => T.gs rfl rfl (nbF c5) (o_call (timer_Wheel_All.spc b1 r7.2 r9 er9) rfl [] [2] (by decide) rfl rfl) fun v4 => T.ga rfl rfl (nbF c5) (o_move rfl) <| bE H fun r10 er10 H => T.gs rfl rfl (nbF c5) (o_call (timer_Wheel_All.spc b2 r8.2 r10 er10) rfl [] [3] (by decide) rfl rfl) fun v5 => T.mm (fun m => m.freeze 2 rfl) <| T.mm (fun m => m.freeze 0 rfl) <| bE H fun r11 er11 H => T.ga rfl rfl (nbF c5) (o_call (ref22_Same.spc v4 r9.1 v5 r10.1 r11 er11) rfl [2, 0] [] (by decide) rfl rfl) <| T.ga rfl rfl (nbF c5) (o_not rfl) <| T.a (o_pickF rfl rfl c5) <| T.d <| T.at fun h => J5 ((!r11), r10.2, r9.2) _ _ (som H).symm (h.wr [1, 3])
    refine g_loop (fun s1 G => ∀  (a : Act) (w : World), InR .i64 s1.1 → St Try.f4.ntmps F [(0, v1), (1, .int .i64 a2), (2, .int .i64 a3), (7, pt b1), (8, pt b2), (9, .int .i64 s1.1)] [Val (Kd.sl KAlarm) v1 a1, Fld Kwhl b2 0 s1.2.1, Fld Kwhl b1 0 s1.2.2] a w → G a w) hl (fun s1 p1 H i1 => ?_) fun I_ => ?_
    ·intro  a w g2 h
     refine T.gg h <| T.q <| T.qr rfl <| T.mv rfl <| T.mv rfl <| T.u (fun m => (len_at 0 rfl m)) fun g3 => T.a (o_ln rfl (rd_at 0 rfl) t_v22) <| T.a (o_bin rfl rfl rfl) <| T.d <| T.at fun h => ?_
     by_cases c3 : decide (s1.1 < (a1.length : Int)) = true
     ·refine T.gg h <| have H := ifT c3 H; T.tt rfl c3 <| T.sk <| T.q <| bE H fun o3 H G3 => T.at fun h => ?_
      refine g_cut (fun G => ∀ j3 (a : Act) (w : World), o3 = j3 → St Try.f4.ntmps F [(0, v1), (1, .int .i64 a2), (2, .int .i64 a3), (7, pt b1), (8, pt b2), (9, .int .i64 s1.1)] [Val (Kd.sl KAlarm) v1 a1, Fld Kwhl b2 0 j3.1, Fld Kwhl b1 0 j3.2] a w → G a w) 1 ?_ fun J3 => ?_
      ·intro j3 a w ho_ h
       rw [ho_] at G3
       refine T.gg h <| have H := G3; T.r rfl <| T.mv rfl <| T.a (o_bin rfl rfl rfl) <| lE H fun y3 ey3 H => T.a (o_assign' rfl (congrArg (fun z => Value.int .i64 z) ey3)) <| T.d <| T.at fun h => ?_
       have e_ := som H; subst e_
       exact Go.inLoop (nx_in i1 _ _ (ey3 ▸ (wrap_in _ _)) (h.wr [0, 1, 2]))
      refine T.gg h <| T.bl <| bE H fun o4 H G4 => T.at fun h => ?_
      refine g_cut (fun G => ∀ j2 (a : Act) (w : World), o4 = j2 → St Try.f4.ntmps F [(0, v1), (1, .int .i64 a2), (2, .int .i64 a3), (7, pt b1), (8, pt b2), (9, .int .i64 s1.1)] [Val (Kd.sl KAlarm) v1 a1, Fld Kwhl b2 0 j2.1, Fld Kwhl b1 0 j2.2] a w → G a w) 2 ?_ fun J2 => ?_
      ·intro j2 a w ho_ h
       rw [ho_] at G4
       have H := G4
       exact J3 (j2.1, j2.2) _ _ (som H).symm (h.wr [0, 1, 2])
      refine T.gg h <| T.qc (by kernel_rfl) t_mxo <| T.mv rfl <| T.mv rfl <| T.mv rfl <| bE H fun x1 ex1 H => T.a (o_ix rfl rfl (rd_at 0 rfl) ex1 t_v22) <| T.a (o_fae (k' := s1.1.toNat * Kd.n KAlarm + 0) rfl (rd_at 0 rfl) ex1 (by decide) t_f28_0 rfl rfl) <| T.u (fun m => (in1 (rd_sub sAlarm_At (rd_at 0 rfl) ex1 m))) fun g4 => T.a (o_lsx rfl (rd_at 0 rfl) ex1 sAlarm_At X_int t_y3 (by decide)) <| T.mv rfl <| T.mv rfl <| bE H fun x2 ex2 H => T.a (o_ix rfl rfl (rd_at 0 rfl) ex2 t_v22) <| T.a (o_fae (k' := s1.1.toNat * Kd.n KAlarm + 1) rfl (rd_at 0 rfl) ex2 (by decide) t_f28_1 rfl rfl) <| T.u (fun m => (in1 (rd_sub sAlarm_Id (rd_at 0 rfl) ex2 m))) fun g5 => T.a (o_lsx rfl (rd_at 0 rfl) ex2 sAlarm_Id X_int t_y3 (by decide)) <| bE H fun r4 er4 H => T.a (o_call (timer_Wheel_Set.spc b1 s1.2.2 x1.At g4 x2.Id g5 r4 er4) rfl [] [2] (by decide) rfl rfl) <| T.d <| T.qr rfl <| T.mv rfl <| T.mv rfl <| bE H fun x3 ex3 H => T.a (o_ix rfl rfl (rd_at 1 rfl) ex3 t_v22) <| T.a (o_fae (k' := s1.1.toNat * Kd.n KAlarm + 1) rfl (rd_at 1 rfl) ex3 (by decide) t_f28_1 rfl rfl) <| T.u (fun m => (in1 (rd_sub sAlarm_Id (rd_at 1 rfl) ex3 m))) fun g6 => T.a (o_lsx rfl (rd_at 1 rfl) ex3 sAlarm_Id X_int t_y3 (by decide)) <| T.mv rfl <| T.a (o_bin rfl rfl rfl) <| T.d <| T.at fun h => ?_
      by_cases c4 : (!decide (x3.Id = a2)) = true
      ·exact T.gg h <| have H := ifT c4 H; T.tt rfl c4 <| T.c (by kernel_rfl) t_mxo <| T.mv rfl <| T.mv rfl <| T.mv rfl <| bE H fun x4 ex4 H => T.a (o_ix rfl rfl (rd_at 1 rfl) ex4 t_v22) <| T.a (o_fae (k' := s1.1.toNat * Kd.n KAlarm + 0) rfl (rd_at 1 rfl) ex4 (by decide) t_f28_0 rfl rfl) <| T.u (fun m => (in1 (rd_sub sAlarm_At (rd_at 1 rfl) ex4 m))) fun g7 => T.a (o_lsx rfl (rd_at 1 rfl) ex4 sAlarm_At X_int t_y3 (by decide)) <| T.mv rfl <| T.mv rfl <| bE H fun x5 ex5 H => T.a (o_ix rfl rfl (rd_at 1 rfl) ex5 t_v22) <| T.a (o_fae (k' := s1.1.toNat * Kd.n KAlarm + 1) rfl (rd_at 1 rfl) ex5 (by decide) t_f28_1 rfl rfl) <| T.u (fun m => (in1 (rd_sub sAlarm_Id (rd_at 1 rfl) ex5 m))) fun g8 => T.a (o_lsx rfl (rd_at 1 rfl) ex5 sAlarm_Id X_int t_y3 (by decide)) <| bE H fun r5 er5 H => T.a (o_call (timer_Wheel_Set.spc b2 s1.2.1 x4.At g7 x5.Id g8 r5 er5) rfl [] [2] (by decide) rfl rfl) <| T.d <| T.ib <| T.at fun h => J2 (r5, r4) _ _ (som H).symm (h.wr [2, 0, 1])
      ·exact T.gg h <| have H := ifF c4 H; T.ff rfl c4 <| T.sk <| T.ib <| T.at fun h => J2 (s1.2.1, r4) _ _ (som H).symm (h.wr [1, 2, 0])
     ·refine T.gg h <| have H := ifF c3 H; T.ff rfl c3 <| T.ex rfl <| T.at fun h => ?_
      have e_ := som H; subst e_
      exact J4 (s1.2.1, s1.2.2) _ _ (nx_out i1).symm (h.wr [1, 2])
    ·exact I_ _ _ (show InR .i64 0 by decide) (h.wr [0, 1, 2])
  exact T.gg h <| T.r rfl <| T.mv rfl <| T.a (o_ptn rfl t_u24) <| T.mv rfl <| T.ga rfl rfl (nbF Bool.false_ne_true) (o_move rfl) <| T.ga rfl rfl (nbF Bool.false_ne_true) (o_ptn rfl t_u24) <| T.a (o_pickF rfl rfl Bool.false_ne_true) <| T.d <| T.at fun h => J1 false _ _ (som H).symm (h.wr [2, 0, 1])
def law22_TimerDels.g (k_ : Nat) (a1 : List TAlarm) (a2 : Int) (a3 : Int) : Option (Bool) :=
  (if decide (100 < (a1.length : Int)) = true then (law22_heads.g k_).bind fun r1 => some (r1) else (timer_New.g k_).bind fun r2 => (timer_New.g k_).bind fun r3 => (r2).bind fun y1 => (r3).bind fun y2 => (some (false)).bind (fun j1 => (if j1 = true then some (false) else (loopK k_ (fun s1 => (if decide (s1.1 < (a1.length : Int)) = true then (((idx a1 s1.1).bind fun x1 => (idx a1 s1.1).bind fun x2 => (timer_Wheel_Set.g k_ s1.2.2 x1.At x2.Id).bind fun r4 => (idx a1 s1.1).bind fun x3 => (if (!decide (x3.Id = a2)) = true then (idx a1 s1.1).bind fun x4 => (idx a1 s1.1).bind fun x5 => (timer_Wheel_Set.g k_ s1.2.1 x4.At x5.Id).bind fun r5 => some ((r5, r4)) else some ((s1.2.1, r4)))).bind (fun j2 => some ((j2.1, j2.2)))).bind (fun j3 => lt (IntKind.i64.wrap (s1.1 + 1)) fun y3 => some (.inl (y3, j3.1, j3.2))) else some (.inr ((s1.2.1, s1.2.2))))) (0, y2, y1)).bind (fun j4 => (timer_Wheel_Len.g k_ j4.2).bind fun r6 => (timer_Wheel_Del.g k_ r6.2 a2).bind fun r7 => ((timer_Wheel_Len.g k_ j4.1).bind fun r8 => (if (!(r7.1 == (!decide (r6.1 = r8.1)))) = true then some ((true, r8.2, r7.2)) else (timer_Wheel_All.g k_ r7.2).bind fun r9 => (timer_Wheel_All.g k_ r8.2).bind fun r10 => (ref22_Same.g k_ r9.1 r10.1).bind fun r11 => some (((!r11), r10.2, r9.2)))).bind (fun j5 => (if j5.1 = true then some (false) else (timer_Wheel_Due.g k_ j5.2.2 a3).bind fun r12 => (timer_Wheel_Due.g k_ j5.2.1 a3).bind fun r13 => (loopK k_ (fun s2 => (if decide (s2 < (r12.1.length : Int)) = true then (idx r12.1 s2).bind fun x6 => (if decide (x6.Id = a2) = true then some (.inr (.inr (false))) else lt (IntKind.i64.wrap (s2 + 1)) fun y4 => some (.inl y4)) else some (.inr (.inl (()))))) 0).bind (Sum.elim (fun j6 => ((ref22_Same.g k_ r12.1 r13.1).bind fun r14 => (if r14 = true then (timer_Wheel_Len.g k_ r12.2).bind fun r15 => (timer_Wheel_Len.g k_ r13.2).bind fun r16 => (if decide (r15.1 = r16.1) = true then (law22_heads.g k_).bind fun r17 => some ((r17, r16.2, r15.2)) else some ((false, r16.2, r15.2))) else some ((false, r13.2, r12.2)))).bind (fun j7 => some (j7.1))) (fun z_ => some (z_)))))))))
theorem law22_TimerDels.le (k_ : Nat) (a1 : List TAlarm) (a2 : Int) (a3 : Int) : Le (law22_TimerDels.g k_ a1 a2 a3) (law22_TimerDels.f a1 a2 a3) := by
 unfold law22_TimerDels.g law22_TimerDels.f
 repeat' (first | with_reducible refine le_loop fun _ => ?_ | with_reducible refine le_bind ?_ fun _ => ?_ | with_reducible refine le_ite ?_ ?_ | with_reducible refine le_lt fun _ => ?_ | with_reducible refine le_elim (fun _ => ?_) (fun _ => ?_) _ | with_reducible apply law22_heads.le | with_reducible apply ref22_Same.le | with_reducible apply timer_New.le | with_reducible apply timer_Wheel_All.le | with_reducible apply timer_Wheel_Del.le | with_reducible apply timer_Wheel_Due.le | with_reducible apply timer_Wheel_Len.le | with_reducible apply timer_Wheel_Set.le | with_reducible exact le_refl _)
/-! drawbridge/drawbridgeref22.New -/
noncomputable def ref22_New.f  : Option ((Option TWheel)) :=
  some ((some (⟨[]⟩ : TWheel)))
set_option maxRecDepth 100000 in
set_option maxHeartbeats 4000000 in
theorem ref22_New.spc  (r : (Option TWheel)) (H : ref22_New.f  = some r) : Spc Try.prog 15 [] [] [] (fun (s : Value) => s) (fun s => [Val (Kd.obx KWheel) s r]) := by
 unfold ref22_New.f at H
 refine Spc.go Try.func15 rfl (by kernel_rfl) rfl rfl all_nil fun F a w h => ?_
 refine T.gg h <| T.qr rfl <| T.a (o_assign rfl) <| T.d <| T.qr rfl <| T.s (o_build (K := KWheel) (x := (⟨[]⟩ : TWheel)) (ps := []) rfl (zs := zsWheel) rfl t_b64 rfl (show PB (Kd.last (Kd.sl KAlarm)) [] 0 zsWheel _ _ from (pb_lastz z_sl))) fun v1 => T.s (o_box (K := KWheel) rfl (pv_at PWheel 0 rfl)) fun b1 => T.a (o_assign rfl) <| T.d <| T.mm (fun m => m.pkb 0 rfl) <| T.at fun h => ?_
 rw [← som H]
 exact g_ret (vs := [pt b1]) h Try.func15 ⟨rfl, trivial⟩ ⟨pt b1, rfl, (h.mem.pick [0] (by decide) rfl)⟩
def ref22_New.g (k_ : Nat)  : Option ((Option TWheel)) :=
  some ((some (⟨[]⟩ : TWheel)))
theorem ref22_New.le (k_ : Nat)  : Le (ref22_New.g k_ ) (ref22_New.f ) := by
 unfold ref22_New.g ref22_New.f
 repeat' (first | with_reducible refine le_loop fun _ => ?_ | with_reducible refine le_bind ?_ fun _ => ?_ | with_reducible refine le_ite ?_ ?_ | with_reducible refine le_lt fun _ => ?_ | with_reducible refine le_elim (fun _ => ?_) (fun _ => ?_) _ | with_reducible exact le_refl _)
/-! (*drawbridge/drawbridgeref22.Wheel).find -/
noncomputable def ref22_Wheel_find.f (a1 : TWheel) (a2 : Int) : Option (Int × TWheel) :=
  (loop (fun s1 => (if decide (s1 < (a1.l.length : Int)) = true then (idx a1.l s1).bind fun x1 => (if decide (x1.Id = a2) = true then some (.inr (.inr ((s1, a1)))) else lt (IntKind.i64.wrap (s1 + 1)) fun y1 => some (.inl y1)) else some (.inr (.inl (()))))) 0).bind (Sum.elim (fun j1 => some (((-1), a1))) (fun z_ => some (z_)))
set_option maxRecDepth 100000 in
set_option maxHeartbeats 4000000 in
theorem ref22_Wheel_find.spc (b1 : Nat) (a1 : TWheel) (a2 : Int) (ha2 : InR .i64 a2) (r : Int × TWheel) (H : ref22_Wheel_find.f a1 a2 = some r) : Spc Try.prog 30 [pt b1, .int .i64 a2] [] [Fld KWheel b1 0 a1] (fun (s : Unit) => .int .i64 r.1) (fun s => [Ent.pur (InR .i64 r.1), Fld KWheel b1 0 r.2]) := by
 unfold ref22_Wheel_find.f at H
 refine Spc.go Try.func30 rfl (by kernel_rfl) rfl rfl all_nil fun F a w h => ?_
 refine T.gg h <| T.qr rfl <| T.a (o_assign rfl) <| T.d <| T.q <| T.qr rfl <| T.a (o_assign rfl) <| T.d <| T.bl <| bE H fun o1 hl G1 => T.at fun h => ?_
 refine g_cut (fun G => ∀ j1 (a : Act) (w : World), o1 = .inl (j1) → St Try.f30.ntmps F [] [Fld KWheel b1 0 a1] a w → G a w) 2 ?_ fun J1 => ?_
 ·intro j1 a w ho_ h
  rw [ho_] at G1
  refine T.gg h <| have H := eInl G1; T.qr rfl <| T.a (o_assign rfl) <| T.d <| T.at fun h => ?_
  rw [← som H]
  exact g_ret (vs := [.int .i64 (-1)]) h Try.func30 ⟨rfl, trivial⟩ ⟨(), rfl, ((h.mem.pick [0] (by decide) rfl).addpur (show InR .i64 (-1) by decide))⟩
 refine g_loop (fun s1 G => ∀  (a : Act) (w : World), InR .i64 s1 → St Try.f30.ntmps F [(0, pt b1), (1, .int .i64 a2), (5, .int .i64 s1)] [Fld KWheel b1 0 a1] a w → G a w) hl (fun s1 p1 H i1 => ?_) fun I_ => ?_
 ·intro  a w g1 h
  refine T.gg h <| T.q <| T.qr rfl <| T.mv rfl <| T.mv rfl <| T.a (o_nilc rfl) <| T.a (fa rfl t_f64_0) <| T.s (o_lfv 0 rfl rfl sWheel_l rfl Per_sl t_y22) fun v1 => T.u (fun m => (len_at 0 rfl m)) fun g2 => T.a (o_ln rfl (rd_at 0 rfl) t_v22) <| T.a (o_bin rfl rfl rfl) <| T.d <| T.at fun h => ?_
  by_cases c1 : decide (s1 < (a1.l.length : Int)) = true
  ·refine T.gg h <| have H := ifT c1 H; T.tt rfl c1 <| T.sk <| T.q <| T.bl <| T.qr rfl <| T.mv rfl <| T.a (o_nilc rfl) <| T.a (fa rfl t_f64_0) <| T.s (o_lfv 1 rfl rfl sWheel_l rfl Per_sl t_y22) fun v2 => T.mv rfl <| bE H fun x1 ex1 H => T.a (o_ix rfl rfl (rd_at 0 rfl) ex1 t_v22) <| T.a (o_fae (k' := s1.toNat * Kd.n KAlarm + 1) rfl (rd_at 0 rfl) ex1 (by decide) t_f28_1 rfl rfl) <| T.u (fun m => (in1 (rd_sub sAlarm_Id (rd_at 0 rfl) ex1 m))) fun g3 => T.a (o_lsx rfl (rd_at 0 rfl) ex1 sAlarm_Id X_int t_y3 (by decide)) <| T.mv rfl <| T.a (o_bin rfl rfl rfl) <| T.d <| T.at fun h => ?_
   by_cases c2 : decide (x1.Id = a2) = true
   ·refine T.gg h <| have H := ifT c2 H; T.tt rfl c2 <| T.qr rfl <| T.mv rfl <| T.a (o_assign rfl) <| T.d <| T.at fun h => ?_
    have e_ := som H; subst e_
    rw [← nx_out i1] at G1
    have H := G1
    rw [← som H]
    exact g_ret (vs := [.int .i64 s1]) h Try.func30 ⟨rfl, trivial⟩ ⟨(), rfl, ((h.mem.pick [2] (by decide) rfl).addpur g1)⟩
   ·refine T.gg h <| have H := ifF c2 H; T.ff rfl c2 <| T.sk <| T.ib <| T.r rfl <| T.mv rfl <| T.a (o_bin rfl rfl rfl) <| lE H fun y1 ey1 H => T.a (o_assign' rfl (congrArg (fun z => Value.int .i64 z) ey1)) <| T.d <| T.at fun h => ?_
    have e_ := som H; subst e_
    exact Go.inLoop (nx_in i1 _ _ (ey1 ▸ (wrap_in _ _)) (h.wr [2]))
  ·refine T.gg h <| have H := ifF c1 H; T.ff rfl c1 <| T.ex rfl <| T.at fun h => ?_
   have e_ := som H; subst e_
   exact J1 () _ _ (nx_out i1).symm (h.wr [1])
 ·exact I_ _ _ (show InR .i64 0 by decide) (h.wr [0])
def ref22_Wheel_find.g (k_ : Nat) (a1 : TWheel) (a2 : Int) : Option (Int × TWheel) :=
  (loopK k_ (fun s1 => (if decide (s1 < (a1.l.length : Int)) = true then (idx a1.l s1).bind fun x1 => (if decide (x1.Id = a2) = true then some (.inr (.inr ((s1, a1)))) else lt (IntKind.i64.wrap (s1 + 1)) fun y1 => some (.inl y1)) else some (.inr (.inl (()))))) 0).bind (Sum.elim (fun j1 => some (((-1), a1))) (fun z_ => some (z_)))
theorem ref22_Wheel_find.le (k_ : Nat) (a1 : TWheel) (a2 : Int) : Le (ref22_Wheel_find.g k_ a1 a2) (ref22_Wheel_find.f a1 a2) := by
 unfold ref22_Wheel_find.g ref22_Wheel_find.f
 repeat' (first | with_reducible refine le_loop fun _ => ?_ | with_reducible refine le_bind ?_ fun _ => ?_ | with_reducible refine le_ite ?_ ?_ | with_reducible refine le_lt fun _ => ?_ | with_reducible refine le_elim (fun _ => ?_) (fun _ => ?_) _ | with_reducible exact le_refl _)
/-! (*drawbridge/drawbridgeref22.Wheel).Del -/
noncomputable def ref22_Wheel_Del.f (a1 : TWheel) (a2 : Int) : Option (Bool × TWheel) :=
  (ref22_Wheel_find.f a1 a2).bind fun r1 => (if decide (r1.1 < 0) = true then some ((false, r1.2)) else (cut r1.2.l 0 r1.1).bind fun x1 => (app ([] : List TAlarm) x1).bind fun x2 => (cut r1.2.l (IntKind.i64.wrap (r1.1 + 1)) (r1.2.l.length : Int)).bind fun x3 => (app x2 x3).bind fun x4 => lt (⟨x4⟩ : TWheel) fun y1 => some ((true, y1)))
set_option maxRecDepth 100000 in
set_option maxHeartbeats 4000000 in
theorem ref22_Wheel_Del.spc (b1 : Nat) (a1 : TWheel) (a2 : Int) (ha2 : InR .i64 a2) (r : Bool × TWheel) (H : ref22_Wheel_Del.f a1 a2 = some r) : Spc Try.prog 17 [pt b1, .int .i64 a2] [] [Fld KWheel b1 0 a1] (fun (s : Unit) => .bool r.1) (fun s => [Fld KWheel b1 0 r.2]) := by
 unfold ref22_Wheel_Del.f at H
 refine Spc.go Try.func17 rfl (by kernel_rfl) rfl rfl all_nil fun F a w h => ?_
 refine T.gg h <| T.qr rfl <| T.a (o_assign rfl) <| T.d <| T.qr rfl <| T.mv rfl <| T.mv rfl <| bE H fun r1 er1 H => T.a (o_call (ref22_Wheel_find.spc b1 a1 a2 ha2 r1 er1) rfl [] [0] (by decide) rfl rfl) <| T.u (fun m => m.pur 0 rfl) fun g1 => T.a (o_assign rfl) <| T.d <| T.q <| T.qr rfl <| T.mv rfl <| T.a (o_bin rfl rfl rfl) <| T.d <| T.at fun h => ?_
 by_cases c1 : decide (r1.1 < 0) = true
 ·refine T.gg h <| have H := ifT c1 H; T.tt rfl c1 <| T.qr rfl <| T.a (o_assign rfl) <| T.d <| T.at fun h => ?_
  rw [← som H]
  exact g_ret (vs := [.bool false]) h Try.func17 ⟨rfl, trivial⟩ ⟨(), rfl, (h.mem.pick [1] (by decide) rfl)⟩
 ·refine T.gg h <| have H := ifF c1 H; T.ff rfl c1 <| T.sk <| T.q <| T.w [(0, pt b1), (4, .bool false), (5, .int .i64 r1.1)] [Ent.pur (InR .i64 r1.1), Fld KWheel b1 0 r1.2] [0, 1] rfl (by decide) rfl <| bE H fun x1 ex1 H => bE H fun x2 ex2 H => bE H fun x3 ex3 H => bE H fun x4 ex4 H => T.at fun h => ?_
  refine Go.draw (E := [(0, pt b1), (4, .bool false), (5, .int .i64 r1.1)]) [] (L := [Ent.pur (InR .i64 r1.1), Fld KWheel b1 0 r1.2]) h rfl rfl 17 [cn (pt b1), cw [] [] [] fun u => [Val (Kd.osl KAlarm) u ([] : List TAlarm)], cn (pt b1), ce [2] (pt b1), ce [2, 3] (pt b1), cw [2, 3, 4] [] [] fun u => [Val (Kd.sl KAlarm) u r1.2.l], cn (.int .i64 r1.1), cw [2, 3, 4, 5, 6] [5] [] fun u => [Val (Kd.sl KAlarm) u x1], cw [1, 2, 3, 4, 5, 6, 7] [1, 7] [1] fun u => [Val (Kd.osl KAlarm) u x2], cn (pt b1), ce [9] (pt b1), ce [9, 10] (pt b1), cw [9, 10, 11] [] [] fun u => [Val (Kd.sl KAlarm) u r1.2.l], cn (.int .i64 r1.1), ce [13] (.int .i64 (IntKind.i64.wrap (r1.1 + 1))), cw [9, 10, 11, 12, 13, 14] [12] [] fun u => [Val (Kd.sl KAlarm) u x3], cw [1, 2, 3, 4, 5, 6, 7, 8, 9, 10, 11, 12, 13, 14, 15] [8, 15] [8] fun u => [Val (Kd.osl KAlarm) u x4]] rfl t_mxo (by kernel_rfl) (by rfl) ?_ fun f1 _ _ h => ?_
  ·exact ox rfl (o_move rfl) (oy rfl (o_bs (K := KAlarm) (vs := []) (xs := ([] : List TAlarm)) rfl rfl pvs_nil t_a22 (by decide) (by decide)) (ox rfl (o_move rfl) (ox rfl (o_nilc rfl) (ox rfl (o_fa rfl t_f64_0 rfl rfl) (oy rfl (o_lfv 1 rfl rfl sWheel_l rfl Per_sl t_y22) (ox rfl (o_move rfl) (oy rfl (o_cuth rfl (pv_at Per_sl 0 rfl) rfl ex1 t_v22) (oy rfl (o_app (K := KAlarm) 0 rfl rfl rfl (rd_at 1 rfl) ex2 t_a22 t_n22) (ox rfl (o_move rfl) (ox rfl (o_nilc rfl) (ox rfl (o_fa rfl t_f64_0 rfl rfl) (oy rfl (o_lfv 1 rfl rfl sWheel_l rfl Per_sl t_y22) (ox rfl (o_move rfl) (ox rfl (o_bin rfl rfl rfl) (oy rfl (o_cutl rfl (pv_at Per_sl 0 rfl) rfl ex3 t_v22) (oy rfl (o_app (K := KAlarm) 0 rfl rfl rfl (rd_at 1 rfl) ex4 t_a22 t_n22) (obs_nil)))))))))))))))))
  replace h := h.wk (E' := [(4, .bool false), (11, pt b1), (27, (f1 16))]) (L' := [Val (Kd.sl KAlarm) (f1 5) r1.2.l, Val (Kd.sl KAlarm) (f1 7) x1, Val (Kd.sl KAlarm) (f1 12) r1.2.l, Val (Kd.sl KAlarm) (f1 15) x3, Val (Kd.osl KAlarm) (f1 16) x4, Ent.pur (InR .i64 r1.1), Fld KWheel b1 0 r1.2]) (by kernel_rfl) [0, 1, 2, 3, 4, 5, 6] (by decide) (by kernel_rfl)
  refine T.gr h <| T.lo rfl <| T.a (o_nilc rfl) <| T.a (fa rfl t_f64_0) <| T.mm (fun m => m.freeze 4 rfl) <| lE H fun y1 ey1 H => T.z (o_stp (x0 := r1.2) (y := x4) 6 t_uWheel_0_1 rfl rfl rfl rfl (pv_at Per_sl 4 rfl) t_w22) <| T.at fun h => ?_
  rw [ey1] at h
  refine T.gm h <| T.d <| T.qr rfl <| T.a (o_assign rfl) <| T.d <| T.at fun h => ?_
  rw [← som H]
  exact g_ret (vs := [.bool true]) h Try.func17 ⟨rfl, trivial⟩ ⟨(), rfl, (h.mem.pick [6] (by decide) rfl)⟩
def ref22_Wheel_Del.g (k_ : Nat) (a1 : TWheel) (a2 : Int) : Option (Bool × TWheel) :=
  (ref22_Wheel_find.g k_ a1 a2).bind fun r1 => (if decide (r1.1 < 0) = true then some ((false, r1.2)) else (cut r1.2.l 0 r1.1).bind fun x1 => (app ([] : List TAlarm) x1).bind fun x2 => (cut r1.2.l (IntKind.i64.wrap (r1.1 + 1)) (r1.2.l.length : Int)).bind fun x3 => (app x2 x3).bind fun x4 => lt (⟨x4⟩ : TWheel) fun y1 => some ((true, y1)))
theorem ref22_Wheel_Del.le (k_ : Nat) (a1 : TWheel) (a2 : Int) : Le (ref22_Wheel_Del.g k_ a1 a2) (ref22_Wheel_Del.f a1 a2) := by
 unfold ref22_Wheel_Del.g ref22_Wheel_Del.f
 repeat' (first | with_reducible refine le_loop fun _ => ?_ | with_reducible refine le_bind ?_ fun _ => ?_ | with_reducible refine le_ite ?_ ?_ | with_reducible refine le_lt fun _ => ?_ | with_reducible refine le_elim (fun _ => ?_) (fun _ => ?_) _ | with_reducible apply ref22_Wheel_find.le | with_reducible exact le_refl _)
end Go.Proofs.Ytgkgekaiajjcaaa.S
