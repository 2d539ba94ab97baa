/- Contracts, printed by a program of this session. -/
import Derived.Test.YtgkgekaiajjcaaaT2
namespace Go.Proofs.Ytgkgekaiajjcaaa.S
open Go Go.SL Go.RowKit
set_option linter.unusedVariables false
set_option linter.unusedSimpArgs false
/-! drawbridge/drawbridgeref22.Same -/
noncomputable def ref22_Same.f (a1 : List TAlarm) (a2 : List TAlarm) : Option (Bool) :=
  (if (!decide ((a1.length : Int) = (a2.length : Int))) = true then some (false) else (loop (fun s1 => (if decide (s1 < (a1.length : Int)) = true then (idx a1 s1).bind fun x1 => (idx a2 s1).bind fun x2 => (if (!(decide (x1.At = x2.At) && (decide (x1.Id = x2.Id)))) = true then some (.inr (.inr (false))) else lt (IntKind.i64.wrap (s1 + 1)) fun y1 => some (.inl y1)) else some (.inr (.inl (()))))) 0).bind (Sum.elim (fun j1 => some (true)) (fun z_ => some (z_))))
set_option maxRecDepth 100000 in
set_option maxHeartbeats 4000000 in
theorem ref22_Same.spc (v1 : Value) (a1 : List TAlarm) (v2 : Value) (a2 : List TAlarm) (r : Bool) (H : ref22_Same.f a1 a2 = some r) : Spc Try.prog 13 [v1, v2] [Val (Kd.sl KAlarm) v1 a1, Val (Kd.sl KAlarm) v2 a2] [] (fun (s : Unit) => .bool r) (fun s => []) := by
 unfold ref22_Same.f at H
 refine Spc.go Try.func13 rfl (by kernel_rfl) rfl rfl (all_cons (Val.per Per_sl) (all_cons (Val.per Per_sl) all_nil)) fun F a w h => ?_
 refine T.gg h <| T.qr rfl <| T.a (o_assign rfl) <| T.d <| T.q <| T.qr rfl <| T.mv rfl <| T.u (fun m => (len_at 0 rfl m)) fun g1 => T.a (o_ln rfl (rd_at 0 rfl) t_v22) <| T.mv rfl <| T.u (fun m => (len_at 1 rfl m)) fun g2 => T.a (o_ln rfl (rd_at 1 rfl) t_v22) <| T.a (o_bin rfl rfl rfl) <| T.d <| T.at fun h => ?_
 by_cases c1 : (!decide ((a1.length : Int) = (a2.length : Int))) = true
 ·refine T.gg h <| have H := ifT c1 H; T.tt rfl c1 <| T.qr rfl <| T.a (o_assign rfl) <| T.d <| T.at fun h => ?_
  rw [← som H]
  exact g_ret (vs := [.bool false]) h Try.func13 ⟨rfl, trivial⟩ ⟨(), rfl, (h.mem.pick [] (by decide) rfl)⟩
 ·refine T.gg h <| have H := ifF c1 H; T.ff rfl c1 <| T.sk <| T.q <| T.qr rfl <| T.a (o_assign rfl) <| T.d <| T.bl <| bE H fun o1 hl G1 => T.at fun h => ?_
  refine g_cut (fun G => ∀ j1 (a : Act) (w : World), o1 = .inl (j1) → St Try.f13.ntmps F [] [] a w → G a w) 2 ?_ fun J1 => ?_
  ·intro j1 a w ho_ h
   rw [ho_] at G1
   refine T.gg h <| have H := eInl G1; T.qr rfl <| T.a (o_assign rfl) <| T.d <| T.at fun h => ?_
   rw [← som H]
   exact g_ret (vs := [.bool true]) h Try.func13 ⟨rfl, trivial⟩ ⟨(), rfl, (h.mem.pick [] (by decide) rfl)⟩
  refine g_loop (fun s1 G => ∀  (a : Act) (w : World), InR .i64 s1 → St Try.f13.ntmps F [(0, v1), (1, v2), (5, .int .i64 s1)] [Val (Kd.sl KAlarm) v1 a1, Val (Kd.sl KAlarm) v2 a2] a w → G a w) hl (fun s1 p1 H i1 => ?_) fun I_ => ?_
  ·intro  a w g3 h
   refine T.gg h <| T.q <| T.qr rfl <| T.mv rfl <| T.mv rfl <| T.u (fun m => (len_at 0 rfl m)) fun g4 => T.a (o_ln rfl (rd_at 0 rfl) t_v22) <| T.a (o_bin rfl rfl rfl) <| T.d <| T.at fun h => ?_
   by_cases c2 : decide (s1 < (a1.length : Int)) = true
   ·refine T.gg h <| have H := ifT c2 H; T.tt rfl c2 <| T.sk <| T.q <| T.bl <| T.q <| T.w [(0, v1), (1, v2), (5, .int .i64 s1)] [Val (Kd.sl KAlarm) v1 a1, Val (Kd.sl KAlarm) v2 a2] [0, 1] rfl (by decide) rfl <| bE H fun x1 ex1 H => bE H fun x2 ex2 H => T.at fun h => ?_
    refine Go.draw (E := [(0, v1), (1, v2), (5, .int .i64 s1)]) [] (L := [Val (Kd.sl KAlarm) v1 a1, Val (Kd.sl KAlarm) v2 a2]) h rfl rfl 8 [cn (v1), cn (.int .i64 s1), ce [0, 1] (elemP v1 (s1.toNat * Kd.n KAlarm)), cw [0, 1, 2] [] [] fun u => [Val KAlarm u x1], cn (v2), cn (.int .i64 s1), ce [4, 5] (elemP v2 (s1.toNat * Kd.n KAlarm)), cw [4, 5, 6] [] [] fun u => [Val KAlarm u x2]] rfl t_mxo (by kernel_rfl) (by rfl) ?_ fun f1 _ _ h => ?_
    ·exact ox rfl (o_move rfl) (ox rfl (o_move rfl) (ox rfl (o_ix rfl rfl (rd_at 0 rfl) ex1 t_v22) (oy rfl (o_lev rfl (rd_at 0 rfl) ex1 t_y28 (by decide)) (ox rfl (o_move rfl) (ox rfl (o_move rfl) (ox rfl (o_ix rfl rfl (rd_at 1 rfl) ex2 t_v22) (oy rfl (o_lev rfl (rd_at 1 rfl) ex2 t_y28 (by decide)) (obs_nil))))))))
    replace h := h.wk (E' := [(0, v1), (1, v2), (5, .int .i64 s1), (20, (f1 3)), (24, (f1 7))]) (L' := [Val KAlarm (f1 3) x1, Val KAlarm (f1 7) x2, Val (Kd.sl KAlarm) v1 a1, Val (Kd.sl KAlarm) v2 a2]) (by kernel_rfl) [0, 1, 2, 3] (by decide) (by kernel_rfl)
    refine T.gr h <| T.lo rfl <| T.a (o_nev rfl rfl (pv_at PAlarm 0 rfl) (pv_at PAlarm 1 rfl) rfl t_e28 (.cons sAlarm_At (eq_int t_u3) (.last sAlarm_Id (eq_int t_u3)))) <| T.d <| T.at fun h => ?_
    by_cases c3 : (!(decide (x1.At = x2.At) && (decide (x1.Id = x2.Id)))) = true
    ·refine T.gg h <| have H := ifT c3 H; T.tt rfl c3 <| T.qr rfl <| T.a (o_assign rfl) <| T.d <| T.at fun h => ?_
     have e_ := som H; subst e_
     rw [← nx_out i1] at G1
     have H := G1
     rw [← som H]
     exact g_ret (vs := [.bool false]) h Try.func13 ⟨rfl, trivial⟩ ⟨(), rfl, (h.mem.pick [] (by decide) rfl)⟩
    ·refine T.gg h <| have H := ifF c3 H; T.ff rfl c3 <| T.sk <| T.ib <| T.r rfl <| T.mv rfl <| T.a (o_bin rfl rfl rfl) <| lE H fun y1 ey1 H => T.a (o_assign' rfl (congrArg (fun z => Value.int .i64 z) ey1)) <| T.d <| T.at fun h => ?_
     have e_ := som H; subst e_
     exact Go.inLoop (nx_in i1 _ _ (ey1 ▸ (wrap_in _ _)) (h.wr [2, 3]))
   ·refine T.gg h <| have H := ifF c2 H; T.ff rfl c2 <| T.ex rfl <| T.at fun h => ?_
    have e_ := som H; subst e_
    exact J1 () _ _ (nx_out i1).symm (h.wr [])
  ·exact I_ _ _ (show InR .i64 0 by decide) (h.wr [0, 1])
def ref22_Same.g (k_ : Nat) (a1 : List TAlarm) (a2 : List TAlarm) : Option (Bool) :=
  (if (!decide ((a1.length : Int) = (a2.length : Int))) = true then some (false) else (loopK k_ (fun s1 => (if decide (s1 < (a1.length : Int)) = true then (idx a1 s1).bind fun x1 => (idx a2 s1).bind fun x2 => (if (!(decide (x1.At = x2.At) && (decide (x1.Id = x2.Id)))) = true then some (.inr (.inr (false))) else lt (IntKind.i64.wrap (s1 + 1)) fun y1 => some (.inl y1)) else some (.inr (.inl (()))))) 0).bind (Sum.elim (fun j1 => some (true)) (fun z_ => some (z_))))
theorem ref22_Same.le (k_ : Nat) (a1 : List TAlarm) (a2 : List TAlarm) : Le (ref22_Same.g k_ a1 a2) (ref22_Same.f a1 a2) := by
 unfold ref22_Same.g ref22_Same.f
 repeat' (first | with_reducible refine le_loop fun _ => ?_ | with_reducible refine le_bind ?_ fun _ => ?_ | with_reducible refine le_ite ?_ ?_ | with_reducible refine le_lt fun _ => ?_ | with_reducible refine le_elim (fun _ => ?_) (fun _ => ?_) _ | with_reducible exact le_refl _)
/-! drawbridge/drawbridgelaw22.heads -/
noncomputable def law22_heads.f  : Option (Bool) :=
  (timer_New.f).bind fun r1 => (r1).bind fun y1 => (timer_Wheel_Set.f y1 5 1).bind fun r2 => (timer_Wheel_Set.f r2 9 2).bind fun r3 => (timer_Wheel_Set.f r3 5 0).bind fun r4 => (timer_Wheel_Set.f r4 3 2).bind fun r5 => (timer_Wheel_Set.f r5 7 4).bind fun r6 => (timer_Wheel_Del.f r6 4).bind fun r7 => (timer_Wheel_Del.f r7.2 4).bind fun r8 => (timer_Wheel_Next.f r8.2).bind fun r9 => (timer_Wheel_Due.f r9.2.2 5).bind fun r10 => (timer_Wheel_Next.f r10.2).bind fun r11 => ((if r7.1 = true then (if (!r8.1) = true then (if r9.2.1 = true then (if decide (r9.1.Id = 2) = true then (if decide (r9.1.At = 3) = true then (ref22_Same.f r10.1 ([(⟨3, 2⟩ : TAlarm), (⟨5, 0⟩ : TAlarm), (⟨5, 1⟩ : TAlarm)] : List TAlarm)).bind fun r12 => (if r12 = true then (if (!r11.2.1) = true then (timer_Wheel_Len.f r11.2.2).bind fun r13 => lt (decide (r13.1 = 0)) fun y2 => some ((y2, r13.2)) else some ((false, r11.2.2))) else some ((false, r11.2.2))) else some ((false, r11.2.2))) else some ((false, r11.2.2))) else some ((false, r11.2.2))) else some ((false, r11.2.2))) else some ((false, r11.2.2)))).bind (fun j1 => some (j1.1))
set_option maxRecDepth 100000 in
set_option maxHeartbeats 4000000 in
theorem law22_heads.spc  (r : Bool) (H : law22_heads.f  = some r) : Spc Try.prog 7 [] [] [] (fun (s : Unit) => .bool r) (fun s => []) := by
 unfold law22_heads.f at H
 refine Spc.go Try.func7 rfl (by kernel_rfl) rfl rfl all_nil fun F a w h => ?_
 refine T.gg h <| T.qr rfl <| T.a (o_assign rfl) <| T.d <| T.qr rfl <| bE H fun r1 er1 H => T.s (o_call (timer_New.spc  r1 er1) rfl [] [] (by decide) rfl rfl) fun v1 => T.a (o_assign rfl) <| T.d <| T.q <| T.q <| bE H fun y1 ey1 H => T.at fun h => ?_
 obtain ⟨b1, eb1, h⟩ := h.unb 0 rfl ey1
 subst eb1
 refine T.gg h <| T.r rfl <| T.mv rfl <| T.a (o_ptn rfl t_u24) <| T.d <| T.ff rfl Bool.false_ne_true <| T.sk <| T.qr rfl <| T.mv rfl <| bE H fun r2 er2 H => T.a (o_call (timer_Wheel_Set.spc b1 y1 5 (show InR .i64 5 by decide) 1 (show InR .i64 1 by decide) r2 er2) rfl [] [0] (by decide) rfl rfl) <| T.d <| T.qr rfl <| T.mv rfl <| bE H fun r3 er3 H => T.a (o_call (timer_Wheel_Set.spc b1 r2 9 (show InR .i64 9 by decide) 2 (show InR .i64 2 by decide) r3 er3) rfl [] [0] (by decide) rfl rfl) <| T.d <| T.qr rfl <| T.mv rfl <| bE H fun r4 er4 H => T.a (o_call (timer_Wheel_Set.spc b1 r3 5 (show InR .i64 5 by decide) 0 (show InR .i64 0 by decide) r4 er4) rfl [] [0] (by decide) rfl rfl) <| T.d <| T.qr rfl <| T.mv rfl <| bE H fun r5 er5 H => T.a (o_call (timer_Wheel_Set.spc b1 r4 3 (show InR .i64 3 by decide) 2 (show InR .i64 2 by decide) r5 er5) rfl [] [0] (by decide) rfl rfl) <| T.d <| T.qr rfl <| T.mv rfl <| bE H fun r6 er6 H => T.a (o_call (timer_Wheel_Set.spc b1 r5 7 (show InR .i64 7 by decide) 4 (show InR .i64 4 by decide) r6 er6) rfl [] [0] (by decide) rfl rfl) <| T.d <| T.qr rfl <| T.mv rfl <| bE H fun r7 er7 H => T.a (o_call (timer_Wheel_Del.spc b1 r6 4 (show InR .i64 4 by decide) r7 er7) rfl [] [0] (by decide) rfl rfl) <| T.a (o_assign rfl) <| T.d <| T.qr rfl <| T.mv rfl <| bE H fun r8 er8 H => T.a (o_call (timer_Wheel_Del.spc b1 r7.2 4 (show InR .i64 4 by decide) r8 er8) rfl [] [0] (by decide) rfl rfl) <| T.a (o_assign rfl) <| T.d <| T.qr rfl <| T.mv rfl <| bE H fun r9 er9 H => T.s (o_call (timer_Wheel_Next.spc b1 r8.2 r9 er9) rfl [] [0] (by decide) rfl rfl) fun v2 => T.mv rfl <| T.a (o_extract rfl rfl) <| T.a (o_extract rfl rfl) <| T.s (o_alloc (K := KAlarm) (z := (.agg #[.int .i64 0, .int .i64 0])) rfl ZAlarm) fun b2 => T.z (o_st 0 rfl rfl rfl (pv_at PAlarm 1 rfl) rfl t_w28) <| T.a (o_assign rfl) <| T.d <| T.qr rfl <| T.mv rfl <| bE H fun r10 er10 H => T.s (o_call (timer_Wheel_Due.spc b1 r9.2.2 5 (show InR .i64 5 by decide) r10 er10) rfl [] [2] (by decide) rfl rfl) fun v3 => T.a (o_assign rfl) <| T.d <| T.qr rfl <| T.mv rfl <| bE H fun r11 er11 H => T.s (o_call (timer_Wheel_Next.spc b1 r10.2 r11 er11) rfl [] [1] (by decide) rfl rfl) fun v4 => T.mv rfl <| T.a (o_extract rfl rfl) <| T.a (o_extract rfl rfl) <| T.s (o_alloc (K := KAlarm) (z := (.agg #[.int .i64 0, .int .i64 0])) rfl ZAlarm) fun b3 => T.z (o_st 0 rfl rfl rfl (pv_at PAlarm 1 rfl) rfl t_w28) <| T.a (o_assign rfl) <| T.d <| T.q <| bE H fun o1 H G1 => T.at fun h => ?_
 refine g_cut (fun G => ∀ j1 (a : Act) (w : World), o1 = j1 → St Try.f7.ntmps F [(0, .bool j1.1)] [Fld Kwhl b1 0 j1.2, Fld KAlarm b3 0 r11.1, Fld KAlarm b2 0 r9.1] a w → G a w) 1 ?_ fun J1 => ?_
 ·intro j1 a w ho_ h
  rw [ho_] at G1
  have H := G1
  rw [← som H]
  exact g_ret (vs := [.bool j1.1]) h Try.func7 ⟨rfl, trivial⟩ ⟨(), rfl, (h.mem.pick [] (by decide) rfl)⟩
 refine T.gg h <| T.r rfl <| T.mv rfl <| T.mv rfl <| T.at fun h => ?_
 by_cases c1 : r7.1 = true
 ·refine T.gm h <| have H := ifT c1 H; T.ga rfl rfl c1 (o_move rfl) <| T.ga rfl rfl c1 (o_not rfl) <| T.a (o_pickT rfl rfl c1) <| T.mv rfl <| T.at fun h => ?_
  by_cases c2 : (!r8.1) = true
  ·refine T.gm h <| have H := ifT c2 H; T.ga rfl rfl c2 (o_move rfl) <| T.a (o_pickT rfl rfl c2) <| T.mv rfl <| T.at fun h => ?_
   by_cases c3 : r9.2.1 = true
   ·refine T.gm h <| have H := ifT c3 H; T.ga rfl rfl c3 (fa rfl t_f28_1) <| T.u (fun m => (in2 (fd_sub sAlarm_Id 5 rfl m))) fun g1 => T.ga rfl rfl c3 (o_lfx 5 rfl rfl sAlarm_Id rfl X_int t_y3) <| T.ga rfl rfl c3 (o_bin rfl rfl rfl) <| T.a (o_pickT rfl rfl c3) <| T.mv rfl <| T.at fun h => ?_
    by_cases c4 : decide (r9.1.Id = 2) = true
    ·refine T.gm h <| have H := ifT c4 H; T.ga rfl rfl c4 (fa rfl t_f28_0) <| T.u (fun m => (in2 (fd_sub sAlarm_At 5 rfl m))) fun g2 => T.ga rfl rfl c4 (o_lfx 5 rfl rfl sAlarm_At rfl X_int t_y3) <| T.ga rfl rfl c4 (o_bin rfl rfl rfl) <| T.a (o_pickT rfl rfl c4) <| T.mv rfl <| T.at fun h => ?_
     by_cases c5 : decide (r9.1.At = 3) = true
     ·refine T.gm h <| have H := ifT c5 H; T.ga rfl rfl c5 (o_move rfl) <| T.gs rfl rfl c5 (o_build (K := KAlarm) (x := (⟨3, 2⟩ : TAlarm)) (ps := [(0, .int .i64 3), (1, .int .i64 2)]) rfl (zs := zsAlarm) rfl t_b28 rfl (show PB (Kd.pair (Kd.int .i64) (Kd.last (Kd.int .i64))) (3, 2) 0 zsAlarm _ _ from (pb_part (pv_int (show InR .i64 3 by decide)) rfl (pb_lastp (pv_int (show InR .i64 2 by decide)) rfl)))) fun v5 => T.gs rfl rfl c5 (o_build (K := KAlarm) (x := (⟨5, 0⟩ : TAlarm)) (ps := [(0, .int .i64 5), (1, .int .i64 0)]) rfl (zs := zsAlarm) rfl t_b28 rfl (show PB (Kd.pair (Kd.int .i64) (Kd.last (Kd.int .i64))) (5, 0) 0 zsAlarm _ _ from (pb_part (pv_int (show InR .i64 5 by decide)) rfl (pb_lastp (pv_int (show InR .i64 0 by decide)) rfl)))) fun v6 => T.gs rfl rfl c5 (o_build (K := KAlarm) (x := (⟨5, 1⟩ : TAlarm)) (ps := [(0, .int .i64 5), (1, .int .i64 1)]) rfl (zs := zsAlarm) rfl t_b28 rfl (show PB (Kd.pair (Kd.int .i64) (Kd.last (Kd.int .i64))) (5, 1) 0 zsAlarm _ _ from (pb_part (pv_int (show InR .i64 5 by decide)) rfl (pb_lastp (pv_int (show InR .i64 1 by decide)) rfl)))) fun v7 => T.gs rfl rfl c5 (o_bs (K := KAlarm) (vs := [v5, v6, v7]) (xs := ([(⟨3, 2⟩ : TAlarm), (⟨5, 0⟩ : TAlarm), (⟨5, 1⟩ : TAlarm)] : List TAlarm)) rfl rfl (pvs_cons (pv_at PAlarm 2 rfl) (pvs_cons (pv_at PAlarm 1 rfl) (pvs_cons (pv_at PAlarm 0 rfl) pvs_nil))) t_a22 (by decide) (by decide)) fun v8 => T.mm (fun m => m.freeze 7 rfl) <| T.mm (fun m => m.freeze 0 rfl) <| bE H fun r12 er12 H => T.ga rfl rfl c5 (o_call (ref22_Same.spc v3 r10.1 v8 ([(⟨3, 2⟩ : TAlarm), (⟨5, 0⟩ : TAlarm), (⟨5, 1⟩ : TAlarm)] : List TAlarm) r12 er12) rfl [7, 0] [] (by decide) rfl rfl) <| T.a (o_pickT rfl rfl c5) <| T.mv rfl <| T.at fun h => ?_
      by_cases c6 : r12 = true
      ·refine T.gm h <| have H := ifT c6 H; T.ga rfl rfl c6 (o_move rfl) <| T.ga rfl rfl c6 (o_not rfl) <| T.a (o_pickT rfl rfl c6) <| T.mv rfl <| T.at fun h => ?_
       by_cases c7 : (!r11.2.1) = true
       ·exact T.gm h <| have H := ifT c7 H; T.ga rfl rfl c7 (o_move rfl) <| bE H fun r13 er13 H => T.ga rfl rfl c7 (o_call (timer_Wheel_Len.spc b1 r11.2.2 r13 er13) rfl [] [6] (by decide) rfl rfl) <| T.u (fun m => m.pur 0 rfl) fun g3 => T.ga rfl rfl c7 (o_bin rfl rfl rfl) <| T.a (o_pickT rfl rfl c7) <| lE H fun y2 ey2 H => T.a (o_assign' rfl (congrArg Value.bool ey2)) <| T.d <| T.at fun h => J1 (y2, r13.2) _ _ (som H).symm (h.wr [1, 6, 11])
       ·exact T.gm h <| have H := ifF c7 H; T.gk rfl rfl (nb_f c7) <| T.gk rfl rfl (nb_f c7) <| T.gk rfl rfl (nb_f c7) <| T.a (o_pickF rfl rfl c7) <| T.a (o_assign rfl) <| T.d <| T.at fun h => J1 (false, r11.2.2) _ _ (som H).symm (h.wr [6, 4, 9])
      ·exact T.gm h <| have H := ifF c6 H; T.gk rfl rfl (nb_f c6) <| T.gk rfl rfl (nb_f c6) <| T.a (o_pickF rfl rfl c6) <| T.mv rfl <| T.gk rfl rfl (nb_f Bool.false_ne_true) <| T.gk rfl rfl (nb_f Bool.false_ne_true) <| T.gk rfl rfl (nb_f Bool.false_ne_true) <| T.a (o_pickF rfl rfl Bool.false_ne_true) <| T.a (o_assign rfl) <| T.d <| T.at fun h => J1 (false, r11.2.2) _ _ (som H).symm (h.wr [6, 4, 9])
     ·exact T.gm h <| have H := ifF c5 H; T.gk rfl rfl (nb_f c5) <| T.gk rfl rfl (nb_f c5) <| T.gk rfl rfl (nb_f c5) <| T.gk rfl rfl (nb_f c5) <| T.gk rfl rfl (nb_f c5) <| T.gk rfl rfl (nb_f c5) <| T.a (o_pickF rfl rfl c5) <| T.mv rfl <| T.gk rfl rfl (nb_f Bool.false_ne_true) <| T.gk rfl rfl (nb_f Bool.false_ne_true) <| T.a (o_pickF rfl rfl Bool.false_ne_true) <| T.mv rfl <| T.gk rfl rfl (nb_f Bool.false_ne_true) <| T.gk rfl rfl (nb_f Bool.false_ne_true) <| T.gk rfl rfl (nb_f Bool.false_ne_true) <| T.a (o_pickF rfl rfl Bool.false_ne_true) <| T.a (o_assign rfl) <| T.d <| T.at fun h => J1 (false, r11.2.2) _ _ (som H).symm (h.wr [2, 0, 5])
    ·exact T.gm h <| have H := ifF c4 H; T.gk rfl rfl (nb_f c4) <| T.gk rfl rfl (nb_f c4) <| T.gk rfl rfl (nb_f c4) <| T.a (o_pickF rfl rfl c4) <| T.mv rfl <| T.gk rfl rfl (nb_f Bool.false_ne_true) <| T.gk rfl rfl (nb_f Bool.false_ne_true) <| T.gk rfl rfl (nb_f Bool.false_ne_true) <| T.gk rfl rfl (nb_f Bool.false_ne_true) <| T.gk rfl rfl (nb_f Bool.false_ne_true) <| T.gk rfl rfl (nb_f Bool.false_ne_true) <| T.a (o_pickF rfl rfl Bool.false_ne_true) <| T.mv rfl <| T.gk rfl rfl (nb_f Bool.false_ne_true) <| T.gk rfl rfl (nb_f Bool.false_ne_true) <| T.a (o_pickF rfl rfl Bool.false_ne_true) <| T.mv rfl <| T.gk rfl rfl (nb_f Bool.false_ne_true) <| T.gk rfl rfl (nb_f Bool.false_ne_true) <| T.gk rfl rfl (nb_f Bool.false_ne_true) <| T.a (o_pickF rfl rfl Bool.false_ne_true) <| T.a (o_assign rfl) <| T.d <| T.at fun h => J1 (false, r11.2.2) _ _ (som H).symm (h.wr [2, 0, 5])
   ·exact T.gm h <| have H := ifF c3 H; T.gk rfl rfl (nb_f c3) <| T.gk rfl rfl (nb_f c3) <| T.gk rfl rfl (nb_f c3) <| T.a (o_pickF rfl rfl c3) <| T.mv rfl <| T.gk rfl rfl (nb_f Bool.false_ne_true) <| T.gk rfl rfl (nb_f Bool.false_ne_true) <| T.gk rfl rfl (nb_f Bool.false_ne_true) <| T.a (o_pickF rfl rfl Bool.false_ne_true) <| T.mv rfl <| T.gk rfl rfl (nb_f Bool.false_ne_true) <| T.gk rfl rfl (nb_f Bool.false_ne_true) <| T.gk rfl rfl (nb_f Bool.false_ne_true) <| T.gk rfl rfl (nb_f Bool.false_ne_true) <| T.gk rfl rfl (nb_f Bool.false_ne_true) <| T.gk rfl rfl (nb_f Bool.false_ne_true) <| T.a (o_pickF rfl rfl Bool.false_ne_true) <| T.mv rfl <| T.gk rfl rfl (nb_f Bool.false_ne_true) <| T.gk rfl rfl (nb_f Bool.false_ne_true) <| T.a (o_pickF rfl rfl Bool.false_ne_true) <| T.mv rfl <| T.gk rfl rfl (nb_f Bool.false_ne_true) <| T.gk rfl rfl (nb_f Bool.false_ne_true) <| T.gk rfl rfl (nb_f Bool.false_ne_true) <| T.a (o_pickF rfl rfl Bool.false_ne_true) <| T.a (o_assign rfl) <| T.d <| T.at fun h => J1 (false, r11.2.2) _ _ (som H).symm (h.wr [2, 0, 5])
  ·exact T.gm h <| have H := ifF c2 H; T.gk rfl rfl (nb_f c2) <| T.a (o_pickF rfl rfl c2) <| T.mv rfl <| T.gk rfl rfl (nb_f Bool.false_ne_true) <| T.gk rfl rfl (nb_f Bool.false_ne_true) <| T.gk rfl rfl (nb_f Bool.false_ne_true) <| T.a (o_pickF rfl rfl Bool.false_ne_true) <| T.mv rfl <| T.gk rfl rfl (nb_f Bool.false_ne_true) <| T.gk rfl rfl (nb_f Bool.false_ne_true) <| T.gk rfl rfl (nb_f Bool.false_ne_true) <| T.a (o_pickF rfl rfl Bool.false_ne_true) <| T.mv rfl <| T.gk rfl rfl (nb_f Bool.false_ne_true) <| T.gk rfl rfl (nb_f Bool.false_ne_true) <| T.gk rfl rfl (nb_f Bool.false_ne_true) <| T.gk rfl rfl (nb_f Bool.false_ne_true) <| T.gk rfl rfl (nb_f Bool.false_ne_true) <| T.gk rfl rfl (nb_f Bool.false_ne_true) <| T.a (o_pickF rfl rfl Bool.false_ne_true) <| T.mv rfl <| T.gk rfl rfl (nb_f Bool.false_ne_true) <| T.gk rfl rfl (nb_f Bool.false_ne_true) <| T.a (o_pickF rfl rfl Bool.false_ne_true) <| T.mv rfl <| T.gk rfl rfl (nb_f Bool.false_ne_true) <| T.gk rfl rfl (nb_f Bool.false_ne_true) <| T.gk rfl rfl (nb_f Bool.false_ne_true) <| T.a (o_pickF rfl rfl Bool.false_ne_true) <| T.a (o_assign rfl) <| T.d <| T.at fun h => J1 (false, r11.2.2) _ _ (som H).symm (h.wr [2, 0, 5])
 ·exact T.gm h <| have H := ifF c1 H; T.gk rfl rfl (nb_f c1) <| T.gk rfl rfl (nb_f c1) <| T.a (o_pickF rfl rfl c1) <| T.mv rfl <| T.gk rfl rfl (nb_f Bool.false_ne_true) <| T.a (o_pickF rfl rfl Bool.false_ne_true) <| T.mv rfl <| T.gk rfl rfl (nb_f Bool.false_ne_true) <| T.gk rfl rfl (nb_f Bool.false_ne_true) <| T.gk rfl rfl (nb_f Bool.false_ne_true) <| T.a (o_pickF rfl rfl Bool.false_ne_true) <| T.mv rfl <| T.gk rfl rfl (nb_f Bool.false_ne_true) <| T.gk rfl rfl (nb_f Bool.false_ne_true) <| T.gk rfl rfl (nb_f Bool.false_ne_true) <| T.a (o_pickF rfl rfl Bool.false_ne_true) <| T.mv rfl <| T.gk rfl rfl (nb_f Bool.false_ne_true) <| T.gk rfl rfl (nb_f Bool.false_ne_true) <| T.gk rfl rfl (nb_f Bool.false_ne_true) <| T.gk rfl rfl (nb_f Bool.false_ne_true) <| T.gk rfl rfl (nb_f Bool.false_ne_true) <| T.gk rfl rfl (nb_f Bool.false_ne_true) <| T.a (o_pickF rfl rfl Bool.false_ne_true) <| T.mv rfl <| T.gk rfl rfl (nb_f Bool.false_ne_true) <| T.gk rfl rfl (nb_f Bool.false_ne_true) <| T.a (o_pickF rfl rfl Bool.false_ne_true) <| T.mv rfl <| T.gk rfl rfl (nb_f Bool.false_ne_true) <| T.gk rfl rfl (nb_f Bool.false_ne_true) <| T.gk rfl rfl (nb_f Bool.false_ne_true) <| T.a (o_pickF rfl rfl Bool.false_ne_true) <| T.a (o_assign rfl) <| T.d <| T.at fun h => J1 (false, r11.2.2) _ _ (som H).symm (h.wr [2, 0, 5])
def law22_heads.g (k_ : Nat)  : Option (Bool) :=
  (timer_New.g k_).bind fun r1 => (r1).bind fun y1 => (timer_Wheel_Set.g k_ y1 5 1).bind fun r2 => (timer_Wheel_Set.g k_ r2 9 2).bind fun r3 => (timer_Wheel_Set.g k_ r3 5 0).bind fun r4 => (timer_Wheel_Set.g k_ r4 3 2).bind fun r5 => (timer_Wheel_Set.g k_ r5 7 4).bind fun r6 => (timer_Wheel_Del.g k_ r6 4).bind fun r7 => (timer_Wheel_Del.g k_ r7.2 4).bind fun r8 => (timer_Wheel_Next.g k_ r8.2).bind fun r9 => (timer_Wheel_Due.g k_ r9.2.2 5).bind fun r10 => (timer_Wheel_Next.g k_ r10.2).bind fun r11 => ((if r7.1 = true then (if (!r8.1) = true then (if r9.2.1 = true then (if decide (r9.1.Id = 2) = true then (if decide (r9.1.At = 3) = true then (ref22_Same.g k_ r10.1 ([(⟨3, 2⟩ : TAlarm), (⟨5, 0⟩ : TAlarm), (⟨5, 1⟩ : TAlarm)] : List TAlarm)).bind fun r12 => (if r12 = true then (if (!r11.2.1) = true then (timer_Wheel_Len.g k_ r11.2.2).bind fun r13 => lt (decide (r13.1 = 0)) fun y2 => some ((y2, r13.2)) else some ((false, r11.2.2))) else some ((false, r11.2.2))) else some ((false, r11.2.2))) else some ((false, r11.2.2))) else some ((false, r11.2.2))) else some ((false, r11.2.2))) else some ((false, r11.2.2)))).bind (fun j1 => some (j1.1))
theorem law22_heads.le (k_ : Nat)  : Le (law22_heads.g k_ ) (law22_heads.f ) := by
 unfold law22_heads.g law22_heads.f
 repeat' (first | with_reducible refine le_loop fun _ => ?_ | with_reducible refine le_bind ?_ fun _ => ?_ | with_reducible refine le_ite ?_ ?_ | with_reducible refine le_lt fun _ => ?_ | with_reducible refine le_elim (fun _ => ?_) (fun _ => ?_) _ | with_reducible apply ref22_Same.le | with_reducible apply timer_New.le | with_reducible apply timer_Wheel_Del.le | with_reducible apply timer_Wheel_Due.le | with_reducible apply timer_Wheel_Len.le | with_reducible apply timer_Wheel_Next.le | with_reducible apply timer_Wheel_Set.le | with_reducible exact le_refl _)
/-! A wheel that no call made -/
set_option maxRecDepth 100000
set_option maxHeartbeats 1000000
abbrev KZ : Kd (Unit × Unit) := K2 (.slice none 0 0) (.map none)
theorem per_KZ : KZ.Per := Per_pair Per_eq (Per_last Per_eq)
/-- No wheel, or one that nothing was put into. -/
def Pz : Option Nat → Ent
  | none => Ent.nul
  | some b => Pfl KZ b 0 ((), ())
theorem per_Pz : ∀ o, (Pz o).Per
  | none => Per_nul
  | some b => Per_pfl
theorem none0.spc (o : Option Nat) : Spc Try.prog 22 [pz o] [Pz o] [] (fun (_ : Unit) => .bool true) (fun _ => []) := by
  refine Spc.go Try.func22 rfl (by kernel_rfl) rfl rfl (all_cons (per_Pz o) all_nil) fun F a w h => ?_
  cases o with
  | none =>
    refine T.go h <| T.qr rfl <| T.a (o_assign rfl) <| T.d <| T.qr rfl <| T.mv rfl <| T.a (o_ptn (v := none) rfl tw_u24) <| T.mv rfl <| T.gk rfl rfl rfl <| T.gk rfl rfl rfl <| T.gk rfl rfl rfl <| T.gk rfl rfl rfl <| T.gk rfl rfl rfl <|
      T.a (o_pickT rfl rfl rfl) <| T.a (o_assign rfl) <| T.d <| T.at fun h => ?_
    exact g_ret (vs := [.bool true]) h Try.func22 ⟨rfl, trivial⟩ ⟨(), rfl, h.mem.pick [] (by decide) rfl⟩
  | some b =>
    refine T.go h <| T.qr rfl <| T.a (o_assign rfl) <| T.d <| T.qr rfl <| T.mv rfl <| T.a (o_ptn (v := some ⟨b, 0, none⟩) rfl tw_u24) <| T.mv rfl <| T.ga rfl rfl rfl (o_move rfl) <| T.ga rfl rfl rfl (o_nilc (ad := ⟨b, 0, none⟩) rfl) <| T.ga rfl rfl rfl (fa rfl tw_f48_1) <|
      T.ga rfl rfl rfl (p_lfx (K := KZ) (A := Kd.eq (.map none)) 0 rfl rfl (sub_snd sub_last) rfl X_eq tw_y46) <| T.ga rfl rfl rfl (o_mpn rfl tw_u46) <|
      T.a (o_pickF rfl rfl Bool.false_ne_true) <| T.a (o_assign rfl) <| T.d <| T.at fun h => ?_
    exact g_ret (vs := [.bool true]) h Try.func22 ⟨rfl, trivial⟩ ⟨(), rfl, h.mem.pick [] (by decide) rfl⟩
theorem Set0.spc (o : Option Nat) (x y : Int) : Spc Try.prog 9 [pz o, .int .i64 x, .int .i64 y] [Pz o] [] (fun (_ : Unit) => .tuple #[]) (fun _ => []) := by
  refine Spc.go Try.func9 rfl (by kernel_rfl) rfl rfl (all_cons (per_Pz o) all_nil) fun F a w h => ?_
  refine T.go h <| T.q <| T.qr rfl <| T.mv rfl <| T.a (o_call (none0.spc o) rfl [0] [] (by decide) rfl rfl) <| T.d <| T.tt rfl rfl <| T.at fun h => ?_
  exact g_ret (vs := []) h Try.func9 trivial ⟨(), rfl, h.mem.pick [] (by decide) rfl⟩
theorem Del0.spc (o : Option Nat) (x : Int) : Spc Try.prog 12 [pz o, .int .i64 x] [Pz o] [] (fun (_ : Unit) => .bool false) (fun _ => []) := by
  refine Spc.go Try.func12 rfl (by kernel_rfl) rfl rfl (all_cons (per_Pz o) all_nil) fun F a w h => ?_
  refine T.go h <| T.qr rfl <| T.a (o_assign rfl) <| T.d <| T.q <| T.qr rfl <| T.mv rfl <| T.a (o_call (none0.spc o) rfl [0] [] (by decide) rfl rfl) <| T.d <| T.tt rfl rfl <| T.qr rfl <| T.a (o_assign rfl) <| T.d <| T.at fun h => ?_
  exact g_ret (vs := [.bool false]) h Try.func12 ⟨rfl, trivial⟩ ⟨(), rfl, h.mem.pick [] (by decide) rfl⟩
theorem All0.spc (o : Option Nat) : Spc Try.prog 14 [pz o] [Pz o] [] (fun (_ : Unit) => .slice none 0 0) (fun _ => []) := by
  refine Spc.go Try.func14 rfl (by kernel_rfl) rfl rfl (all_cons (per_Pz o) all_nil) fun F a w h => ?_
  refine T.go h <| T.qr rfl <| T.a (o_assign rfl) <| T.d <| T.q <| T.qr rfl <| T.mv rfl <| T.a (o_call (none0.spc o) rfl [0] [] (by decide) rfl rfl) <| T.d <| T.tt rfl rfl <| T.qr rfl <| T.a (o_assign rfl) <| T.d <| T.at fun h => ?_
  exact g_ret (vs := [.slice none 0 0]) h Try.func14 ⟨rfl, trivial⟩ ⟨(), rfl, h.mem.pick [] (by decide) rfl⟩
theorem Len0.spc (o : Option Nat) : Spc Try.prog 11 [pz o] [Pz o] [] (fun (_ : Unit) => .int .i64 0) (fun _ => []) := by
  refine Spc.go Try.func11 rfl (by kernel_rfl) rfl rfl (all_cons (per_Pz o) all_nil) fun F a w h => ?_
  refine T.go h <| T.qr rfl <| T.a (o_assign rfl) <| T.d <| T.q <| T.qr rfl <| T.mv rfl <| T.a (o_call (none0.spc o) rfl [0] [] (by decide) rfl rfl) <| T.d <| T.tt rfl rfl <| T.qr rfl <| T.a (o_assign rfl) <| T.d <| T.at fun h => ?_
  exact g_ret (vs := [.int .i64 0]) h Try.func11 ⟨rfl, trivial⟩ ⟨(), rfl, h.mem.pick [] (by decide) rfl⟩
theorem Next0.spc (o : Option Nat) : Spc Try.prog 19 [pz o] [Pz o] [] (fun (s : Value) => .tuple #[s, .bool false]) (fun s => [Val KAlarm s ⟨0, 0⟩]) := by
  refine Spc.go Try.func19 rfl (by kernel_rfl) rfl rfl (all_cons (per_Pz o) all_nil) fun F a w h => ?_
  refine T.go h <| T.qr rfl <| T.s (o_alloc (K := KAlarm) (z := .agg #[.int .i64 0, .int .i64 0]) rfl ZAlarm) fun c => T.a (o_assign rfl) <| T.d <| T.q <| T.qr rfl <| T.mv rfl <| T.a (o_call (none0.spc o) rfl [1] [] (by decide) rfl rfl) <| T.mv rfl <|
    T.gk rfl rfl rfl <| T.gk rfl rfl rfl <| T.gk rfl rfl rfl <| T.gk rfl rfl rfl <| T.gk rfl rfl rfl <| T.gk rfl rfl rfl <| T.a (o_pickT rfl rfl rfl) <| T.d <| T.tt rfl rfl <|
    T.qr rfl <| T.s (o_build (K := KAlarm) (x := (⟨0, 0⟩ : TAlarm)) (ps := []) rfl (zs := zsAlarm) rfl t_b28 rfl (show PB (Kd.pair (Kd.int .i64) (Kd.last (Kd.int .i64))) (0, 0) 0 zsAlarm _ _ from (pb_zero z_int (pb_lastz z_int)))) fun v2 =>
      T.z (o_st 1 rfl rfl rfl (pv_at PAlarm 0 rfl) rfl t_w28) <| T.a (o_assign rfl) <| T.d <| T.at fun h => ?_
  obtain ⟨v3, h, u1⟩ := h.peek 1 rfl PAlarm t_y28
  exact g_ret (vs := [v3, .bool false]) h Try.func19 ⟨⟨_, rfl, u1⟩, ⟨rfl, trivial⟩⟩ ⟨v3, rfl, h.mem.pick [0] (by decide) rfl⟩
theorem Due0.spc (o : Option Nat) (now : Int) : Spc Try.prog 10 [pz o, .int .i64 now] [Pz o] [] (fun (_ : Unit) => .slice none 0 0) (fun _ => []) := by
  refine Spc.go Try.func10 rfl (by kernel_rfl) rfl rfl (all_cons (per_Pz o) all_nil) fun F a w h => ?_
  refine T.go h <| T.qr rfl <| T.a (o_assign rfl) <| T.d <| T.qr rfl <| T.a (o_assign rfl) <| T.d <| T.q <| T.qr rfl <| T.mv rfl <| T.s (o_call (Next0.spc o) rfl [0] [] (by decide) rfl rfl) fun s => T.mv rfl <|
    T.a (o_extract rfl rfl) <| T.a (o_extract rfl rfl) <| T.s (o_alloc (K := KAlarm) (z := .agg #[.int .i64 0, .int .i64 0]) rfl ZAlarm) fun c => T.z (o_st 0 rfl rfl rfl (pv_at PAlarm 1 rfl) rfl t_w28) <| T.a (o_assign rfl) <| T.d <| T.bl <| T.at fun h => Go.loop ?_
  refine T.go h <| T.q <| T.qr rfl <| T.mv rfl <| T.mv rfl <| T.gk rfl rfl rfl <| T.gk rfl rfl rfl <| T.gk rfl rfl rfl <| T.gk rfl rfl rfl <| T.a (o_pickF rfl rfl (by decide)) <| T.d <| T.ff rfl (by decide) <| T.ex rfl <|
    T.qr rfl <| T.mv rfl <| T.a (o_assign rfl) <| T.d <| T.at fun h => ?_
  exact g_ret (vs := [.slice none 0 0]) h Try.func10 ⟨rfl, trivial⟩ ⟨(), rfl, h.mem.pick [] (by decide) rfl⟩
theorem tn_a49 : appTy Try.prog 49 1 = true := by kernel_rfl
theorem tn_v49 : slTy Try.prog 49 1 = true := by kernel_rfl
theorem tn_y24 : tyI Try.prog 24 = some (false, 1) := by kernel_rfl
theorem tn_v22 : slTy Try.prog 22 2 = true := by kernel_rfl
theorem pz_add {F : Fr} {w : World} {L : List Ent} {b : Nat} {o : Option Nat} (ho : o = none ∨ o = some b) (i : Nat) (hi : L[i]? = some (Pfl KZ b 0 ((), ()))) (h : Mem F L w) : Mem F (Pz o :: L) w := by
  rcases ho with rfl | rfl
  · exact h.addP fun _ _ _ => trivial
  · exact h.per Per_pfl hi
noncomputable def law22_TimerNobody.f (a1 : Int) (a2 : Int) : Option (Bool) := (law22_heads.f).bind fun r => some r
def law22_TimerNobody.g (k_ : Nat) (a1 : Int) (a2 : Int) : Option (Bool) := (law22_heads.g k_).bind fun r => some r
theorem law22_TimerNobody.spc (a1 : Int) (ha1 : InR .i64 a1) (a2 : Int) (ha2 : InR .i64 a2) (r : Bool) (H : law22_TimerNobody.f a1 a2 = some r) : Spc Try.prog 6 [.int .i64 a1, .int .i64 a2] [] [] (fun (s : Unit) => .bool r) (fun s => []) := by
  have H : law22_heads.f = some r := by unfold law22_TimerNobody.f at H; simpa using H
  refine Spc.go Try.func6 rfl (by kernel_rfl) rfl rfl all_nil fun F a w h => ?_
  refine T.go h <| T.qr rfl <| T.a (o_assign rfl) <| T.d <| T.qr rfl <| T.a (o_assign rfl) <| T.d <| T.qr rfl <| T.mv rfl <|
    T.s (o_build (K := KZ) (x := ((), ())) (ps := []) rfl (zs := [[.slice none 0 0], [.map none]]) tw_z48 tw_b48 rfl (pb_zero (fun _ => ⟨rfl, rfl⟩) (pb_lastz (fun _ => ⟨rfl, rfl⟩)))) fun u => T.s (o_boxo 0 rfl rfl) fun b => T.mm (fun m => m.rofrz (ro_per per_KZ) 0 rfl) <|
    T.s (o_bs (K := Kd.adrz) (vs := [pz none, pz (some b)]) (xs := [none, some b]) rfl rfl (pvs_cons pv_adrz (pvs_cons pv_adrz pvs_nil)) tn_a49 (by decide) (by decide)) fun s => T.a (o_assign rfl) <| T.d <| T.q <| T.qr rfl <| T.a (o_assign rfl) <| T.d <| T.at fun h => ?_
  refine g_cut (fun G => ∀ (a : Act) (w : World), St Try.f6.ntmps F [] [] a w → G a w) 1 ?_ fun J2 => ?_
  · intro a w h
    refine T.go h <| T.qr rfl <| T.a (o_call (law22_heads.spc r H) rfl [] [] (by decide) rfl rfl) <| T.a (o_assign rfl) <| T.d <| T.at fun h => ?_
    exact g_ret (vs := [.bool r]) h Try.func6 ⟨rfl, trivial⟩ ⟨(), rfl, h.mem.pick [] (by decide) rfl⟩
  refine T.go h <| T.bl <| T.at fun h => Go.loop ?_
  refine g_cut (fun G => ∀ (k i : Nat) (a : Act) (w : World), k + i = 2 → St Try.f6.ntmps F [(0, .int .i64 a1), (1, .int .i64 a2), (6, s), (7, .int .i64 (i : Int))] [Val (Kd.osl Kd.adrz) s [none, some b], Pfl KZ b 0 ((), ())] a w → G a w) 0 ?_ fun J => J 2 0 _ _ rfl (h.wr [0, 1])
  intro k
  induction k with
  | zero =>
    intro i a w hk h
    obtain rfl : i = 2 := by omega
    refine T.go h <| T.q <| T.qr rfl <| T.mv rfl <| T.a (o_bin rfl rfl rfl) <| T.d <| T.ff rfl (by decide) <| T.ex rfl <| T.at fun h => J2 _ _ (h.wr [])
  | succ k ih =>
    intro i a w hk h
    obtain ⟨o, ho, hx⟩ : ∃ o, (o = none ∨ o = some b) ∧ idx [none, some b] (i : Int) = some o := by
      rcases (show i = 0 ∨ i = 1 by omega) with rfl | rfl
      · exact ⟨none, .inl rfl, rfl⟩
      · exact ⟨some b, .inr rfl, rfl⟩
    refine T.go h <| T.mm (fun m => pz_add ho 1 rfl m) <| T.q <| T.qr rfl <| T.mv rfl <| T.a (o_bin rfl rfl rfl) <| T.d <| T.tt rfl (by simp; omega) <| T.sk <| T.q <| T.bl <|
      T.qr rfl <| T.mv rfl <| T.mv rfl <| T.a (o_ix rfl rfl (rd_own 1 rfl) hx tn_v49) <| T.a (o_lex rfl (rd_own 1 rfl) hx X_adrz tn_y24 (by decide)) <| T.mv rfl <| T.mv rfl <| T.a (o_call (Set0.spc o a1 a2) rfl [0] [] (by decide) rfl rfl) <| T.d <|
      T.qr rfl <| T.mv rfl <| T.mv rfl <| T.a (o_ix rfl rfl (rd_own 1 rfl) hx tn_v49) <| T.a (o_lex rfl (rd_own 1 rfl) hx X_adrz tn_y24 (by decide)) <| T.s (o_call (Next0.spc o) rfl [0] [] (by decide) rfl rfl) fun z => T.mv rfl <| T.a (o_extract rfl rfl) <| T.a (o_extract rfl rfl) <|
      T.s (o_alloc (K := KAlarm) (z := .agg #[.int .i64 0, .int .i64 0]) rfl ZAlarm) fun c => T.z (o_st 0 rfl rfl rfl (pv_at PAlarm 1 rfl) rfl t_w28) <| T.a (o_assign rfl) <| T.d <|
      T.qr rfl <| T.mv rfl <| T.mv rfl <| T.ga rfl rfl rfl (fa rfl t_f28_0) <| T.ga rfl rfl rfl (o_lfx (K := KAlarm) (y := ⟨0, 0⟩) 0 rfl rfl sAlarm_At rfl X_int t_y3) <| T.ga rfl rfl rfl (o_bin rfl rfl rfl) <| T.a (o_pickF rfl rfl (by decide)) <|
      T.mv rfl <| T.ga rfl rfl rfl (fa rfl t_f28_1) <| T.ga rfl rfl rfl (o_lfx (K := KAlarm) (y := ⟨0, 0⟩) 0 rfl rfl sAlarm_Id rfl X_int t_y3) <| T.ga rfl rfl rfl (o_bin rfl rfl rfl) <| T.a (o_pickF rfl rfl (by decide)) <|
      T.mv rfl <| T.ga rfl rfl rfl (o_move rfl) <| T.ga rfl rfl rfl (o_move rfl) <| T.ga rfl rfl rfl (o_ix rfl rfl (rd_own 3 rfl) hx tn_v49) <| T.ga rfl rfl rfl (o_lex rfl (rd_own 3 rfl) hx X_adrz tn_y24 (by decide)) <| T.ga rfl rfl rfl (o_move rfl) <|
      T.ga rfl rfl rfl (o_call (Del0.spc o a2) rfl [2] [] (by decide) rfl rfl) <| T.a (o_pickF rfl rfl (by decide)) <|
      T.mv rfl <| T.ga rfl rfl rfl (o_move rfl) <| T.ga rfl rfl rfl (o_move rfl) <| T.ga rfl rfl rfl (o_ix rfl rfl (rd_own 3 rfl) hx tn_v49) <| T.ga rfl rfl rfl (o_lex rfl (rd_own 3 rfl) hx X_adrz tn_y24 (by decide)) <| T.ga rfl rfl rfl (o_move rfl) <|
      T.ga rfl rfl rfl (o_call (Due0.spc o a1) rfl [2] [] (by decide) rfl rfl) <| T.mm (fun m => m.nilo KAlarm) <| T.ga rfl rfl rfl (o_ln rfl (rd_own 0 rfl) tn_v22) <| T.ga rfl rfl rfl (o_bin rfl rfl rfl) <| T.a (o_pickF rfl rfl (by decide)) <|
      T.mv rfl <| T.ga rfl rfl rfl (o_move rfl) <| T.ga rfl rfl rfl (o_move rfl) <| T.ga rfl rfl rfl (o_ix rfl rfl (rd_own 4 rfl) hx tn_v49) <| T.ga rfl rfl rfl (o_lex rfl (rd_own 4 rfl) hx X_adrz tn_y24 (by decide)) <|
      T.ga rfl rfl rfl (o_call (All0.spc o) rfl [3] [] (by decide) rfl rfl) <| T.ga rfl rfl rfl (o_ln rfl (rd_own 0 rfl) tn_v22) <| T.ga rfl rfl rfl (o_bin rfl rfl rfl) <| T.a (o_pickF rfl rfl (by decide)) <|
      T.mv rfl <| T.ga rfl rfl rfl (o_move rfl) <| T.ga rfl rfl rfl (o_move rfl) <| T.ga rfl rfl rfl (o_ix rfl rfl (rd_own 4 rfl) hx tn_v49) <| T.ga rfl rfl rfl (o_lex rfl (rd_own 4 rfl) hx X_adrz tn_y24 (by decide)) <|
      T.ga rfl rfl rfl (o_call (Len0.spc o) rfl [3] [] (by decide) rfl rfl) <| T.ga rfl rfl rfl (o_bin rfl rfl rfl) <| T.a (o_pickF rfl rfl (by decide)) <| T.d <| T.ff rfl (by decide) <| T.sk <| T.ib <|
      T.r rfl <| T.mv rfl <| T.a (o_bin rfl rfl rfl) <| T.a (o_assign' rfl (congrArg (Value.int .i64) (step_is (i := i) (by omega)))) <| T.d <| T.at fun h => ?_
    exact Go.inLoop (ih (i + 1) _ _ (by omega) (h.wr [4, 5]))
/-! drawbridge/drawbridgeref22.New -/
noncomputable def ref22_New.f  : Option ((Option TWheel)) :=
  some ((some (⟨[]⟩ : TWheel)))
set_option maxRecDepth 100000 in
set_option maxHeartbeats 4000000 in
theorem ref22_New.spc  (r : (Option TWheel)) (H : ref22_New.f  = some r) : Spc Try.prog 15 [] [] [] (fun (s : Value) => s) (fun s => [Val (Kd.obx KWheel) s r]) := by
 unfold ref22_New.f at H
 refine Spc.go Try.func15 rfl (by kernel_rfl) rfl rfl all_nil fun F a w h => ?_
 refine T.gg h <| T.qr rfl <| T.a (o_assign rfl) <| T.d <| T.qr rfl <| T.s (o_build (K := KWheel) (x := (⟨[]⟩ : TWheel)) (ps := []) rfl (zs := zsWheel) rfl t_b64 rfl (show PB (Kd.last (Kd.sl KAlarm)) [] 0 zsWheel _ _ from (pb_lastz z_sl))) fun v1 => T.s (o_box (K := KWheel) rfl (pv_at PWheel 0 rfl)) fun b1 => T.a (o_assign rfl) <| T.d <| T.mm (fun m => m.pkb 0 rfl) <| T.at fun h => ?_
 rw [← som H]
 exact g_ret (vs := [pt b1]) h Try.func15 ⟨rfl, trivial⟩ ⟨pt b1, rfl, (h.mem.pick [0] (by decide) rfl)⟩
def ref22_New.g (k_ : Nat)  : Option ((Option TWheel)) :=
  some ((some (⟨[]⟩ : TWheel)))
theorem ref22_New.le (k_ : Nat)  : Le (ref22_New.g k_ ) (ref22_New.f ) := by
 unfold ref22_New.g ref22_New.f
 repeat' (first | with_reducible refine le_loop fun _ => ?_ | with_reducible refine le_bind ?_ fun _ => ?_ | with_reducible refine le_ite ?_ ?_ | with_reducible refine le_lt fun _ => ?_ | with_reducible refine le_elim (fun _ => ?_) (fun _ => ?_) _ | with_reducible exact le_refl _)
/-! (*drawbridge/drawbridgeref22.Wheel).find -/
noncomputable def ref22_Wheel_find.f (a1 : TWheel) (a2 : Int) : Option (Int × TWheel) :=
  (loop (fun s1 => (if decide (s1 < (a1.l.length : Int)) = true then (idx a1.l s1).bind fun x1 => (if decide (x1.Id = a2) = true then some (.inr (.inr ((s1, a1)))) else lt (IntKind.i64.wrap (s1 + 1)) fun y1 => some (.inl y1)) else some (.inr (.inl (()))))) 0).bind (Sum.elim (fun j1 => some (((-1), a1))) (fun z_ => some (z_)))
set_option maxRecDepth 100000 in
set_option maxHeartbeats 4000000 in
theorem ref22_Wheel_find.spc (b1 : Nat) (a1 : TWheel) (a2 : Int) (ha2 : InR .i64 a2) (r : Int × TWheel) (H : ref22_Wheel_find.f a1 a2 = some r) : Spc Try.prog 30 [pt b1, .int .i64 a2] [] [Fld KWheel b1 0 a1] (fun (s : Unit) => .int .i64 r.1) (fun s => [Ent.pur (InR .i64 r.1), Fld KWheel b1 0 r.2]) := by
 unfold ref22_Wheel_find.f at H
 refine Spc.go Try.func30 rfl (by kernel_rfl) rfl rfl all_nil fun F a w h => ?_
 refine T.gg h <| T.qr rfl <| T.a (o_assign rfl) <| T.d <| T.q <| T.qr rfl <| T.a (o_assign rfl) <| T.d <| T.bl <| bE H fun o1 hl G1 => T.at fun h => ?_
 refine g_cut (fun G => ∀ j1 (a : Act) (w : World), o1 = .inl (j1) → St Try.f30.ntmps F [] [Fld KWheel b1 0 a1] a w → G a w) 2 ?_ fun J1 => ?_
 ·intro j1 a w ho_ h
  rw [ho_] at G1
  refine T.gg h <| have H := eInl G1; T.qr rfl <| T.a (o_assign rfl) <| T.d <| T.at fun h => ?_
  rw [← som H]
  exact g_ret (vs := [.int .i64 (-1)]) h Try.func30 ⟨rfl, trivial⟩ ⟨(), rfl, ((h.mem.pick [0] (by decide) rfl).addpur (show InR .i64 (-1) by decide))⟩
 refine g_loop (fun s1 G => ∀  (a : Act) (w : World), InR .i64 s1 → St Try.f30.ntmps F [(0, pt b1), (1, .int .i64 a2), (5, .int .i64 s1)] [Fld KWheel b1 0 a1] a w → G a w) hl (fun s1 p1 H i1 => ?_) fun I_ => ?_
 ·intro  a w g1 h
  refine T.gg h <| T.q <| T.qr rfl <| T.mv rfl <| T.mv rfl <| T.a (o_nilc rfl) <| T.a (fa rfl t_f64_0) <| T.s (o_lfv 0 rfl rfl sWheel_l rfl Per_sl t_y22) fun v1 => T.u (fun m => (len_at 0 rfl m)) fun g2 => T.a (o_ln rfl (rd_at 0 rfl) t_v22) <| T.a (o_bin rfl rfl rfl) <| T.d <| T.at fun h => ?_
  by_cases c1 : decide (s1 < (a1.l.length : Int)) = true
  ·refine T.gg h <| have H := ifT c1 H; T.tt rfl c1 <| T.sk <| T.q <| T.bl <| T.qr rfl <| T.mv rfl <| T.a (o_nilc rfl) <| T.a (fa rfl t_f64_0) <| T.s (o_lfv 1 rfl rfl sWheel_l rfl Per_sl t_y22) fun v2 => T.mv rfl <| bE H fun x1 ex1 H => T.a (o_ix rfl rfl (rd_at 0 rfl) ex1 t_v22) <| T.a (o_fae (k' := s1.toNat * Kd.n KAlarm + 1) rfl (rd_at 0 rfl) ex1 (by decide) t_f28_1 rfl rfl) <| T.u (fun m => (in1 (rd_sub sAlarm_Id (rd_at 0 rfl) ex1 m))) fun g3 => T.a (o_lsx rfl (rd_at 0 rfl) ex1 sAlarm_Id X_int t_y3 (by decide)) <| T.mv rfl <| T.a (o_bin rfl rfl rfl) <| T.d <| T.at fun h => ?_
   by_cases c2 : decide (x1.Id = a2) = true
   ·refine T.gg h <| have H := ifT c2 H; T.tt rfl c2 <| T.qr rfl <| T.mv rfl <| T.a (o_assign rfl) <| T.d <| T.at fun h => ?_
    have e_ := som H; subst e_
    rw [← nx_out i1] at G1
    have H := G1
    rw [← som H]
    exact g_ret (vs := [.int .i64 s1]) h Try.func30 ⟨rfl, trivial⟩ ⟨(), rfl, ((h.mem.pick [2] (by decide) rfl).addpur g1)⟩
   ·refine T.gg h <| have H := ifF c2 H; T.ff rfl c2 <| T.sk <| T.ib <| T.r rfl <| T.mv rfl <| T.a (o_bin rfl rfl rfl) <| lE H fun y1 ey1 H => T.a (o_assign' rfl (congrArg (fun z => Value.int .i64 z) ey1)) <| T.d <| T.at fun h => ?_
    have e_ := som H; subst e_
    exact Go.inLoop (nx_in i1 _ _ (ey1 ▸ (wrap_in _ _)) (h.wr [2]))
  ·refine T.gg h <| have H := ifF c1 H; T.ff rfl c1 <| T.ex rfl <| T.at fun h => ?_
   have e_ := som H; subst e_
   exact J1 () _ _ (nx_out i1).symm (h.wr [1])
 ·exact I_ _ _ (show InR .i64 0 by decide) (h.wr [0])
def ref22_Wheel_find.g (k_ : Nat) (a1 : TWheel) (a2 : Int) : Option (Int × TWheel) :=
  (loopK k_ (fun s1 => (if decide (s1 < (a1.l.length : Int)) = true then (idx a1.l s1).bind fun x1 => (if decide (x1.Id = a2) = true then some (.inr (.inr ((s1, a1)))) else lt (IntKind.i64.wrap (s1 + 1)) fun y1 => some (.inl y1)) else some (.inr (.inl (()))))) 0).bind (Sum.elim (fun j1 => some (((-1), a1))) (fun z_ => some (z_)))
theorem ref22_Wheel_find.le (k_ : Nat) (a1 : TWheel) (a2 : Int) : Le (ref22_Wheel_find.g k_ a1 a2) (ref22_Wheel_find.f a1 a2) := by
 unfold ref22_Wheel_find.g ref22_Wheel_find.f
 repeat' (first | with_reducible refine le_loop fun _ => ?_ | with_reducible refine le_bind ?_ fun _ => ?_ | with_reducible refine le_ite ?_ ?_ | with_reducible refine le_lt fun _ => ?_ | with_reducible refine le_elim (fun _ => ?_) (fun _ => ?_) _ | with_reducible exact le_refl _)
/-! (*drawbridge/drawbridgeref22.Wheel).Del -/
noncomputable def ref22_Wheel_Del.f (a1 : TWheel) (a2 : Int) : Option (Bool × TWheel) :=
  (ref22_Wheel_find.f a1 a2).bind fun r1 => (if decide (r1.1 < 0) = true then some ((false, r1.2)) else (cut r1.2.l 0 r1.1).bind fun x1 => (app ([] : List TAlarm) x1).bind fun x2 => (cut r1.2.l (IntKind.i64.wrap (r1.1 + 1)) (r1.2.l.length : Int)).bind fun x3 => (app x2 x3).bind fun x4 => lt (⟨x4⟩ : TWheel) fun y1 => some ((true, y1)))
set_option maxRecDepth 100000 in
set_option maxHeartbeats 4000000 in
theorem ref22_Wheel_Del.spc (b1 : Nat) (a1 : TWheel) (a2 : Int) (ha2 : InR .i64 a2) (r : Bool × TWheel) (H : ref22_Wheel_Del.f a1 a2 = some r) : Spc Try.prog 17 [pt b1, .int .i64 a2] [] [Fld KWheel b1 0 a1] (fun (s : Unit) => .bool r.1) (fun s => [Fld KWheel b1 0 r.2]) := by
 unfold ref22_Wheel_Del.f at H
 refine Spc.go Try.func17 rfl (by kernel_rfl) rfl rfl all_nil fun F a w h => ?_
 refine T.gg h <| T.qr rfl <| T.a (o_assign rfl) <| T.d <| T.qr rfl <| T.mv rfl <| T.mv rfl <| bE H fun r1 er1 H => T.a (o_call (ref22_Wheel_find.spc b1 a1 a2 ha2 r1 er1) rfl [] [0] (by decide) rfl rfl) <| T.u (fun m => m.pur 0 rfl) fun g1 => T.a (o_assign rfl) <| T.d <| T.q <| T.qr rfl <| T.mv rfl <| T.a (o_bin rfl rfl rfl) <| T.d <| T.at fun h => ?_
 by_cases c1 : decide (r1.1 < 0) = true
 ·refine T.gg h <| have H := ifT c1 H; T.tt rfl c1 <| T.qr rfl <| T.a (o_assign rfl) <| T.d <| T.at fun h => ?_
  rw [← som H]
  exact g_ret (vs := [.bool false]) h Try.func17 ⟨rfl, trivial⟩ ⟨(), rfl, (h.mem.pick [1] (by decide) rfl)⟩
 ·refine T.gg h <| have H := ifF c1 H; T.ff rfl c1 <| T.sk <| T.q <| T.w [(0, pt b1), (4, .bool false), (5, .int .i64 r1.1)] [Ent.pur (InR .i64 r1.1), Fld KWheel b1 0 r1.2] [0, 1] rfl (by decide) rfl <| bE H fun x1 ex1 H => bE H fun x2 ex2 H => bE H fun x3 ex3 H => bE H fun x4 ex4 H => T.at fun h => ?_
  refine Go.draw (E := [(0, pt b1), (4, .bool false), (5, .int .i64 r1.1)]) [] (L := [Ent.pur (InR .i64 r1.1), Fld KWheel b1 0 r1.2]) h rfl rfl 17 [cn (pt b1), cw [] [] [] fun u => [Val (Kd.osl KAlarm) u ([] : List TAlarm)], cn (pt b1), ce [2] (pt b1), ce [2, 3] (pt b1), cw [2, 3, 4] [] [] fun u => [Val (Kd.sl KAlarm) u r1.2.l], cn (.int .i64 r1.1), cw [2, 3, 4, 5, 6] [5] [] fun u => [Val (Kd.sl KAlarm) u x1], cw [1, 2, 3, 4, 5, 6, 7] [1, 7] [1] fun u => [Val (Kd.osl KAlarm) u x2], cn (pt b1), ce [9] (pt b1), ce [9, 10] (pt b1), cw [9, 10, 11] [] [] fun u => [Val (Kd.sl KAlarm) u r1.2.l], cn (.int .i64 r1.1), ce [13] (.int .i64 (IntKind.i64.wrap (r1.1 + 1))), cw [9, 10, 11, 12, 13, 14] [12] [] fun u => [Val (Kd.sl KAlarm) u x3], cw [1, 2, 3, 4, 5, 6, 7, 8, 9, 10, 11, 12, 13, 14, 15] [8, 15] [8] fun u => [Val (Kd.osl KAlarm) u x4]] rfl t_mxo (by kernel_rfl) (by rfl) ?_ fun f1 _ _ h => ?_
  ·exact ox rfl (o_move rfl) (oy rfl (o_bs (K := KAlarm) (vs := []) (xs := ([] : List TAlarm)) rfl rfl pvs_nil t_a22 (by decide) (by decide)) (ox rfl (o_move rfl) (ox rfl (o_nilc rfl) (ox rfl (o_fa rfl t_f64_0 rfl rfl) (oy rfl (o_lfv 1 rfl rfl sWheel_l rfl Per_sl t_y22) (ox rfl (o_move rfl) (oy rfl (o_cuth rfl (pv_at Per_sl 0 rfl) rfl ex1 t_v22) (oy rfl (o_app (K := KAlarm) 0 rfl rfl rfl (rd_at 1 rfl) ex2 t_a22 t_n22) (ox rfl (o_move rfl) (ox rfl (o_nilc rfl) (ox rfl (o_fa rfl t_f64_0 rfl rfl) (oy rfl (o_lfv 1 rfl rfl sWheel_l rfl Per_sl t_y22) (ox rfl (o_move rfl) (ox rfl (o_bin rfl rfl rfl) (oy rfl (o_cutl rfl (pv_at Per_sl 0 rfl) rfl ex3 t_v22) (oy rfl (o_app (K := KAlarm) 0 rfl rfl rfl (rd_at 1 rfl) ex4 t_a22 t_n22) (obs_nil)))))))))))))))))
  replace h := h.wk (E' := [(4, .bool false), (11, pt b1), (27, (f1 16))]) (L' := [Val (Kd.sl KAlarm) (f1 5) r1.2.l, Val (Kd.sl KAlarm) (f1 7) x1, Val (Kd.sl KAlarm) (f1 12) r1.2.l, Val (Kd.sl KAlarm) (f1 15) x3, Val (Kd.osl KAlarm) (f1 16) x4, Ent.pur (InR .i64 r1.1), Fld KWheel b1 0 r1.2]) (by kernel_rfl) [0, 1, 2, 3, 4, 5, 6] (by decide) (by kernel_rfl)
  refine T.gr h <| T.lo rfl <| T.a (o_nilc rfl) <| T.a (fa rfl t_f64_0) <| T.mm (fun m => m.freeze 4 rfl) <| lE H fun y1 ey1 H => T.z (o_stp (x0 := r1.2) (y := x4) 6 t_uWheel_0_1 rfl rfl rfl rfl (pv_at Per_sl 4 rfl) t_w22) <| T.at fun h => ?_
  rw [ey1] at h
  refine T.gm h <| T.d <| T.qr rfl <| T.a (o_assign rfl) <| T.d <| T.at fun h => ?_
  rw [← som H]
  exact g_ret (vs := [.bool true]) h Try.func17 ⟨rfl, trivial⟩ ⟨(), rfl, (h.mem.pick [6] (by decide) rfl)⟩
def ref22_Wheel_Del.g (k_ : Nat) (a1 : TWheel) (a2 : Int) : Option (Bool × TWheel) :=
  (ref22_Wheel_find.g k_ a1 a2).bind fun r1 => (if decide (r1.1 < 0) = true then some ((false, r1.2)) else (cut r1.2.l 0 r1.1).bind fun x1 => (app ([] : List TAlarm) x1).bind fun x2 => (cut r1.2.l (IntKind.i64.wrap (r1.1 + 1)) (r1.2.l.length : Int)).bind fun x3 => (app x2 x3).bind fun x4 => lt (⟨x4⟩ : TWheel) fun y1 => some ((true, y1)))
theorem ref22_Wheel_Del.le (k_ : Nat) (a1 : TWheel) (a2 : Int) : Le (ref22_Wheel_Del.g k_ a1 a2) (ref22_Wheel_Del.f a1 a2) := by
 unfold ref22_Wheel_Del.g ref22_Wheel_Del.f
 repeat' (first | with_reducible refine le_loop fun _ => ?_ | with_reducible refine le_bind ?_ fun _ => ?_ | with_reducible refine le_ite ?_ ?_ | with_reducible refine le_lt fun _ => ?_ | with_reducible refine le_elim (fun _ => ?_) (fun _ => ?_) _ | with_reducible apply ref22_Wheel_find.le | with_reducible exact le_refl _)
/-! (*drawbridge/drawbridgeref22.Wheel).Set -/
noncomputable def ref22_Wheel_Set.f (a1 : TWheel) (a2 : Int) (a3 : Int) : Option (TWheel) :=
  (ref22_Wheel_Del.f a1 a3).bind fun r1 => (if decide (4096 ≤ (r1.2.l.length : Int)) = true then some (r1.2) else (loop (fun s1 => ((if decide (s1 < (r1.2.l.length : Int)) = true then (idx r1.2.l s1).bind fun x1 => (if decide (x1.At < a2) = true then some (true) else (idx r1.2.l s1).bind fun x2 => (if decide (x2.At = a2) = true then (idx r1.2.l s1).bind fun x3 => some (decide (x3.Id < a3)) else some (false))) else some (false))).bind (fun j1 => (if j1 = true then lt (IntKind.i64.wrap (s1 + 1)) fun y1 => some (.inl y1) else some (.inr (s1))))) 0).bind (fun j2 => (cut r1.2.l 0 j2).bind fun x4 => (app ([] : List TAlarm) x4).bind fun x5 => (app x5 ([(⟨a2, a3⟩ : TAlarm)] : List TAlarm)).bind fun x6 => (cut r1.2.l j2 (r1.2.l.length : Int)).bind fun x7 => (app x6 x7).bind fun x8 => lt (⟨x8⟩ : TWheel) fun y2 => some (y2)))
set_option maxRecDepth 100000 in
set_option maxHeartbeats 4000000 in
theorem ref22_Wheel_Set.spc (b1 : Nat) (a1 : TWheel) (a2 : Int) (ha2 : InR .i64 a2) (a3 : Int) (ha3 : InR .i64 a3) (r : TWheel) (H : ref22_Wheel_Set.f a1 a2 a3 = some r) : Spc Try.prog 16 [pt b1, .int .i64 a2, .int .i64 a3] [] [Fld KWheel b1 0 a1] (fun (s : Unit) => .tuple #[]) (fun s => [Fld KWheel b1 0 r]) := by
 unfold ref22_Wheel_Set.f at H
 refine Spc.go Try.func16 rfl (by kernel_rfl) rfl rfl all_nil fun F a w h => ?_
 refine T.gg h <| T.qr rfl <| T.mv rfl <| T.mv rfl <| bE H fun r1 er1 H => T.a (o_call (ref22_Wheel_Del.spc b1 a1 a3 ha3 r1 er1) rfl [] [0] (by decide) rfl rfl) <| T.d <| T.q <| T.qr rfl <| T.mv rfl <| T.a (o_nilc rfl) <| T.a (fa rfl t_f64_0) <| T.s (o_lfv 0 rfl rfl sWheel_l rfl Per_sl t_y22) fun v1 => T.u (fun m => (len_at 0 rfl m)) fun g1 => T.a (o_ln rfl (rd_at 0 rfl) t_v22) <| T.a (o_bin rfl rfl rfl) <| T.d <| T.at fun h => ?_
 by_cases c1 : decide (4096 ≤ (r1.2.l.length : Int)) = true
 ·refine T.gg h <| have H := ifT c1 H; T.tt rfl c1 <| T.at fun h => ?_
  rw [← som H]
  exact g_ret (vs := []) h Try.func16 trivial ⟨(), rfl, (h.mem.pick [1] (by decide) rfl)⟩
 ·refine T.gg h <| have H := ifF c1 H; T.ff rfl c1 <| T.sk <| T.qr rfl <| T.a (o_assign rfl) <| T.d <| T.q <| T.bl <| bE H fun o1 hl G1 => T.at fun h => ?_
  refine g_cut (fun G => ∀ j2 (a : Act) (w : World), o1 = j2 → InR .i64 j2 → St Try.f16.ntmps F [(0, pt b1), (1, .int .i64 a2), (2, .int .i64 a3), (6, .int .i64 j2)] [Fld KWheel b1 0 r1.2] a w → G a w) 2 ?_ fun J2 => ?_
  ·intro j2 a w ho_ g7 h
   rw [ho_] at G1
   have H := G1
   replace h := h.wq [(0, pt b1), (1, .int .i64 a2), (2, .int .i64 a3), (6, .int .i64 j2)] [Fld KWheel b1 0 r1.2] [0]
   obtain ⟨x4, ex4, H⟩ := bindE H
   obtain ⟨x5, ex5, H⟩ := bindE H
   obtain ⟨x6, ex6, H⟩ := bindE H
   obtain ⟨x7, ex7, H⟩ := bindE H
   obtain ⟨x8, ex8, H⟩ := bindE H
   refine Go.draw (E := [(0, pt b1), (1, .int .i64 a2), (2, .int .i64 a3), (6, .int .i64 j2)]) [] (L := [Fld KWheel b1 0 r1.2]) h rfl rfl 21 [cn (pt b1), cw [] [] [] fun u => [Val (Kd.osl KAlarm) u ([] : List TAlarm)], cn (pt b1), ce [2] (pt b1), ce [2, 3] (pt b1), cw [2, 3, 4] [] [] fun u => [Val (Kd.sl KAlarm) u r1.2.l], cn (.int .i64 j2), cw [2, 3, 4, 5, 6] [5] [] fun u => [Val (Kd.sl KAlarm) u x4], cw [1, 2, 3, 4, 5, 6, 7] [1, 7] [1] fun u => [Val (Kd.osl KAlarm) u x5], cn (.int .i64 a2), cn (.int .i64 a3), cw [9, 10] [] [] fun u => [Val KAlarm u (⟨a2, a3⟩ : TAlarm)], cw [9, 10, 11] [11] [] fun u => [Val (Kd.osl KAlarm) u ([(⟨a2, a3⟩ : TAlarm)] : List TAlarm)], cw [1, 2, 3, 4, 5, 6, 7, 8, 9, 10, 11, 12] [8, 12] [8] fun u => [Val (Kd.osl KAlarm) u x6], cn (pt b1), ce [14] (pt b1), ce [14, 15] (pt b1), cw [14, 15, 16] [] [] fun u => [Val (Kd.sl KAlarm) u r1.2.l], cn (.int .i64 j2), cw [14, 15, 16, 17, 18] [17] [] fun u => [Val (Kd.sl KAlarm) u x7], cw [1, 2, 3, 4, 5, 6, 7, 8, 9, 10, 11, 12, 13, 14, 15, 16, 17, 18, 19] [13, 19] [13] fun u => [Val (Kd.osl KAlarm) u x8]] rfl t_mxo (by kernel_rfl) (by rfl) ?_ fun f1 _ _ h => ?_
   ·exact ox rfl (o_move rfl) (oy rfl (o_bs (K := KAlarm) (vs := []) (xs := ([] : List TAlarm)) rfl rfl pvs_nil t_a22 (by decide) (by decide)) (ox rfl (o_move rfl) (ox rfl (o_nilc rfl) (ox rfl (o_fa rfl t_f64_0 rfl rfl) (oy rfl (o_lfv 0 rfl rfl sWheel_l rfl Per_sl t_y22) (ox rfl (o_move rfl) (oy rfl (o_cuth rfl (pv_at Per_sl 0 rfl) rfl ex4 t_v22) (oy rfl (o_app (K := KAlarm) 0 rfl rfl rfl (rd_at 1 rfl) ex5 t_a22 t_n22) (ox rfl (o_move rfl) (ox rfl (o_move rfl) (oy rfl (o_build (K := KAlarm) (x := (⟨a2, a3⟩ : TAlarm)) (ps := [(0, .int .i64 a2), (1, .int .i64 a3)]) rfl (zs := zsAlarm) rfl t_b28 rfl (show PB (Kd.pair (Kd.int .i64) (Kd.last (Kd.int .i64))) (a2, a3) 0 zsAlarm _ _ from (pb_part (pv_int ha2) rfl (pb_lastp (pv_int ha3) rfl)))) (ow rfl rfl rfl (fun f1 => (o_bs (K := KAlarm) (vs := [(f1 11)]) (xs := ([(⟨a2, a3⟩ : TAlarm)] : List TAlarm)) rfl rfl (pvs_cons (pv_at PAlarm 0 rfl) pvs_nil) t_a22 (by decide) (by decide))) (oy rfl (o_app (K := KAlarm) 0 rfl rfl rfl (rd_own 1 rfl) ex6 t_a22 t_n22) (ox rfl (o_move rfl) (ox rfl (o_nilc rfl) (ox rfl (o_fa rfl t_f64_0 rfl rfl) (oy rfl (o_lfv 0 rfl rfl sWheel_l rfl Per_sl t_y22) (ox rfl (o_move rfl) (oy rfl (o_cutl rfl (pv_at Per_sl 0 rfl) rfl ex7 t_v22) (oy rfl (o_app (K := KAlarm) 0 rfl rfl rfl (rd_at 1 rfl) ex8 t_a22 t_n22) (obs_nil)))))))))))))))))))))
   replace h := h.wk (E' := [(61, pt b1), (81, (f1 20))]) (L' := [Val (Kd.sl KAlarm) (f1 5) r1.2.l, Val (Kd.sl KAlarm) (f1 7) x4, Val KAlarm (f1 11) (⟨a2, a3⟩ : TAlarm), Val (Kd.osl KAlarm) (f1 12) ([(⟨a2, a3⟩ : TAlarm)] : List TAlarm), Val (Kd.sl KAlarm) (f1 17) r1.2.l, Val (Kd.sl KAlarm) (f1 19) x7, Val (Kd.osl KAlarm) (f1 20) x8, Fld KWheel b1 0 r1.2]) (by kernel_rfl) [0, 1, 2, 3, 4, 5, 6, 7] (by decide) (by kernel_rfl)
   refine T.gr h <| T.lo rfl <| T.a (o_nilc rfl) <| T.a (fa rfl t_f64_0) <| T.mm (fun m => m.freeze 6 rfl) <| lE H fun y2 ey2 H => T.z (o_stp (x0 := r1.2) (y := x8) 7 t_uWheel_0_1 rfl rfl rfl rfl (pv_at Per_sl 6 rfl) t_w22) <| T.at fun h => ?_
   rw [ey2] at h
   refine T.gm h <| T.d <| T.at fun h => ?_
   rw [← som H]
   exact g_fin (vs := []) h Try.func16 trivial ⟨(), rfl, (h.mem.pick [7] (by decide) rfl)⟩
  refine g_loop (fun s1 G => ∀  (a : Act) (w : World), InR .i64 s1 → St Try.f16.ntmps F [(0, pt b1), (1, .int .i64 a2), (2, .int .i64 a3), (6, .int .i64 s1)] [Fld KWheel b1 0 r1.2] a w → G a w) hl (fun s1 p1 H i1 => ?_) fun I_ => ?_
  ·intro  a w g2 h
   refine T.gg h <| T.q <| T.q <| bE H fun o2 H G2 => T.at fun h => ?_
   refine g_cut (fun G => ∀ j1 (a : Act) (w : World), o2 = j1 → St Try.f16.ntmps F [(0, pt b1), (1, .int .i64 a2), (2, .int .i64 a3), (6, .int .i64 s1), (58, .bool j1)] [Fld KWheel b1 0 r1.2] a w → G a w) 1 ?_ fun J1 => ?_
   ·intro j1 a w ho_ h
    rw [ho_] at G2
    have H := G2
    by_cases c5 : j1 = true
    ·refine T.gg h <| have H := ifT c5 H; T.tt rfl c5 <| T.sk <| T.bl <| T.r rfl <| T.mv rfl <| T.a (o_bin rfl rfl rfl) <| lE H fun y1 ey1 H => T.a (o_assign' rfl (congrArg (fun z => Value.int .i64 z) ey1)) <| T.d <| T.ib <| T.at fun h => ?_
     have e_ := som H; subst e_
     exact Go.inLoop (nx_in i1 _ _ (ey1 ▸ (wrap_in _ _)) (h.wr [0]))
    ·refine T.gg h <| have H := ifF c5 H; T.ff rfl c5 <| T.ex rfl <| T.at fun h => ?_
     have e_ := som H; subst e_
     exact J2 s1 _ _ (nx_out i1).symm g2 (h.wr [0])
   refine T.gg h <| T.r rfl <| T.mv rfl <| T.mv rfl <| T.a (o_nilc rfl) <| T.a (fa rfl t_f64_0) <| T.s (o_lfv 0 rfl rfl sWheel_l rfl Per_sl t_y22) fun v2 => T.u (fun m => (len_at 0 rfl m)) fun g3 => T.a (o_ln rfl (rd_at 0 rfl) t_v22) <| T.a (o_bin rfl rfl rfl) <| T.mv rfl <| T.at fun h => ?_
   by_cases c2 : decide (s1 < (r1.2.l.length : Int)) = true
   ·refine T.gm h <| have H := ifT c2 H; T.ga rfl rfl c2 (o_move rfl) <| T.ga rfl rfl c2 (o_nilc rfl) <| T.ga rfl rfl c2 (fa rfl t_f64_0) <| T.gs rfl rfl c2 (o_lfv 1 rfl rfl sWheel_l rfl Per_sl t_y22) fun v3 => T.ga rfl rfl c2 (o_move rfl) <| bE H fun x1 ex1 H => T.ga rfl rfl c2 (o_ix rfl rfl (rd_at 0 rfl) ex1 t_v22) <| T.ga rfl rfl c2 (o_fae (k' := s1.toNat * Kd.n KAlarm + 0) rfl (rd_at 0 rfl) ex1 (by decide) t_f28_0 rfl rfl) <| T.u (fun m => (in1 (rd_sub sAlarm_At (rd_at 0 rfl) ex1 m))) fun g4 => T.ga rfl rfl c2 (o_lsx rfl (rd_at 0 rfl) ex1 sAlarm_At X_int t_y3 (by decide)) <| T.ga rfl rfl c2 (o_move rfl) <| T.ga rfl rfl c2 (o_bin rfl rfl rfl) <| T.ga rfl rfl c2 (o_move rfl) <| T.at fun h => ?_
    by_cases c3 : decide (x1.At < a2) = true
    ·exact T.gm h <| have H := ifT c3 H; T.gk rfl rfl (nb_t c3) <| T.gk rfl rfl (nb_t c3) <| T.gk rfl rfl (nb_t c3) <| T.gk rfl rfl (nb_t c3) <| T.gk rfl rfl (nb_t c3) <| T.gk rfl rfl (nb_t c3) <| T.gk rfl rfl (nb_t c3) <| T.gk rfl rfl (nb_t c3) <| T.gk rfl rfl (nb_t c3) <| T.gk rfl rfl (nb_t c3) <| T.gk rfl rfl (nb_t c3) <| T.gk rfl rfl rfl <| T.gk rfl rfl rfl <| T.gk rfl rfl rfl <| T.gk rfl rfl rfl <| T.gk rfl rfl rfl <| T.gk rfl rfl rfl <| T.gk rfl rfl rfl <| T.gk rfl rfl rfl <| T.gk rfl rfl rfl <| T.gk rfl rfl rfl <| T.gk rfl rfl (nb_t c3) <| T.ga rfl rfl c2 (o_pickT rfl rfl c3) <| T.a (o_pickT rfl rfl c2) <| T.d <| T.at fun h => J1 true _ _ (som H).symm (h.wr [2])
    ·refine T.gm h <| have H := ifF c3 H; T.ga rfl rfl (nbF c3) (o_move rfl) <| T.ga rfl rfl (nbF c3) (o_nilc rfl) <| T.ga rfl rfl (nbF c3) (fa rfl t_f64_0) <| T.gs rfl rfl (nbF c3) (o_lfv 2 rfl rfl sWheel_l rfl Per_sl t_y22) fun v4 => T.ga rfl rfl (nbF c3) (o_move rfl) <| bE H fun x2 ex2 H => T.ga rfl rfl (nbF c3) (o_ix rfl rfl (rd_at 0 rfl) ex2 t_v22) <| T.ga rfl rfl (nbF c3) (o_fae (k' := s1.toNat * Kd.n KAlarm + 0) rfl (rd_at 0 rfl) ex2 (by decide) t_f28_0 rfl rfl) <| T.u (fun m => (in1 (rd_sub sAlarm_At (rd_at 0 rfl) ex2 m))) fun g5 => T.ga rfl rfl (nbF c3) (o_lsx rfl (rd_at 0 rfl) ex2 sAlarm_At X_int t_y3 (by decide)) <| T.ga rfl rfl (nbF c3) (o_move rfl) <| T.ga rfl rfl (nbF c3) (o_bin rfl rfl rfl) <| T.ga rfl rfl (nbF c3) (o_move rfl) <| T.at fun h => ?_
     by_cases c4 : decide (x2.At = a2) = true
     ·exact T.gm h <| have H := ifT c4 H; T.ga rfl rfl c4 (o_move rfl) <| T.ga rfl rfl c4 (o_nilc rfl) <| T.ga rfl rfl c4 (fa rfl t_f64_0) <| T.gs rfl rfl c4 (o_lfv 3 rfl rfl sWheel_l rfl Per_sl t_y22) fun v5 => T.ga rfl rfl c4 (o_move rfl) <| bE H fun x3 ex3 H => T.ga rfl rfl c4 (o_ix rfl rfl (rd_at 0 rfl) ex3 t_v22) <| T.ga rfl rfl c4 (o_fae (k' := s1.toNat * Kd.n KAlarm + 1) rfl (rd_at 0 rfl) ex3 (by decide) t_f28_1 rfl rfl) <| T.u (fun m => (in1 (rd_sub sAlarm_Id (rd_at 0 rfl) ex3 m))) fun g6 => T.ga rfl rfl c4 (o_lsx rfl (rd_at 0 rfl) ex3 sAlarm_Id X_int t_y3 (by decide)) <| T.ga rfl rfl c4 (o_move rfl) <| T.ga rfl rfl c4 (o_bin rfl rfl rfl) <| T.ga rfl rfl (nbF c3) (o_pickT rfl rfl c4) <| T.ga rfl rfl c2 (o_pickF rfl rfl c3) <| T.a (o_pickT rfl rfl c2) <| T.d <| T.at fun h => J1 (decide (x3.Id < a3)) _ _ (som H).symm (h.wr [4])
     ·exact T.gm h <| have H := ifF c4 H; T.gk rfl rfl (nb_f c4) <| T.gk rfl rfl (nb_f c4) <| T.gk rfl rfl (nb_f c4) <| T.gk rfl rfl (nb_f c4) <| T.gk rfl rfl (nb_f c4) <| T.gk rfl rfl (nb_f c4) <| T.gk rfl rfl (nb_f c4) <| T.gk rfl rfl (nb_f c4) <| T.gk rfl rfl (nb_f c4) <| T.gk rfl rfl (nb_f c4) <| T.ga rfl rfl (nbF c3) (o_pickF rfl rfl c4) <| T.ga rfl rfl c2 (o_pickF rfl rfl c3) <| T.a (o_pickT rfl rfl c2) <| T.d <| T.at fun h => J1 false _ _ (som H).symm (h.wr [3])
   ·exact T.gm h <| have H := ifF c2 H; T.gk rfl rfl (nb_f c2) <| T.gk rfl rfl (nb_f c2) <| T.gk rfl rfl (nb_f c2) <| T.gk rfl rfl (nb_f c2) <| T.gk rfl rfl (nb_f c2) <| T.gk rfl rfl (nb_f c2) <| T.gk rfl rfl (nb_f c2) <| T.gk rfl rfl (nb_f c2) <| T.gk rfl rfl (nb_f c2) <| T.gk rfl rfl (nb_f c2) <| T.gk rfl rfl (nb_f c2) <| T.gk rfl rfl rfl <| T.gk rfl rfl rfl <| T.gk rfl rfl rfl <| T.gk rfl rfl rfl <| T.gk rfl rfl rfl <| T.gk rfl rfl rfl <| T.gk rfl rfl rfl <| T.gk rfl rfl rfl <| T.gk rfl rfl rfl <| T.gk rfl rfl rfl <| T.gk rfl rfl rfl <| T.gk rfl rfl rfl <| T.gk rfl rfl rfl <| T.gk rfl rfl rfl <| T.gk rfl rfl rfl <| T.gk rfl rfl rfl <| T.gk rfl rfl rfl <| T.gk rfl rfl rfl <| T.gk rfl rfl rfl <| T.gk rfl rfl rfl <| T.gk rfl rfl rfl <| T.gk rfl rfl rfl <| T.gk rfl rfl (nb_f c2) <| T.a (o_pickF rfl rfl c2) <| T.d <| T.at fun h => J1 false _ _ (som H).symm (h.wr [1])
  ·exact I_ _ _ (show InR .i64 0 by decide) (h.wr [1])
def ref22_Wheel_Set.g (k_ : Nat) (a1 : TWheel) (a2 : Int) (a3 : Int) : Option (TWheel) :=
  (ref22_Wheel_Del.g k_ a1 a3).bind fun r1 => (if decide (4096 ≤ (r1.2.l.length : Int)) = true then some (r1.2) else (loopK k_ (fun s1 => ((if decide (s1 < (r1.2.l.length : Int)) = true then (idx r1.2.l s1).bind fun x1 => (if decide (x1.At < a2) = true then some (true) else (idx r1.2.l s1).bind fun x2 => (if decide (x2.At = a2) = true then (idx r1.2.l s1).bind fun x3 => some (decide (x3.Id < a3)) else some (false))) else some (false))).bind (fun j1 => (if j1 = true then lt (IntKind.i64.wrap (s1 + 1)) fun y1 => some (.inl y1) else some (.inr (s1))))) 0).bind (fun j2 => (cut r1.2.l 0 j2).bind fun x4 => (app ([] : List TAlarm) x4).bind fun x5 => (app x5 ([(⟨a2, a3⟩ : TAlarm)] : List TAlarm)).bind fun x6 => (cut r1.2.l j2 (r1.2.l.length : Int)).bind fun x7 => (app x6 x7).bind fun x8 => lt (⟨x8⟩ : TWheel) fun y2 => some (y2)))
theorem ref22_Wheel_Set.le (k_ : Nat) (a1 : TWheel) (a2 : Int) (a3 : Int) : Le (ref22_Wheel_Set.g k_ a1 a2 a3) (ref22_Wheel_Set.f a1 a2 a3) := by
 unfold ref22_Wheel_Set.g ref22_Wheel_Set.f
 repeat' (first | with_reducible refine le_loop fun _ => ?_ | with_reducible refine le_bind ?_ fun _ => ?_ | with_reducible refine le_ite ?_ ?_ | with_reducible refine le_lt fun _ => ?_ | with_reducible refine le_elim (fun _ => ?_) (fun _ => ?_) _ | with_reducible apply ref22_Wheel_Del.le | with_reducible exact le_refl _)
end Go.Proofs.Ytgkgekaiajjcaaa.S
