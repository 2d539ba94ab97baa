/- Contracts, printed by a program of this session. -/
import Derived.Test.YtgkgekaiajjcaaaT2
namespace Go.Proofs.Ytgkgekaiajjcaaa.S
open Go Go.SL Go.RowKit
set_option linter.unusedVariables false
set_option linter.unusedSimpArgs false
/-! drawbridge/drawbridgeref22.Same -/
noncomputable def ref22_Same.f (a1 : List TAlarm) (a2 : List TAlarm) : Option (Bool) :=
  (if (!decide ((a1.length : Int) = (a2.length : Int))) = true then some (false) else (loop (fun s1 => (if decide (s1 < (a1.length : Int)) = true then (idx a1 s1).bind fun x1 => (idx a2 s1).bind fun x2 => (if (!(decide (x1.At = x2.At) && (decide (x1.Id = x2.Id)))) = true then some (.inr (.inr (false))) else lt (IntKind.i64.wrap (s1 + 1)) fun y1 => some (.inl y1)) else some (.inr (.inl (()))))) 0).bind (Sum.elim (fun j1 => some (true)) (fun z_ => some (z_))))
set_option maxRecDepth 100000 in
set_option maxHeartbeats 4000000 in
theorem ref22_Same.spc (v1 : Value) (a1 : List TAlarm) (v2 : Value) (a2 : List TAlarm) (r : Bool) (H : ref22_Same.f a1 a2 = some r) : Spc Try.prog 13 [v1, v2] [Val (Kd.sl KAlarm) v1 a1, Val (Kd.sl KAlarm) v2 a2] [] (fun (s : Unit) => .bool r) (fun s => []) := by
 unfold ref22_Same.f at H
 refine Spc.go Try.func13 rfl (by kernel_rfl) rfl rfl (all_cons (Val.per Per_sl) (all_cons (Val.per Per_sl) all_nil)) fun F a w h => ?_
 refine T.gg h <| T.qr rfl <| T.a (o_assign rfl) <| T.d <| T.q <| T.qr rfl <| T.mv rfl <| T.u (fun m => (len_at 0 rfl m)) fun g1 => T.a (o_ln rfl (rd_at 0 rfl) t_v22) <| T.mv rfl <| T.u (fun m => (len_at 1 rfl m)) fun g2 => T.a (o_ln rfl (rd_at 1 rfl) t_v22) <| T.a (o_bin rfl rfl rfl) <| T.d <| T.at fun h => ?_
 by_cases c1 : (!decide ((a1.length : Int) = (a2.length : Int))) = true
 ·refine T.gg h <| have H := ifT c1 H; T.tt rfl c1 <| T.qr rfl <| T.a (o_assign rfl) <| T.d <| T.at fun h => ?_
  rw [← som H]
  exact g_ret (vs := [.bool false]) h Try.func13 ⟨rfl, trivial⟩ ⟨(), rfl, (h.mem.pick [] (by decide) rfl)⟩
 ·refine T.gg h <| have H := ifF c1 H; T.ff rfl c1 <| T.sk <| T.q <| T.qr rfl <| T.a (o_assign rfl) <| T.d <| T.bl <| bE H fun o1 hl G1 => T.at fun h => ?_
  refine g_cut (fun G => ∀ j1 (a : Act) (w : World), o1 = .inl (j1) → St Try.f13.ntmps F [] [] a w → G a w) 2 ?_ fun J1 => ?_
  ·intro j1 a w ho_ h
   rw [ho_] at G1
   refine T.gg h <| have H := eInl G1; T.qr rfl <| T.a (o_assign rfl) <| T.d <| T.at fun h => ?_
   rw [← som H]
   exact g_ret (vs := [.bool true]) h Try.func13 ⟨rfl, trivial⟩ ⟨(), rfl, (h.mem.pick [] (by decide) rfl)⟩
  refine g_loop (fun s1 G => ∀  (a : Act) (w : World), InR .i64 s1 → St Try.f13.ntmps F [(0, v1), (1, v2), (5, .int .i64 s1)] [Val (Kd.sl KAlarm) v1 a1, Val (Kd.sl KAlarm) v2 a2] a w → G a w) hl (fun s1 p1 H i1 => ?_) fun I_ => ?_
  ·intro  a w g3 h
   refine T.gg h <| T.q <| T.qr rfl <| T.mv rfl <| T.mv rfl <| T.u (fun m => (len_at 0 rfl m)) fun g4 => T.a (o_ln rfl (rd_at 0 rfl) t_v22) <| T.a (o_bin rfl rfl rfl) <| T.d <| T.at fun h => ?_
   by_cases c2 : decide (s1 < (a1.length : Int)) = true
   ·refine T.gg h <| have H := ifT c2 H; T.tt rfl c2 <| T.sk <| T.q <| T.bl <| T.q <| T.w [(0, v1), (1, v2), (5, .int .i64 s1)] [Val (Kd.sl KAlarm) v1 a1, Val (Kd.sl KAlarm) v2 a2] [0, 1] rfl (by decide) rfl <| bE H fun x1 ex1 H => bE H fun x2 ex2 H => T.at fun h => ?_
    refine Go.draw (E := [(0, v1), (1, v2), (5, .int .i64 s1)]) [] (L := [Val (Kd.sl KAlarm) v1 a1, Val (Kd.sl KAlarm) v2 a2]) h rfl rfl 8 [cn (v1), cn (.int .i64 s1), ce [0, 1] (elemP v1 (s1.toNat * Kd.n KAlarm)), cw [0, 1, 2] [] [] fun u => [Val KAlarm u x1], cn (v2), cn (.int .i64 s1), ce [4, 5] (elemP v2 (s1.toNat * Kd.n KAlarm)), cw [4, 5, 6] [] [] fun u => [Val KAlarm u x2]] rfl t_mxo (by kernel_rfl) (by rfl) ?_ fun f1 _ _ h => ?_
    ·exact ox rfl (o_move rfl) (ox rfl (o_move rfl) (ox rfl (o_ix rfl rfl (rd_at 0 rfl) ex1 t_v22) (oy rfl (o_lev rfl (rd_at 0 rfl) ex1 t_y28 (by decide)) (ox rfl (o_move rfl) (ox rfl (o_move rfl) (ox rfl (o_ix rfl rfl (rd_at 1 rfl) ex2 t_v22) (oy rfl (o_lev rfl (rd_at 1 rfl) ex2 t_y28 (by decide)) (obs_nil))))))))
    replace h := h.wk (E' := [(0, v1), (1, v2), (5, .int .i64 s1), (20, (f1 3)), (24, (f1 7))]) (L' := [Val KAlarm (f1 3) x1, Val KAlarm (f1 7) x2, Val (Kd.sl KAlarm) v1 a1, Val (Kd.sl KAlarm) v2 a2]) (by kernel_rfl) [0, 1, 2, 3] (by decide) (by kernel_rfl)
    refine T.gr h <| T.lo rfl <| T.a (o_nev rfl rfl (pv_at PAlarm 0 rfl) (pv_at PAlarm 1 rfl) rfl t_e28 (.cons sAlarm_At (eq_int t_u3) (.last sAlarm_Id (eq_int t_u3)))) <| T.d <| T.at fun h => ?_
    by_cases c3 : (!(decide (x1.At = x2.At) && (decide (x1.Id = x2.Id)))) = true
    ·refine T.gg h <| have H := ifT c3 H; T.tt rfl c3 <| T.qr rfl <| T.a (o_assign rfl) <| T.d <| T.at fun h => ?_
     have e_ := som H; subst e_
     rw [← nx_out i1] at G1
     have H := G1
     rw [← som H]
     exact g_ret (vs := [.bool false]) h Try.func13 ⟨rfl, trivial⟩ ⟨(), rfl, (h.mem.pick [] (by decide) rfl)⟩
    ·refine T.gg h <| have H := ifF c3 H; T.ff rfl c3 <| T.sk <| T.ib <| T.r rfl <| T.mv rfl <| T.a (o_bin rfl rfl rfl) <| lE H fun y1 ey1 H => T.a (o_assign' rfl (congrArg (fun z => Value.int .i64 z) ey1)) <| T.d <| T.at fun h => ?_
     have e_ := som H; subst e_
     exact Go.inLoop (nx_in i1 _ _ (ey1 ▸ (wrap_in _ _)) (h.wr [2, 3]))
   ·refine T.gg h <| have H := ifF c2 H; T.ff rfl c2 <| T.ex rfl <| T.at fun h => ?_
    have e_ := som H; subst e_
    exact J1 () _ _ (nx_out i1).symm (h.wr [])
  ·exact I_ _ _ (show InR .i64 0 by decide) (h.wr [0, 1])
def ref22_Same.g (k_ : Nat) (a1 : List TAlarm) (a2 : List TAlarm) : Option (Bool) :=
  (if (!decide ((a1.length : Int) = (a2.length : Int))) = true then some (false) else (loopK k_ (fun s1 => (if decide (s1 < (a1.length : Int)) = true then (idx a1 s1).bind fun x1 => (idx a2 s1).bind fun x2 => (if (!(decide (x1.At = x2.At) && (decide (x1.Id = x2.Id)))) = true then some (.inr (.inr (false))) else lt (IntKind.i64.wrap (s1 + 1)) fun y1 => some (.inl y1)) else some (.inr (.inl (()))))) 0).bind (Sum.elim (fun j1 => some (true)) (fun z_ => some (z_))))
theorem ref22_Same.le (k_ : Nat) (a1 : List TAlarm) (a2 : List TAlarm) : Le (ref22_Same.g k_ a1 a2) (ref22_Same.f a1 a2) := by
 unfold ref22_Same.g ref22_Same.f
 repeat' (first | with_reducible refine le_loop fun _ => ?_ | with_reducible refine le_bind ?_ fun _ => ?_ | with_reducible refine le_ite ?_ ?_ | with_reducible refine le_lt fun _ => ?_ | with_reducible refine le_elim (fun _ => ?_) (fun _ => ?_) _ | with_reducible exact le_refl _)
/-! drawbridge/drawbridgelaw22.heads -/
noncomputable def law22_heads.f  : Option (Bool) :=
  (timer_New.f).bind fun r1 => (r1).bind fun y1 => (timer_Wheel_Set.f y1 5 1).bind fun r2 => (timer_Wheel_Set.f r2 9 2).bind fun r3 => (timer_Wheel_Set.f r3 5 0).bind fun r4 => (timer_Wheel_Set.f r4 3 2).bind fun r5 => (timer_Wheel_Set.f r5 7 4).bind fun r6 => (timer_Wheel_Del.f r6 4).bind fun r7 => (timer_Wheel_Del.f r7.2 4).bind fun r8 => (timer_Wheel_Next.f r8.2).bind fun r9 => (timer_Wheel_Due.f r9.2.2 5).bind fun r10 => (timer_Wheel_Next.f r10.2).bind fun r11 => ((if r7.1 = true then (if (!r8.1) = true then (if r9.2.1 = true then (if decide (r9.1.Id = 2) = true then (if decide (r9.1.At = 3) = true then (ref22_Same.f r10.1 ([(⟨3, 2⟩ : TAlarm), (⟨5, 0⟩ : TAlarm), (⟨5, 1⟩ : TAlarm)] : List TAlarm)).bind fun r12 => (if r12 = true then (if (!r11.2.1) = true then (timer_Wheel_Len.f r11.2.2).bind fun r13 => lt (decide (r13.1 = 0)) fun y2 => some ((y2, r13.2)) else some ((false, r11.2.2))) else some ((false, r11.2.2))) else some ((false, r11.2.2))) else some ((false, r11.2.2))) else some ((false, r11.2.2))) else some ((false, r11.2.2))) else some ((false, r11.2.2)))).bind (fun j1 => some (j1.1))
set_option maxRecDepth 100000 in
set_option maxHeartbeats 4000000 in
theorem law22_heads.spc  (r : Bool) (H : law22_heads.f  = some r) : Spc Try.prog 7 [] [] [] (fun (s : Unit) => .bool r) (fun s => []) := by
 unfold law22_heads.f at H
 refine Spc.go Try.func7 rfl (by kernel_rfl) rfl rfl all_nil fun F a w h => ?_
 refine T.gg h <| T.qr rfl <| T.a (o_assign rfl) <| T.d <| T.qr rfl <| bE H fun r1 er1 H => T.s (o_call (timer_New.spc  r1 er1) rfl [] [] (by decide) rfl rfl) fun v1 => T.a (o_assign rfl) <| T.d <| T.q <| T.q <| bE H fun y1 ey1 H => T.at fun h => ?_
 obtain ⟨b1, eb1, h⟩ := h.unb 0 rfl ey1
 subst eb1
 refine T.gg h <| T.r rfl <| T.mv rfl <| T.a (o_ptn rfl t_u24) <| T.d <| T.ff rfl Bool.false_ne_true <| T.sk <| T.qr rfl <| T.mv rfl <| bE H fun r2 er2 H => T.a (o_call (timer_Wheel_Set.spc b1 y1 5 (show InR .i64 5 by decide) 1 (show InR .i64 1 by decide) r2 er2) rfl [] [0] (by decide) rfl rfl) <| T.d <| T.qr rfl <| T.mv rfl <| bE H fun r3 er3 H => T.a (o_call (timer_Wheel_Set.spc b1 r2 9 (show InR .i64 9 by decide) 2 (show InR .i64 2 by decide) r3 er3) rfl [] [0] (by decide) rfl rfl) <| T.d <| T.qr rfl <| T.mv rfl <| bE H fun r4 er4 H => T.a (o_call (timer_Wheel_Set.spc b1 r3 5 (show InR .i64 5 by decide) 0 (show InR .i64 0 by decide) r4 er4) rfl [] [0] (by decide) rfl rfl) <| T.d <| T.qr rfl <| T.mv rfl <| bE H fun r5 er5 H => T.a (o_call (timer_Wheel_Set.spc b1 r4 3 (show InR .i64 3 by decide) 2 (show InR .i64 2 by decide) r5 er5) rfl [] [0] (by decide) rfl rfl) <| T.d <| T.qr rfl <| T.mv rfl <| bE H fun r6 er6 H => T.a (o_call (timer_Wheel_Set.spc b1 r5 7 (show InR .i64 7 by decide) 4 (show InR .i64 4 by decide) r6 er6) rfl [] [0] (by decide) rfl rfl) <| T.d <| T.qr rfl <| T.mv rfl <| bE H fun r7 er7 H => T.a (o_call (timer_Wheel_Del.spc b1 r6 4 (show InR .i64 4 by decide) r7 er7) rfl [] [0] (by decide) rfl rfl) <| T.a (o_assign rfl) <| T.d <| T.qr rfl <| T.mv rfl <| bE H fun r8 er8 H => T.a (o_call (timer_Wheel_Del.spc b1 r7.2 4 (show InR .i64 4 by decide) r8 er8) rfl [] [0] (by decide) rfl rfl) <| T.a (o_assign rfl) <| T.d <| T.qr rfl <| T.mv rfl <| bE H fun r9 er9 H => T.s (o_call (timer_Wheel_Next.spc b1 r8.2 r9 er9) rfl [] [0] (by decide) rfl rfl) fun v2 => T.mv rfl <| T.a (o_extract rfl rfl) <| T.a (o_extract rfl rfl) <| T.s (o_alloc (K := KAlarm) (z := (.agg #[.int .i64 0, .int .i64 0])) rfl ZAlarm) fun b2 => T.z (o_st 0 rfl rfl rfl (pv_at PAlarm 1 rfl) rfl t_w28) <| T.a (o_assign rfl) <| T.d <| T.qr rfl <| T.mv rfl <| bE H fun r10 er10 H => T.s (o_call (timer_Wheel_Due.spc b1 r9.2.2 5 (show InR .i64 5 by decide) r10 er10) rfl [] [2] (by decide) rfl rfl) fun v3 => T.a (o_assign rfl) <| T.d <| T.qr rfl <| T.mv rfl <| bE H fun r11 er11 H => T.s (o_call (timer_Wheel_Next.spc b1 r10.2 r11 er11) rfl [] [1] (by decide) rfl rfl) fun v4 => T.mv rfl <| T.a (o_extract rfl rfl) <| T.a (o_extract rfl rfl) <| T.s (o_alloc (K := KAlarm) (z := (.agg #[.int .i64 0, .int .i64 0])) rfl ZAlarm) fun b3 => T.z (o_st 0 rfl rfl rfl (pv_at PAlarm 1 rfl) rfl t_w28) <| T.a (o_assign rfl) <| T.d <| T.q <| bE H fun o1 H G1 => T.at fun h => ?_
 refine g_cut (fun G => ∀ j1 (a : Act) (w : World), o1 = j1 → St Try.f7.ntmps F [(0, .bool j1.1)] [Fld Kwhl b1 0 j1.2, Fld KAlarm b3 0 r11.1, Fld KAlarm b2 0 r9.1] a w → G a w) 1 ?_ fun J1 => ?_
 ·intro j1 a w ho_ h
  rw [ho_] at G1
  have H := G1
  rw [← som H]
  exact g_ret (vs := [.bool j1.1]) h Try.func7 ⟨rfl, trivial⟩ ⟨(), rfl, (h.mem.pick [] (by decide) rfl)⟩
 refine T.gg h <| T.r rfl <| T.mv rfl <| T.mv rfl <| T.at fun h => ?_
 by_cases c1 : r7.1 = true
 ·refine T.gm h <| have H := ifT c1 H; T.ga rfl rfl c1 (o_move rfl) <| T.ga rfl rfl c1 (o_not rfl) <| T.a (o_pickT rfl rfl c1) <| T.mv rfl <| T.at fun h => ?_
  by_cases c2 : (!r8.1) = true
  ·refine T.gm h <| have H := ifT c2 H; T.ga rfl rfl c2 (o_move rfl) <| T.a (o_pickT rfl rfl c2) <| T.mv rfl <| T.at fun h => ?_
   by_cases c3 : r9.2.1 = true
   ·refine T.gm h <| have H := ifT c3 H; T.ga rfl rfl c3 (fa rfl t_f28_1) <| T.u (fun m => (in2 (fd_sub sAlarm_Id 5 rfl m))) fun g1 => T.ga rfl rfl c3 (o_lfx 5 rfl rfl sAlarm_Id rfl X_int t_y3) <| T.ga rfl rfl c3 (o_bin rfl rfl rfl) <| T.a (o_pickT rfl rfl c3) <| T.mv rfl <| T.at fun h => ?_
    by_cases c4 : decide (r9.1.Id = 2) = true
    ·refine T.gm h <| have H := ifT c4 H; T.ga rfl rfl c4 (fa rfl t_f28_0) <| T.u (fun m => (in2 (fd_sub sAlarm_At 5 rfl m))) fun g2 => T.ga rfl rfl c4 (o_lfx 5 rfl rfl sAlarm_At rfl X_int t_y3) <| T.ga rfl rfl c4 (o_bin rfl rfl rfl) <| T.a (o_pickT rfl rfl c4) <| T.mv rfl <| T.at fun h => ?_
     by_cases c5 : decide (r9.1.At = 3) = true
     ·refine T.gm h <| have H := ifT c5 H; T.ga rfl rfl c5 (o_move rfl) <| T.gs rfl rfl c5 (o_build (K := KAlarm) (x := (⟨3, 2⟩ : TAlarm)) (ps := [(0, .int .i64 3), (1, .int .i64 2)]) rfl (zs := zsAlarm) rfl t_b28 rfl (show PB (Kd.pair (Kd.int .i64) (Kd.last (Kd.int .i64))) (3, 2) 0 zsAlarm _ _ from (pb_part (pv_int (show InR .i64 3 by decide)) rfl (pb_lastp (pv_int (show InR .i64 2 by decide)) rfl)))) fun v5 => T.gs rfl rfl c5 (o_build (K := KAlarm) (x := (⟨5, 0⟩ : TAlarm)) (ps := [(0, .int .i64 5), (1, .int .i64 0)]) rfl (zs := zsAlarm) rfl t_b28 rfl (show PB (Kd.pair (Kd.int .i64) (Kd.last (Kd.int .i64))) (5, 0) 0 zsAlarm _ _ from (pb_part (pv_int (show InR .i64 5 by decide)) rfl (pb_lastp (pv_int (show InR .i64 0 by decide)) rfl)))) fun v6 => T.gs rfl rfl c5 (o_build (K := KAlarm) (x := (⟨5, 1⟩ : TAlarm)) (ps := [(0, .int .i64 5), (1, .int .i64 1)]) rfl (zs := zsAlarm) rfl t_b28 rfl (show PB (Kd.pair (Kd.int .i64) (Kd.last (Kd.int .i64))) (5, 1) 0 zsAlarm _ _ from (pb_part (pv_int (show InR .i64 5 by decide)) rfl (pb_lastp (pv_int (show InR .i64 1 by decide)) rfl)))) fun v7 => T.gs rfl rfl c5 (o_bs (K := KAlarm) (vs := [v5, v6, v7]) (xs := ([(⟨3, 2⟩ : TAlarm), (⟨5, 0⟩ : TAlarm), (⟨5, 1⟩ : TAlarm)] : List TAlarm)) rfl rfl (pvs_cons (pv_at PAlarm 2 rfl) (pvs_cons (pv_at PAlarm 1 rfl) (pvs_cons (pv_at PAlarm 0 rfl) pvs_nil))) t_a22 (by decide) (by decide)) fun v8 => T.mm (fun m => m.freeze 7 rfl) <| T.mm (fun m => m.freeze 0 rfl) <| bE H fun r12 er12 H => T.ga rfl rfl c5 (o_call (ref22_Same.spc v3 r10.1 v8 ([(⟨3, 2⟩ : TAlarm), (⟨5, 0⟩ : TAlarm), (⟨5, 1⟩ : TAlarm)] : List TAlarm) r12 er12) rfl [7, 0] [] (by decide) rfl rfl) <| T.a (o_pickT rfl rfl c5) <| T.mv rfl <| T.at fun h => ?_
      by_cases c6 : r12 = true
      ·refine T.gm h <| have H := ifT c6 H; T.ga rfl rfl c6 (o_move rfl) <| T.ga rfl rfl c6 (o_not rfl) <| T.a (o_pickT rfl rfl c6) <| T.mv rfl <| T.at fun h => ?_
       by_cases c7 : (!r11.2.1) = true
       ·exact T.gm h <| have H := ifT c7 H; T.ga rfl rfl c7 (o_move rfl) <| bE H fun r13 er13 H => T.ga rfl rfl c7 (o_call (timer_Wheel_Len.spc b1 r11.2.2 r13 er13) rfl [] [6] (by decide) rfl rfl) <| T.u (fun m => m.pur 0 rfl) fun g3 => T.ga rfl rfl c7 (o_bin rfl rfl rfl) <| T.a (o_pickT rfl rfl c7) <| lE H fun y2 ey2 H => T.a (o_assign' rfl (congrArg Value.bool ey2)) <| T.d <| T.at fun h => J1 (y2, r13.2) _ _ (som H).symm (h.wr [1, 6, 11])
       ·exact T.gm h <| have H := ifF c7 H; T.gk rfl rfl (nb_f c7) <| T.gk rfl rfl (nb_f c7) <| T.gk rfl rfl (nb_f c7) <| T.a (o_pickF rfl rfl c7) <| T.a (o_assign rfl) <| T.d <| T.at fun h => J1 (false, r11.2.2) _ _ (som H).symm (h.wr [6, 4, 9])
      ·exact T.gm h <| have H := ifF c6 H; T.gk rfl rfl (nb_f c6) <| T.gk rfl rfl (nb_f c6) <| T.a (o_pickF rfl rfl c6) <| T.mv rfl <| T.gk rfl rfl (nb_f Bool.false_ne_true) <| T.gk rfl rfl (nb_f Bool.false_ne_true) <| T.gk rfl rfl (nb_f Bool.false_ne_true) <| T.a (o_pickF rfl rfl Bool.false_ne_true) <| T.a (o_assign rfl) <| T.d <| T.at fun h => J1 (false, r11.2.2) _ _ (som H).symm (h.wr [6, 4, 9])
     ·exact T.gm h <| have H := ifF c5 H; T.gk rfl rfl (nb_f c5) <| T.gk rfl rfl (nb_f c5) <| T.gk rfl rfl (nb_f c5) <| T.gk rfl rfl (nb_f c5) <| T.gk rfl rfl (nb_f c5) <| T.gk rfl rfl (nb_f c5) <| T.a (o_pickF rfl rfl c5) <| T.mv rfl <| T.gk rfl rfl (nb_f Bool.false_ne_true) <| T.gk rfl rfl (nb_f Bool.false_ne_true) <| T.a (o_pickF rfl rfl Bool.false_ne_true) <| T.mv rfl <| T.gk rfl rfl (nb_f Bool.false_ne_true) <| T.gk rfl rfl (nb_f Bool.false_ne_true) <| T.gk rfl rfl (nb_f Bool.false_ne_true) <| T.a (o_pickF rfl rfl Bool.false_ne_true) <| T.a (o_assign rfl) <| T.d <| T.at fun h => J1 (false, r11.2.2) _ _ (som H).symm (h.wr [2, 0, 5])
    ·exact T.gm h <| have H := ifF c4 H; T.gk rfl rfl (nb_f c4) <| T.gk rfl rfl (nb_f c4) <| T.gk rfl rfl (nb_f c4) <| T.a (o_pickF rfl rfl c4) <| T.mv rfl <| T.gk rfl rfl (nb_f Bool.false_ne_true) <| T.gk rfl rfl (nb_f Bool.false_ne_true) <| T.gk rfl rfl (nb_f Bool.false_ne_true) <| T.gk rfl rfl (nb_f Bool.false_ne_true) <| T.gk rfl rfl (nb_f Bool.false_ne_true) <| T.gk rfl rfl (nb_f Bool.false_ne_true) <| T.a (o_pickF rfl rfl Bool.false_ne_true) <| T.mv rfl <| T.gk rfl rfl (nb_f Bool.false_ne_true) <| T.gk rfl rfl (nb_f Bool.false_ne_true) <| T.a (o_pickF rfl rfl Bool.false_ne_true) <| T.mv rfl <| T.gk rfl rfl (nb_f Bool.false_ne_true) <| T.gk rfl rfl (nb_f Bool.false_ne_true) <| T.gk rfl rfl (nb_f Bool.false_ne_true) <| T.a (o_pickF rfl rfl Bool.false_ne_true) <| T.a (o_assign rfl) <| T.d <| T.at fun h => J1 (false, r11.2.2) _ _ (som H).symm (h.wr [2, 0, 5])
   ·exact T.gm h <| have H := ifF c3 H; T.gk rfl rfl (nb_f c3) <| T.gk rfl rfl (nb_f c3) <| T.gk rfl rfl (nb_f c3) <| T.a (o_pickF rfl rfl c3) <| T.mv rfl <| T.gk rfl rfl (nb_f Bool.false_ne_true) <| T.gk rfl rfl (nb_f Bool.false_ne_true) <| T.gk rfl rfl (nb_f Bool.false_ne_true) <| T.a (o_pickF rfl rfl Bool.false_ne_true) <| T.mv rfl <| T.gk rfl rfl (nb_f Bool.false_ne_true) <| T.gk rfl rfl (nb_f Bool.false_ne_true) <| T.gk rfl rfl (nb_f Bool.false_ne_true) <| T.gk rfl rfl (nb_f Bool.false_ne_true) <| T.gk rfl rfl (nb_f Bool.false_ne_true) <| T.gk rfl rfl (nb_f Bool.false_ne_true) <| T.a (o_pickF rfl rfl Bool.false_ne_true) <| T.mv rfl <| T.gk rfl rfl (nb_f Bool.false_ne_true) <| T.gk rfl rfl (nb_f Bool.false_ne_true) <| T.a (o_pickF rfl rfl Bool.false_ne_true) <| T.mv rfl <| T.gk rfl rfl (nb_f Bool.false_ne_true) <| T.gk rfl rfl (nb_f Bool.false_ne_true) <| T.gk rfl rfl (nb_f Bool.false_ne_true) <| T.a (o_pickF rfl rfl Bool.false_ne_true) <| T.a (o_assign rfl) <| T.d <| T.at fun h => J1 (false, r11.2.2) _ _ (som H).symm (h.wr [2, 0, 5])
  ·exact T.gm h <| have H := ifF c2 H; T.gk rfl rfl (nb_f c2) <| T.a (o_pickF rfl rfl c2) <| T.mv rfl <| T.gk rfl rfl (nb_f Bool.false_ne_true) <| T.gk rfl rfl (nb_f Bool.false_ne_true) <| T.gk rfl rfl (nb_f Bool.false_ne_true) <| T.a (o_pickF rfl rfl Bool.false_ne_true) <| T.mv rfl <| T.gk rfl rfl (nb_f Bool.false_ne_true) <| T.gk rfl rfl (nb_f Bool.false_ne_true) <| T.gk rfl rfl (nb_f Bool.false_ne_true) <| T.a (o_pickF rfl rfl Bool.false_ne_true) <| T.mv rfl <| T.gk rfl rfl (nb_f Bool.false_ne_true) <| T.gk rfl rfl (nb_f Bool.false_ne_true) <| T.gk rfl rfl (nb_f Bool.false_ne_true) <| T.gk rfl rfl (nb_f Bool.false_ne_true) <| T.gk rfl rfl (nb_f Bool.false_ne_true) <| T.gk rfl rfl (nb_f Bool.false_ne_true) <| T.a (o_pickF rfl rfl Bool.false_ne_true) <| T.mv rfl <| T.gk rfl rfl (nb_f Bool.false_ne_true) <| T.gk rfl rfl (nb_f Bool.false_ne_true) <| T.a (o_pickF rfl rfl Bool.false_ne_true) <| T.mv rfl <| T.gk rfl rfl (nb_f Bool.false_ne_true) <| T.gk rfl rfl (nb_f Bool.false_ne_true) <| T.gk rfl rfl (nb_f Bool.false_ne_true) <| T.a (o_pickF rfl rfl Bool.false_ne_true) <| T.a (o_assign rfl) <| T.d <| T.at fun h => J1 (false, r11.2.2) _ _ (som H).symm (h.wr [2, 0, 5])
 ·exact T.gm h <| have H := ifF c1 H; T.gk rfl rfl (nb_f c1) <| T.gk rfl rfl (nb_f c1) <| T.a (o_pickF rfl rfl c1) <| T.mv rfl <| T.gk rfl rfl (nb_f Bool.false_ne_true) <| T.a (o_pickF rfl rfl Bool.false_ne_true) <| T.mv rfl <| T.gk rfl rfl (nb_f Bool.false_ne_true) <| T.gk rfl rfl (nb_f Bool.false_ne_true) <| T.gk rfl rfl (nb_f Bool.false_ne_true) <| T.a (o_pickF rfl rfl Bool.false_ne_true) <| T.mv rfl <| T.gk rfl rfl (nb_f Bool.false_ne_true) <| T.gk rfl rfl (nb_f Bool.false_ne_true) <| T.gk rfl rfl (nb_f Bool.false_ne_true) <| T.a (o_pickF rfl rfl Bool.false_ne_true) <| T.mv rfl <| T.gk rfl rfl (nb_f Bool.false_ne_true) <| T.gk rfl rfl (nb_f Bool.false_ne_true) <| T.gk rfl rfl (nb_f Bool.false_ne_true) <| T.gk rfl rfl (nb_f Bool.false_ne_true) <| T.gk rfl rfl (nb_f Bool.false_ne_true) <| T.gk rfl rfl (nb_f Bool.false_ne_true) <| T.a (o_pickF rfl rfl Bool.false_ne_true) <| T.mv rfl <| T.gk rfl rfl (nb_f Bool.false_ne_true) <| T.gk rfl rfl (nb_f Bool.false_ne_true) <| T.a (o_pickF rfl rfl Bool.false_ne_true) <| T.mv rfl <| T.gk rfl rfl (nb_f Bool.false_ne_true) <| T.gk rfl rfl (nb_f Bool.false_ne_true) <| T.gk rfl rfl (nb_f Bool.false_ne_true) <| T.a (o_pickF rfl rfl Bool.false_ne_true) <| T.a (o_assign rfl) <| T.d <| T.at fun h => J1 (false, r11.2.2) _ _ (som H).symm (h.wr [2, 0, 5])
def law22_heads.g (k_ : Nat)  : Option (Bool) :=
  (timer_New.g k_).bind fun r1 => (r1).bind fun y1 => (timer_Wheel_Set.g k_ y1 5 1).bind fun r2 => (timer_Wheel_Set.g k_ r2 9 2).bind fun r3 => (timer_Wheel_Set.g k_ r3 5 0).bind fun r4 => (timer_Wheel_Set.g k_ r4 3 2).bind fun r5 => (timer_Wheel_Set.g k_ r5 7 4).bind fun r6 => (timer_Wheel_Del.g k_ r6 4).bind fun r7 => (timer_Wheel_Del.g k_ r7.2 4).bind fun r8 => (timer_Wheel_Next.g k_ r8.2).bind fun r9 => (timer_Wheel_Due.g k_ r9.2.2 5).bind fun r10 => (timer_Wheel_Next.g k_ r10.2).bind fun r11 => ((if r7.1 = true then (if (!r8.1) = true then (if r9.2.1 = true then (if decide (r9.1.Id = 2) = true then (if decide (r9.1.At = 3) = true then (ref22_Same.g k_ r10.1 ([(⟨3, 2⟩ : TAlarm), (⟨5, 0⟩ : TAlarm), (⟨5, 1⟩ : TAlarm)] : List TAlarm)).bind fun r12 => (if r12 = true then (if (!r11.2.1) = true then (timer_Wheel_Len.g k_ r11.2.2).bind fun r13 => lt (decide (r13.1 = 0)) fun y2 => some ((y2, r13.2)) else some ((false, r11.2.2))) else some ((false, r11.2.2))) else some ((false, r11.2.2))) else some ((false, r11.2.2))) else some ((false, r11.2.2))) else some ((false, r11.2.2))) else some ((false, r11.2.2)))).bind (fun j1 => some (j1.1))
theorem law22_heads.le (k_ : Nat)  : Le (law22_heads.g k_ ) (law22_heads.f ) := by
 unfold law22_heads.g law22_heads.f
 repeat' (first | with_reducible refine le_loop fun _ => ?_ | with_reducible refine le_bind ?_ fun _ => ?_ | with_reducible refine le_ite ?_ ?_ | with_reducible refine le_lt fun _ => ?_ | with_reducible refine le_elim (fun _ => ?_) (fun _ => ?_) _ | with_reducible apply ref22_Same.le | with_reducible apply timer_New.le | with_reducible apply timer_Wheel_Del.le | with_reducible apply timer_Wheel_Due.le | with_reducible apply timer_Wheel_Len.le | with_reducible apply timer_Wheel_Next.le | with_reducible apply timer_Wheel_Set.le | with_reducible exact le_refl _)
/-! drawbridge/drawbridgelaw22.TimerOrder -/
noncomputable def law22_TimerOrder.f (a1 : List TAlarm) (a2 : Int) : Option (Bool) :=
  (if decide (200 < (a1.length : Int)) = true then (law22_heads.f).bind fun r1 => some (r1) else (timer_New.f).bind fun r2 => (r2).bind fun y1 => (loop (fun s1 => (if decide (s1.1 < (a1.length : Int)) = true then (idx a1 s1.1).bind fun x1 => (idx a1 s1.1).bind fun x2 => (timer_Wheel_Set.f s1.2 x1.At x2.Id).bind fun r3 => lt (IntKind.i64.wrap (s1.1 + 1)) fun y2 => some (.inl (y2, r3)) else some (.inr (s1.2)))) (0, y1)).bind (fun j1 => (timer_Wheel_Due.f j1 a2).bind fun r4 => (loop (fun s2 => (if decide (s2 < (r4.1.length : Int)) = true then ((idx r4.1 (IntKind.i64.wrap (s2 - 1))).bind fun x3 => (idx r4.1 s2).bind fun x4 => (if decide (x4.At < x3.At) = true then some (true) else (idx r4.1 (IntKind.i64.wrap (s2 - 1))).bind fun x5 => (idx r4.1 s2).bind fun x6 => (if decide (x5.At = x6.At) = true then (idx r4.1 (IntKind.i64.wrap (s2 - 1))).bind fun x7 => (idx r4.1 s2).bind fun x8 => some (decide (x8.Id ≤ x7.Id)) else some (false)))).bind (fun j2 => (if j2 = true then some (.inr (.inr (false))) else lt (IntKind.i64.wrap (s2 + 1)) fun y3 => some (.inl y3))) else some (.inr (.inl (()))))) 1).bind (Sum.elim (fun j3 => (loop (fun s3 => (if decide (s3.2 < (a1.length : Int)) = true then ((lt (IntKind.i64.wrap (s3.2 + 1)) fun y4 => (loop (fun s4 => (if decide (s4.2 < (a1.length : Int)) = true then ((if s4.1 = true then (idx a1 s4.2).bind fun x9 => (idx a1 s3.2).bind fun x10 => lt (!decide (x9.Id = x10.Id)) fun y5 => some (y5) else some (false))).bind (fun j4 => lt (IntKind.i64.wrap (s4.2 + 1)) fun y6 => some (.inl (j4, y6))) else some (.inr (s4.1)))) (true, y4)).bind (fun j5 => (if (!j5) = true then some (.inl (s3.1)) else (loop (fun s5 => (if decide (s5.2 < (r4.1.length : Int)) = true then (((idx r4.1 s5.2).bind fun x11 => (idx a1 s3.2).bind fun x12 => (if (decide (x11.At = x12.At) && (decide (x11.Id = x12.Id))) = true then lt (IntKind.i64.wrap (s5.1 + 1)) fun y7 => some (y7) else some (s5.1))).bind (fun j6 => some (j6))).bind (fun j7 => lt (IntKind.i64.wrap (s5.2 + 1)) fun y8 => some (.inl (j7, y8))) else some (.inr (s5.1)))) (0, 0)).bind (fun j8 => ((idx a1 s3.2).bind fun x13 => (if decide (x13.At ≤ a2) = true then (if (!decide (j8 = 1)) = true then some (true) else (idx a1 s3.2).bind fun x14 => (if decide (a2 < x14.At) = true then some ((!decide (j8 = 0))) else some (false))) else (idx a1 s3.2).bind fun x15 => (if decide (a2 < x15.At) = true then some ((!decide (j8 = 0))) else some (false)))).bind (fun j9 => (if j9 = true then some (.inr (false)) else lt (IntKind.i64.wrap (s3.1 + j8)) fun y9 => some (.inl (y9)))))))).bind (Sum.elim (fun j10 => some (.inl (j10))) (fun z_ => some (.inr (z_))))).bind (Sum.elim (fun j11 => lt (IntKind.i64.wrap (s3.2 + 1)) fun y10 => some (.inl (j11, y10))) (fun z_ => some (.inr (.inr (z_))))) else some (.inr (.inl (s3.1))))) (0, 0)).bind (Sum.elim (fun j12 => ((if decide (j12 = (r4.1.length : Int)) = true then (timer_Wheel_Due.f r4.2 a2).bind fun r5 => (if decide ((r5.1.length : Int) = 0) = true then (law22_heads.f).bind fun r6 => some ((r6, r5.2)) else some ((false, r5.2))) else some ((false, r4.2)))).bind (fun j13 => some (j13.1))) (fun z_ => some (z_)))) (fun z_ => some (z_)))))
set_option maxRecDepth 100000 in
set_option maxHeartbeats 4000000 in
theorem law22_TimerOrder.spc (v1 : Value) (a1 : List TAlarm) (a2 : Int) (ha2 : InR .i64 a2) (r : Bool) (H : law22_TimerOrder.f a1 a2 = some r) : Spc Try.prog 3 [v1, .int .i64 a2] [Val (Kd.sl KAlarm) v1 a1] [] (fun (s : Unit) => .bool r) (fun s => []) := by
 unfold law22_TimerOrder.f at H
 refine Spc.go Try.func3 rfl (by kernel_rfl) rfl rfl (all_cons (Val.per Per_sl) all_nil) fun F a w h => ?_
 refine T.gg h <| T.qr rfl <| T.a (o_assign rfl) <| T.d <| T.q <| T.qr rfl <| T.mv rfl <| T.u (fun m => (len_at 0 rfl m)) fun g1 => T.a (o_ln rfl (rd_at 0 rfl) t_v22) <| T.a (o_bin rfl rfl rfl) <| T.d <| T.at fun h => ?_
 by_cases c1 : decide (200 < (a1.length : Int)) = true
 ·refine T.gg h <| have H := ifT c1 H; T.tt rfl c1 <| T.qr rfl <| bE H fun r1 er1 H => T.a (o_call (law22_heads.spc  r1 er1) rfl [] [] (by decide) rfl rfl) <| T.a (o_assign rfl) <| T.d <| T.at fun h => ?_
  rw [← som H]
  exact g_ret (vs := [.bool r1]) h Try.func3 ⟨rfl, trivial⟩ ⟨(), rfl, (h.mem.pick [] (by decide) rfl)⟩
 ·refine T.gg h <| have H := ifF c1 H; T.ff rfl c1 <| T.sk <| T.qr rfl <| bE H fun r2 er2 H => T.s (o_call (timer_New.spc  r2 er2) rfl [] [] (by decide) rfl rfl) fun v2 => T.a (o_assign rfl) <| T.d <| T.q <| T.q <| bE H fun y1 ey1 H => T.at fun h => ?_
  obtain ⟨b1, eb1, h⟩ := h.unb 0 rfl ey1
  subst eb1
  refine T.gg h <| T.r rfl <| T.mv rfl <| T.a (o_ptn rfl t_u24) <| T.d <| T.ff rfl Bool.false_ne_true <| T.sk <| T.q <| T.qr rfl <| T.a (o_assign rfl) <| T.d <| T.bl <| bE H fun o1 hl G1 => T.at fun h => ?_
  refine g_cut (fun G => ∀ j1 (a : Act) (w : World), o1 = j1 → St Try.f3.ntmps F [(0, v1), (1, .int .i64 a2), (5, pt b1)] [Val (Kd.sl KAlarm) v1 a1, Fld Kwhl b1 0 j1] a w → G a w) 2 ?_ fun J1 => ?_
  ·intro j1 a w ho_ h
   rw [ho_] at G1
   refine T.gg h <| have H := G1; T.qr rfl <| T.mv rfl <| T.mv rfl <| bE H fun r4 er4 H => T.s (o_call (timer_Wheel_Due.spc b1 j1 a2 ha2 r4 er4) rfl [] [1] (by decide) rfl rfl) fun v3 => T.a (o_assign rfl) <| T.d <| T.q <| T.qr rfl <| T.a (o_assign rfl) <| T.d <| T.bl <| bE H fun o2 hl G2 => T.at fun h => ?_
   refine g_cut (fun G => ∀ j3 (a : Act) (w : World), o2 = .inl (j3) → St Try.f3.ntmps F [(0, v1), (1, .int .i64 a2), (5, pt b1), (7, v3)] [Val (Kd.sl KAlarm) v1 a1, Val (Kd.osl KAlarm) v3 r4.1, Fld Kwhl b1 0 r4.2] a w → G a w) 2 ?_ fun J3 => ?_
   ·intro j3 a w ho_ h
    rw [ho_] at G2
    refine T.gg h <| have H := eInl G2; T.qr rfl <| T.a (o_assign rfl) <| T.d <| T.q <| T.qr rfl <| T.a (o_assign rfl) <| T.d <| T.bl <| bE H fun o4 hl G4 => T.at fun h => ?_
    refine g_cut (fun G => ∀ j12 (a : Act) (w : World), o4 = .inl (j12) → InR .i64 j12 → St Try.f3.ntmps F [(1, .int .i64 a2), (5, pt b1), (7, v3), (9, .int .i64 j12)] [Val (Kd.osl KAlarm) v3 r4.1, Fld Kwhl b1 0 r4.2] a w → G a w) 2 ?_ fun J12 => ?_
    ·intro j12 a w ho_ g32 h
     rw [ho_] at G4
     refine T.gg h <| have H := eInl G4; T.q <| bE H fun o13 H G13 => T.at fun h => ?_
     refine g_cut (fun G => ∀ j13 (a : Act) (w : World), o13 = j13 → St Try.f3.ntmps F [(4, .bool j13.1)] [Fld Kwhl b1 0 j13.2] a w → G a w) 1 ?_ fun J13 => ?_
     ·intro j13 a w ho_ h
      rw [ho_] at G13
      have H := G13
      rw [← som H]
      exact g_ret (vs := [.bool j13.1]) h Try.func3 ⟨rfl, trivial⟩ ⟨(), rfl, (h.mem.pick [] (by decide) rfl)⟩
     refine T.gg h <| T.r rfl <| T.mv rfl <| T.mv rfl <| T.u (fun m => (len_own 0 rfl m)) fun g33 => T.a (o_ln rfl (rd_own 0 rfl) t_v22) <| T.a (o_bin rfl rfl rfl) <| T.mv rfl <| T.at fun h => ?_
     by_cases c18 : decide (j12 = (r4.1.length : Int)) = true
     ·refine T.gm h <| have H := ifT c18 H; T.ga rfl rfl c18 (o_move rfl) <| T.ga rfl rfl c18 (o_move rfl) <| bE H fun r5 er5 H => T.gs rfl rfl c18 (o_call (timer_Wheel_Due.spc b1 r4.2 a2 ha2 r5 er5) rfl [] [1] (by decide) rfl rfl) fun v6 => T.u (fun m => (len_own 0 rfl m)) fun g34 => T.ga rfl rfl c18 (o_ln rfl (rd_own 0 rfl) t_v22) <| T.ga rfl rfl c18 (o_bin rfl rfl rfl) <| T.a (o_pickT rfl rfl c18) <| T.mv rfl <| T.at fun h => ?_
      by_cases c19 : decide ((r5.1.length : Int) = 0) = true
      ·exact T.gm h <| have H := ifT c19 H; bE H fun r6 er6 H => T.ga rfl rfl c19 (o_call (law22_heads.spc  r6 er6) rfl [] [] (by decide) rfl rfl) <| T.a (o_pickT rfl rfl c19) <| T.a (o_assign rfl) <| T.d <| T.at fun h => J13 (r6, r5.2) _ _ (som H).symm (h.wr [1])
      ·exact T.gm h <| have H := ifF c19 H; T.gk rfl rfl (nb_f c19) <| T.a (o_pickF rfl rfl c19) <| T.a (o_assign rfl) <| T.d <| T.at fun h => J13 (false, r5.2) _ _ (som H).symm (h.wr [1])
     ·exact T.gm h <| have H := ifF c18 H; T.gk rfl rfl (nb_f c18) <| T.gk rfl rfl (nb_f c18) <| T.gk rfl rfl (nb_f c18) <| T.gk rfl rfl (nb_f c18) <| T.gk rfl rfl (nb_f c18) <| T.a (o_pickF rfl rfl c18) <| T.mv rfl <| T.gk rfl rfl (nb_f Bool.false_ne_true) <| T.a (o_pickF rfl rfl Bool.false_ne_true) <| T.a (o_assign rfl) <| T.d <| T.at fun h => J13 (false, r4.2) _ _ (som H).symm (h.wr [1])
    refine g_loop (fun s3 G => ∀  (a : Act) (w : World), InR .i64 s3.1 → InR .i64 s3.2 → St Try.f3.ntmps F [(0, v1), (1, .int .i64 a2), (5, pt b1), (7, v3), (9, .int .i64 s3.1), (10, .int .i64 s3.2)] [Val (Kd.sl KAlarm) v1 a1, Val (Kd.osl KAlarm) v3 r4.1, Fld Kwhl b1 0 r4.2] a w → G a w) hl (fun s3 p3 H i3 => ?_) fun I_ => ?_
    ·intro  a w g14 g15 h
     refine T.gg h <| T.q <| T.qr rfl <| T.mv rfl <| T.mv rfl <| T.u (fun m => (len_at 0 rfl m)) fun g16 => T.a (o_ln rfl (rd_at 0 rfl) t_v22) <| T.a (o_bin rfl rfl rfl) <| T.d <| T.at fun h => ?_
     by_cases c7 : decide (s3.2 < (a1.length : Int)) = true
     ·refine T.gg h <| have H := ifT c7 H; T.tt rfl c7 <| T.sk <| T.q <| bE H fun o5 H G5 => T.at fun h => ?_
      refine g_cut (fun G => ∀ j11 (a : Act) (w : World), o5 = .inl (j11) → InR .i64 j11 → St Try.f3.ntmps F [(0, v1), (1, .int .i64 a2), (5, pt b1), (7, v3), (9, .int .i64 j11), (10, .int .i64 s3.2)] [Val (Kd.sl KAlarm) v1 a1, Val (Kd.osl KAlarm) v3 r4.1, Fld Kwhl b1 0 r4.2] a w → G a w) 1 ?_ fun J11 => ?_
      ·intro j11 a w ho_ g31 h
       rw [ho_] at G5
       refine T.gg h <| have H := eInl G5; T.r rfl <| T.mv rfl <| T.a (o_bin rfl rfl rfl) <| lE H fun y10 ey10 H => T.a (o_assign' rfl (congrArg (fun z => Value.int .i64 z) ey10)) <| T.d <| T.at fun h => ?_
       have e_ := som H; subst e_
       exact Go.inLoop (nx_in i3 _ _ g31 (ey10 ▸ (wrap_in _ _)) (h.wr [0, 1, 2]))
      refine T.gg h <| T.bl <| bE H fun o6 H G6 => T.at fun h => ?_
      refine g_cut (fun G => ∀ j10 (a : Act) (w : World), o6 = .inl (j10) → InR .i64 j10 → St Try.f3.ntmps F [(0, v1), (1, .int .i64 a2), (5, pt b1), (7, v3), (9, .int .i64 j10), (10, .int .i64 s3.2)] [Val (Kd.sl KAlarm) v1 a1, Val (Kd.osl KAlarm) v3 r4.1, Fld Kwhl b1 0 r4.2] a w → G a w) 2 ?_ fun J10 => ?_
      ·intro j10 a w ho_ g30 h
       rw [ho_] at G6
       have H := eInl G6
       exact J11 j10 _ _ (som H).symm g30 (h.wr [0, 1, 2])
      refine T.gg h <| T.qr rfl <| T.a (o_assign rfl) <| T.d <| T.q <| T.qr rfl <| T.mv rfl <| T.a (o_bin rfl rfl rfl) <| lE H fun y4 ey4 H => T.a (o_assign' rfl (congrArg (fun z => Value.int .i64 z) ey4)) <| T.d <| T.bl <| bE H fun o7 hl G7 => T.at fun h => ?_
      refine g_cut (fun G => ∀ j5 (a : Act) (w : World), o7 = j5 → St Try.f3.ntmps F [(0, v1), (1, .int .i64 a2), (5, pt b1), (7, v3), (9, .int .i64 s3.1), (10, .int .i64 s3.2), (11, .bool j5)] [Val (Kd.sl KAlarm) v1 a1, Val (Kd.osl KAlarm) v3 r4.1, Fld Kwhl b1 0 r4.2] a w → G a w) 2 ?_ fun J5 => ?_
      ·intro j5 a w ho_ h
       rw [ho_] at G7
       refine T.gg h <| have H := G7; T.q <| T.qr rfl <| T.mv rfl <| T.a (o_not rfl) <| T.d <| T.at fun h => ?_
       by_cases c10 : (!j5) = true
       ·exact T.gg h <| have H := ifT c10 H; T.tt rfl c10 <| T.ex rfl <| T.at fun h => J10 s3.1 _ _ (som H).symm g14 (h.wr [0, 1, 2])
       ·refine T.gg h <| have H := ifF c10 H; T.ff rfl c10 <| T.sk <| T.qr rfl <| T.a (o_assign rfl) <| T.d <| T.q <| T.qr rfl <| T.a (o_assign rfl) <| T.d <| T.bl <| bE H fun o9 hl G9 => T.at fun h => ?_
        refine g_cut (fun G => ∀ j8 (a : Act) (w : World), o9 = j8 → InR .i64 j8 → St Try.f3.ntmps F [(0, v1), (1, .int .i64 a2), (5, pt b1), (7, v3), (9, .int .i64 s3.1), (10, .int .i64 s3.2), (13, .int .i64 j8)] [Val (Kd.sl KAlarm) v1 a1, Val (Kd.osl KAlarm) v3 r4.1, Fld Kwhl b1 0 r4.2] a w → G a w) 2 ?_ fun J8 => ?_
        ·intro j8 a w ho_ g26 h
         rw [ho_] at G9
         refine T.gg h <| have H := G9; T.q <| T.q <| bE H fun o12 H G12 => T.at fun h => ?_
         refine g_cut (fun G => ∀ j9 (a : Act) (w : World), o12 = j9 → St Try.f3.ntmps F [(0, v1), (1, .int .i64 a2), (5, pt b1), (7, v3), (9, .int .i64 s3.1), (10, .int .i64 s3.2), (13, .int .i64 j8), (159, .bool j9)] [Val (Kd.sl KAlarm) v1 a1, Val (Kd.osl KAlarm) v3 r4.1, Fld Kwhl b1 0 r4.2] a w → G a w) 1 ?_ fun J9 => ?_
         ·intro j9 a w ho_ h
          rw [ho_] at G12
          have H := G12
          by_cases c17 : j9 = true
          ·refine T.gg h <| have H := ifT c17 H; T.tt rfl c17 <| T.qr rfl <| T.a (o_assign rfl) <| T.d <| T.at fun h => ?_
           rw [← som H] at G6
           have H := G6
           rw [← som H] at G5
           have H := G5
           have e_ := som H; subst e_
           rw [← nx_out i3] at G4
           have H := G4
           rw [← som H]
           exact g_ret (vs := [.bool false]) h Try.func3 ⟨rfl, trivial⟩ ⟨(), rfl, (h.mem.pick [] (by decide) rfl)⟩
          ·exact T.gg h <| have H := ifF c17 H; T.ff rfl c17 <| T.sk <| T.r rfl <| T.mv rfl <| T.mv rfl <| T.a (o_bin rfl rfl rfl) <| lE H fun y9 ey9 H => T.a (o_assign' rfl (congrArg (fun z => Value.int .i64 z) ey9)) <| T.d <| T.ib <| T.at fun h => J10 y9 _ _ (som H).symm (ey9 ▸ (wrap_in _ _)) (h.wr [0, 1, 2])
         refine T.gg h <| T.r rfl <| T.mv rfl <| T.mv rfl <| bE H fun x13 ex13 H => T.a (o_ix rfl rfl (rd_at 0 rfl) ex13 t_v22) <| T.a (o_fae (k' := s3.2.toNat * Kd.n KAlarm + 0) rfl (rd_at 0 rfl) ex13 (by decide) t_f28_0 rfl rfl) <| T.u (fun m => (in1 (rd_sub sAlarm_At (rd_at 0 rfl) ex13 m))) fun g27 => T.a (o_lsx rfl (rd_at 0 rfl) ex13 sAlarm_At X_int t_y3 (by decide)) <| T.mv rfl <| T.a (o_bin rfl rfl rfl) <| T.mv rfl <| T.at fun h => ?_
         by_cases c13 : decide (x13.At ≤ a2) = true
         ·refine T.gm h <| have H := ifT c13 H; T.ga rfl rfl c13 (o_move rfl) <| T.ga rfl rfl c13 (o_bin rfl rfl rfl) <| T.a (o_pickT rfl rfl c13) <| T.mv rfl <| T.at fun h => ?_
          by_cases c14 : (!decide (j8 = 1)) = true
          ·exact T.gm h <| have H := ifT c14 H; T.gk rfl rfl (nb_t c14) <| T.gk rfl rfl (nb_t c14) <| T.gk rfl rfl (nb_t c14) <| T.gk rfl rfl (nb_t c14) <| T.gk rfl rfl (nb_t c14) <| T.gk rfl rfl (nb_t c14) <| T.gk rfl rfl (nb_t c14) <| T.gk rfl rfl (nb_t c14) <| T.gk rfl rfl rfl <| T.gk rfl rfl rfl <| T.gk rfl rfl (nb_t c14) <| T.a (o_pickT rfl rfl c14) <| T.d <| T.at fun h => J9 true _ _ (som H).symm (h.wr [0, 1, 2])
          ·refine T.gm h <| have H := ifF c14 H; T.ga rfl rfl (nbF c14) (o_move rfl) <| T.ga rfl rfl (nbF c14) (o_move rfl) <| bE H fun x14 ex14 H => T.ga rfl rfl (nbF c14) (o_ix rfl rfl (rd_at 0 rfl) ex14 t_v22) <| T.ga rfl rfl (nbF c14) (o_fae (k' := s3.2.toNat * Kd.n KAlarm + 0) rfl (rd_at 0 rfl) ex14 (by decide) t_f28_0 rfl rfl) <| T.u (fun m => (in1 (rd_sub sAlarm_At (rd_at 0 rfl) ex14 m))) fun g28 => T.ga rfl rfl (nbF c14) (o_lsx rfl (rd_at 0 rfl) ex14 sAlarm_At X_int t_y3 (by decide)) <| T.ga rfl rfl (nbF c14) (o_move rfl) <| T.ga rfl rfl (nbF c14) (o_bin rfl rfl rfl) <| T.ga rfl rfl (nbF c14) (o_move rfl) <| T.at fun h => ?_
           by_cases c15 : decide (a2 < x14.At) = true
           ·exact T.gm h <| have H := ifT c15 H; T.ga rfl rfl c15 (o_move rfl) <| T.ga rfl rfl c15 (o_bin rfl rfl rfl) <| T.ga rfl rfl (nbF c14) (o_pickT rfl rfl c15) <| T.a (o_pickF rfl rfl c14) <| T.d <| T.at fun h => J9 (!decide (j8 = 0)) _ _ (som H).symm (h.wr [0, 1, 2])
           ·exact T.gm h <| have H := ifF c15 H; T.gk rfl rfl (nb_f c15) <| T.gk rfl rfl (nb_f c15) <| T.ga rfl rfl (nbF c14) (o_pickF rfl rfl c15) <| T.a (o_pickF rfl rfl c14) <| T.d <| T.at fun h => J9 false _ _ (som H).symm (h.wr [0, 1, 2])
         ·refine T.gm h <| have H := ifF c13 H; T.gk rfl rfl (nb_f c13) <| T.gk rfl rfl (nb_f c13) <| T.a (o_pickF rfl rfl c13) <| T.mv rfl <| T.ga rfl rfl (nbF Bool.false_ne_true) (o_move rfl) <| T.ga rfl rfl (nbF Bool.false_ne_true) (o_move rfl) <| bE H fun x15 ex15 H => T.ga rfl rfl (nbF Bool.false_ne_true) (o_ix rfl rfl (rd_at 0 rfl) ex15 t_v22) <| T.ga rfl rfl (nbF Bool.false_ne_true) (o_fae (k' := s3.2.toNat * Kd.n KAlarm + 0) rfl (rd_at 0 rfl) ex15 (by decide) t_f28_0 rfl rfl) <| T.u (fun m => (in1 (rd_sub sAlarm_At (rd_at 0 rfl) ex15 m))) fun g29 => T.ga rfl rfl (nbF Bool.false_ne_true) (o_lsx rfl (rd_at 0 rfl) ex15 sAlarm_At X_int t_y3 (by decide)) <| T.ga rfl rfl (nbF Bool.false_ne_true) (o_move rfl) <| T.ga rfl rfl (nbF Bool.false_ne_true) (o_bin rfl rfl rfl) <| T.ga rfl rfl (nbF Bool.false_ne_true) (o_move rfl) <| T.at fun h => ?_
          by_cases c16 : decide (a2 < x15.At) = true
          ·exact T.gm h <| have H := ifT c16 H; T.ga rfl rfl c16 (o_move rfl) <| T.ga rfl rfl c16 (o_bin rfl rfl rfl) <| T.ga rfl rfl (nbF Bool.false_ne_true) (o_pickT rfl rfl c16) <| T.a (o_pickF rfl rfl Bool.false_ne_true) <| T.d <| T.at fun h => J9 (!decide (j8 = 0)) _ _ (som H).symm (h.wr [0, 1, 2])
          ·exact T.gm h <| have H := ifF c16 H; T.gk rfl rfl (nb_f c16) <| T.gk rfl rfl (nb_f c16) <| T.ga rfl rfl (nbF Bool.false_ne_true) (o_pickF rfl rfl c16) <| T.a (o_pickF rfl rfl Bool.false_ne_true) <| T.d <| T.at fun h => J9 false _ _ (som H).symm (h.wr [0, 1, 2])
        refine g_loop (fun s5 G => ∀  (a : Act) (w : World), InR .i64 s5.1 → InR .i64 s5.2 → St Try.f3.ntmps F [(0, v1), (1, .int .i64 a2), (5, pt b1), (7, v3), (9, .int .i64 s3.1), (10, .int .i64 s3.2), (13, .int .i64 s5.1), (14, .int .i64 s5.2)] [Val (Kd.sl KAlarm) v1 a1, Val (Kd.osl KAlarm) v3 r4.1, Fld Kwhl b1 0 r4.2] a w → G a w) hl (fun s5 p5 H i5 => ?_) fun I_ => ?_
        ·intro  a w g21 g22 h
         refine T.gg h <| T.q <| T.qr rfl <| T.mv rfl <| T.mv rfl <| T.u (fun m => (len_own 1 rfl m)) fun g23 => T.a (o_ln rfl (rd_own 1 rfl) t_v22) <| T.a (o_bin rfl rfl rfl) <| T.d <| T.at fun h => ?_
         by_cases c11 : decide (s5.2 < (r4.1.length : Int)) = true
         ·refine T.gg h <| have H := ifT c11 H; T.tt rfl c11 <| T.sk <| T.q <| bE H fun o10 H G10 => T.at fun h => ?_
          refine g_cut (fun G => ∀ j7 (a : Act) (w : World), o10 = j7 → InR .i64 j7 → St Try.f3.ntmps F [(0, v1), (1, .int .i64 a2), (5, pt b1), (7, v3), (9, .int .i64 s3.1), (10, .int .i64 s3.2), (13, .int .i64 j7), (14, .int .i64 s5.2)] [Val (Kd.sl KAlarm) v1 a1, Val (Kd.osl KAlarm) v3 r4.1, Fld Kwhl b1 0 r4.2] a w → G a w) 1 ?_ fun J7 => ?_
          ·intro j7 a w ho_ g25 h
           rw [ho_] at G10
           refine T.gg h <| have H := G10; T.r rfl <| T.mv rfl <| T.a (o_bin rfl rfl rfl) <| lE H fun y8 ey8 H => T.a (o_assign' rfl (congrArg (fun z => Value.int .i64 z) ey8)) <| T.d <| T.at fun h => ?_
           have e_ := som H; subst e_
           exact Go.inLoop (nx_in i5 _ _ g25 (ey8 ▸ (wrap_in _ _)) (h.wr [0, 1, 2]))
          refine T.gg h <| T.bl <| bE H fun o11 H G11 => T.at fun h => ?_
          refine g_cut (fun G => ∀ j6 (a : Act) (w : World), o11 = j6 → InR .i64 j6 → St Try.f3.ntmps F [(0, v1), (1, .int .i64 a2), (5, pt b1), (7, v3), (9, .int .i64 s3.1), (10, .int .i64 s3.2), (13, .int .i64 j6), (14, .int .i64 s5.2)] [Val (Kd.sl KAlarm) v1 a1, Val (Kd.osl KAlarm) v3 r4.1, Fld Kwhl b1 0 r4.2] a w → G a w) 2 ?_ fun J6 => ?_
          ·intro j6 a w ho_ g24 h
           rw [ho_] at G11
           have H := G11
           exact J7 j6 _ _ (som H).symm g24 (h.wr [0, 1, 2])
          refine T.gg h <| T.q <| T.w [(0, v1), (1, .int .i64 a2), (5, pt b1), (7, v3), (9, .int .i64 s3.1), (10, .int .i64 s3.2), (13, .int .i64 s5.1), (14, .int .i64 s5.2)] [Val (Kd.sl KAlarm) v1 a1, Val (Kd.osl KAlarm) v3 r4.1, Fld Kwhl b1 0 r4.2] [0, 1, 2] rfl (by decide) rfl <| bE H fun x11 ex11 H => bE H fun x12 ex12 H => T.at fun h => ?_
          refine Go.draw (E := [(0, v1), (1, .int .i64 a2), (5, pt b1), (7, v3), (9, .int .i64 s3.1), (10, .int .i64 s3.2), (13, .int .i64 s5.1), (14, .int .i64 s5.2)]) [] (L := [Val (Kd.sl KAlarm) v1 a1, Val (Kd.osl KAlarm) v3 r4.1, Fld Kwhl b1 0 r4.2]) h rfl rfl 8 [cn (v3), cn (.int .i64 s5.2), ce [0, 1] (elemP v3 (s5.2.toNat * Kd.n KAlarm)), cw [0, 1, 2] [] [] fun u => [Val KAlarm u x11], cn (v1), cn (.int .i64 s3.2), ce [4, 5] (elemP v1 (s3.2.toNat * Kd.n KAlarm)), cw [4, 5, 6] [] [] fun u => [Val KAlarm u x12]] rfl t_mxo (by kernel_rfl) (by rfl) ?_ fun f1 _ _ h => ?_
          ·exact ox rfl (o_move rfl) (ox rfl (o_move rfl) (ox rfl (o_ix rfl rfl (rd_own 1 rfl) ex11 t_v22) (oy rfl (o_lev rfl (rd_own 1 rfl) ex11 t_y28 (by decide)) (ox rfl (o_move rfl) (ox rfl (o_move rfl) (ox rfl (o_ix rfl rfl (rd_at 0 rfl) ex12 t_v22) (oy rfl (o_lev rfl (rd_at 0 rfl) ex12 t_y28 (by decide)) (obs_nil))))))))
          replace h := h.wk (E' := [(0, v1), (1, .int .i64 a2), (5, pt b1), (7, v3), (9, .int .i64 s3.1), (10, .int .i64 s3.2), (13, .int .i64 s5.1), (14, .int .i64 s5.2), (128, (f1 3)), (132, (f1 7))]) (L' := [Val KAlarm (f1 3) x11, Val KAlarm (f1 7) x12, Val (Kd.sl KAlarm) v1 a1, Val (Kd.osl KAlarm) v3 r4.1, Fld Kwhl b1 0 r4.2]) (by kernel_rfl) [0, 1, 2, 3, 4] (by decide) (by kernel_rfl)
          refine T.gr h <| T.lo rfl <| T.a (o_eqv rfl rfl (pv_at PAlarm 0 rfl) (pv_at PAlarm 1 rfl) rfl t_e28 (.cons sAlarm_At (eq_int t_u3) (.last sAlarm_Id (eq_int t_u3)))) <| T.d <| T.at fun h => ?_
          by_cases c12 : (decide (x11.At = x12.At) && (decide (x11.Id = x12.Id))) = true
          ·exact T.gg h <| have H := ifT c12 H; T.tt rfl c12 <| T.r rfl <| T.mv rfl <| T.a (o_bin rfl rfl rfl) <| lE H fun y7 ey7 H => T.a (o_assign' rfl (congrArg (fun z => Value.int .i64 z) ey7)) <| T.d <| T.ib <| T.at fun h => J6 y7 _ _ (som H).symm (ey7 ▸ (wrap_in _ _)) (h.wr [2, 3, 4])
          ·exact T.gg h <| have H := ifF c12 H; T.ff rfl c12 <| T.sk <| T.ib <| T.at fun h => J6 s5.1 _ _ (som H).symm g21 (h.wr [2, 3, 4])
         ·refine T.gg h <| have H := ifF c11 H; T.ff rfl c11 <| T.ex rfl <| T.at fun h => ?_
          have e_ := som H; subst e_
          exact J8 s5.1 _ _ (nx_out i5).symm g21 (h.wr [0, 1, 2])
        ·exact I_ _ _ (show InR .i64 0 by decide) (show InR .i64 0 by decide) (h.wr [0, 1, 2])
      refine g_loop (fun s4 G => ∀  (a : Act) (w : World), InR .i64 s4.2 → St Try.f3.ntmps F [(0, v1), (1, .int .i64 a2), (5, pt b1), (7, v3), (9, .int .i64 s3.1), (10, .int .i64 s3.2), (11, .bool s4.1), (12, .int .i64 s4.2)] [Val (Kd.sl KAlarm) v1 a1, Val (Kd.osl KAlarm) v3 r4.1, Fld Kwhl b1 0 r4.2] a w → G a w) hl (fun s4 p4 H i4 => ?_) fun I_ => ?_
      ·intro  a w g17 h
       refine T.gg h <| T.q <| T.qr rfl <| T.mv rfl <| T.mv rfl <| T.u (fun m => (len_at 0 rfl m)) fun g18 => T.a (o_ln rfl (rd_at 0 rfl) t_v22) <| T.a (o_bin rfl rfl rfl) <| T.d <| T.at fun h => ?_
       by_cases c8 : decide (s4.2 < (a1.length : Int)) = true
       ·refine T.gg h <| have H := ifT c8 H; T.tt rfl c8 <| T.sk <| T.q <| T.bl <| bE H fun o8 H G8 => T.at fun h => ?_
        refine g_cut (fun G => ∀ j4 (a : Act) (w : World), o8 = j4 → St Try.f3.ntmps F [(0, v1), (1, .int .i64 a2), (5, pt b1), (7, v3), (9, .int .i64 s3.1), (10, .int .i64 s3.2), (11, .bool j4), (12, .int .i64 s4.2)] [Val (Kd.sl KAlarm) v1 a1, Val (Kd.osl KAlarm) v3 r4.1, Fld Kwhl b1 0 r4.2] a w → G a w) 2 ?_ fun J4 => ?_
        ·intro j4 a w ho_ h
         rw [ho_] at G8
         refine T.gg h <| have H := G8; T.r rfl <| T.mv rfl <| T.a (o_bin rfl rfl rfl) <| lE H fun y6 ey6 H => T.a (o_assign' rfl (congrArg (fun z => Value.int .i64 z) ey6)) <| T.d <| T.at fun h => ?_
         have e_ := som H; subst e_
         exact Go.inLoop (nx_in i4 _ _ (ey6 ▸ (wrap_in _ _)) (h.wr [0, 1, 2]))
        refine T.gg h <| T.c (by kernel_rfl) t_mxo <| T.mv rfl <| T.mv rfl <| T.at fun h => ?_
        by_cases c9 : s4.1 = true
        ·exact T.gm h <| have H := ifT c9 H; T.ga rfl rfl c9 (o_move rfl) <| T.ga rfl rfl c9 (o_move rfl) <| bE H fun x9 ex9 H => T.ga rfl rfl c9 (o_ix rfl rfl (rd_at 0 rfl) ex9 t_v22) <| T.ga rfl rfl c9 (o_fae (k' := s4.2.toNat * Kd.n KAlarm + 1) rfl (rd_at 0 rfl) ex9 (by decide) t_f28_1 rfl rfl) <| T.u (fun m => (in1 (rd_sub sAlarm_Id (rd_at 0 rfl) ex9 m))) fun g19 => T.ga rfl rfl c9 (o_lsx rfl (rd_at 0 rfl) ex9 sAlarm_Id X_int t_y3 (by decide)) <| T.ga rfl rfl c9 (o_move rfl) <| T.ga rfl rfl c9 (o_move rfl) <| bE H fun x10 ex10 H => T.ga rfl rfl c9 (o_ix rfl rfl (rd_at 0 rfl) ex10 t_v22) <| T.ga rfl rfl c9 (o_fae (k' := s3.2.toNat * Kd.n KAlarm + 1) rfl (rd_at 0 rfl) ex10 (by decide) t_f28_1 rfl rfl) <| T.u (fun m => (in1 (rd_sub sAlarm_Id (rd_at 0 rfl) ex10 m))) fun g20 => T.ga rfl rfl c9 (o_lsx rfl (rd_at 0 rfl) ex10 sAlarm_Id X_int t_y3 (by decide)) <| T.gv rfl rfl c9 (v_bin rfl rfl rfl) <| T.a (o_pickT rfl rfl c9) <| lE H fun y5 ey5 H => T.a (o_assign' rfl (congrArg Value.bool ey5)) <| T.d <| T.ib <| T.at fun h => J4 y5 _ _ (som H).symm (h.wr [0, 1, 2])
        ·exact T.gm h <| have H := ifF c9 H; T.gk rfl rfl (nb_f c9) <| T.gk rfl rfl (nb_f c9) <| T.gk rfl rfl (nb_f c9) <| T.gk rfl rfl (nb_f c9) <| T.gk rfl rfl (nb_f c9) <| T.gk rfl rfl (nb_f c9) <| T.gk rfl rfl (nb_f c9) <| T.gk rfl rfl (nb_f c9) <| T.gk rfl rfl (nb_f c9) <| T.gk rfl rfl (nb_f c9) <| T.gk rfl rfl (nb_f c9) <| T.a (o_pickF rfl rfl c9) <| T.a (o_assign rfl) <| T.d <| T.ib <| T.at fun h => J4 false _ _ (som H).symm (h.wr [0, 1, 2])
       ·refine T.gg h <| have H := ifF c8 H; T.ff rfl c8 <| T.ex rfl <| T.at fun h => ?_
        have e_ := som H; subst e_
        exact J5 s4.1 _ _ (nx_out i4).symm (h.wr [0, 1, 2])
      ·exact I_ _ _ (ey4 ▸ (wrap_in _ _)) (h.wr [0, 1, 2])
     ·refine T.gg h <| have H := ifF c7 H; T.ff rfl c7 <| T.ex rfl <| T.at fun h => ?_
      have e_ := som H; subst e_
      exact J12 s3.1 _ _ (nx_out i3).symm g14 (h.wr [1, 2])
    ·exact I_ _ _ (show InR .i64 0 by decide) (show InR .i64 0 by decide) (h.wr [0, 1, 2])
   refine g_loop (fun s2 G => ∀  (a : Act) (w : World), InR .i64 s2 → St Try.f3.ntmps F [(0, v1), (1, .int .i64 a2), (5, pt b1), (7, v3), (8, .int .i64 s2)] [Val (Kd.sl KAlarm) v1 a1, Val (Kd.osl KAlarm) v3 r4.1, Fld Kwhl b1 0 r4.2] a w → G a w) hl (fun s2 p2 H i2 => ?_) fun I_ => ?_
   ·intro  a w g6 h
    refine T.gg h <| T.q <| T.qr rfl <| T.mv rfl <| T.mv rfl <| T.u (fun m => (len_own 1 rfl m)) fun g7 => T.a (o_ln rfl (rd_own 1 rfl) t_v22) <| T.a (o_bin rfl rfl rfl) <| T.d <| T.at fun h => ?_
    by_cases c3 : decide (s2 < (r4.1.length : Int)) = true
    ·refine T.gg h <| have H := ifT c3 H; T.tt rfl c3 <| T.sk <| T.q <| T.bl <| T.q <| bE H fun o3 H G3 => T.at fun h => ?_
     refine g_cut (fun G => ∀ j2 (a : Act) (w : World), o3 = j2 → St Try.f3.ntmps F [(0, v1), (1, .int .i64 a2), (5, pt b1), (7, v3), (8, .int .i64 s2), (88, .bool j2)] [Val (Kd.sl KAlarm) v1 a1, Val (Kd.osl KAlarm) v3 r4.1, Fld Kwhl b1 0 r4.2] a w → G a w) 1 ?_ fun J2 => ?_
     ·intro j2 a w ho_ h
      rw [ho_] at G3
      have H := G3
      by_cases c6 : j2 = true
      ·refine T.gg h <| have H := ifT c6 H; T.tt rfl c6 <| T.qr rfl <| T.a (o_assign rfl) <| T.d <| T.at fun h => ?_
       have e_ := som H; subst e_
       rw [← nx_out i2] at G2
       have H := G2
       rw [← som H]
       exact g_ret (vs := [.bool false]) h Try.func3 ⟨rfl, trivial⟩ ⟨(), rfl, (h.mem.pick [] (by decide) rfl)⟩
      ·refine T.gg h <| have H := ifF c6 H; T.ff rfl c6 <| T.sk <| T.ib <| T.r rfl <| T.mv rfl <| T.a (o_bin rfl rfl rfl) <| lE H fun y3 ey3 H => T.a (o_assign' rfl (congrArg (fun z => Value.int .i64 z) ey3)) <| T.d <| T.at fun h => ?_
       have e_ := som H; subst e_
       exact Go.inLoop (nx_in i2 _ _ (ey3 ▸ (wrap_in _ _)) (h.wr [0, 1, 2]))
     refine T.gg h <| T.c (by kernel_rfl) t_mxo <| T.mv rfl <| T.mv rfl <| T.v (v_bin rfl rfl rfl) <| bE H fun x3 ex3 H => T.a (o_ix rfl rfl (rd_own 1 rfl) ex3 t_v22) <| T.a (o_fae (k' := (IntKind.i64.wrap (s2 - 1)).toNat * Kd.n KAlarm + 0) rfl (rd_own 1 rfl) ex3 (by decide) t_f28_0 rfl rfl) <| T.u (fun m => (in1 (rd_sub sAlarm_At (rd_own 1 rfl) ex3 m))) fun g8 => T.a (o_lsx rfl (rd_own 1 rfl) ex3 sAlarm_At X_int t_y3 (by decide)) <| T.mv rfl <| T.mv rfl <| bE H fun x4 ex4 H => T.a (o_ix rfl rfl (rd_own 1 rfl) ex4 t_v22) <| T.a (o_fae (k' := s2.toNat * Kd.n KAlarm + 0) rfl (rd_own 1 rfl) ex4 (by decide) t_f28_0 rfl rfl) <| T.u (fun m => (in1 (rd_sub sAlarm_At (rd_own 1 rfl) ex4 m))) fun g9 => T.a (o_lsx rfl (rd_own 1 rfl) ex4 sAlarm_At X_int t_y3 (by decide)) <| T.v (v_bin rfl rfl rfl) <| T.mv rfl <| T.at fun h => ?_
     by_cases c4 : decide (x4.At < x3.At) = true
     ·exact T.gm h <| have H := ifT c4 H; T.gk rfl rfl (nb_t c4) <| T.gk rfl rfl (nb_t c4) <| T.gk rfl rfl (nb_t c4) <| T.gk rfl rfl (nb_t c4) <| T.gk rfl rfl (nb_t c4) <| T.gk rfl rfl (nb_t c4) <| T.gk rfl rfl (nb_t c4) <| T.gk rfl rfl (nb_t c4) <| T.gk rfl rfl (nb_t c4) <| T.gk rfl rfl (nb_t c4) <| T.gk rfl rfl (nb_t c4) <| T.gk rfl rfl (nb_t c4) <| T.gk rfl rfl (nb_t c4) <| T.gk rfl rfl rfl <| T.gk rfl rfl rfl <| T.gk rfl rfl rfl <| T.gk rfl rfl rfl <| T.gk rfl rfl rfl <| T.gk rfl rfl rfl <| T.gk rfl rfl rfl <| T.gk rfl rfl rfl <| T.gk rfl rfl rfl <| T.gk rfl rfl rfl <| T.gk rfl rfl rfl <| T.gk rfl rfl rfl <| T.gk rfl rfl (nb_t c4) <| T.a (o_pickT rfl rfl c4) <| T.d <| T.at fun h => J2 true _ _ (som H).symm (h.wr [0, 1, 2])
     ·refine T.gm h <| have H := ifF c4 H; T.ga rfl rfl (nbF c4) (o_move rfl) <| T.ga rfl rfl (nbF c4) (o_move rfl) <| T.gv rfl rfl (nbF c4) (v_bin rfl rfl rfl) <| bE H fun x5 ex5 H => T.ga rfl rfl (nbF c4) (o_ix rfl rfl (rd_own 1 rfl) ex5 t_v22) <| T.ga rfl rfl (nbF c4) (o_fae (k' := (IntKind.i64.wrap (s2 - 1)).toNat * Kd.n KAlarm + 0) rfl (rd_own 1 rfl) ex5 (by decide) t_f28_0 rfl rfl) <| T.u (fun m => (in1 (rd_sub sAlarm_At (rd_own 1 rfl) ex5 m))) fun g10 => T.ga rfl rfl (nbF c4) (o_lsx rfl (rd_own 1 rfl) ex5 sAlarm_At X_int t_y3 (by decide)) <| T.ga rfl rfl (nbF c4) (o_move rfl) <| T.ga rfl rfl (nbF c4) (o_move rfl) <| bE H fun x6 ex6 H => T.ga rfl rfl (nbF c4) (o_ix rfl rfl (rd_own 1 rfl) ex6 t_v22) <| T.ga rfl rfl (nbF c4) (o_fae (k' := s2.toNat * Kd.n KAlarm + 0) rfl (rd_own 1 rfl) ex6 (by decide) t_f28_0 rfl rfl) <| T.u (fun m => (in1 (rd_sub sAlarm_At (rd_own 1 rfl) ex6 m))) fun g11 => T.ga rfl rfl (nbF c4) (o_lsx rfl (rd_own 1 rfl) ex6 sAlarm_At X_int t_y3 (by decide)) <| T.gv rfl rfl (nbF c4) (v_bin rfl rfl rfl) <| T.ga rfl rfl (nbF c4) (o_move rfl) <| T.at fun h => ?_
      by_cases c5 : decide (x5.At = x6.At) = true
      ·exact T.gm h <| have H := ifT c5 H; T.ga rfl rfl c5 (o_move rfl) <| T.ga rfl rfl c5 (o_move rfl) <| T.gv rfl rfl c5 (v_bin rfl rfl rfl) <| bE H fun x7 ex7 H => T.ga rfl rfl c5 (o_ix rfl rfl (rd_own 1 rfl) ex7 t_v22) <| T.ga rfl rfl c5 (o_fae (k' := (IntKind.i64.wrap (s2 - 1)).toNat * Kd.n KAlarm + 1) rfl (rd_own 1 rfl) ex7 (by decide) t_f28_1 rfl rfl) <| T.u (fun m => (in1 (rd_sub sAlarm_Id (rd_own 1 rfl) ex7 m))) fun g12 => T.ga rfl rfl c5 (o_lsx rfl (rd_own 1 rfl) ex7 sAlarm_Id X_int t_y3 (by decide)) <| T.ga rfl rfl c5 (o_move rfl) <| T.ga rfl rfl c5 (o_move rfl) <| bE H fun x8 ex8 H => T.ga rfl rfl c5 (o_ix rfl rfl (rd_own 1 rfl) ex8 t_v22) <| T.ga rfl rfl c5 (o_fae (k' := s2.toNat * Kd.n KAlarm + 1) rfl (rd_own 1 rfl) ex8 (by decide) t_f28_1 rfl rfl) <| T.u (fun m => (in1 (rd_sub sAlarm_Id (rd_own 1 rfl) ex8 m))) fun g13 => T.ga rfl rfl c5 (o_lsx rfl (rd_own 1 rfl) ex8 sAlarm_Id X_int t_y3 (by decide)) <| T.gv rfl rfl c5 (v_bin rfl rfl rfl) <| T.ga rfl rfl (nbF c4) (o_pickT rfl rfl c5) <| T.a (o_pickF rfl rfl c4) <| T.d <| T.at fun h => J2 (decide (x8.Id ≤ x7.Id)) _ _ (som H).symm (h.wr [0, 1, 2])
      ·exact T.gm h <| have H := ifF c5 H; T.gk rfl rfl (nb_f c5) <| T.gk rfl rfl (nb_f c5) <| T.gk rfl rfl (nb_f c5) <| T.gk rfl rfl (nb_f c5) <| T.gk rfl rfl (nb_f c5) <| T.gk rfl rfl (nb_f c5) <| T.gk rfl rfl (nb_f c5) <| T.gk rfl rfl (nb_f c5) <| T.gk rfl rfl (nb_f c5) <| T.gk rfl rfl (nb_f c5) <| T.gk rfl rfl (nb_f c5) <| T.gk rfl rfl (nb_f c5) <| T.ga rfl rfl (nbF c4) (o_pickF rfl rfl c5) <| T.a (o_pickF rfl rfl c4) <| T.d <| T.at fun h => J2 false _ _ (som H).symm (h.wr [0, 1, 2])
    ·refine T.gg h <| have H := ifF c3 H; T.ff rfl c3 <| T.ex rfl <| T.at fun h => ?_
     have e_ := som H; subst e_
     exact J3 () _ _ (nx_out i2).symm (h.wr [0, 1, 2])
   ·exact I_ _ _ (show InR .i64 1 by decide) (h.wr [2, 0, 1])
  refine g_loop (fun s1 G => ∀  (a : Act) (w : World), InR .i64 s1.1 → St Try.f3.ntmps F [(0, v1), (1, .int .i64 a2), (5, pt b1), (6, .int .i64 s1.1)] [Val (Kd.sl KAlarm) v1 a1, Fld Kwhl b1 0 s1.2] a w → G a w) hl (fun s1 p1 H i1 => ?_) fun I_ => ?_
  ·intro  a w g2 h
   refine T.gg h <| T.q <| T.qr rfl <| T.mv rfl <| T.mv rfl <| T.u (fun m => (len_at 0 rfl m)) fun g3 => T.a (o_ln rfl (rd_at 0 rfl) t_v22) <| T.a (o_bin rfl rfl rfl) <| T.d <| T.at fun h => ?_
   by_cases c2 : decide (s1.1 < (a1.length : Int)) = true
   ·refine T.gg h <| have H := ifT c2 H; T.tt rfl c2 <| T.sk <| T.q <| T.bl <| T.c (by kernel_rfl) t_mxo <| T.mv rfl <| T.mv rfl <| T.mv rfl <| bE H fun x1 ex1 H => T.a (o_ix rfl rfl (rd_at 0 rfl) ex1 t_v22) <| T.a (o_fae (k' := s1.1.toNat * Kd.n KAlarm + 0) rfl (rd_at 0 rfl) ex1 (by decide) t_f28_0 rfl rfl) <| T.u (fun m => (in1 (rd_sub sAlarm_At (rd_at 0 rfl) ex1 m))) fun g4 => T.a (o_lsx rfl (rd_at 0 rfl) ex1 sAlarm_At X_int t_y3 (by decide)) <| T.mv rfl <| T.mv rfl <| bE H fun x2 ex2 H => T.a (o_ix rfl rfl (rd_at 0 rfl) ex2 t_v22) <| T.a (o_fae (k' := s1.1.toNat * Kd.n KAlarm + 1) rfl (rd_at 0 rfl) ex2 (by decide) t_f28_1 rfl rfl) <| T.u (fun m => (in1 (rd_sub sAlarm_Id (rd_at 0 rfl) ex2 m))) fun g5 => T.a (o_lsx rfl (rd_at 0 rfl) ex2 sAlarm_Id X_int t_y3 (by decide)) <| bE H fun r3 er3 H => T.a (o_call (timer_Wheel_Set.spc b1 s1.2 x1.At g4 x2.Id g5 r3 er3) rfl [] [1] (by decide) rfl rfl) <| T.d <| T.ib <| T.r rfl <| T.mv rfl <| T.a (o_bin rfl rfl rfl) <| lE H fun y2 ey2 H => T.a (o_assign' rfl (congrArg (fun z => Value.int .i64 z) ey2)) <| T.d <| T.at fun h => ?_
    have e_ := som H; subst e_
    exact Go.inLoop (nx_in i1 _ _ (ey2 ▸ (wrap_in _ _)) (h.wr [1, 0]))
   ·refine T.gg h <| have H := ifF c2 H; T.ff rfl c2 <| T.ex rfl <| T.at fun h => ?_
    have e_ := som H; subst e_
    exact J1 s1.2 _ _ (nx_out i1).symm (h.wr [0, 1])
  ·exact I_ _ _ (show InR .i64 0 by decide) (h.wr [1, 0])
def law22_TimerOrder.g (k_ : Nat) (a1 : List TAlarm) (a2 : Int) : Option (Bool) :=
  (if decide (200 < (a1.length : Int)) = true then (law22_heads.g k_).bind fun r1 => some (r1) else (timer_New.g k_).bind fun r2 => (r2).bind fun y1 => (loopK k_ (fun s1 => (if decide (s1.1 < (a1.length : Int)) = true then (idx a1 s1.1).bind fun x1 => (idx a1 s1.1).bind fun x2 => (timer_Wheel_Set.g k_ s1.2 x1.At x2.Id).bind fun r3 => lt (IntKind.i64.wrap (s1.1 + 1)) fun y2 => some (.inl (y2, r3)) else some (.inr (s1.2)))) (0, y1)).bind (fun j1 => (timer_Wheel_Due.g k_ j1 a2).bind fun r4 => (loopK k_ (fun s2 => (if decide (s2 < (r4.1.length : Int)) = true then ((idx r4.1 (IntKind.i64.wrap (s2 - 1))).bind fun x3 => (idx r4.1 s2).bind fun x4 => (if decide (x4.At < x3.At) = true then some (true) else (idx r4.1 (IntKind.i64.wrap (s2 - 1))).bind fun x5 => (idx r4.1 s2).bind fun x6 => (if decide (x5.At = x6.At) = true then (idx r4.1 (IntKind.i64.wrap (s2 - 1))).bind fun x7 => (idx r4.1 s2).bind fun x8 => some (decide (x8.Id ≤ x7.Id)) else some (false)))).bind (fun j2 => (if j2 = true then some (.inr (.inr (false))) else lt (IntKind.i64.wrap (s2 + 1)) fun y3 => some (.inl y3))) else some (.inr (.inl (()))))) 1).bind (Sum.elim (fun j3 => (loopK k_ (fun s3 => (if decide (s3.2 < (a1.length : Int)) = true then ((lt (IntKind.i64.wrap (s3.2 + 1)) fun y4 => (loopK k_ (fun s4 => (if decide (s4.2 < (a1.length : Int)) = true then ((if s4.1 = true then (idx a1 s4.2).bind fun x9 => (idx a1 s3.2).bind fun x10 => lt (!decide (x9.Id = x10.Id)) fun y5 => some (y5) else some (false))).bind (fun j4 => lt (IntKind.i64.wrap (s4.2 + 1)) fun y6 => some (.inl (j4, y6))) else some (.inr (s4.1)))) (true, y4)).bind (fun j5 => (if (!j5) = true then some (.inl (s3.1)) else (loopK k_ (fun s5 => (if decide (s5.2 < (r4.1.length : Int)) = true then (((idx r4.1 s5.2).bind fun x11 => (idx a1 s3.2).bind fun x12 => (if (decide (x11.At = x12.At) && (decide (x11.Id = x12.Id))) = true then lt (IntKind.i64.wrap (s5.1 + 1)) fun y7 => some (y7) else some (s5.1))).bind (fun j6 => some (j6))).bind (fun j7 => lt (IntKind.i64.wrap (s5.2 + 1)) fun y8 => some (.inl (j7, y8))) else some (.inr (s5.1)))) (0, 0)).bind (fun j8 => ((idx a1 s3.2).bind fun x13 => (if decide (x13.At ≤ a2) = true then (if (!decide (j8 = 1)) = true then some (true) else (idx a1 s3.2).bind fun x14 => (if decide (a2 < x14.At) = true then some ((!decide (j8 = 0))) else some (false))) else (idx a1 s3.2).bind fun x15 => (if decide (a2 < x15.At) = true then some ((!decide (j8 = 0))) else some (false)))).bind (fun j9 => (if j9 = true then some (.inr (false)) else lt (IntKind.i64.wrap (s3.1 + j8)) fun y9 => some (.inl (y9)))))))).bind (Sum.elim (fun j10 => some (.inl (j10))) (fun z_ => some (.inr (z_))))).bind (Sum.elim (fun j11 => lt (IntKind.i64.wrap (s3.2 + 1)) fun y10 => some (.inl (j11, y10))) (fun z_ => some (.inr (.inr (z_))))) else some (.inr (.inl (s3.1))))) (0, 0)).bind (Sum.elim (fun j12 => ((if decide (j12 = (r4.1.length : Int)) = true then (timer_Wheel_Due.g k_ r4.2 a2).bind fun r5 => (if decide ((r5.1.length : Int) = 0) = true then (law22_heads.g k_).bind fun r6 => some ((r6, r5.2)) else some ((false, r5.2))) else some ((false, r4.2)))).bind (fun j13 => some (j13.1))) (fun z_ => some (z_)))) (fun z_ => some (z_)))))
theorem law22_TimerOrder.le (k_ : Nat) (a1 : List TAlarm) (a2 : Int) : Le (law22_TimerOrder.g k_ a1 a2) (law22_TimerOrder.f a1 a2) := by
 unfold law22_TimerOrder.g law22_TimerOrder.f
 repeat' (first | with_reducible refine le_loop fun _ => ?_ | with_reducible refine le_bind ?_ fun _ => ?_ | with_reducible refine le_ite ?_ ?_ | with_reducible refine le_lt fun _ => ?_ | with_reducible refine le_elim (fun _ => ?_) (fun _ => ?_) _ | with_reducible apply law22_heads.le | with_reducible apply timer_New.le | with_reducible apply timer_Wheel_Due.le | with_reducible apply timer_Wheel_Set.le | with_reducible exact le_refl _)
end Go.Proofs.Ytgkgekaiajjcaaa.S
