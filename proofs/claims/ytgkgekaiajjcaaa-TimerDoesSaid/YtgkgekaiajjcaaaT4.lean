/- Contracts, printed by a program of this session. -/
import Derived.Test.YtgkgekaiajjcaaaT2
import Derived.Test.YtgkgekaiajjcaaaT3
namespace Go.Proofs.Ytgkgekaiajjcaaa.S
open Go Go.SL Go.RowKit
set_option linter.unusedVariables false
set_option linter.unusedSimpArgs false
/-! drawbridge/drawbridgelaw22.TimerDoes -/
noncomputable def law22_TimerDoes.f (a1 : List TOp) : Option (Bool) :=
  (if decide (300 < (a1.length : Int)) = true then (law22_heads.f).bind fun r1 => some (r1) else (timer_New.f).bind fun r2 => (ref22_New.f).bind fun r3 => (r2).bind fun y1 => (r3).bind fun y2 => (loop (fun s1 => (if decide (s1.1 < (a1.length : Int)) = true then (idx a1 s1.1).bind fun x1 => ((lt (decide (x1.Kind = 0)) fun y3 => (if y3 = true then (timer_Wheel_Set.f s1.2.2 x1.At x1.Id).bind fun r4 => (ref22_Wheel_Set.f s1.2.1 x1.At x1.Id).bind fun r5 => some (.inl ((r5, r4))) else lt (decide (x1.Kind = 1)) fun y4 => (if y4 = true then (timer_Wheel_Del.f s1.2.2 x1.Id).bind fun r6 => (ref22_Wheel_Del.f s1.2.1 x1.Id).bind fun r7 => (if (!(r6.1 == r7.1)) = true then some (.inr (false)) else some (.inl ((r7.2, r6.2)))) else lt (decide (x1.Kind = 2)) fun y5 => (if y5 = true then (timer_Wheel_Due.f s1.2.2 x1.At).bind fun r8 => (ref22_Wheel_Due.f s1.2.1 x1.At).bind fun r9 => (ref22_Same.f r8.1 r9.1).bind fun r10 => (if (!r10) = true then some (.inr (false)) else some (.inl ((r9.2, r8.2)))) else some (.inl ((s1.2.1, s1.2.2))))))).bind (Sum.elim (fun j1 => some (.inl ((j1.1, j1.2)))) (fun z_ => some (.inr (z_))))).bind (Sum.elim (fun j2 => (timer_Wheel_Next.f j2.2).bind fun r11 => (ref22_Wheel_Next.f j2.1).bind fun r12 => ((if (!(decide (r11.1.At = r12.1.At) && (decide (r11.1.Id = r12.1.Id)))) = true then some ((true, r12.2.2, r11.2.2)) else (if (!(r11.2.1 == r12.2.1)) = true then some ((true, r12.2.2, r11.2.2)) else (timer_Wheel_All.f r11.2.2).bind fun r13 => (ref22_Wheel_All.f r12.2.2).bind fun r14 => (ref22_Same.f r13.1 r14.1).bind fun r15 => (if (!r15) = true then some ((true, r14.2, r13.2)) else (timer_Wheel_Len.f r13.2).bind fun r16 => (ref22_Wheel_All.f r14.2).bind fun r17 => some (((!decide (r16.1 = (r17.1.length : Int))), r17.2, r16.2)))))).bind (fun j3 => (if j3.1 = true then some (.inr (.inr (false))) else lt (IntKind.i64.wrap (s1.1 + 1)) fun y6 => some (.inl (y6, j3.2.1, j3.2.2))))) (fun z_ => some (.inr (.inr (z_))))) else some (.inr (.inl ((s1.2.1, s1.2.2)))))) (0, y2, y1)).bind (Sum.elim (fun j4 => (law22_heads.f).bind fun r18 => some (r18)) (fun z_ => some (z_))))
set_option maxRecDepth 100000 in
set_option maxHeartbeats 4000000 in
theorem law22_TimerDoes.spc (v1 : Value) (a1 : List TOp) (r : Bool) (H : law22_TimerDoes.f a1 = some r) : Spc Try.prog 5 [v1] [Val (Kd.sl KOp) v1 a1] [] (fun (s : Unit) => .bool r) (fun s => []) := by
 unfold law22_TimerDoes.f at H
 refine Spc.go Try.func5 rfl (by kernel_rfl) rfl rfl (all_cons (Val.per Per_sl) all_nil) fun F a w h => ?_
 refine T.gg h <| T.qr rfl <| T.a (o_assign rfl) <| T.d <| T.q <| T.qr rfl <| T.mv rfl <| T.u (fun m => (len_at 0 rfl m)) fun g1 => T.a (o_ln rfl (rd_at 0 rfl) t_v36) <| T.a (o_bin rfl rfl rfl) <| T.d <| T.at fun h => ?_
 by_cases c1 : decide (300 < (a1.length : Int)) = true
 ·refine T.gg h <| have H := ifT c1 H; T.tt rfl c1 <| T.qr rfl <| bE H fun r1 er1 H => T.a (o_call (law22_heads.spc  r1 er1) rfl [] [] (by decide) rfl rfl) <| T.a (o_assign rfl) <| T.d <| T.at fun h => ?_
  rw [← som H]
  exact g_ret (vs := [.bool r1]) h Try.func5 ⟨rfl, trivial⟩ ⟨(), rfl, (h.mem.pick [] (by decide) rfl)⟩
 ·refine T.gg h <| have H := ifF c1 H; T.ff rfl c1 <| T.sk <| T.qr rfl <| bE H fun r2 er2 H => T.s (o_call (timer_New.spc  r2 er2) rfl [] [] (by decide) rfl rfl) fun v2 => bE H fun r3 er3 H => T.s (o_call (ref22_New.spc  r3 er3) rfl [] [] (by decide) rfl rfl) fun v3 => T.a (o_assign rfl) <| T.a (o_assign rfl) <| T.d <| T.q <| T.q <| bE H fun y1 ey1 H => T.at fun h => ?_
  obtain ⟨b1, eb1, h⟩ := h.unb 1 rfl ey1
  subst eb1
  refine T.gg h <| T.r rfl <| T.mv rfl <| T.a (o_ptn rfl t_u24) <| T.d <| T.ff rfl Bool.false_ne_true <| T.sk <| T.q <| T.qr rfl <| T.a (o_assign rfl) <| T.d <| T.bl <| bE H fun y2 ey2 H => T.at fun h => ?_
  obtain ⟨b2, eb2, h⟩ := h.unb 0 rfl ey2
  subst eb2
  obtain ⟨o1, hl, G1⟩ := bindE H
  refine g_cut (fun G => ∀ j4 (a : Act) (w : World), o1 = .inl (j4) → St Try.f5.ntmps F [] [Fld KWheel b2 0 j4.1, Fld Kwhl b1 0 j4.2] a w → G a w) 2 ?_ fun J4 => ?_
  ·intro j4 a w ho_ h
   rw [ho_] at G1
   refine T.gg h <| have H := eInl G1; T.qr rfl <| bE H fun r18 er18 H => T.a (o_call (law22_heads.spc  r18 er18) rfl [] [] (by decide) rfl rfl) <| T.a (o_assign rfl) <| T.d <| T.at fun h => ?_
   rw [← som H]
   exact g_ret (vs := [.bool r18]) h Try.func5 ⟨rfl, trivial⟩ ⟨(), rfl, (h.mem.pick [] (by decide) rfl)⟩
  refine g_loop (fun s1 G => ∀  (a : Act) (w : World), InR .i64 s1.1 → St Try.f5.ntmps F [(0, v1), (3, pt b1), (4, pt b2), (5, .int .i64 s1.1)] [Val (Kd.sl KOp) v1 a1, Fld KWheel b2 0 s1.2.1, Fld Kwhl b1 0 s1.2.2] a w → G a w) hl (fun s1 p1 H i1 => ?_) fun I_ => ?_
  ·intro  a w g2 h
   refine T.gg h <| T.q <| T.qr rfl <| T.mv rfl <| T.mv rfl <| T.u (fun m => (len_at 0 rfl m)) fun g3 => T.a (o_ln rfl (rd_at 0 rfl) t_v36) <| T.a (o_bin rfl rfl rfl) <| T.d <| T.at fun h => ?_
   by_cases c2 : decide (s1.1 < (a1.length : Int)) = true
   ·refine T.gg h <| have H := ifT c2 H; T.tt rfl c2 <| T.sk <| T.q <| T.bl <| T.qr rfl <| T.mv rfl <| T.mv rfl <| bE H fun x1 ex1 H => T.a (o_ix rfl rfl (rd_at 0 rfl) ex1 t_v36) <| T.s (o_lev rfl (rd_at 0 rfl) ex1 t_y40 (by decide)) fun v4 => T.s (o_alloc (K := KOp) (z := (.agg #[.int .i64 0, .int .i64 0, .int .i64 0])) rfl ZOp) fun b3 => T.z (o_st 0 rfl rfl rfl (pv_at POp 1 rfl) rfl t_w40) <| T.d <| T.q <| bE H fun o2 H G2 => T.at fun h => ?_
    refine g_cut (fun G => ∀ j2 (a : Act) (w : World), o2 = .inl (j2) → St Try.f5.ntmps F [(0, v1), (3, pt b1), (4, pt b2), (5, .int .i64 s1.1)] [Val (Kd.sl KOp) v1 a1, Fld KWheel b2 0 j2.1, Fld Kwhl b1 0 j2.2, Fld KOp b3 0 x1] a w → G a w) 1 ?_ fun J2 => ?_
    ·intro j2 a w ho_ h
     rw [ho_] at G2
     refine T.gg h <| have H := eInl G2; T.qr rfl <| T.mv rfl <| bE H fun r11 er11 H => T.s (o_call (timer_Wheel_Next.spc b1 j2.2 r11 er11) rfl [] [2] (by decide) rfl rfl) fun v7 => T.mv rfl <| T.a (o_extract rfl rfl) <| T.a (o_extract rfl rfl) <| T.s (o_alloc (K := KAlarm) (z := (.agg #[.int .i64 0, .int .i64 0])) rfl ZAlarm) fun b4 => T.z (o_st 0 rfl rfl rfl (pv_at PAlarm 1 rfl) rfl t_w28) <| T.a (o_assign rfl) <| T.d <| T.qr rfl <| T.mv rfl <| bE H fun r12 er12 H => T.s (o_call (ref22_Wheel_Next.spc b2 j2.1 r12 er12) rfl [] [4] (by decide) rfl rfl) fun v8 => T.mv rfl <| T.a (o_extract rfl rfl) <| T.a (o_extract rfl rfl) <| T.s (o_alloc (K := KAlarm) (z := (.agg #[.int .i64 0, .int .i64 0])) rfl ZAlarm) fun b5 => T.z (o_st 0 rfl rfl rfl (pv_at PAlarm 1 rfl) rfl t_w28) <| T.a (o_assign rfl) <| T.d <| T.q <| bE H fun o4 H G4 => T.at fun h => ?_
     refine g_cut (fun G => ∀ j3 (a : Act) (w : World), o4 = j3 → St Try.f5.ntmps F [(0, v1), (3, pt b1), (4, pt b2), (5, .int .i64 s1.1), (101, .bool j3.1)] [Val (Kd.sl KOp) v1 a1, Fld KAlarm b5 0 r12.1, Fld KWheel b2 0 j3.2.1, Fld KAlarm b4 0 r11.1, Fld Kwhl b1 0 j3.2.2, Fld KOp b3 0 x1] a w → G a w) 1 ?_ fun J3 => ?_
     ·intro j3 a w ho_ h
      rw [ho_] at G4
      have H := G4
      by_cases c11 : j3.1 = true
      ·refine T.gg h <| have H := ifT c11 H; T.tt rfl c11 <| T.qr rfl <| T.a (o_assign rfl) <| T.d <| T.at fun h => ?_
       have e_ := som H; subst e_
       rw [← nx_out i1] at G1
       have H := G1
       rw [← som H]
       exact g_ret (vs := [.bool false]) h Try.func5 ⟨rfl, trivial⟩ ⟨(), rfl, (h.mem.pick [] (by decide) rfl)⟩
      ·refine T.gg h <| have H := ifF c11 H; T.ff rfl c11 <| T.sk <| T.ib <| T.r rfl <| T.mv rfl <| T.a (o_bin rfl rfl rfl) <| lE H fun y6 ey6 H => T.a (o_assign' rfl (congrArg (fun z => Value.int .i64 z) ey6)) <| T.d <| T.at fun h => ?_
       have e_ := som H; subst e_
       exact Go.inLoop (nx_in i1 _ _ (ey6 ▸ (wrap_in _ _)) (h.wr [0, 2, 4]))
     refine T.gg h <| T.r rfl <| T.s (o_ldv 3 rfl rfl PAlarm t_y28) fun v9 => T.s (o_ldv 1 rfl rfl PAlarm t_y28) fun v10 => T.a (o_nev rfl rfl (pv_at PAlarm 1 rfl) (pv_at PAlarm 0 rfl) rfl t_e28 (.cons sAlarm_At (eq_int t_u3) (.last sAlarm_Id (eq_int t_u3)))) <| T.mv rfl <| T.at fun h => ?_
     by_cases c8 : (!(decide (r11.1.At = r12.1.At) && (decide (r11.1.Id = r12.1.Id)))) = true
     ·exact T.gm h <| have H := ifT c8 H; T.gk rfl rfl (nb_t c8) <| T.gk rfl rfl (nb_t c8) <| T.gk rfl rfl (nb_t c8) <| T.a (o_pickT rfl rfl c8) <| T.mv rfl <| T.gk rfl rfl (nb_t rfl) <| T.gk rfl rfl (nb_t rfl) <| T.gk rfl rfl (nb_t rfl) <| T.gk rfl rfl (nb_t rfl) <| T.gk rfl rfl (nb_t rfl) <| T.gk rfl rfl (nb_t rfl) <| T.a (o_pickT rfl rfl rfl) <| T.mv rfl <| T.gk rfl rfl (nb_t rfl) <| T.gk rfl rfl (nb_t rfl) <| T.gk rfl rfl (nb_t rfl) <| T.gk rfl rfl (nb_t rfl) <| T.gk rfl rfl (nb_t rfl) <| T.gk rfl rfl (nb_t rfl) <| T.a (o_pickT rfl rfl rfl) <| T.d <| T.at fun h => J3 (true, r12.2.2, r11.2.2) _ _ (som H).symm (h.wr [8, 2, 4, 5, 7, 11])
     ·refine T.gm h <| have H := ifF c8 H; T.ga rfl rfl (nbF c8) (o_move rfl) <| T.ga rfl rfl (nbF c8) (o_move rfl) <| T.ga rfl rfl (nbF c8) (o_neb rfl rfl t_u4) <| T.a (o_pickF rfl rfl c8) <| T.mv rfl <| T.at fun h => ?_
      by_cases c9 : (!(r11.2.1 == r12.2.1)) = true
      ·exact T.gm h <| have H := ifT c9 H; T.gk rfl rfl (nb_t c9) <| T.gk rfl rfl (nb_t c9) <| T.gk rfl rfl (nb_t c9) <| T.gk rfl rfl (nb_t c9) <| T.gk rfl rfl (nb_t c9) <| T.gk rfl rfl (nb_t c9) <| T.a (o_pickT rfl rfl c9) <| T.mv rfl <| T.gk rfl rfl (nb_t rfl) <| T.gk rfl rfl (nb_t rfl) <| T.gk rfl rfl (nb_t rfl) <| T.gk rfl rfl (nb_t rfl) <| T.gk rfl rfl (nb_t rfl) <| T.gk rfl rfl (nb_t rfl) <| T.a (o_pickT rfl rfl rfl) <| T.d <| T.at fun h => J3 (true, r12.2.2, r11.2.2) _ _ (som H).symm (h.wr [8, 2, 4, 5, 7, 11])
      ·refine T.gm h <| have H := ifF c9 H; T.ga rfl rfl (nbF c9) (o_move rfl) <| bE H fun r13 er13 H => T.gs rfl rfl (nbF c9) (o_call (timer_Wheel_All.spc b1 r11.2.2 r13 er13) rfl [] [7] (by decide) rfl rfl) fun v11 => T.ga rfl rfl (nbF c9) (o_move rfl) <| bE H fun r14 er14 H => T.gs rfl rfl (nbF c9) (o_call (ref22_Wheel_All.spc b2 r12.2.2 r14 er14) rfl [] [6] (by decide) rfl rfl) fun v12 => T.mm (fun m => m.freeze 2 rfl) <| T.mm (fun m => m.freeze 0 rfl) <| bE H fun r15 er15 H => T.ga rfl rfl (nbF c9) (o_call (ref22_Same.spc v11 r13.1 v12 r14.1 r15 er15) rfl [2, 0] [] (by decide) rfl rfl) <| T.ga rfl rfl (nbF c9) (o_not rfl) <| T.a (o_pickF rfl rfl c9) <| T.mv rfl <| T.at fun h => ?_
       by_cases c10 : (!r15) = true
       ·exact T.gm h <| have H := ifT c10 H; T.gk rfl rfl (nb_t c10) <| T.gk rfl rfl (nb_t c10) <| T.gk rfl rfl (nb_t c10) <| T.gk rfl rfl (nb_t c10) <| T.gk rfl rfl (nb_t c10) <| T.gk rfl rfl (nb_t c10) <| T.a (o_pickT rfl rfl c10) <| T.d <| T.at fun h => J3 (true, r14.2, r13.2) _ _ (som H).symm (h.wr [12, 6, 1, 9, 3, 15])
       ·exact T.gm h <| have H := ifF c10 H; T.ga rfl rfl (nbF c10) (o_move rfl) <| bE H fun r16 er16 H => T.ga rfl rfl (nbF c10) (o_call (timer_Wheel_Len.spc b1 r13.2 r16 er16) rfl [] [3] (by decide) rfl rfl) <| T.u (fun m => m.pur 0 rfl) fun g13 => T.ga rfl rfl (nbF c10) (o_move rfl) <| bE H fun r17 er17 H => T.gs rfl rfl (nbF c10) (o_call (ref22_Wheel_All.spc b2 r14.2 r17 er17) rfl [] [3] (by decide) rfl rfl) fun v13 => T.u (fun m => (len_own 0 rfl m)) fun g14 => T.ga rfl rfl (nbF c10) (o_ln rfl (rd_own 0 rfl) t_v22) <| T.ga rfl rfl (nbF c10) (o_bin rfl rfl rfl) <| T.a (o_pickF rfl rfl c10) <| T.d <| T.at fun h => J3 ((!decide (r16.1 = (r17.1.length : Int))), r17.2, r16.2) _ _ (som H).symm (h.wr [16, 10, 1, 13, 3, 19])
    refine T.gg h <| T.qr rfl <| T.a (fa rfl t_f40_0) <| T.u (fun m => (in2 (fd_sub sOp_Kind 0 rfl m))) fun g4 => T.a (o_lfx 0 rfl rfl sOp_Kind rfl X_int t_y3) <| T.d <| T.bl <| bE H fun o3 H G3 => T.at fun h => ?_
    refine g_cut (fun G => ∀ j1 (a : Act) (w : World), o3 = .inl (j1) → St Try.f5.ntmps F [(0, v1), (3, pt b1), (4, pt b2), (5, .int .i64 s1.1)] [Val (Kd.sl KOp) v1 a1, Fld KWheel b2 0 j1.1, Fld Kwhl b1 0 j1.2, Fld KOp b3 0 x1] a w → G a w) 2 ?_ fun J1 => ?_
    ·intro j1 a w ho_ h
     rw [ho_] at G3
     have H := eInl G3
     exact J2 (j1.1, j1.2) _ _ (som H).symm (h.wr [0, 1, 2, 3])
    refine T.gg h <| T.qr rfl <| T.a (o_bin rfl rfl rfl) <| lE H fun y3 ey3 H => T.a (o_assign' rfl (congrArg Value.bool ey3)) <| T.d <| T.at fun h => ?_
    by_cases c3 : y3 = true
    ·exact T.gg h <| have H := ifT c3 H; T.tt rfl c3 <| T.qr rfl <| T.mv rfl <| T.a (fa rfl t_f40_1) <| T.u (fun m => (in2 (fd_sub sOp_At 0 rfl m))) fun g5 => T.a (o_lfx 0 rfl rfl sOp_At rfl X_int t_y3) <| T.a (fa rfl t_f40_2) <| T.u (fun m => (in2 (fd_sub sOp_Id 0 rfl m))) fun g6 => T.a (o_lfx 0 rfl rfl sOp_Id rfl X_int t_y3) <| bE H fun r4 er4 H => T.a (o_call (timer_Wheel_Set.spc b1 s1.2.2 x1.At g5 x1.Id g6 r4 er4) rfl [] [4] (by decide) rfl rfl) <| T.d <| T.r rfl <| T.mv rfl <| T.a (fa rfl t_f40_1) <| T.u (fun m => (in2 (fd_sub sOp_At 1 rfl m))) fun g7 => T.a (o_lfx 1 rfl rfl sOp_At rfl X_int t_y3) <| T.a (fa rfl t_f40_2) <| T.u (fun m => (in2 (fd_sub sOp_Id 1 rfl m))) fun g8 => T.a (o_lfx 1 rfl rfl sOp_Id rfl X_int t_y3) <| bE H fun r5 er5 H => T.a (o_call (ref22_Wheel_Set.spc b2 s1.2.1 x1.At g7 x1.Id g8 r5 er5) rfl [] [4] (by decide) rfl rfl) <| T.d <| T.ib <| T.at fun h => J1 (r5, r4) _ _ (som H).symm (h.wr [4, 0, 1, 2])
    ·refine T.gg h <| have H := ifF c3 H; T.ff rfl c3 <| T.qr rfl <| T.a (o_bin rfl rfl rfl) <| lE H fun y4 ey4 H => T.a (o_assign' rfl (congrArg Value.bool ey4)) <| T.d <| T.at fun h => ?_
     by_cases c4 : y4 = true
     ·refine T.gg h <| have H := ifT c4 H; T.tt rfl c4 <| T.q <| T.w [(0, v1), (3, pt b1), (4, pt b2), (5, .int .i64 s1.1), (6, pt b3)] [Fld Kwhl b1 0 s1.2.2, Fld KOp b3 0 x1, Val KOp v4 x1, Val (Kd.sl KOp) v1 a1, Fld KWheel b2 0 s1.2.1] [4, 0, 1, 2, 3] rfl (by decide) rfl <| bE H fun r6 er6 H => T.at fun h => ?_
      refine Go.draw (E := [(0, v1), (3, pt b1), (4, pt b2), (5, .int .i64 s1.1), (6, pt b3)]) [] (L := [Fld KOp b3 0 x1, Val KOp v4 x1, Val (Kd.sl KOp) v1 a1, Fld KWheel b2 0 s1.2.1]) h rfl rfl 7 [cn (pt b1), cn (.pointer (some ⟨b3, 2, none⟩)), cm [1] [] [] (.int .i64 x1.Id) fun u => [Ent.pur (InR .i64 x1.Id)], cm [0, 1, 2] [7, 2] [7] (.bool r6.1) fun u => [Fld Kwhl b1 0 r6.2, Ent.nul], cn (pt b2), cn (.pointer (some ⟨b3, 2, none⟩)), cm [5] [] [] (.int .i64 x1.Id) fun u => [Ent.pur (InR .i64 x1.Id)], cm [] [] [] undef fun u => [Fld Kwhl b1 0 s1.2.2]] rfl t_mxo (by kernel_rfl) (by rfl) ?_ fun f1 _ _ h => ?_
      ·exact ox rfl (o_move rfl) (ox rfl (o_fa rfl t_f40_2 rfl rfl) (ox rfl (OpS.pur (fun F w m_ => (in2 (fd_sub sOp_Id 0 rfl m_))) (o_lfx 0 rfl rfl sOp_Id rfl X_int t_y3)) (ox rfl (OpS.fact (p := InR .i64 x1.Id) (fun F w m_ => (Mem.pur 1 rfl m_)) fun g9 => (o_call (timer_Wheel_Del.spc b1 s1.2.2 x1.Id g9 r6 er6) rfl [] [0] (by decide) rfl rfl)) (ox rfl (o_move rfl) (ox rfl (o_fa rfl t_f40_2 rfl rfl) (ox rfl (OpS.pur (fun F w m_ => (in2 (fd_sub sOp_Id 0 rfl m_))) (o_lfx 0 rfl rfl sOp_Id rfl X_int t_y3)) (obs_nil)))))))
      replace h := h.wk (E' := [(0, v1), (3, pt b1), (4, pt b2), (5, .int .i64 s1.1), (50, .bool r6.1), (51, pt b2), (53, .int .i64 x1.Id)]) (L' := [Ent.pur (InR .i64 x1.Id), Fld Kwhl b1 0 r6.2, Ent.nul, Ent.pur (InR .i64 x1.Id), Fld KOp b3 0 x1, Val KOp v4 x1, Val (Kd.sl KOp) v1 a1, Fld KWheel b2 0 s1.2.1]) (by kernel_rfl) [0, 1, 2, 3, 4, 5, 6, 7] (by decide) (by kernel_rfl)
      refine T.gr h <| T.u (fun m => (Mem.pur 3 rfl m)) fun g10 => T.lo rfl <| bE H fun r7 er7 H => T.a (o_call (ref22_Wheel_Del.spc b2 s1.2.1 x1.Id g10 r7 er7) rfl [] [7] (by decide) rfl rfl) <| T.a (o_neb rfl rfl t_u4) <| T.d <| T.at fun h => ?_
      by_cases c5 : (!(r6.1 == r7.1)) = true
      ·refine T.gg h <| have H := ifT c5 H; T.tt rfl c5 <| T.qr rfl <| T.a (o_assign rfl) <| T.d <| T.at fun h => ?_
       rw [← som H] at G3
       have H := G3
       rw [← som H] at G2
       have H := G2
       have e_ := som H; subst e_
       rw [← nx_out i1] at G1
       have H := G1
       rw [← som H]
       exact g_ret (vs := [.bool false]) h Try.func5 ⟨rfl, trivial⟩ ⟨(), rfl, (h.mem.pick [] (by decide) rfl)⟩
      ·exact T.gg h <| have H := ifF c5 H; T.ff rfl c5 <| T.sk <| T.ib <| T.at fun h => J1 (r7.2, r6.2) _ _ (som H).symm (h.wr [7, 0, 2, 5])
     ·refine T.gg h <| have H := ifF c4 H; T.ff rfl c4 <| T.qr rfl <| T.a (o_bin rfl rfl rfl) <| lE H fun y5 ey5 H => T.a (o_assign' rfl (congrArg Value.bool ey5)) <| T.d <| T.at fun h => ?_
      by_cases c6 : y5 = true
      ·refine T.gg h <| have H := ifT c6 H; T.tt rfl c6 <| T.q <| T.w [(0, v1), (3, pt b1), (4, pt b2), (5, .int .i64 s1.1), (6, pt b3)] [Fld Kwhl b1 0 s1.2.2, Fld KOp b3 0 x1, Val KOp v4 x1, Val (Kd.sl KOp) v1 a1, Fld KWheel b2 0 s1.2.1] [4, 0, 1, 2, 3] rfl (by decide) rfl <| bE H fun r8 er8 H => T.at fun h => ?_
       refine Go.draw (E := [(0, v1), (3, pt b1), (4, pt b2), (5, .int .i64 s1.1), (6, pt b3)]) [] (L := [Fld KOp b3 0 x1, Val KOp v4 x1, Val (Kd.sl KOp) v1 a1, Fld KWheel b2 0 s1.2.1]) h rfl rfl 7 [cn (pt b1), cn (.pointer (some ⟨b3, 1, none⟩)), cm [1] [] [] (.int .i64 x1.At) fun u => [Ent.pur (InR .i64 x1.At)], cw [0, 1, 2] [7, 2] [7] fun u => [Val (Kd.osl KAlarm) u r8.1, Fld Kwhl b1 0 r8.2, Ent.nul], cn (pt b2), cn (.pointer (some ⟨b3, 1, none⟩)), cm [5] [] [] (.int .i64 x1.At) fun u => [Ent.pur (InR .i64 x1.At)], cm [] [] [] undef fun u => [Fld Kwhl b1 0 s1.2.2]] rfl t_mxo (by kernel_rfl) (by rfl) ?_ fun f2 _ _ h => ?_
       ·exact ox rfl (o_move rfl) (ox rfl (o_fa rfl t_f40_1 rfl rfl) (ox rfl (OpS.pur (fun F w m_ => (in2 (fd_sub sOp_At 0 rfl m_))) (o_lfx 0 rfl rfl sOp_At rfl X_int t_y3)) (oy rfl (OpS.fact (p := InR .i64 x1.At) (fun F w m_ => (Mem.pur 1 rfl m_)) fun g11 => (o_call (timer_Wheel_Due.spc b1 s1.2.2 x1.At g11 r8 er8) rfl [] [0] (by decide) rfl rfl)) (ox rfl (o_move rfl) (ox rfl (o_fa rfl t_f40_1 rfl rfl) (ox rfl (OpS.pur (fun F w m_ => (in2 (fd_sub sOp_At 0 rfl m_))) (o_lfx 0 rfl rfl sOp_At rfl X_int t_y3)) (obs_nil)))))))
       replace h := h.wk (E' := [(0, v1), (3, pt b1), (4, pt b2), (5, .int .i64 s1.1), (61, (f2 3)), (62, pt b2), (64, .int .i64 x1.At)]) (L' := [Ent.pur (InR .i64 x1.At), Val (Kd.osl KAlarm) (f2 3) r8.1, Fld Kwhl b1 0 r8.2, Ent.nul, Ent.pur (InR .i64 x1.At), Fld KOp b3 0 x1, Val KOp v4 x1, Val (Kd.sl KOp) v1 a1, Fld KWheel b2 0 s1.2.1]) (by kernel_rfl) [0, 1, 2, 3, 4, 5, 6, 7, 8] (by decide) (by kernel_rfl)
       refine T.gr h <| T.u (fun m => (Mem.pur 4 rfl m)) fun g12 => T.lo rfl <| bE H fun r9 er9 H => T.s (o_call (ref22_Wheel_Due.spc b2 s1.2.1 x1.At g12 r9 er9) rfl [] [8] (by decide) rfl rfl) fun v6 => T.mm (fun m => m.freeze 3 rfl) <| T.mm (fun m => m.freeze 0 rfl) <| bE H fun r10 er10 H => T.a (o_call (ref22_Same.spc (f2 3) r8.1 v6 r9.1 r10 er10) rfl [3, 0] [] (by decide) rfl rfl) <| T.a (o_not rfl) <| T.d <| T.at fun h => ?_
       by_cases c7 : (!r10) = true
       ·refine T.gg h <| have H := ifT c7 H; T.tt rfl c7 <| T.qr rfl <| T.a (o_assign rfl) <| T.d <| T.at fun h => ?_
        rw [← som H] at G3
        have H := G3
        rw [← som H] at G2
        have H := G2
        have e_ := som H; subst e_
        rw [← nx_out i1] at G1
        have H := G1
        rw [← som H]
        exact g_ret (vs := [.bool false]) h Try.func5 ⟨rfl, trivial⟩ ⟨(), rfl, (h.mem.pick [] (by decide) rfl)⟩
       ·exact T.gg h <| have H := ifF c7 H; T.ff rfl c7 <| T.sk <| T.ib <| T.at fun h => J1 (r9.2, r8.2) _ _ (som H).symm (h.wr [9, 1, 4, 7])
      ·exact T.gg h <| have H := ifF c6 H; T.ff rfl c6 <| T.sk <| T.ib <| T.at fun h => J1 (s1.2.1, s1.2.2) _ _ (som H).symm (h.wr [2, 3, 4, 0])
   ·refine T.gg h <| have H := ifF c2 H; T.ff rfl c2 <| T.ex rfl <| T.at fun h => ?_
    have e_ := som H; subst e_
    exact J4 (s1.2.1, s1.2.2) _ _ (nx_out i1).symm (h.wr [1, 2])
  ·exact I_ _ _ (show InR .i64 0 by decide) (h.wr [2, 0, 1])
def law22_TimerDoes.g (k_ : Nat) (a1 : List TOp) : Option (Bool) :=
  (if decide (300 < (a1.length : Int)) = true then (law22_heads.g k_).bind fun r1 => some (r1) else (timer_New.g k_).bind fun r2 => (ref22_New.g k_).bind fun r3 => (r2).bind fun y1 => (r3).bind fun y2 => (loopK k_ (fun s1 => (if decide (s1.1 < (a1.length : Int)) = true then (idx a1 s1.1).bind fun x1 => ((lt (decide (x1.Kind = 0)) fun y3 => (if y3 = true then (timer_Wheel_Set.g k_ s1.2.2 x1.At x1.Id).bind fun r4 => (ref22_Wheel_Set.g k_ s1.2.1 x1.At x1.Id).bind fun r5 => some (.inl ((r5, r4))) else lt (decide (x1.Kind = 1)) fun y4 => (if y4 = true then (timer_Wheel_Del.g k_ s1.2.2 x1.Id).bind fun r6 => (ref22_Wheel_Del.g k_ s1.2.1 x1.Id).bind fun r7 => (if (!(r6.1 == r7.1)) = true then some (.inr (false)) else some (.inl ((r7.2, r6.2)))) else lt (decide (x1.Kind = 2)) fun y5 => (if y5 = true then (timer_Wheel_Due.g k_ s1.2.2 x1.At).bind fun r8 => (ref22_Wheel_Due.g k_ s1.2.1 x1.At).bind fun r9 => (ref22_Same.g k_ r8.1 r9.1).bind fun r10 => (if (!r10) = true then some (.inr (false)) else some (.inl ((r9.2, r8.2)))) else some (.inl ((s1.2.1, s1.2.2))))))).bind (Sum.elim (fun j1 => some (.inl ((j1.1, j1.2)))) (fun z_ => some (.inr (z_))))).bind (Sum.elim (fun j2 => (timer_Wheel_Next.g k_ j2.2).bind fun r11 => (ref22_Wheel_Next.g k_ j2.1).bind fun r12 => ((if (!(decide (r11.1.At = r12.1.At) && (decide (r11.1.Id = r12.1.Id)))) = true then some ((true, r12.2.2, r11.2.2)) else (if (!(r11.2.1 == r12.2.1)) = true then some ((true, r12.2.2, r11.2.2)) else (timer_Wheel_All.g k_ r11.2.2).bind fun r13 => (ref22_Wheel_All.g k_ r12.2.2).bind fun r14 => (ref22_Same.g k_ r13.1 r14.1).bind fun r15 => (if (!r15) = true then some ((true, r14.2, r13.2)) else (timer_Wheel_Len.g k_ r13.2).bind fun r16 => (ref22_Wheel_All.g k_ r14.2).bind fun r17 => some (((!decide (r16.1 = (r17.1.length : Int))), r17.2, r16.2)))))).bind (fun j3 => (if j3.1 = true then some (.inr (.inr (false))) else lt (IntKind.i64.wrap (s1.1 + 1)) fun y6 => some (.inl (y6, j3.2.1, j3.2.2))))) (fun z_ => some (.inr (.inr (z_))))) else some (.inr (.inl ((s1.2.1, s1.2.2)))))) (0, y2, y1)).bind (Sum.elim (fun j4 => (law22_heads.g k_).bind fun r18 => some (r18)) (fun z_ => some (z_))))
theorem law22_TimerDoes.le (k_ : Nat) (a1 : List TOp) : Le (law22_TimerDoes.g k_ a1) (law22_TimerDoes.f a1) := by
 unfold law22_TimerDoes.g law22_TimerDoes.f
 repeat' (first | with_reducible refine le_loop fun _ => ?_ | with_reducible refine le_bind ?_ fun _ => ?_ | with_reducible refine le_ite ?_ ?_ | with_reducible refine le_lt fun _ => ?_ | with_reducible refine le_elim (fun _ => ?_) (fun _ => ?_) _ | with_reducible apply law22_heads.le | with_reducible apply ref22_New.le | with_reducible apply ref22_Same.le | with_reducible apply ref22_Wheel_All.le | with_reducible apply ref22_Wheel_Del.le | with_reducible apply ref22_Wheel_Due.le | with_reducible apply ref22_Wheel_Next.le | with_reducible apply ref22_Wheel_Set.le | with_reducible apply timer_New.le | with_reducible apply timer_Wheel_All.le | with_reducible apply timer_Wheel_Del.le | with_reducible apply timer_Wheel_Due.le | with_reducible apply timer_Wheel_Len.le | with_reducible apply timer_Wheel_Next.le | with_reducible apply timer_Wheel_Set.le | with_reducible exact le_refl _)
end Go.Proofs.Ytgkgekaiajjcaaa.S
