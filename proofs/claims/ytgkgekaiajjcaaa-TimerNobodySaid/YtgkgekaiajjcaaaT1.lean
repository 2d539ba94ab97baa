/- Contracts, printed by a program of this session. -/
import Derived.Test.YtgkgekaiajjcaaaT0
namespace Go.Proofs.Ytgkgekaiajjcaaa.S
open Go Go.SL Go.RowKit
set_option linter.unusedVariables false
set_option linter.unusedSimpArgs false
/-! cmp.isNaN[int] -/
noncomputable def cmp_isNaN_int.f (a1 : Int) : Option (Bool) :=
  lt (!decide (a1 = a1)) fun y1 => some (y1)
set_option maxRecDepth 100000 in
set_option maxHeartbeats 4000000 in
theorem cmp_isNaN_int.spc (a1 : Int) (ha1 : InR .i64 a1) (r : Bool) (H : cmp_isNaN_int.f a1 = some r) : Spc Try.prog 47 [.int .i64 a1] [] [] (fun (s : Unit) => .bool r) (fun s => []) := by
 unfold cmp_isNaN_int.f at H
 refine Spc.go Try.func47 rfl (by kernel_rfl) rfl rfl all_nil fun F a w h => ?_
 refine T.gg h <| T.qr rfl <| T.a (o_assign rfl) <| T.d <| T.qr rfl <| T.mv rfl <| T.mv rfl <| T.a (o_bin rfl rfl rfl) <| lE H fun y1 ey1 H => T.a (o_assign' rfl (congrArg Value.bool ey1)) <| T.d <| T.at fun h => ?_
 rw [← som H]
 exact g_ret (vs := [.bool y1]) h Try.func47 ⟨rfl, trivial⟩ ⟨(), rfl, (h.mem.pick [] (by decide) rfl)⟩
def cmp_isNaN_int.g (k_ : Nat) (a1 : Int) : Option (Bool) :=
  lt (!decide (a1 = a1)) fun y1 => some (y1)
theorem cmp_isNaN_int.le (k_ : Nat) (a1 : Int) : Le (cmp_isNaN_int.g k_ a1) (cmp_isNaN_int.f a1) := by
 unfold cmp_isNaN_int.g cmp_isNaN_int.f
 repeat' (first | with_reducible refine le_loop fun _ => ?_ | with_reducible refine le_bind ?_ fun _ => ?_ | with_reducible refine le_ite ?_ ?_ | with_reducible refine le_lt fun _ => ?_ | with_reducible refine le_elim (fun _ => ?_) (fun _ => ?_) _ | with_reducible exact le_refl _)
/-! cmp.Compare[int] -/
noncomputable def cmp_Compare_int.f (a1 : Int) (a2 : Int) : Option (Int) :=
  (cmp_isNaN_int.f a1).bind fun r1 => (cmp_isNaN_int.f a2).bind fun r2 => (if r1 = true then (if r2 = true then some (0) else some ((-1))) else (if r2 = true then some (1) else (if decide (a1 < a2) = true then some ((-1)) else (if decide (a2 < a1) = true then some (1) else some (0)))))
set_option maxRecDepth 100000 in
set_option maxHeartbeats 4000000 in
theorem cmp_Compare_int.spc (a1 : Int) (ha1 : InR .i64 a1) (a2 : Int) (ha2 : InR .i64 a2) (r : Int) (H : cmp_Compare_int.f a1 a2 = some r) : Spc Try.prog 36 [.int .i64 a1, .int .i64 a2] [] [] (fun (s : Unit) => .int .i64 r) (fun s => [Ent.pur (InR .i64 r)]) := by
 unfold cmp_Compare_int.f at H
 refine Spc.go Try.func36 rfl (by kernel_rfl) rfl rfl all_nil fun F a w h => ?_
 refine T.gg h <| T.qr rfl <| T.a (o_assign rfl) <| T.d <| T.qr rfl <| T.mv rfl <| bE H fun r1 er1 H => T.a (o_call (cmp_isNaN_int.spc a1 ha1 r1 er1) rfl [] [] (by decide) rfl rfl) <| T.a (o_assign rfl) <| T.d <| T.qr rfl <| T.mv rfl <| bE H fun r2 er2 H => T.a (o_call (cmp_isNaN_int.spc a2 ha2 r2 er2) rfl [] [] (by decide) rfl rfl) <| T.a (o_assign rfl) <| T.d <| T.q <| T.qr rfl <| T.mv rfl <| T.d <| T.at fun h => ?_
 by_cases c1 : r1 = true
 ·refine T.gg h <| have H := ifT c1 H; T.tt rfl c1 <| T.q <| T.qr rfl <| T.mv rfl <| T.d <| T.at fun h => ?_
  by_cases c2 : r2 = true
  ·refine T.gg h <| have H := ifT c2 H; T.tt rfl c2 <| T.qr rfl <| T.a (o_assign rfl) <| T.d <| T.at fun h => ?_
   rw [← som H]
   exact g_ret (vs := [.int .i64 0]) h Try.func36 ⟨rfl, trivial⟩ ⟨(), rfl, ((h.mem.pick [] (by decide) rfl).addpur (show InR .i64 0 by decide))⟩
  ·refine T.gg h <| have H := ifF c2 H; T.ff rfl c2 <| T.sk <| T.qr rfl <| T.a (o_assign rfl) <| T.d <| T.at fun h => ?_
   rw [← som H]
   exact g_ret (vs := [.int .i64 (-1)]) h Try.func36 ⟨rfl, trivial⟩ ⟨(), rfl, ((h.mem.pick [] (by decide) rfl).addpur (show InR .i64 (-1) by decide))⟩
 ·refine T.gg h <| have H := ifF c1 H; T.ff rfl c1 <| T.sk <| T.q <| T.qr rfl <| T.mv rfl <| T.d <| T.at fun h => ?_
  by_cases c3 : r2 = true
  ·refine T.gg h <| have H := ifT c3 H; T.tt rfl c3 <| T.qr rfl <| T.a (o_assign rfl) <| T.d <| T.at fun h => ?_
   rw [← som H]
   exact g_ret (vs := [.int .i64 1]) h Try.func36 ⟨rfl, trivial⟩ ⟨(), rfl, ((h.mem.pick [] (by decide) rfl).addpur (show InR .i64 1 by decide))⟩
  ·refine T.gg h <| have H := ifF c3 H; T.ff rfl c3 <| T.sk <| T.q <| T.qr rfl <| T.mv rfl <| T.mv rfl <| T.a (o_bin rfl rfl rfl) <| T.d <| T.at fun h => ?_
   by_cases c4 : decide (a1 < a2) = true
   ·refine T.gg h <| have H := ifT c4 H; T.tt rfl c4 <| T.qr rfl <| T.a (o_assign rfl) <| T.d <| T.at fun h => ?_
    rw [← som H]
    exact g_ret (vs := [.int .i64 (-1)]) h Try.func36 ⟨rfl, trivial⟩ ⟨(), rfl, ((h.mem.pick [] (by decide) rfl).addpur (show InR .i64 (-1) by decide))⟩
   ·refine T.gg h <| have H := ifF c4 H; T.ff rfl c4 <| T.sk <| T.q <| T.qr rfl <| T.mv rfl <| T.mv rfl <| T.a (o_bin rfl rfl rfl) <| T.d <| T.at fun h => ?_
    by_cases c5 : decide (a2 < a1) = true
    ·refine T.gg h <| have H := ifT c5 H; T.tt rfl c5 <| T.qr rfl <| T.a (o_assign rfl) <| T.d <| T.at fun h => ?_
     rw [← som H]
     exact g_ret (vs := [.int .i64 1]) h Try.func36 ⟨rfl, trivial⟩ ⟨(), rfl, ((h.mem.pick [] (by decide) rfl).addpur (show InR .i64 1 by decide))⟩
    ·refine T.gg h <| have H := ifF c5 H; T.ff rfl c5 <| T.sk <| T.qr rfl <| T.a (o_assign rfl) <| T.d <| T.at fun h => ?_
     rw [← som H]
     exact g_ret (vs := [.int .i64 0]) h Try.func36 ⟨rfl, trivial⟩ ⟨(), rfl, ((h.mem.pick [] (by decide) rfl).addpur (show InR .i64 0 by decide))⟩
def cmp_Compare_int.g (k_ : Nat) (a1 : Int) (a2 : Int) : Option (Int) :=
  (cmp_isNaN_int.g k_ a1).bind fun r1 => (cmp_isNaN_int.g k_ a2).bind fun r2 => (if r1 = true then (if r2 = true then some (0) else some ((-1))) else (if r2 = true then some (1) else (if decide (a1 < a2) = true then some ((-1)) else (if decide (a2 < a1) = true then some (1) else some (0)))))
theorem cmp_Compare_int.le (k_ : Nat) (a1 : Int) (a2 : Int) : Le (cmp_Compare_int.g k_ a1 a2) (cmp_Compare_int.f a1 a2) := by
 unfold cmp_Compare_int.g cmp_Compare_int.f
 repeat' (first | with_reducible refine le_loop fun _ => ?_ | with_reducible refine le_bind ?_ fun _ => ?_ | with_reducible refine le_ite ?_ ?_ | with_reducible refine le_lt fun _ => ?_ | with_reducible refine le_elim (fun _ => ?_) (fun _ => ?_) _ | with_reducible apply cmp_isNaN_int.le | with_reducible exact le_refl _)
/-! cmp.Or[int] -/
noncomputable def cmp_Or_int.f (a1 : List Int) : Option (Int) :=
  (loop (fun s1 => (if decide (s1 < (a1.length : Int)) = true then (idx a1 s1).bind fun x1 => (if (!decide (x1 = 0)) = true then some (.inr (.inr (x1))) else some (.inl (IntKind.i64.wrap (s1 + 1)))) else some (.inr (.inl (()))))) 0).bind (Sum.elim (fun j1 => some (0)) (fun z_ => some (z_)))
set_option maxRecDepth 100000 in
set_option maxHeartbeats 4000000 in
theorem cmp_Or_int.spc (v1 : Value) (a1 : List Int) (r : Int) (H : cmp_Or_int.f a1 = some r) : Spc Try.prog 35 [v1] [Val (Kd.sl (Kd.int .i64)) v1 a1] [] (fun (s : Unit) => .int .i64 r) (fun s => [Ent.pur (InR .i64 r)]) := by
 unfold cmp_Or_int.f at H
 refine Spc.go Try.func35 rfl (by kernel_rfl) rfl rfl (all_cons (Val.per Per_sl) all_nil) fun F a w h => ?_
 refine T.gg h <| T.qr rfl <| T.a (o_assign rfl) <| T.d <| T.qr rfl <| T.a (o_assign rfl) <| T.d <| T.q <| T.qr rfl <| T.mv rfl <| T.u (fun m => (len_at 0 rfl m)) fun g1 => T.a (o_ln rfl (rd_at 0 rfl) t_v88) <| T.mv rfl <| T.d <| T.bl <| bE H fun o1 hl G1 => T.at fun h => ?_
 refine g_cut (fun G => ∀ j1 (a : Act) (w : World), o1 = .inl (j1) → St Try.f35.ntmps F [(3, .int .i64 0)] [] a w → G a w) 2 ?_ fun J1 => ?_
 ·intro j1 a w ho_ h
  rw [ho_] at G1
  refine T.gg h <| have H := eInl G1; T.qr rfl <| T.mv rfl <| T.a (o_assign rfl) <| T.d <| T.at fun h => ?_
  rw [← som H]
  exact g_ret (vs := [.int .i64 0]) h Try.func35 ⟨rfl, trivial⟩ ⟨(), rfl, ((h.mem.pick [] (by decide) rfl).addpur (show InR .i64 0 by decide))⟩
 refine g_loop (fun s1 G => ∀  (a : Act) (w : World), InR .i64 s1 → St Try.f35.ntmps F [(3, .int .i64 0), (6, v1), (7, .int .i64 (a1.length : Int)), (8, .int .i64 s1)] [Val (Kd.sl (Kd.int .i64)) v1 a1] a w → G a w) hl (fun s1 p1 H i1 => ?_) fun I_ => ?_
 ·intro  a w g2 h
  refine T.gg h <| T.qr rfl <| T.a (o_bin rfl rfl rfl) <| T.d <| T.q <| T.at fun h => ?_
  by_cases c1 : decide (s1 < (a1.length : Int)) = true
  ·refine T.gg h <| have H := ifT c1 H; T.tt rfl c1 <| T.sk <| T.q <| T.bl <| T.qr rfl <| bE H fun x1 ex1 H => T.a (o_ix rfl rfl (rd_at 0 rfl) ex1 t_v88) <| T.u (fun m => (rd_inr (rd_at 0 rfl) ex1 m)) fun g3 => T.a (o_lex rfl (rd_at 0 rfl) ex1 X_int t_y3 (by decide)) <| T.a (o_assign rfl) <| T.d <| T.qr rfl <| T.mv rfl <| T.mv rfl <| T.a (o_bin rfl rfl rfl) <| T.d <| T.at fun h => ?_
   by_cases c2 : (!decide (x1 = 0)) = true
   ·refine T.gg h <| have H := ifT c2 H; T.tt rfl c2 <| T.qr rfl <| T.mv rfl <| T.a (o_assign rfl) <| T.d <| T.at fun h => ?_
    have e_ := som H; subst e_
    rw [← nx_out i1] at G1
    have H := G1
    rw [← som H]
    exact g_ret (vs := [.int .i64 x1]) h Try.func35 ⟨rfl, trivial⟩ ⟨(), rfl, ((h.mem.pick [] (by decide) rfl).addpur g3)⟩
   ·refine T.gg h <| have H := ifF c2 H; T.ff rfl c2 <| T.sk <| T.ib <| T.r rfl <| T.a (o_bin rfl rfl rfl) <| T.mv rfl <| T.d <| T.at fun h => ?_
    have e_ := som H; subst e_
    exact Go.inLoop (nx_in i1 _ _ (wrap_in _ _) (h.wr [0]))
  ·refine T.gg h <| have H := ifF c1 H; T.ff rfl c1 <| T.ex rfl <| T.at fun h => ?_
   have e_ := som H; subst e_
   exact J1 () _ _ (nx_out i1).symm (h.wr [])
 ·exact I_ _ _ (show InR .i64 0 by decide) (h.wr [0])
def cmp_Or_int.g (k_ : Nat) (a1 : List Int) : Option (Int) :=
  (loopK k_ (fun s1 => (if decide (s1 < (a1.length : Int)) = true then (idx a1 s1).bind fun x1 => (if (!decide (x1 = 0)) = true then some (.inr (.inr (x1))) else some (.inl (IntKind.i64.wrap (s1 + 1)))) else some (.inr (.inl (()))))) 0).bind (Sum.elim (fun j1 => some (0)) (fun z_ => some (z_)))
theorem cmp_Or_int.le (k_ : Nat) (a1 : List Int) : Le (cmp_Or_int.g k_ a1) (cmp_Or_int.f a1) := by
 unfold cmp_Or_int.g cmp_Or_int.f
 repeat' (first | with_reducible refine le_loop fun _ => ?_ | with_reducible refine le_bind ?_ fun _ => ?_ | with_reducible refine le_ite ?_ ?_ | with_reducible refine le_lt fun _ => ?_ | with_reducible refine le_elim (fun _ => ?_) (fun _ => ?_) _ | with_reducible exact le_refl _)
/-! (*drawbridge/timer.item).less -/
noncomputable def timer_item_less.f (a1 : Titem) (a2 : Titem) : Option (Bool) :=
  (cmp_Compare_int.f a1.Alarm.At a2.Alarm.At).bind fun r1 => (cmp_Compare_int.f a1.Alarm.Id a2.Alarm.Id).bind fun r2 => (cmp_Or_int.f ([r1, r2] : List Int)).bind fun r3 => lt (decide (r3 < 0)) fun y1 => some (y1)
set_option maxRecDepth 100000 in
set_option maxHeartbeats 4000000 in
theorem timer_item_less.spc (b1 : Nat) (a1 : Titem) (b2 : Nat) (a2 : Titem) (r : Bool) (H : timer_item_less.f a1 a2 = some r) : Spc Try.prog 29 [pt b1, pt b2] [Pfl Kitem b1 0 a1, Pfl Kitem b2 0 a2] [] (fun (s : Unit) => .bool r) (fun s => []) := by
 unfold timer_item_less.f at H
 refine Spc.go Try.func29 rfl (by kernel_rfl) rfl rfl (all_cons Per_pfl (all_cons Per_pfl all_nil)) fun F a w h => ?_
 refine T.gg h <| T.qr rfl <| T.a (o_assign rfl) <| T.d <| T.q <| T.w [(0, pt b1), (1, pt b2), (4, .bool false)] [Pfl Kitem b1 0 a1, Pfl Kitem b2 0 a2] [0, 1] rfl (by decide) rfl <| bE H fun r1 er1 H => T.at fun h => ?_
 refine Go.draw (E := [(0, pt b1), (1, pt b2), (4, .bool false)]) [] (L := [Pfl Kitem b1 0 a1, Pfl Kitem b2 0 a2]) h rfl rfl 21 [cn (pt b1), ce [0] (pt b1), ce [0, 1] (pt b1), ce [0, 1, 2] (pt b1), cm [0, 1, 2, 3] [] [] (.int .i64 a1.Alarm.At) fun u => [Ent.pur (InR .i64 a1.Alarm.At)], cn (pt b2), ce [5] (pt b2), ce [5, 6] (pt b2), ce [5, 6, 7] (pt b2), cm [5, 6, 7, 8] [] [] (.int .i64 a2.Alarm.At) fun u => [Ent.pur (InR .i64 a2.Alarm.At)], cm [0, 1, 2, 3, 4, 5, 6, 7, 8, 9] [4, 9] [] (.int .i64 r1) fun u => [Ent.pur (InR .i64 r1)], cn (pt b1), ce [11] (pt b1), ce [11, 12] (pt b1), ce [11, 12, 13] (.pointer (some ⟨b1, 1, none⟩)), cm [11, 12, 13, 14] [] [] (.int .i64 a1.Alarm.Id) fun u => [Ent.pur (InR .i64 a1.Alarm.Id)], cn (pt b2), ce [16] (pt b2), ce [16, 17] (pt b2), ce [16, 17, 18] (.pointer (some ⟨b2, 1, none⟩)), cm [16, 17, 18, 19] [] [] (.int .i64 a2.Alarm.Id) fun u => [Ent.pur (InR .i64 a2.Alarm.Id)]] rfl t_mxo (by kernel_rfl) (by rfl) ?_ fun f1 _ _ h => ?_
 ·exact ox rfl (o_move rfl) (ox rfl (o_nilc rfl) (ox rfl (o_fa rfl t_f54_0 rfl rfl) (ox rfl (o_fa rfl t_f28_0 rfl rfl) (ox rfl (OpS.pur (fun F w m_ => (in2 (pf_sub t_sitem_Alarm_At 0 rfl m_))) (p_lfx (K := Kitem) (pr := fun x => x.Alarm.At) (y := a1) 0 rfl rfl t_sitem_Alarm_At rfl X_int t_y3)) (ox rfl (o_move rfl) (ox rfl (o_nilc rfl) (ox rfl (o_fa rfl t_f54_0 rfl rfl) (ox rfl (o_fa rfl t_f28_0 rfl rfl) (ox rfl (OpS.pur (fun F w m_ => (in2 (pf_sub t_sitem_Alarm_At 1 rfl m_))) (p_lfx (K := Kitem) (pr := fun x => x.Alarm.At) (y := a2) 1 rfl rfl t_sitem_Alarm_At rfl X_int t_y3)) (ox rfl (OpS.fact (p := InR .i64 a1.Alarm.At) (fun F w m_ => (Mem.pur 0 rfl m_)) fun g1 => (OpS.fact (p := InR .i64 a2.Alarm.At) (fun F w m_ => (Mem.pur 1 rfl m_)) fun g2 => (o_call (cmp_Compare_int.spc a1.Alarm.At g1 a2.Alarm.At g2 r1 er1) rfl [] [] (by decide) rfl rfl))) (ox rfl (o_move rfl) (ox rfl (o_nilc rfl) (ox rfl (o_fa rfl t_f54_0 rfl rfl) (ox rfl (o_fa rfl t_f28_1 rfl rfl) (ox rfl (OpS.pur (fun F w m_ => (in2 (pf_sub t_sitem_Alarm_Id 0 rfl m_))) (p_lfx (K := Kitem) (pr := fun x => x.Alarm.Id) (y := a1) 0 rfl rfl t_sitem_Alarm_Id rfl X_int t_y3)) (ox rfl (o_move rfl) (ox rfl (o_nilc rfl) (ox rfl (o_fa rfl t_f54_0 rfl rfl) (ox rfl (o_fa rfl t_f28_1 rfl rfl) (ox rfl (OpS.pur (fun F w m_ => (in2 (pf_sub t_sitem_Alarm_Id 1 rfl m_))) (p_lfx (K := Kitem) (pr := fun x => x.Alarm.Id) (y := a2) 1 rfl rfl t_sitem_Alarm_Id rfl X_int t_y3)) (obs_nil)))))))))))))))))))))
 replace h := h.wk (E' := [(4, .bool false), (15, .int .i64 r1), (20, .int .i64 a1.Alarm.Id), (25, .int .i64 a2.Alarm.Id)]) (L' := [Ent.pur (InR .i64 a1.Alarm.At), Ent.pur (InR .i64 a2.Alarm.At), Ent.pur (InR .i64 r1), Ent.pur (InR .i64 a1.Alarm.Id), Ent.pur (InR .i64 a2.Alarm.Id), Pfl Kitem b1 0 a1, Pfl Kitem b2 0 a2]) (by kernel_rfl) [0, 1, 2, 3, 4, 5, 6] (by decide) (by kernel_rfl)
 refine T.gr h <| T.u (fun m => (Mem.pur 2 rfl m)) fun g3 => T.u (fun m => (Mem.pur 3 rfl m)) fun g4 => T.u (fun m => (Mem.pur 4 rfl m)) fun g5 => T.lo rfl <| bE H fun r2 er2 H => T.a (o_call (cmp_Compare_int.spc a1.Alarm.Id g4 a2.Alarm.Id g5 r2 er2) rfl [] [] (by decide) rfl rfl) <| T.u (fun m => m.pur 0 rfl) fun g6 => T.s (o_bs (K := (Kd.int .i64)) (vs := [.int .i64 r1, .int .i64 r2]) (xs := ([r1, r2] : List Int)) rfl rfl (pvs_cons (pv_int g3) (pvs_cons (pv_int g6) pvs_nil)) t_a88 (by decide) (by decide)) fun v1 => T.mm (fun m => m.freeze 0 rfl) <| bE H fun r3 er3 H => T.a (o_call (cmp_Or_int.spc v1 ([r1, r2] : List Int) r3 er3) rfl [0] [] (by decide) rfl rfl) <| T.u (fun m => m.pur 0 rfl) fun g7 => T.a (o_bin rfl rfl rfl) <| lE H fun y1 ey1 H => T.a (o_assign' rfl (congrArg Value.bool ey1)) <| T.d <| T.at fun h => ?_
 rw [← som H]
 exact g_ret (vs := [.bool y1]) h Try.func29 ⟨rfl, trivial⟩ ⟨(), rfl, (h.mem.pick [] (by decide) rfl)⟩
def timer_item_less.g (k_ : Nat) (a1 : Titem) (a2 : Titem) : Option (Bool) :=
  (cmp_Compare_int.g k_ a1.Alarm.At a2.Alarm.At).bind fun r1 => (cmp_Compare_int.g k_ a1.Alarm.Id a2.Alarm.Id).bind fun r2 => (cmp_Or_int.g k_ ([r1, r2] : List Int)).bind fun r3 => lt (decide (r3 < 0)) fun y1 => some (y1)
theorem timer_item_less.le (k_ : Nat) (a1 : Titem) (a2 : Titem) : Le (timer_item_less.g k_ a1 a2) (timer_item_less.f a1 a2) := by
 unfold timer_item_less.g timer_item_less.f
 repeat' (first | with_reducible refine le_loop fun _ => ?_ | with_reducible refine le_bind ?_ fun _ => ?_ | with_reducible refine le_ite ?_ ?_ | with_reducible refine le_lt fun _ => ?_ | with_reducible refine le_elim (fun _ => ?_) (fun _ => ?_) _ | with_reducible apply cmp_Compare_int.le | with_reducible apply cmp_Or_int.le | with_reducible exact le_refl _)
/-! slices.Clone[drawbridge/timer.items,*drawbridge/timer.item] -/
noncomputable def slices_Clone_timer_items_timer_item.f (a1 : List Nat) : Option ((List Nat)) :=
  (app ([] : List Nat) a1).bind fun x1 => some (x1)
set_option maxRecDepth 100000 in
set_option maxHeartbeats 4000000 in
theorem slices_Clone_timer_items_timer_item.spc (v1 : Value) (a1 : List Nat) (r : (List Nat)) (H : slices_Clone_timer_items_timer_item.f a1 = some r) : Spc Try.prog 26 [v1] [Val (Kd.sl Kd.adr) v1 a1] [] (fun (s : Value) => s) (fun s => [Val (Kd.osl Kd.adr) s r]) := by
 unfold slices_Clone_timer_items_timer_item.f at H
 refine Spc.go Try.func26 rfl (by kernel_rfl) rfl rfl (all_cons (Val.per Per_sl) all_nil) fun F a w h => ?_
 refine T.gg h <| T.qr rfl <| T.a (o_assign rfl) <| T.d <| T.q <| T.qr rfl <| T.mv rfl <| T.s (o_eqn rfl rfl (rd_at 0 rfl) t_v45) fun t1 => T.d <| T.at fun h => ?_
 by_cases c1 : t1 = true
 ·have q_ := h.mem.pur 0 rfl c1
  have H : (some ([])) = some r := by rw [q_] at H; simpa [app, app1] using H
  refine T.gg h <| T.tt rfl c1 <| T.qr rfl <| T.a (o_assign rfl) <| T.d <| T.mm (fun m => m.nilo Kd.adr) <| T.at fun h => ?_
  rw [← som H]
  exact g_ret (vs := [.slice none 0 0]) h Try.func26 ⟨rfl, trivial⟩ ⟨.slice none 0 0, rfl, (h.mem.pick [0] (by decide) rfl)⟩
 ·refine T.gg h <| T.ff rfl c1 <| T.sk <| T.qr rfl <| T.s (o_bs (K := Kd.adr) (vs := []) (xs := ([] : List Nat)) rfl rfl pvs_nil t_a45 (by decide) (by decide)) fun v2 => T.mv rfl <| bE H fun x1 ex1 H => T.s (o_app (K := Kd.adr) 0 rfl rfl rfl (rd_at 2 rfl) ex1 t_a45 t_n45) fun v3 => T.a (o_assign rfl) <| T.d <| T.at fun h => ?_
  rw [← som H]
  exact g_ret (vs := [v3]) h Try.func26 ⟨rfl, trivial⟩ ⟨v3, rfl, (h.mem.pick [0] (by decide) rfl)⟩
def slices_Clone_timer_items_timer_item.g (k_ : Nat) (a1 : List Nat) : Option ((List Nat)) :=
  (app ([] : List Nat) a1).bind fun x1 => some (x1)
theorem slices_Clone_timer_items_timer_item.le (k_ : Nat) (a1 : List Nat) : Le (slices_Clone_timer_items_timer_item.g k_ a1) (slices_Clone_timer_items_timer_item.f a1) := by
 unfold slices_Clone_timer_items_timer_item.g slices_Clone_timer_items_timer_item.f
 repeat' (first | with_reducible refine le_loop fun _ => ?_ | with_reducible refine le_bind ?_ fun _ => ?_ | with_reducible refine le_ite ?_ ?_ | with_reducible refine le_lt fun _ => ?_ | with_reducible refine le_elim (fun _ => ?_) (fun _ => ?_) _ | with_reducible exact le_refl _)
end Go.Proofs.Ytgkgekaiajjcaaa.S
