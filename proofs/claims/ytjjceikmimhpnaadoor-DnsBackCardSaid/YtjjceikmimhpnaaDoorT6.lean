/- Contracts, printed by a program of this session. -/
import Derived.Test.YtjjceikmimhpnaaDoorT5
namespace Go.Proofs.YtjjceikmimhpnaaDoor.S
open Go Go.SL Go.RowKit
set_option linter.unusedVariables false
set_option linter.unusedSimpArgs false
/-! drawbridge/dns.read -/
noncomputable def dns_read.f (a1 : List Int) : Option (Tquestion × (Option Tfault)) :=
  lt (decide ((a1.length : Int) < 12)) fun y1 => (if y1 = true then (dns_no.f 160).bind fun r1 => some (((⟨[], 0, 12⟩ : Tquestion), r1)) else (cut a1 4 (a1.length : Int)).bind fun x1 => (dns_num.f x1).bind fun r2 => lt (!decide (r2 = 1)) fun y2 => (if y2 = true then (dns_no.f 161).bind fun r3 => some (((⟨[], 0, 12⟩ : Tquestion), r3)) else (loop (fun s1 => (if decide ((a1.length : Int) ≤ s1.end_) = true then (dns_no.f 160).bind fun r4 => some (.inr (.inr ((s1, r4)))) else (cut a1 s1.end_ (a1.length : Int)).bind fun x2 => (dns_label.f x2).bind fun r5 => (if (!r5.2.isNone) = true then some (.inr (.inr ((s1, r5.2)))) else lt (⟨s1.labels, s1.kind, IntKind.i64.wrap (s1.end_ + (IntKind.i64.wrap (1 + (r5.1.length : Int))))⟩ : Tquestion) fun y3 => (if decide (r5.1 = []) = true then some (.inr (.inl (y3))) else (if decide (255 < (IntKind.i64.wrap ((IntKind.i64.wrap (y3.end_ - 12)) + 1))) = true then (dns_no.f 161).bind fun r6 => some (.inr (.inr ((y3, r6)))) else (app y3.labels ([r5.1] : List (List Int))).bind fun x3 => some (.inl (⟨x3, y3.kind, y3.end_⟩ : Tquestion))))))) (⟨[], 0, 12⟩ : Tquestion)).bind (Sum.elim (fun j1 => (if decide ((a1.length : Int) < (IntKind.i64.wrap (j1.end_ + 4))) = true then (dns_no.f 160).bind fun r7 => some ((j1, r7)) else (cut a1 j1.end_ (a1.length : Int)).bind fun x4 => (dns_num.f x4).bind fun r8 => lt (⟨j1.labels, r8, j1.end_⟩ : Tquestion) fun y4 => lt (⟨y4.labels, y4.kind, IntKind.i64.wrap (y4.end_ + 4)⟩ : Tquestion) fun y5 => some ((y5, none)))) (fun z_ => some (z_)))))
set_option maxRecDepth 100000 in
set_option maxHeartbeats 4000000 in
theorem dns_read.spc (v1 : Value) (a1 : List Int) (r : Tquestion × (Option Tfault)) (H : dns_read.f a1 = some r) : Spc Tryd.prog 22 [v1] [Val (Kd.sl (Kd.int .u8)) v1 a1] [] (fun (s : Value × Value) => .tuple #[s.1, s.2]) (fun s => [Val KquestionR s.1 r.1, Val (Kd.erp 64 Kfault) s.2 r.2]) := by
 unfold dns_read.f at H
 refine Spc.go Tryd.func22 rfl (by kernel_rfl) rfl rfl (all_cons (Val.per Per_sl) all_nil) fun F a w h => ?_
 refine Go.seq ?_
 refine Go.reg ?_
 refine gs h (o_alloc (K := KquestionR) (z := (.agg #[.slice none 0 0, .int .i64 0, .int .i64 0])) rfl ZquestionR) rfl fun b1 _ _ h => ?_
 refine ga h (o_assign rfl) rfl fun h => ?_
 refine GoR.done ?_
 refine Go.scope ?_
 refine Go.seq ?_
 refine Go.reg ?_
 refine gs h (o_build (K := Kquestion) (x := (⟨[], 0, 12⟩ : Tquestion)) (ps := [(2, .int .i64 12)]) rfl (zs := zsquestion) rfl t_b46 rfl (show PB (Kd.pair (Kd.osl Kd.str) (Kd.pair (Kd.int .i64) (Kd.last (Kd.int .i64)))) ([], 0, 12) 0 zsquestion _ _ from (pb_zero z_osl (pb_zero z_int (pb_lastp (pv_int (show InR .i64 12 by decide)) rfl))))) rfl fun v2 _ _ h => ?_
 refine gs h (o_alloc (K := Kquestion) (z := (.agg #[.slice none 0 0, .int .i64 0, .int .i64 0])) rfl Zquestion) rfl fun b2 _ _ h => ?_
 refine gs0 h (o_sto 0 1 rfl rfl rfl rfl rfl rfl t_w46) fun _ _ _ h => ?_
 refine GoR.done ?_
 refine Go.seq ?_
 refine Go.block ?_
 refine Go.seq ?_
 refine Go.reg ?_
 refine mv h rfl rfl fun h => ?_
 have g1 := (len_at 3 rfl h.mem)
 refine ga h (o_ln rfl (rd_at 3 rfl) t_v22) rfl fun h => ?_
 refine ga h (o_bin rfl rfl rfl) rfl fun h => ?_
 obtain ⟨y1, ey1, H⟩ := ltE H
 refine ga h (o_assign' rfl (congrArg Value.bool ey1)) rfl fun h => ?_
 refine GoR.done ?_
 by_cases c1 : y1 = true
 ·have H := ifT c1 H
  refine g_t h rfl c1 ?_
  refine Go.seq ?_
  replace h := h.mm fun m => m.rofrz (show RO Kquestion KquestionR from ro_iso (ro_pair ro_osl (ro_pair (ro_per Per_int) (ro_last (ro_per Per_int))))) 0 rfl
  replace h := h.wq [(2, pt b1), (3, .nilIface), (4, pt b2)] [Pfl KquestionR b2 0 (⟨[], 0, 12⟩ : Tquestion), Fld KquestionR b1 0 zquestion, Val (Kd.sl (Kd.int .u8)) v1 a1] [0, 2, 3]
  obtain ⟨r1, er1, H⟩ := bindE H
  refine Go.draw (E := [(2, pt b1), (3, .nilIface), (4, pt b2)]) [] (L := [Pfl KquestionR b2 0 (⟨[], 0, 12⟩ : Tquestion), Fld KquestionR b1 0 zquestion, Val (Kd.sl (Kd.int .u8)) v1 a1]) h rfl rfl 2 [cw [] [] [] fun u => [Val KquestionR u (⟨[], 0, 12⟩ : Tquestion)], cw [] [] [] fun u => [Val (Kd.erp 64 Kfault) u r1]] rfl t_mxo (by kernel_rfl) (by rfl) ?_ fun f2 _ _ h => ?_
  ·exact oy rfl (p_ldv 0 rfl rfl t_y46) (oy rfl (o_call (dns_no.spc 160 (show InR .i64 160 by decide) r1 er1) rfl [] [] (by decide) rfl rfl) (obs_nil))
  replace h := h.wk (E' := [(2, pt b1), (3, .nilIface), (12, (f2 0)), (13, (f2 1))]) (L' := [Val KquestionR (f2 0) (⟨[], 0, 12⟩ : Tquestion), Val (Kd.erp 64 Kfault) (f2 1) r1, Pfl KquestionR b2 0 (⟨[], 0, 12⟩ : Tquestion), Fld KquestionR b1 0 zquestion, Val (Kd.sl (Kd.int .u8)) v1 a1]) (by kernel_rfl) [0, 1, 2, 3, 4] (by decide) (by kernel_rfl)
  refine gs0 h (o_st 3 rfl rfl rfl (pv_at PquestionR 0 rfl) rfl t_w46) fun _ _ _ h => ?_
  refine ga h (o_assign rfl) rfl fun h => ?_
  refine GoR.done ?_
  obtain ⟨v5, h, u1⟩ := h.peek 3 rfl PquestionR t_y46
  rw [← som H]
  exact g_ret (vs := [v5, (f2 1)]) h Tryd.func22 ⟨⟨_, rfl, u1⟩, ⟨rfl, trivial⟩⟩ ⟨(v5, (f2 1)), rfl, (h.mem.pick [0, 2] (by decide) rfl)⟩
 ·have H := ifF c1 H
  refine g_f h rfl c1 ?_
  refine Go.seq ?_
  refine Go.reg ?_
  refine mv h rfl rfl fun h => ?_
  obtain ⟨x1, ex1, H⟩ := bindE H
  refine gs h (o_cutl rfl (pv_at Per_sl 3 rfl) rfl ex1 t_v22) rfl fun v6 _ _ h => ?_
  obtain ⟨r2, er2, H⟩ := bindE H
  refine ga h (o_call (dns_num.spc v6 x1 r2 er2) rfl [0] [] (by decide) rfl rfl) rfl fun h => ?_
  have g2 := h.mem.pur 0 rfl
  refine ga h (o_bin rfl rfl rfl) rfl fun h => ?_
  obtain ⟨y2, ey2, H⟩ := ltE H
  refine ga h (o_assign' rfl (congrArg Value.bool ey2)) rfl fun h => ?_
  refine GoR.done ?_
  by_cases c2 : y2 = true
  ·have H := ifT c2 H
   refine g_t h rfl c2 ?_
   refine Go.seq ?_
   replace h := h.mm fun m => m.rofrz (show RO Kquestion KquestionR from ro_iso (ro_pair ro_osl (ro_pair (ro_per Per_int) (ro_last (ro_per Per_int))))) 2 rfl
   replace h := h.wq [(2, pt b1), (3, .nilIface), (4, pt b2)] [Ent.pur (InR .i64 r2), Val (Kd.sl (Kd.int .u8)) v6 x1, Pfl KquestionR b2 0 (⟨[], 0, 12⟩ : Tquestion), Fld KquestionR b1 0 zquestion, Val (Kd.sl (Kd.int .u8)) v1 a1] [0, 1, 2, 4, 5]
   obtain ⟨r3, er3, H⟩ := bindE H
   refine Go.draw (E := [(2, pt b1), (3, .nilIface), (4, pt b2)]) [] (L := [Ent.pur (InR .i64 r2), Val (Kd.sl (Kd.int .u8)) v6 x1, Pfl KquestionR b2 0 (⟨[], 0, 12⟩ : Tquestion), Fld KquestionR b1 0 zquestion, Val (Kd.sl (Kd.int .u8)) v1 a1]) h rfl rfl 2 [cw [] [] [] fun u => [Val KquestionR u (⟨[], 0, 12⟩ : Tquestion)], cw [] [] [] fun u => [Val (Kd.erp 64 Kfault) u r3]] rfl t_mxo (by kernel_rfl) (by rfl) ?_ fun f4 _ _ h => ?_
   ·exact oy rfl (p_ldv 2 rfl rfl t_y46) (oy rfl (o_call (dns_no.spc 161 (show InR .i64 161 by decide) r3 er3) rfl [] [] (by decide) rfl rfl) (obs_nil))
   replace h := h.wk (E' := [(2, pt b1), (3, .nilIface), (19, (f4 0)), (20, (f4 1))]) (L' := [Val KquestionR (f4 0) (⟨[], 0, 12⟩ : Tquestion), Val (Kd.erp 64 Kfault) (f4 1) r3, Ent.pur (InR .i64 r2), Val (Kd.sl (Kd.int .u8)) v6 x1, Pfl KquestionR b2 0 (⟨[], 0, 12⟩ : Tquestion), Fld KquestionR b1 0 zquestion, Val (Kd.sl (Kd.int .u8)) v1 a1]) (by kernel_rfl) [0, 1, 2, 3, 4, 5, 6] (by decide) (by kernel_rfl)
   refine gs0 h (o_st 5 rfl rfl rfl (pv_at PquestionR 0 rfl) rfl t_w46) fun _ _ _ h => ?_
   refine ga h (o_assign rfl) rfl fun h => ?_
   refine GoR.done ?_
   obtain ⟨v9, h, u2⟩ := h.peek 5 rfl PquestionR t_y46
   rw [← som H]
   exact g_ret (vs := [v9, (f4 1)]) h Tryd.func22 ⟨⟨_, rfl, u2⟩, ⟨rfl, trivial⟩⟩ ⟨(v9, (f4 1)), rfl, (h.mem.pick [0, 2] (by decide) rfl)⟩
  ·have H := ifF c2 H
   refine g_f h rfl c2 ?_
   refine Go.skip ?_
   refine Go.inBlock ?_
   refine Go.seq ?_
   refine Go.label ?_
   refine Go.seq ?_
   refine Go.block ?_
   obtain ⟨o1, hl, G1⟩ := bindE H
   refine g_cut (fun G => ∀ j1 (a : Act) (w : World), o1 = .inl (j1) → St Tryd.f22.ntmps F [(0, v1), (2, pt b1), (4, pt b2)] [Val (Kd.sl (Kd.int .u8)) v1 a1, Fld Kquestion b2 0 j1, Fld KquestionR b1 0 zquestion] a w → G a w) 2 ?_ fun J1 => ?_
   ·intro j1 a w ho_ h
    rw [ho_] at G1
    have H := eInl G1
    refine Go.seq ?_
    refine Go.seq ?_
    refine Go.reg ?_
    refine mv h rfl rfl fun h => ?_
    have g9 := (len_at 0 rfl h.mem)
    refine ga h (o_ln rfl (rd_at 0 rfl) t_v22) rfl fun h => ?_
    refine ga h (o_fa rfl t_f46_2 rfl rfl) rfl fun h => ?_
    have g10 := (in2 (fd_sub squestion_end_ 1 rfl h.mem))
    refine ga h (o_lfx 1 rfl rfl squestion_end_ rfl X_int t_y3) rfl fun h => ?_
    refine ga h (o_bin rfl rfl rfl) rfl fun h => ?_
    refine ga h (o_bin rfl rfl rfl) rfl fun h => ?_
    refine GoR.done ?_
    by_cases c7 : decide ((a1.length : Int) < (IntKind.i64.wrap (j1.end_ + 4))) = true
    ·have H := ifT c7 H
     refine g_t h rfl c7 ?_
     refine Go.seq ?_
     replace h := h.mm fun m => m.rofrz (show RO Kquestion KquestionR from ro_iso (ro_pair ro_osl (ro_pair (ro_per Per_int) (ro_last (ro_per Per_int))))) 1 rfl
     replace h := h.wq [(2, pt b1), (4, pt b2)] [Val (Kd.sl (Kd.int .u8)) v1 a1, Pfl KquestionR b2 0 j1, Fld KquestionR b1 0 zquestion] [0, 1, 2]
     obtain ⟨r7, er7, H⟩ := bindE H
     refine Go.draw (E := [(2, pt b1), (4, pt b2)]) [] (L := [Val (Kd.sl (Kd.int .u8)) v1 a1, Pfl KquestionR b2 0 j1, Fld KquestionR b1 0 zquestion]) h rfl rfl 2 [cw [] [] [] fun u => [Val KquestionR u j1], cw [] [] [] fun u => [Val (Kd.erp 64 Kfault) u r7]] rfl t_mxo (by kernel_rfl) (by rfl) ?_ fun f10 _ _ h => ?_
     ·exact oy rfl (p_ldv 1 rfl rfl t_y46) (oy rfl (o_call (dns_no.spc 160 (show InR .i64 160 by decide) r7 er7) rfl [] [] (by decide) rfl rfl) (obs_nil))
     replace h := h.wk (E' := [(2, pt b1), (68, (f10 0)), (69, (f10 1))]) (L' := [Val KquestionR (f10 0) j1, Val (Kd.erp 64 Kfault) (f10 1) r7, Val (Kd.sl (Kd.int .u8)) v1 a1, Pfl KquestionR b2 0 j1, Fld KquestionR b1 0 zquestion]) (by kernel_rfl) [0, 1, 2, 3, 4] (by decide) (by kernel_rfl)
     refine gs0 h (o_st 4 rfl rfl rfl (pv_at PquestionR 0 rfl) rfl t_w46) fun _ _ _ h => ?_
     refine ga h (o_assign rfl) rfl fun h => ?_
     refine GoR.done ?_
     obtain ⟨v25, h, u6⟩ := h.peek 4 rfl PquestionR t_y46
     rw [← som H]
     exact g_ret (vs := [v25, (f10 1)]) h Tryd.func22 ⟨⟨_, rfl, u6⟩, ⟨rfl, trivial⟩⟩ ⟨(v25, (f10 1)), rfl, (h.mem.pick [0, 2] (by decide) rfl)⟩
    ·have H := ifF c7 H
     refine g_f h rfl c7 ?_
     refine Go.skip ?_
     refine Go.seq ?_
     refine Go.reg ?_
     refine mv h rfl rfl fun h => ?_
     refine ga h (o_fa rfl t_f46_2 rfl rfl) rfl fun h => ?_
     have g11 := (in2 (fd_sub squestion_end_ 1 rfl h.mem))
     refine ga h (o_lfx 1 rfl rfl squestion_end_ rfl X_int t_y3) rfl fun h => ?_
     obtain ⟨x4, ex4, H⟩ := bindE H
     refine gs h (o_cutl rfl (pv_at Per_sl 0 rfl) rfl ex4 t_v22) rfl fun v26 _ _ h => ?_
     obtain ⟨r8, er8, H⟩ := bindE H
     refine ga h (o_call (dns_num.spc v26 x4 r8 er8) rfl [0] [] (by decide) rfl rfl) rfl fun h => ?_
     have g12 := h.mem.pur 0 rfl
     refine ga h (o_fa rfl t_f46_1 rfl rfl) rfl fun h => ?_
     obtain ⟨y4, ey4, H⟩ := ltE H
     refine gs0 h (o_stp (x0 := j1) (y := r8) 3 t_uquestion_1_1 rfl rfl rfl rfl (pv_int g12) t_w3) fun _ _ _ h => ?_
     rw [ey4] at h
     refine GoR.done ?_
     refine Go.seq ?_
     refine Go.reg ?_
     refine ga h (o_fa rfl t_f46_2 rfl rfl) rfl fun h => ?_
     have g13 := (in2 (fd_sub squestion_end_ 3 rfl h.mem))
     refine ga h (o_lfx 3 rfl rfl squestion_end_ rfl X_int t_y3) rfl fun h => ?_
     refine ga h (o_bin rfl rfl rfl) rfl fun h => ?_
     refine ga h (o_fa rfl t_f46_2 rfl rfl) rfl fun h => ?_
     obtain ⟨y5, ey5, H⟩ := ltE H
     refine gs0 h (o_stp (x0 := y4) (y := IntKind.i64.wrap (y4.end_ + 4)) 3 t_uquestion_2_1 rfl rfl rfl rfl (pv_int (wrap_in _ _)) t_w3) fun _ _ _ h => ?_
     rw [ey5] at h
     refine GoR.done ?_
     refine Go.seq ?_
     refine Go.reg ?_
     replace h := h.mm fun m => m.rofrz (show RO Kquestion KquestionR from ro_iso (ro_pair ro_osl (ro_pair (ro_per Per_int) (ro_last (ro_per Per_int))))) 3 rfl
     refine gs h (p_ldv 3 rfl rfl t_y46) rfl fun v27 _ _ h => ?_
     refine gs0 h (o_st 5 rfl rfl rfl (pv_at PquestionR 0 rfl) rfl t_w46) fun _ _ _ h => ?_
     refine ga h (o_assign rfl) rfl fun h => ?_
     refine GoR.done ?_
     obtain ⟨v28, h, u7⟩ := h.peek 5 rfl PquestionR t_y46
     replace h := h.mm fun m => (pv_ern (T := 64) (K := Kfault)).ent m
     rw [← som H]
     exact g_ret (vs := [v28, .nilIface]) h Tryd.func22 ⟨⟨_, rfl, u7⟩, ⟨rfl, trivial⟩⟩ ⟨(v28, .nilIface), rfl, (h.mem.pick [1, 0] (by decide) rfl)⟩
   refine g_loop (fun s1 G => ∀  (a : Act) (w : World), St Tryd.f22.ntmps F [(0, v1), (2, pt b1), (4, pt b2)] [Val (Kd.sl (Kd.int .u8)) v1 a1, Fld Kquestion b2 0 s1, Fld KquestionR b1 0 zquestion] a w → G a w) hl (fun s1 p1 H i1 => ?_) fun I_ => ?_
   ·intro  a w h
    refine Go.block ?_
    refine Go.seq ?_
    refine Go.seq ?_
    refine Go.reg ?_
    refine ga h (o_fa rfl t_f46_2 rfl rfl) rfl fun h => ?_
    have g3 := (in2 (fd_sub squestion_end_ 1 rfl h.mem))
    refine ga h (o_lfx 1 rfl rfl squestion_end_ rfl X_int t_y3) rfl fun h => ?_
    refine mv h rfl rfl fun h => ?_
    have g4 := (len_at 0 rfl h.mem)
    refine ga h (o_ln rfl (rd_at 0 rfl) t_v22) rfl fun h => ?_
    refine ga h (o_bin rfl rfl rfl) rfl fun h => ?_
    refine GoR.done ?_
    by_cases c3 : decide ((a1.length : Int) ≤ s1.end_) = true
    ·have H := ifT c3 H
     refine g_t h rfl c3 ?_
     refine Go.seq ?_
     replace h := h.mm fun m => m.rofrz (show RO Kquestion KquestionR from ro_iso (ro_pair ro_osl (ro_pair (ro_per Per_int) (ro_last (ro_per Per_int))))) 1 rfl
     replace h := h.wq [(2, pt b1), (4, pt b2)] [Val (Kd.sl (Kd.int .u8)) v1 a1, Pfl KquestionR b2 0 s1, Fld KquestionR b1 0 zquestion] [0, 1, 2]
     obtain ⟨r4, er4, H⟩ := bindE H
     refine Go.draw (E := [(2, pt b1), (4, pt b2)]) [] (L := [Val (Kd.sl (Kd.int .u8)) v1 a1, Pfl KquestionR b2 0 s1, Fld KquestionR b1 0 zquestion]) h rfl rfl 2 [cw [] [] [] fun u => [Val KquestionR u s1], cw [] [] [] fun u => [Val (Kd.erp 64 Kfault) u r4]] rfl t_mxo (by kernel_rfl) (by rfl) ?_ fun f6 _ _ h => ?_
     ·exact oy rfl (p_ldv 1 rfl rfl t_y46) (oy rfl (o_call (dns_no.spc 160 (show InR .i64 160 by decide) r4 er4) rfl [] [] (by decide) rfl rfl) (obs_nil))
     replace h := h.wk (E' := [(2, pt b1), (26, (f6 0)), (27, (f6 1))]) (L' := [Val KquestionR (f6 0) s1, Val (Kd.erp 64 Kfault) (f6 1) r4, Val (Kd.sl (Kd.int .u8)) v1 a1, Pfl KquestionR b2 0 s1, Fld KquestionR b1 0 zquestion]) (by kernel_rfl) [0, 1, 2, 3, 4] (by decide) (by kernel_rfl)
     refine gs0 h (o_st 4 rfl rfl rfl (pv_at PquestionR 0 rfl) rfl t_w46) fun _ _ _ h => ?_
     refine ga h (o_assign rfl) rfl fun h => ?_
     refine GoR.done ?_
     obtain ⟨v12, h, u3⟩ := h.peek 4 rfl PquestionR t_y46
     have e_ := som H; subst e_
     rw [← nx_out i1] at G1
     have H := G1
     rw [← som H]
     exact g_ret (vs := [v12, (f6 1)]) h Tryd.func22 ⟨⟨_, rfl, u3⟩, ⟨rfl, trivial⟩⟩ ⟨(v12, (f6 1)), rfl, (h.mem.pick [0, 2] (by decide) rfl)⟩
    ·have H := ifF c3 H
     refine g_f h rfl c3 ?_
     refine Go.skip ?_
     refine Go.seq ?_
     refine Go.reg ?_
     refine mv h rfl rfl fun h => ?_
     refine ga h (o_fa rfl t_f46_2 rfl rfl) rfl fun h => ?_
     have g5 := (in2 (fd_sub squestion_end_ 1 rfl h.mem))
     refine ga h (o_lfx 1 rfl rfl squestion_end_ rfl X_int t_y3) rfl fun h => ?_
     obtain ⟨x2, ex2, H⟩ := bindE H
     refine gs h (o_cutl rfl (pv_at Per_sl 0 rfl) rfl ex2 t_v22) rfl fun v13 _ _ h => ?_
     obtain ⟨r5, er5, H⟩ := bindE H
     refine gs h (o_call (dns_label.spc v13 x2 r5 er5) rfl [0] [] (by decide) rfl rfl) rfl fun v14 _ _ h => ?_
     have g6 := h.mem.pur 0 rfl
     refine mv h rfl rfl fun h => ?_
     refine ga h (o_extract rfl rfl) rfl fun h => ?_
     refine ga h (o_extract rfl rfl) rfl fun h => ?_
     refine ga h (o_assign rfl) rfl fun h => ?_
     refine ga h (o_assign rfl) rfl fun h => ?_
     refine GoR.done ?_
     refine Go.seq ?_
     refine Go.seq ?_
     refine Go.reg ?_
     refine mv h rfl rfl fun h => ?_
     refine ga h (o_ern 1 rfl rfl t_i48) rfl fun h => ?_
     refine GoR.done ?_
     by_cases c4 : (!r5.2.isNone) = true
     ·have H := ifT c4 H
      refine g_t h rfl c4 ?_
      refine Go.seq ?_
      refine Go.reg ?_
      replace h := h.mm fun m => m.rofrz (show RO Kquestion KquestionR from ro_iso (ro_pair ro_osl (ro_pair (ro_per Per_int) (ro_last (ro_per Per_int))))) 4 rfl
      refine gs h (p_ldv 4 rfl rfl t_y46) rfl fun v15 _ _ h => ?_
      refine mv h rfl rfl fun h => ?_
      refine gs0 h (o_st 6 rfl rfl rfl (pv_at PquestionR 0 rfl) rfl t_w46) fun _ _ _ h => ?_
      refine ga h (o_assign rfl) rfl fun h => ?_
      refine GoR.done ?_
      obtain ⟨v16, h, u4⟩ := h.peek 6 rfl PquestionR t_y46
      have e_ := som H; subst e_
      rw [← nx_out i1] at G1
      have H := G1
      rw [← som H]
      exact g_ret (vs := [v16, v14]) h Tryd.func22 ⟨⟨_, rfl, u4⟩, ⟨rfl, trivial⟩⟩ ⟨(v16, v14), rfl, (h.mem.pick [0, 3] (by decide) rfl)⟩
     ·have H := ifF c4 H
      refine g_f h rfl c4 ?_
      refine Go.skip ?_
      refine Go.seq ?_
      refine Go.reg ?_
      refine ga h (o_fa rfl t_f46_2 rfl rfl) rfl fun h => ?_
      have g7 := (in2 (fd_sub squestion_end_ 4 rfl h.mem))
      refine ga h (o_lfx 4 rfl rfl squestion_end_ rfl X_int t_y3) rfl fun h => ?_
      refine mv h rfl rfl fun h => ?_
      refine ga h (o_lens rfl t_u9) rfl fun h => ?_
      refine ga h (o_bin rfl rfl rfl) rfl fun h => ?_
      refine ga h (o_bin rfl rfl rfl) rfl fun h => ?_
      refine ga h (o_fa rfl t_f46_2 rfl rfl) rfl fun h => ?_
      obtain ⟨y3, ey3, H⟩ := ltE H
      refine gs0 h (o_stp (x0 := s1) (y := IntKind.i64.wrap (s1.end_ + (IntKind.i64.wrap (1 + (r5.1.length : Int))))) 4 t_uquestion_2_1 rfl rfl rfl rfl (pv_int (wrap_in _ _)) t_w3) fun _ _ _ h => ?_
      rw [ey3] at h
      refine GoR.done ?_
      refine Go.seq ?_
      refine Go.seq ?_
      refine Go.reg ?_
      refine mv h rfl rfl fun h => ?_
      refine ga h (o_eqs rfl rfl g6 (show Bs [] by decide)) rfl fun h => ?_
      refine GoR.done ?_
      by_cases c5 : decide (r5.1 = []) = true
      ·have H := ifT c5 H
       refine g_t h rfl c5 ?_
       refine Go.exit rfl ?_
       have e_ := som H; subst e_
       exact J1 y3 _ _ (nx_out i1).symm (h.wr [3, 4, 5])
      ·have H := ifF c5 H
       refine g_f h rfl c5 ?_
       refine Go.skip ?_
       refine Go.seq ?_
       refine Go.seq ?_
       refine Go.reg ?_
       refine ga h (o_fa rfl t_f46_2 rfl rfl) rfl fun h => ?_
       have g8 := (in2 (fd_sub squestion_end_ 4 rfl h.mem))
       refine ga h (o_lfx 4 rfl rfl squestion_end_ rfl X_int t_y3) rfl fun h => ?_
       iterate 3 (refine ga h (o_bin rfl rfl rfl) rfl fun h => ?_)
       refine GoR.done ?_
       by_cases c6 : decide (255 < (IntKind.i64.wrap ((IntKind.i64.wrap (y3.end_ - 12)) + 1))) = true
       ·have H := ifT c6 H
        refine g_t h rfl c6 ?_
        refine Go.seq ?_
        replace h := h.mm fun m => m.rofrz (show RO Kquestion KquestionR from ro_iso (ro_pair ro_osl (ro_pair (ro_per Per_int) (ro_last (ro_per Per_int))))) 4 rfl
        replace h := h.wq [(2, pt b1), (4, pt b2)] [Ent.pur (Bs r5.1), Val (Kd.erp 64 Kfault) v14 r5.2, Val (Kd.sl (Kd.int .u8)) v13 x2, Val (Kd.sl (Kd.int .u8)) v1 a1, Pfl KquestionR b2 0 y3, Fld KquestionR b1 0 zquestion] [0, 1, 2, 3, 4, 5]
        obtain ⟨r6, er6, H⟩ := bindE H
        refine Go.draw (E := [(2, pt b1), (4, pt b2)]) [] (L := [Ent.pur (Bs r5.1), Val (Kd.erp 64 Kfault) v14 r5.2, Val (Kd.sl (Kd.int .u8)) v13 x2, Val (Kd.sl (Kd.int .u8)) v1 a1, Pfl KquestionR b2 0 y3, Fld KquestionR b1 0 zquestion]) h rfl rfl 2 [cw [] [] [] fun u => [Val KquestionR u y3], cw [] [] [] fun u => [Val (Kd.erp 64 Kfault) u r6]] rfl t_mxo (by kernel_rfl) (by rfl) ?_ fun f8 _ _ h => ?_
        ·exact oy rfl (p_ldv 4 rfl rfl t_y46) (oy rfl (o_call (dns_no.spc 161 (show InR .i64 161 by decide) r6 er6) rfl [] [] (by decide) rfl rfl) (obs_nil))
        replace h := h.wk (E' := [(2, pt b1), (54, (f8 0)), (55, (f8 1))]) (L' := [Val KquestionR (f8 0) y3, Val (Kd.erp 64 Kfault) (f8 1) r6, Ent.pur (Bs r5.1), Val (Kd.erp 64 Kfault) v14 r5.2, Val (Kd.sl (Kd.int .u8)) v13 x2, Val (Kd.sl (Kd.int .u8)) v1 a1, Pfl KquestionR b2 0 y3, Fld KquestionR b1 0 zquestion]) (by kernel_rfl) [0, 1, 2, 3, 4, 5, 6, 7] (by decide) (by kernel_rfl)
        refine gs0 h (o_st 7 rfl rfl rfl (pv_at PquestionR 0 rfl) rfl t_w46) fun _ _ _ h => ?_
        refine ga h (o_assign rfl) rfl fun h => ?_
        refine GoR.done ?_
        obtain ⟨v19, h, u5⟩ := h.peek 7 rfl PquestionR t_y46
        have e_ := som H; subst e_
        rw [← nx_out i1] at G1
        have H := G1
        rw [← som H]
        exact g_ret (vs := [v19, (f8 1)]) h Tryd.func22 ⟨⟨_, rfl, u5⟩, ⟨rfl, trivial⟩⟩ ⟨(v19, (f8 1)), rfl, (h.mem.pick [0, 2] (by decide) rfl)⟩
       ·have H := ifF c6 H
        refine g_f h rfl c6 ?_
        refine Go.skip ?_
        refine Go.reg ?_
        refine ga h (o_fa rfl t_f46_0 rfl rfl) rfl fun h => ?_
        replace h := h.mm fun m => (m.take (i := 4) rfl).opn (cquestion _ _)
        obtain ⟨v20, h⟩ := h.unp 0 rfl
        refine ga h (o_ldx 0 rfl rfl X_eq t_y44) rfl fun h => ?_
        refine mv h rfl rfl fun h => ?_
        refine gs h (o_bs (K := Kd.str) (vs := [.string (mkS r5.1)]) (xs := ([r5.1] : List (List Int))) rfl rfl (pvs_cons (pv_str g6) pvs_nil) t_a44 (by decide) (by decide)) rfl fun v21 _ _ h => ?_
        obtain ⟨x3, ex3, H⟩ := bindE H
        refine gs h (o_app (K := Kd.str) 2 rfl rfl rfl (rd_own 0 rfl) ex3 t_a44 t_n44) rfl fun v22 _ _ h => ?_
        refine ga h (o_fa rfl t_f46_0 rfl rfl) rfl fun h => ?_
        refine gs0 h (o_st 1 rfl rfl rfl (pv_eqo 2 rfl) rfl t_w44) fun _ _ _ h => ?_
        refine GoR.done ?_
        refine Go.inBlock ?_
        replace h := h.mm fun m => (m.pull (Lo := [Fld (Kd.eq v22) b2 0 (), Val (Kd.osl Kd.str) v22 x3]) [1, 2] (by decide) rfl).pck
        replace h := h.mm fun m => (m.pull (Lo := [Fld (Kd.osl Kd.str) b2 0 x3, Fld (Kd.int .i64) b2 1 y3.kind, Fld (Kd.int .i64) b2 2 y3.end_]) [0, 4, 5] (by decide) rfl).cls (cquestion _ (⟨x3, y3.kind, y3.end_⟩ : Tquestion))
        have e_ := som H; subst e_
        exact Go.inLoop (nx_in i1 _ _ (h.wr [10, 0, 12]))
   ·exact I_ _ _ (h.wr [5, 2, 4])
def dns_read.g (k_ : Nat) (a1 : List Int) : Option (Tquestion × (Option Tfault)) :=
  lt (decide ((a1.length : Int) < 12)) fun y1 => (if y1 = true then (dns_no.g k_ 160).bind fun r1 => some (((⟨[], 0, 12⟩ : Tquestion), r1)) else (cut a1 4 (a1.length : Int)).bind fun x1 => (dns_num.g k_ x1).bind fun r2 => lt (!decide (r2 = 1)) fun y2 => (if y2 = true then (dns_no.g k_ 161).bind fun r3 => some (((⟨[], 0, 12⟩ : Tquestion), r3)) else (loopK k_ (fun s1 => (if decide ((a1.length : Int) ≤ s1.end_) = true then (dns_no.g k_ 160).bind fun r4 => some (.inr (.inr ((s1, r4)))) else (cut a1 s1.end_ (a1.length : Int)).bind fun x2 => (dns_label.g k_ x2).bind fun r5 => (if (!r5.2.isNone) = true then some (.inr (.inr ((s1, r5.2)))) else lt (⟨s1.labels, s1.kind, IntKind.i64.wrap (s1.end_ + (IntKind.i64.wrap (1 + (r5.1.length : Int))))⟩ : Tquestion) fun y3 => (if decide (r5.1 = []) = true then some (.inr (.inl (y3))) else (if decide (255 < (IntKind.i64.wrap ((IntKind.i64.wrap (y3.end_ - 12)) + 1))) = true then (dns_no.g k_ 161).bind fun r6 => some (.inr (.inr ((y3, r6)))) else (app y3.labels ([r5.1] : List (List Int))).bind fun x3 => some (.inl (⟨x3, y3.kind, y3.end_⟩ : Tquestion))))))) (⟨[], 0, 12⟩ : Tquestion)).bind (Sum.elim (fun j1 => (if decide ((a1.length : Int) < (IntKind.i64.wrap (j1.end_ + 4))) = true then (dns_no.g k_ 160).bind fun r7 => some ((j1, r7)) else (cut a1 j1.end_ (a1.length : Int)).bind fun x4 => (dns_num.g k_ x4).bind fun r8 => lt (⟨j1.labels, r8, j1.end_⟩ : Tquestion) fun y4 => lt (⟨y4.labels, y4.kind, IntKind.i64.wrap (y4.end_ + 4)⟩ : Tquestion) fun y5 => some ((y5, none)))) (fun z_ => some (z_)))))
theorem dns_read.le (k_ : Nat) (a1 : List Int) : Le (dns_read.g k_ a1) (dns_read.f a1) := by
 unfold dns_read.g dns_read.f
 repeat' (first | with_reducible refine le_loop fun _ => ?_ | with_reducible refine le_bind ?_ fun _ => ?_ | with_reducible refine le_ite ?_ ?_ | with_reducible refine le_lt fun _ => ?_ | with_reducible refine le_elim (fun _ => ?_) (fun _ => ?_) _ | with_reducible apply dns_label.le | with_reducible apply dns_no.le | with_reducible apply dns_num.le | with_reducible exact le_refl _)
end Go.Proofs.YtjjceikmimhpnaaDoor.S
