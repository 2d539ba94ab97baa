/- Contracts, printed by a program of this session. -/
import Derived.Test.YtpcbhkigmnpimaaT2
import Derived.Test.YtpcbhkigmnpimaaT3
namespace Go.Proofs.Ytpcbhkigmnpimaa.S
open Go Go.SL Go.RowKit
set_option linter.unusedVariables false
set_option linter.unusedSimpArgs false
/-! (*drawbridge/splice.step).push -/
noncomputable def splice_step_push.f (a1 : Tstep) : Option (Tstep) :=
  ((if (!a1.Conn.Up) = true then some (true) else some (a1.Conn.Done))).bind (fun j1 => (if j1 = true then some (a1) else ((loop (fun s1 => (if decide (s1.1 < 4) = true then (((splice_step_flown.f s1.2).bind fun r1 => lt (IntKind.i64.wrap ((s1.2.Conn.ToGuest.length : Int) - r1)) fun y1 => (splice_least_int.f ([y1, s1.2.Conn.Mss, IntKind.i64.wrap (s1.2.Conn.Win - r1)] : List Int)).bind fun r2 => (lt (decide (y1 < 0)) fun y2 => (if y2 = true then some (.inl (())) else lt (decide (0 < r2)) fun y3 => (if y3 = true then (cut s1.2.Conn.ToGuest r1 (IntKind.i64.wrap (r1 + r2))).bind fun x1 => (splice_step_say.f s1.2 s1.2.Conn.Next 8 x1).bind fun r3 => lt (⟨(⟨r3.Conn.Id, r3.Conn.Guest, r3.Conn.Gport, r3.Conn.Remote, r3.Conn.Rport, r3.Conn.Opening, r3.Conn.Up, r3.Conn.Done, r3.Conn.Begin, r3.Conn.Una, IntKind.u32.wrap (r3.Conn.Next + (IntKind.u32.wrap r2)), r3.Conn.Want, r3.Conn.Win, r3.Conn.Mss, r3.Conn.ToHost, r3.Conn.ToGuest, r3.Conn.Early, r3.Conn.Fin, r3.Conn.Eof, r3.Conn.Shut, r3.Conn.At, r3.Conn.Wait, r3.Conn.Tries⟩ : TConn), r3.now, r3.segs, r3.calls, r3.gone⟩ : Tstep) fun y4 => some (.inr (y4)) else ((if decide (y1 = 0) = true then some (s1.2.Conn.Eof) else some (false))).bind (fun j2 => (if j2 = true then (splice_step_say.f s1.2 s1.2.Conn.Next 1 []).bind fun r4 => lt (⟨(⟨r4.Conn.Id, r4.Conn.Guest, r4.Conn.Gport, r4.Conn.Remote, r4.Conn.Rport, r4.Conn.Opening, r4.Conn.Up, r4.Conn.Done, r4.Conn.Begin, r4.Conn.Una, IntKind.u32.wrap (r4.Conn.Next + 1), r4.Conn.Want, r4.Conn.Win, r4.Conn.Mss, r4.Conn.ToHost, r4.Conn.ToGuest, r4.Conn.Early, r4.Conn.Fin, r4.Conn.Eof, r4.Conn.Shut, r4.Conn.At, r4.Conn.Wait, r4.Conn.Tries⟩ : TConn), r4.now, r4.segs, r4.calls, r4.gone⟩ : Tstep) fun y5 => some (.inr (y5)) else some (.inl (()))))))).bind (Sum.elim (fun j3 => some (.inl (()))) (fun j4 => some (.inr (j4))))).bind (Sum.elim (fun j5 => some (.inl (()))) (fun j6 => some (.inr (j6))))).bind (Sum.elim (fun j7 => some (.inr (s1.2))) (fun j8 => some (.inl (IntKind.i64.wrap (s1.1 + 1), j8)))) else some (.inr (s1.2)))) (0, a1)).bind (fun j9 => some (j9))).bind (fun j10 => ((if decide (j10.Conn.At = 0) = true then (splice_step_flown.f j10).bind fun r5 => (if decide (0 < r5) = true then some (true) else some (decide (0 < (j10.Conn.ToGuest.length : Int)))) else some (false))).bind (fun j11 => (if j11 = true then (splice_step_arm.f j10).bind fun r6 => some (r6) else some (j10))))))
set_option maxRecDepth 100000 in
set_option maxHeartbeats 4000000 in
theorem splice_step_push.spc (b1 : Nat) (a1 : Tstep) (r : Tstep) (H : splice_step_push.f a1 = some r) : Spc Try.prog 55 [pt b1] [] [Fld Kstep b1 0 a1] (fun (s : Unit) => .tuple #[]) (fun s => [Fld Kstep b1 0 r]) := by
 unfold splice_step_push.f at H
 refine Spc.go Try.func55 rfl (by kernel_rfl) rfl rfl all_nil fun F a w h => ?_
 refine Go.scope ?_
 refine Go.seq ?_
 refine Go.seq ?_
 obtain ⟨o1, H, G1⟩ := bindE H
 refine g_cut (fun G => ∀ j1 (a : Act) (w : World), o1 = j1 → St Try.f55.ntmps F [(0, pt b1), (17, .bool j1)] [Fld Kstep b1 0 a1] a w → G a w) 1 ?_ fun J1 => ?_
 ·intro j1 a w ho_ h
  rw [ho_] at G1
  have H := G1
  by_cases c2 : j1 = true
  ·have H := ifT c2 H
   refine g_t h rfl c2 ?_
   rw [← som H]
   exact g_ret (vs := []) h Try.func55 trivial ⟨(), rfl, (h.mem.pick [0] (by decide) rfl)⟩
  ·have H := ifF c2 H
   refine g_f h rfl c2 ?_
   refine Go.skip ?_
   refine Go.seq ?_
   refine Go.label ?_
   refine Go.seq ?_
   obtain ⟨o2, H, G2⟩ := bindE H
   refine g_cut (fun G => ∀ j10 (a : Act) (w : World), o2 = j10 → St Try.f55.ntmps F [(0, pt b1)] [Fld Kstep b1 0 j10] a w → G a w) 1 ?_ fun J10 => ?_
   ·intro j10 a w ho_ h
    rw [ho_] at G2
    have H := G2
    refine Go.seq ?_
    obtain ⟨o8, H, G8⟩ := bindE H
    refine g_cut (fun G => ∀ j11 (a : Act) (w : World), o8 = j11 → St Try.f55.ntmps F [(0, pt b1), (125, .bool j11)] [Fld Kstep b1 0 j10] a w → G a w) 1 ?_ fun J11 => ?_
    ·intro j11 a w ho_ h
     rw [ho_] at G8
     have H := G8
     by_cases c10 : j11 = true
     ·have H := ifT c10 H
      refine g_t h rfl c10 ?_
      refine Go.reg ?_
      refine mv h rfl rfl fun h => ?_
      obtain ⟨r6, er6, H⟩ := bindE H
      refine ga h (o_call (splice_step_arm.spc b1 j10 r6 er6) rfl [] [0] (by decide) rfl rfl) rfl fun h => ?_
      refine GoR.done ?_
      refine Go.inScope ?_
      rw [← som H]
      exact g_fin (vs := []) h Try.func55 trivial ⟨(), rfl, (h.mem.pick [0] (by decide) rfl)⟩
     ·have H := ifF c10 H
      refine g_f h rfl c10 ?_
      refine Go.skip ?_
      refine Go.inScope ?_
      rw [← som H]
      exact g_fin (vs := []) h Try.func55 trivial ⟨(), rfl, (h.mem.pick [0] (by decide) rfl)⟩
    refine Go.reg ?_
    refine mv h rfl rfl fun h => ?_
    refine ga h (o_nilc rfl) rfl fun h => ?_
    refine ga h (o_fa rfl t_f75_0 rfl rfl) rfl fun h => ?_
    refine ga h (o_fa rfl t_f26_20 rfl rfl) rfl fun h => ?_
    have g10 := (in2 (fd_sub t_sstep_Conn_At 0 rfl h.mem))
    refine ga h (o_lfx 0 rfl rfl t_sstep_Conn_At rfl X_int t_y3) rfl fun h => ?_
    refine ga h (o_bin rfl rfl rfl) rfl fun h => ?_
    refine mv h rfl rfl fun h => ?_
    by_cases c8 : decide (j10.Conn.At = 0) = true
    ·have H := ifT c8 H
     refine gg h rfl rfl c8 (o_move rfl) rfl fun _ _ _ h => ?_
     obtain ⟨r5, er5, H⟩ := bindE H
     refine gg h rfl rfl c8 (OpS.lend (Lp := [Pfl KstepR b1 0 j10]) (lent_cons (lent_fld (show RO Kstep KstepR from ro_iso (ro_pair (ro_per PConn) (ro_pair (ro_per Per_int) (ro_pair ro_osl (ro_pair ro_osl (ro_last (ro_per Per_bool))))))) 0 rfl) lent_nil) (o_call (splice_step_flown.spc b1 j10 r5 er5) rfl [0] [] (by decide) rfl rfl) (fun _ => (clo_cons cl_pur clo_nil))) rfl fun _ _ _ h => ?_
     have g11 := h.mem.pur 0 rfl
     refine gg h rfl rfl c8 (o_bin rfl rfl rfl) rfl fun _ _ _ h => ?_
     refine gg h rfl rfl c8 (o_move rfl) rfl fun _ _ _ h => ?_
     by_cases c9 : decide (0 < r5) = true
     ·have H := ifT c9 H
      iterate 7 (refine gk h rfl rfl (nb_t c9) rfl fun _ h => ?_)
      refine gg h rfl rfl c8 (o_pickT rfl rfl c9) rfl fun _ _ _ h => ?_
      refine ga h (o_pickT rfl rfl c8) rfl fun h => ?_
      refine GoR.done ?_
      exact J11 true _ _ (som H).symm (h.wr [1])
     ·have H := ifF c9 H
      refine gg h rfl rfl (nbF c9) (o_move rfl) rfl fun _ _ _ h => ?_
      refine gg h rfl rfl (nbF c9) (o_nilc rfl) rfl fun _ _ _ h => ?_
      refine gg h rfl rfl (nbF c9) (o_fa rfl t_f75_0 rfl rfl) rfl fun _ _ _ h => ?_
      refine gg h rfl rfl (nbF c9) (o_fa rfl t_f26_15 rfl rfl) rfl fun _ _ _ h => ?_
      refine gg h rfl rfl (nbF c9) (o_lfv 1 rfl rfl t_sstep_Conn_ToGuest rfl Per_sl t_y23) rfl fun v5 _ _ h => ?_
      have g12 := (len_at 0 rfl h.mem)
      refine gg h rfl rfl (nbF c9) (o_ln rfl (rd_at 0 rfl) t_v23) rfl fun _ _ _ h => ?_
      refine gg h rfl rfl (nbF c9) (o_bin rfl rfl rfl) rfl fun _ _ _ h => ?_
      refine gg h rfl rfl c8 (o_pickF rfl rfl c9) rfl fun _ _ _ h => ?_
      refine ga h (o_pickT rfl rfl c8) rfl fun h => ?_
      refine GoR.done ?_
      exact J11 (decide (0 < (j10.Conn.ToGuest.length : Int))) _ _ (som H).symm (h.wr [2])
    ·have H := ifF c8 H
     iterate 4 (refine gk h rfl rfl (nb_f c8) rfl fun _ h => ?_)
     iterate 7 (refine gk h rfl rfl rfl rfl fun _ h => ?_)
     refine gk h rfl rfl (nb_f c8) rfl fun _ h => ?_
     refine ga h (o_pickF rfl rfl c8) rfl fun h => ?_
     refine GoR.done ?_
     exact J11 false _ _ (som H).symm (h.wr [0])
   refine Go.seq ?_
   refine Go.reg ?_
   refine mv h rfl rfl fun h => ?_
   refine GoR.done ?_
   refine Go.block ?_
   obtain ⟨o3, hl, G3⟩ := bindE H
   refine g_cut (fun G => ∀ j9 (a : Act) (w : World), o3 = j9 → St Try.f55.ntmps F [(0, pt b1)] [Fld Kstep b1 0 j9] a w → G a w) 2 ?_ fun J9 => ?_
   ·intro j9 a w ho_ h
    rw [ho_] at G3
    have H := G3
    exact J10 j9 _ _ (som H).symm (h.wr [0])
   refine g_loop (fun s1 G => ∀  (a : Act) (w : World), InR .i64 s1.1 → St Try.f55.ntmps F [(0, pt b1), (18, .int .i64 s1.1)] [Fld Kstep b1 0 s1.2] a w → G a w) hl (fun s1 p1 H i1 => ?_) fun I_ => ?_
   ·intro  a w g1 h
    refine Go.seq ?_
    refine Go.reg ?_
    refine ga h (o_bin rfl rfl rfl) rfl fun h => ?_
    refine GoR.done ?_
    refine Go.seq ?_
    by_cases c3 : decide (s1.1 < 4) = true
    ·have H := ifT c3 H
     refine g_t h rfl c3 ?_
     refine Go.skip ?_
     refine Go.seq ?_
     obtain ⟨o4, H, G4⟩ := bindE H
     refine g_cut (fun G => ∀ j7 (a : Act) (w : World), o4 = .inl (j7) → St Try.f55.ntmps F [(0, pt b1)] [Fld Kstep b1 0 s1.2] a w → G a w) 4 ?_ fun J7 => ?_
     ·intro j7 a w ho_ h
      rw [ho_] at G4
      have H := eInl G4
      have e_ := som H; subst e_
      exact J9 s1.2 _ _ (nx_out i1).symm (h.wr [0])
     refine g_cut (fun G => ∀ j8 (a : Act) (w : World), o4 = .inr (j8) → St Try.f55.ntmps F [(0, pt b1), (18, .int .i64 s1.1)] [Fld Kstep b1 0 j8] a w → G a w) 1 ?_ fun J8 => ?_
     ·intro j8 a w ho_ h
      rw [ho_] at G4
      have H := eInr G4
      refine Go.reg ?_
      refine ga h (o_bin rfl rfl rfl) rfl fun h => ?_
      refine mv h rfl rfl fun h => ?_
      refine GoR.done ?_
      have e_ := som H; subst e_
      exact Go.inLoop (nx_in i1 _ _ (wrap_in _ _) (h.wr [0]))
     refine Go.block ?_
     obtain ⟨o5, H, G5⟩ := bindE H
     refine g_cut (fun G => ∀ j5 (a : Act) (w : World), o5 = .inl (j5) → St Try.f55.ntmps F [(0, pt b1)] [Fld Kstep b1 0 s1.2] a w → G a w) 5 ?_ fun J5 => ?_
     ·intro j5 a w ho_ h
      rw [ho_] at G5
      have H := eInl G5
      exact J7 () _ _ (som H).symm (h.wr [0])
     refine g_cut (fun G => ∀ j6 (a : Act) (w : World), o5 = .inr (j6) → St Try.f55.ntmps F [(0, pt b1), (18, .int .i64 s1.1)] [Fld Kstep b1 0 j6] a w → G a w) 2 ?_ fun J6 => ?_
     ·intro j6 a w ho_ h
      rw [ho_] at G5
      have H := eInr G5
      exact J8 j6 _ _ (som H).symm (h.wr [0])
     refine Go.seq ?_
     refine Go.reg ?_
     refine mv h rfl rfl fun h => ?_
     obtain ⟨r1, er1, H⟩ := bindE H
     refine ga h (OpS.lend (Lp := [Pfl KstepR b1 0 s1.2]) (lent_cons (lent_fld (show RO Kstep KstepR from ro_iso (ro_pair (ro_per PConn) (ro_pair (ro_per Per_int) (ro_pair ro_osl (ro_pair ro_osl (ro_last (ro_per Per_bool))))))) 0 rfl) lent_nil) (o_call (splice_step_flown.spc b1 s1.2 r1 er1) rfl [0] [] (by decide) rfl rfl) (fun _ => (clo_cons cl_pur clo_nil))) rfl fun h => ?_
     have g2 := h.mem.pur 0 rfl
     refine ga h (o_assign rfl) rfl fun h => ?_
     refine GoR.done ?_
     refine Go.seq ?_
     refine Go.reg ?_
     refine mv h rfl rfl fun h => ?_
     refine ga h (o_nilc rfl) rfl fun h => ?_
     refine ga h (o_fa rfl t_f75_0 rfl rfl) rfl fun h => ?_
     refine ga h (o_fa rfl t_f26_15 rfl rfl) rfl fun h => ?_
     refine gs h (o_lfv 1 rfl rfl t_sstep_Conn_ToGuest rfl Per_sl t_y23) rfl fun v1 _ _ h => ?_
     have g3 := (len_at 0 rfl h.mem)
     refine ga h (o_ln rfl (rd_at 0 rfl) t_v23) rfl fun h => ?_
     refine mv h rfl rfl fun h => ?_
     refine ga h (o_bin rfl rfl rfl) rfl fun h => ?_
     obtain ⟨y1, ey1, H⟩ := ltE H
     refine ga h (o_assign' rfl (congrArg (fun z => Value.int .i64 z) ey1)) rfl fun h => ?_
     refine GoR.done ?_
     refine Go.seq ?_
     replace h := h.wq [(0, pt b1), (18, .int .i64 s1.1), (2, .int .i64 r1), (3, .int .i64 y1)] [Val (Kd.sl (Kd.int .u8)) v1 s1.2.Conn.ToGuest, Ent.pur (InR .i64 r1), Fld Kstep b1 0 s1.2] [0, 1, 2]
     refine Go.draw (E := [(0, pt b1), (18, .int .i64 s1.1), (2, .int .i64 r1), (3, .int .i64 y1)]) [] (L := [Val (Kd.sl (Kd.int .u8)) v1 s1.2.Conn.ToGuest, Ent.pur (InR .i64 r1), Fld Kstep b1 0 s1.2]) h rfl rfl 13 [cn (.int .i64 y1), cn (pt b1), ce [1] (pt b1), ce [1, 2] (pt b1), ce [1, 2, 3] (.pointer (some ⟨b1, 13, none⟩)), cm [1, 2, 3, 4] [] [] (.int .i64 s1.2.Conn.Mss) fun u => [Ent.pur (InR .i64 s1.2.Conn.Mss)], cn (pt b1), ce [6] (pt b1), ce [6, 7] (pt b1), ce [6, 7, 8] (.pointer (some ⟨b1, 12, none⟩)), cm [6, 7, 8, 9] [] [] (.int .i64 s1.2.Conn.Win) fun u => [Ent.pur (InR .i64 s1.2.Conn.Win)], cn (.int .i64 r1), ce [6, 7, 8, 9, 10, 11] (.int .i64 (IntKind.i64.wrap (s1.2.Conn.Win - r1)))] rfl t_mxo (by kernel_rfl) (by rfl) ?_ fun f1 _ _ h => ?_
     ·exact ox rfl (o_move rfl) (ox rfl (o_move rfl) (ox rfl (o_nilc rfl) (ox rfl (o_fa rfl t_f75_0 rfl rfl) (ox rfl (o_fa rfl t_f26_13 rfl rfl) (ox rfl (OpS.pur (fun F w m_ => (in2 (fd_sub t_sstep_Conn_Mss 2 rfl m_))) (o_lfx (K := Kstep) (pr := fun x => x.Conn.Mss) (y := s1.2) 2 rfl rfl t_sstep_Conn_Mss rfl X_int t_y3)) (ox rfl (o_move rfl) (ox rfl (o_nilc rfl) (ox rfl (o_fa rfl t_f75_0 rfl rfl) (ox rfl (o_fa rfl t_f26_12 rfl rfl) (ox rfl (OpS.pur (fun F w m_ => (in2 (fd_sub t_sstep_Conn_Win 2 rfl m_))) (o_lfx (K := Kstep) (pr := fun x => x.Conn.Win) (y := s1.2) 2 rfl rfl t_sstep_Conn_Win rfl X_int t_y3)) (ox rfl (o_move rfl) (ox rfl (o_bin rfl rfl rfl) (obs_nil)))))))))))))
     replace h := h.wk (E' := [(0, pt b1), (18, .int .i64 s1.1), (2, .int .i64 r1), (3, .int .i64 y1), (30, .int .i64 y1), (35, .int .i64 s1.2.Conn.Mss), (42, .int .i64 (IntKind.i64.wrap (s1.2.Conn.Win - r1)))]) (L' := [Ent.pur (InR .i64 s1.2.Conn.Mss), Ent.pur (InR .i64 s1.2.Conn.Win), Val (Kd.sl (Kd.int .u8)) v1 s1.2.Conn.ToGuest, Ent.pur (InR .i64 r1), Fld Kstep b1 0 s1.2]) (by kernel_rfl) [0, 1, 2, 3, 4] (by decide) (by kernel_rfl)
     have g4 := (Mem.pur 0 rfl h.mem)
     refine gs h (o_bs (K := (Kd.int .i64)) (vs := [.int .i64 y1, .int .i64 s1.2.Conn.Mss, .int .i64 (IntKind.i64.wrap (s1.2.Conn.Win - r1))]) (xs := ([y1, s1.2.Conn.Mss, IntKind.i64.wrap (s1.2.Conn.Win - r1)] : List Int)) rfl rfl (pvs_cons (pv_int (ey1 ▸ (wrap_in _ _))) (pvs_cons (pv_int g4) (pvs_cons (pv_int (wrap_in _ _)) pvs_nil))) t_a95 (by decide) (by decide)) rfl fun v2 _ _ h => ?_
     replace h := h.mm fun m => m.freeze 0 rfl
     obtain ⟨r2, er2, H⟩ := bindE H
     refine ga h (o_call (splice_least_int.spc v2 ([y1, s1.2.Conn.Mss, IntKind.i64.wrap (s1.2.Conn.Win - r1)] : List Int) r2 er2) rfl [0] [] (by decide) rfl rfl) rfl fun h => ?_
     have g5 := h.mem.pur 0 rfl
     refine ga h (o_assign rfl) rfl fun h => ?_
     refine GoR.done ?_
     refine Go.block ?_
     obtain ⟨o6, H, G6⟩ := bindE H
     refine g_cut (fun G => ∀ j3 (a : Act) (w : World), o6 = .inl (j3) → St Try.f55.ntmps F [(0, pt b1)] [Fld Kstep b1 0 s1.2] a w → G a w) 6 ?_ fun J3 => ?_
     ·intro j3 a w ho_ h
      rw [ho_] at G6
      have H := eInl G6
      exact J5 () _ _ (som H).symm (h.wr [0])
     refine g_cut (fun G => ∀ j4 (a : Act) (w : World), o6 = .inr (j4) → St Try.f55.ntmps F [(0, pt b1), (18, .int .i64 s1.1)] [Fld Kstep b1 0 j4] a w → G a w) 3 ?_ fun J4 => ?_
     ·intro j4 a w ho_ h
      rw [ho_] at G6
      have H := eInr G6
      exact J6 j4 _ _ (som H).symm (h.wr [0])
     refine Go.seq ?_
     refine Go.reg ?_
     refine mv h rfl rfl fun h => ?_
     refine ga h (o_bin rfl rfl rfl) rfl fun h => ?_
     obtain ⟨y2, ey2, H⟩ := ltE H
     refine ga h (o_assign' rfl (congrArg Value.bool ey2)) rfl fun h => ?_
     refine GoR.done ?_
     by_cases c4 : y2 = true
     ·have H := ifT c4 H
      refine g_t h rfl c4 ?_
      refine Go.exit rfl ?_
      exact J3 () _ _ (som H).symm (h.wr [6])
     ·have H := ifF c4 H
      refine g_f h rfl c4 ?_
      refine Go.seq ?_
      refine Go.reg ?_
      refine mv h rfl rfl fun h => ?_
      refine ga h (o_bin rfl rfl rfl) rfl fun h => ?_
      obtain ⟨y3, ey3, H⟩ := ltE H
      refine ga h (o_assign' rfl (congrArg Value.bool ey3)) rfl fun h => ?_
      refine GoR.done ?_
      by_cases c5 : y3 = true
      ·have H := ifT c5 H
       refine g_t h rfl c5 ?_
       refine Go.seq ?_
       replace h := h.wq [(0, pt b1), (18, .int .i64 s1.1), (2, .int .i64 r1), (4, .int .i64 r2)] [Ent.pur (InR .i64 r2), Val (Kd.sl (Kd.int .i64)) v2 ([y1, s1.2.Conn.Mss, IntKind.i64.wrap (s1.2.Conn.Win - r1)] : List Int), Ent.pur (InR .i64 s1.2.Conn.Mss), Ent.pur (InR .i64 s1.2.Conn.Win), Val (Kd.sl (Kd.int .u8)) v1 s1.2.Conn.ToGuest, Ent.pur (InR .i64 r1), Fld Kstep b1 0 s1.2] [0, 1, 2, 3, 4, 5, 6]
       obtain ⟨x1, ex1, H⟩ := bindE H
       refine Go.draw (E := [(0, pt b1), (18, .int .i64 s1.1), (2, .int .i64 r1), (4, .int .i64 r2)]) [] (L := [Ent.pur (InR .i64 r2), Val (Kd.sl (Kd.int .i64)) v2 ([y1, s1.2.Conn.Mss, IntKind.i64.wrap (s1.2.Conn.Win - r1)] : List Int), Ent.pur (InR .i64 s1.2.Conn.Mss), Ent.pur (InR .i64 s1.2.Conn.Win), Val (Kd.sl (Kd.int .u8)) v1 s1.2.Conn.ToGuest, Ent.pur (InR .i64 r1), Fld Kstep b1 0 s1.2]) h rfl rfl 16 [cn (pt b1), cn (pt b1), ce [1] (pt b1), ce [1, 2] (pt b1), ce [1, 2, 3] (.pointer (some ⟨b1, 10, none⟩)), cm [1, 2, 3, 4] [] [] (.int .u32 s1.2.Conn.Next) fun u => [Ent.pur (InR .u32 s1.2.Conn.Next)], cn (pt b1), ce [6] (pt b1), ce [6, 7] (pt b1), ce [6, 7, 8] (.pointer (some ⟨b1, 15, none⟩)), cw [6, 7, 8, 9] [] [] fun u => [Val (Kd.sl (Kd.int .u8)) u s1.2.Conn.ToGuest], cn (.int .i64 r1), cn (.int .i64 r1), cn (.int .i64 r2), ce [12, 13] (.int .i64 (IntKind.i64.wrap (r1 + r2))), cw [6, 7, 8, 9, 10, 11, 12, 13, 14] [10] [] fun u => [Val (Kd.sl (Kd.int .u8)) u x1]] rfl t_mxo (by kernel_rfl) (by rfl) ?_ fun f2 _ _ h => ?_
       ·exact ox rfl (o_move rfl) (ox rfl (o_move rfl) (ox rfl (o_nilc rfl) (ox rfl (o_fa rfl t_f75_0 rfl rfl) (ox rfl (o_fa rfl t_f26_10 rfl rfl) (ox rfl (OpS.pur (fun F w m_ => (in2 (fd_sub t_sstep_Conn_Next 6 rfl m_))) (o_lfx (K := Kstep) (pr := fun x => x.Conn.Next) (y := s1.2) 6 rfl rfl t_sstep_Conn_Next rfl X_int t_y22)) (ox rfl (o_move rfl) (ox rfl (o_nilc rfl) (ox rfl (o_fa rfl t_f75_0 rfl rfl) (ox rfl (o_fa rfl t_f26_15 rfl rfl) (oy rfl (o_lfv (K := Kstep) (pr := fun x => x.Conn.ToGuest) (y := s1.2) 6 rfl rfl t_sstep_Conn_ToGuest rfl Per_sl t_y23) (ox rfl (o_move rfl) (ox rfl (o_move rfl) (ox rfl (o_move rfl) (ox rfl (o_bin rfl rfl rfl) (oy rfl (o_cut rfl (pv_at Per_sl 0 rfl) rfl rfl ex1 t_v23) (obs_nil))))))))))))))))
       replace h := h.wk (E' := [(0, pt b1), (18, .int .i64 s1.1), (4, .int .i64 r2), (51, pt b1), (56, .int .u32 s1.2.Conn.Next), (66, (f2 15))]) (L' := [Ent.pur (InR .u32 s1.2.Conn.Next), Val (Kd.sl (Kd.int .u8)) (f2 10) s1.2.Conn.ToGuest, Val (Kd.sl (Kd.int .u8)) (f2 15) x1, Ent.pur (InR .i64 r2), Val (Kd.sl (Kd.int .i64)) v2 ([y1, s1.2.Conn.Mss, IntKind.i64.wrap (s1.2.Conn.Win - r1)] : List Int), Ent.pur (InR .i64 s1.2.Conn.Mss), Ent.pur (InR .i64 s1.2.Conn.Win), Val (Kd.sl (Kd.int .u8)) v1 s1.2.Conn.ToGuest, Ent.pur (InR .i64 r1), Fld Kstep b1 0 s1.2]) (by kernel_rfl) [0, 1, 2, 3, 4, 5, 6, 7, 8, 9] (by decide) (by kernel_rfl)
       have g6 := (Mem.pur 0 rfl h.mem)
       obtain ⟨r3, er3, H⟩ := bindE H
       refine ga h (o_call (splice_step_say.spc b1 s1.2 s1.2.Conn.Next g6 8 (show InR .i64 8 by decide) (f2 15) x1 r3 er3) rfl [2] [9] (by decide) rfl rfl) rfl fun h => ?_
       refine GoR.done ?_
       refine Go.reg ?_
       refine mv h rfl rfl fun h => ?_
       refine ga h (o_nilc rfl) rfl fun h => ?_
       refine ga h (o_fa rfl t_f75_0 rfl rfl) rfl fun h => ?_
       refine ga h (o_fa rfl t_f26_10 rfl rfl) rfl fun h => ?_
       have g7 := (in2 (fd_sub t_sstep_Conn_Next 0 rfl h.mem))
       refine ga h (o_lfx 0 rfl rfl t_sstep_Conn_Next rfl X_int t_y22) rfl fun h => ?_
       refine mv h rfl rfl fun h => ?_
       refine ga h (o_conv rfl t_q3 t_u22) rfl fun h => ?_
       refine ga h (o_bin rfl rfl rfl) rfl fun h => ?_
       refine ga h (o_nilc rfl) rfl fun h => ?_
       refine ga h (o_fa rfl t_f75_0 rfl rfl) rfl fun h => ?_
       refine ga h (o_fa rfl t_f26_10 rfl rfl) rfl fun h => ?_
       obtain ⟨y4, ey4, H⟩ := ltE H
       refine gs0 h (o_stp (x0 := r3) (y := IntKind.u32.wrap (r3.Conn.Next + (IntKind.u32.wrap r2))) 0 t_ustep_10_1 rfl rfl rfl rfl (pv_int (wrap_in _ _)) t_w22) fun _ _ _ h => ?_
       rw [ey4] at h
       refine GoR.done ?_
       refine Go.inBlock ?_
       refine Go.inBlock ?_
       exact J4 y4 _ _ (som H).symm (h.wr [0])
      ·have H := ifF c5 H
       refine g_f h rfl c5 ?_
       refine Go.seq ?_
       obtain ⟨o7, H, G7⟩ := bindE H
       refine g_cut (fun G => ∀ j2 (a : Act) (w : World), o7 = j2 → St Try.f55.ntmps F [(0, pt b1), (18, .int .i64 s1.1), (79, .bool j2)] [Fld Kstep b1 0 s1.2] a w → G a w) 1 ?_ fun J2 => ?_
       ·intro j2 a w ho_ h
        rw [ho_] at G7
        have H := G7
        by_cases c7 : j2 = true
        ·have H := ifT c7 H
         refine g_t h rfl c7 ?_
         refine Go.seq ?_
         refine Go.reg ?_
         refine mv h rfl rfl fun h => ?_
         refine mv h rfl rfl fun h => ?_
         refine ga h (o_nilc rfl) rfl fun h => ?_
         refine ga h (o_fa rfl t_f75_0 rfl rfl) rfl fun h => ?_
         refine ga h (o_fa rfl t_f26_10 rfl rfl) rfl fun h => ?_
         have g8 := (in2 (fd_sub t_sstep_Conn_Next 0 rfl h.mem))
         refine ga h (o_lfx 0 rfl rfl t_sstep_Conn_Next rfl X_int t_y22) rfl fun h => ?_
         replace h := h.mm fun m => (pv_nil (K := (Kd.int .u8))).ent m
         obtain ⟨r4, er4, H⟩ := bindE H
         refine ga h (o_call (splice_step_say.spc b1 s1.2 s1.2.Conn.Next g8 1 (show InR .i64 1 by decide) (.slice none 0 0) [] r4 er4) rfl [0] [1] (by decide) rfl rfl) rfl fun h => ?_
         refine GoR.done ?_
         refine Go.reg ?_
         refine mv h rfl rfl fun h => ?_
         refine ga h (o_nilc rfl) rfl fun h => ?_
         refine ga h (o_fa rfl t_f75_0 rfl rfl) rfl fun h => ?_
         refine ga h (o_fa rfl t_f26_10 rfl rfl) rfl fun h => ?_
         have g9 := (in2 (fd_sub t_sstep_Conn_Next 0 rfl h.mem))
         refine ga h (o_lfx 0 rfl rfl t_sstep_Conn_Next rfl X_int t_y22) rfl fun h => ?_
         refine ga h (o_bin rfl rfl rfl) rfl fun h => ?_
         refine ga h (o_nilc rfl) rfl fun h => ?_
         refine ga h (o_fa rfl t_f75_0 rfl rfl) rfl fun h => ?_
         refine ga h (o_fa rfl t_f26_10 rfl rfl) rfl fun h => ?_
         obtain ⟨y5, ey5, H⟩ := ltE H
         refine gs0 h (o_stp (x0 := r4) (y := IntKind.u32.wrap (r4.Conn.Next + 1)) 0 t_ustep_10_1 rfl rfl rfl rfl (pv_int (wrap_in _ _)) t_w22) fun _ _ _ h => ?_
         rw [ey5] at h
         refine GoR.done ?_
         refine Go.inBlock ?_
         refine Go.inBlock ?_
         exact J4 y5 _ _ (som H).symm (h.wr [0])
        ·have H := ifF c7 H
         refine g_f h rfl c7 ?_
         refine Go.exit rfl ?_
         exact J3 () _ _ (som H).symm (h.wr [0])
       refine Go.reg ?_
       refine mv h rfl rfl fun h => ?_
       refine ga h (o_bin rfl rfl rfl) rfl fun h => ?_
       refine mv h rfl rfl fun h => ?_
       by_cases c6 : decide (y1 = 0) = true
       ·have H := ifT c6 H
        refine gg h rfl rfl c6 (o_move rfl) rfl fun _ _ _ h => ?_
        refine gg h rfl rfl c6 (o_nilc rfl) rfl fun _ _ _ h => ?_
        refine gg h rfl rfl c6 (o_fa rfl t_f75_0 rfl rfl) rfl fun _ _ _ h => ?_
        refine gg h rfl rfl c6 (o_fa rfl t_f26_18 rfl rfl) rfl fun _ _ _ h => ?_
        refine gg h rfl rfl c6 (o_lfx 6 rfl rfl t_sstep_Conn_Eof rfl X_bool t_y4) rfl fun _ _ _ h => ?_
        refine ga h (o_pickT rfl rfl c6) rfl fun h => ?_
        refine ga h (o_assign rfl) rfl fun h => ?_
        refine GoR.done ?_
        exact J2 s1.2.Conn.Eof _ _ (som H).symm (h.wr [6])
       ·have H := ifF c6 H
        iterate 5 (refine gk h rfl rfl (nb_f c6) rfl fun _ h => ?_)
        refine ga h (o_pickF rfl rfl c6) rfl fun h => ?_
        refine ga h (o_assign rfl) rfl fun h => ?_
        refine GoR.done ?_
        exact J2 false _ _ (som H).symm (h.wr [6])
    ·have H := ifF c3 H
     refine g_f h rfl c3 ?_
     refine Go.exit rfl ?_
     have e_ := som H; subst e_
     exact J9 s1.2 _ _ (nx_out i1).symm (h.wr [0])
   ·exact I_ _ _ (show InR .i64 0 by decide) (h.wr [0])
 refine Go.reg ?_
 refine mv h rfl rfl fun h => ?_
 refine ga h (o_nilc rfl) rfl fun h => ?_
 refine ga h (o_fa rfl t_f75_0 rfl rfl) rfl fun h => ?_
 refine ga h (o_fa rfl t_f26_6 rfl rfl) rfl fun h => ?_
 refine ga h (o_lfx 0 rfl rfl t_sstep_Conn_Up rfl X_bool t_y4) rfl fun h => ?_
 refine ga h (o_not rfl) rfl fun h => ?_
 refine mv h rfl rfl fun h => ?_
 by_cases c1 : (!a1.Conn.Up) = true
 ·have H := ifT c1 H
  iterate 5 (refine gk h rfl rfl (nb_t c1) rfl fun _ h => ?_)
  refine ga h (o_pickT rfl rfl c1) rfl fun h => ?_
  refine GoR.done ?_
  exact J1 true _ _ (som H).symm (h.wr [0])
 ·have H := ifF c1 H
  refine gg h rfl rfl (nbF c1) (o_move rfl) rfl fun _ _ _ h => ?_
  refine gg h rfl rfl (nbF c1) (o_nilc rfl) rfl fun _ _ _ h => ?_
  refine gg h rfl rfl (nbF c1) (o_fa rfl t_f75_0 rfl rfl) rfl fun _ _ _ h => ?_
  refine gg h rfl rfl (nbF c1) (o_fa rfl t_f26_7 rfl rfl) rfl fun _ _ _ h => ?_
  refine gg h rfl rfl (nbF c1) (o_lfx 0 rfl rfl t_sstep_Conn_Done rfl X_bool t_y4) rfl fun _ _ _ h => ?_
  refine ga h (o_pickF rfl rfl c1) rfl fun h => ?_
  refine GoR.done ?_
  exact J1 a1.Conn.Done _ _ (som H).symm (h.wr [0])
def splice_step_push.g (k_ : Nat) (a1 : Tstep) : Option (Tstep) :=
  ((if (!a1.Conn.Up) = true then some (true) else some (a1.Conn.Done))).bind (fun j1 => (if j1 = true then some (a1) else ((loopK k_ (fun s1 => (if decide (s1.1 < 4) = true then (((splice_step_flown.g k_ s1.2).bind fun r1 => lt (IntKind.i64.wrap ((s1.2.Conn.ToGuest.length : Int) - r1)) fun y1 => (splice_least_int.g k_ ([y1, s1.2.Conn.Mss, IntKind.i64.wrap (s1.2.Conn.Win - r1)] : List Int)).bind fun r2 => (lt (decide (y1 < 0)) fun y2 => (if y2 = true then some (.inl (())) else lt (decide (0 < r2)) fun y3 => (if y3 = true then (cut s1.2.Conn.ToGuest r1 (IntKind.i64.wrap (r1 + r2))).bind fun x1 => (splice_step_say.g k_ s1.2 s1.2.Conn.Next 8 x1).bind fun r3 => lt (⟨(⟨r3.Conn.Id, r3.Conn.Guest, r3.Conn.Gport, r3.Conn.Remote, r3.Conn.Rport, r3.Conn.Opening, r3.Conn.Up, r3.Conn.Done, r3.Conn.Begin, r3.Conn.Una, IntKind.u32.wrap (r3.Conn.Next + (IntKind.u32.wrap r2)), r3.Conn.Want, r3.Conn.Win, r3.Conn.Mss, r3.Conn.ToHost, r3.Conn.ToGuest, r3.Conn.Early, r3.Conn.Fin, r3.Conn.Eof, r3.Conn.Shut, r3.Conn.At, r3.Conn.Wait, r3.Conn.Tries⟩ : TConn), r3.now, r3.segs, r3.calls, r3.gone⟩ : Tstep) fun y4 => some (.inr (y4)) else ((if decide (y1 = 0) = true then some (s1.2.Conn.Eof) else some (false))).bind (fun j2 => (if j2 = true then (splice_step_say.g k_ s1.2 s1.2.Conn.Next 1 []).bind fun r4 => lt (⟨(⟨r4.Conn.Id, r4.Conn.Guest, r4.Conn.Gport, r4.Conn.Remote, r4.Conn.Rport, r4.Conn.Opening, r4.Conn.Up, r4.Conn.Done, r4.Conn.Begin, r4.Conn.Una, IntKind.u32.wrap (r4.Conn.Next + 1), r4.Conn.Want, r4.Conn.Win, r4.Conn.Mss, r4.Conn.ToHost, r4.Conn.ToGuest, r4.Conn.Early, r4.Conn.Fin, r4.Conn.Eof, r4.Conn.Shut, r4.Conn.At, r4.Conn.Wait, r4.Conn.Tries⟩ : TConn), r4.now, r4.segs, r4.calls, r4.gone⟩ : Tstep) fun y5 => some (.inr (y5)) else some (.inl (()))))))).bind (Sum.elim (fun j3 => some (.inl (()))) (fun j4 => some (.inr (j4))))).bind (Sum.elim (fun j5 => some (.inl (()))) (fun j6 => some (.inr (j6))))).bind (Sum.elim (fun j7 => some (.inr (s1.2))) (fun j8 => some (.inl (IntKind.i64.wrap (s1.1 + 1), j8)))) else some (.inr (s1.2)))) (0, a1)).bind (fun j9 => some (j9))).bind (fun j10 => ((if decide (j10.Conn.At = 0) = true then (splice_step_flown.g k_ j10).bind fun r5 => (if decide (0 < r5) = true then some (true) else some (decide (0 < (j10.Conn.ToGuest.length : Int)))) else some (false))).bind (fun j11 => (if j11 = true then (splice_step_arm.g k_ j10).bind fun r6 => some (r6) else some (j10))))))
theorem splice_step_push.le (k_ : Nat) (a1 : Tstep) : Le (splice_step_push.g k_ a1) (splice_step_push.f a1) := by
 unfold splice_step_push.g splice_step_push.f
 repeat' (first | with_reducible refine le_loop fun _ => ?_ | with_reducible refine le_bind ?_ fun _ => ?_ | with_reducible refine le_ite ?_ ?_ | with_reducible refine le_lt fun _ => ?_ | with_reducible refine le_elim (fun _ => ?_) (fun _ => ?_) _ | with_reducible apply splice_least_int.le | with_reducible apply splice_step_arm.le | with_reducible apply splice_step_flown.le | with_reducible apply splice_step_say.le | with_reducible exact le_refl _)
/-! (*drawbridge/splice.step).more -/
noncomputable def splice_step_more.f (a1 : Tstep) (a2 : TTell) : Option (Int × Tstep) :=
  ((if a1.Conn.Opening = true then some (true) else some (a1.Conn.Eof))).bind (fun j1 => (if j1 = true then some ((0, a1)) else (splice_least_int.f ([(a2.Data.length : Int), IntKind.i64.wrap (4096 - (a1.Conn.ToGuest.length : Int))] : List Int)).bind fun r1 => (cut a2.Data 0 r1).bind fun x2 => (slices_Concat_s_byte_byte.f ([a1.Conn.ToGuest, x2] : List (List Int))).bind fun r2 => lt (⟨(⟨a1.Conn.Id, a1.Conn.Guest, a1.Conn.Gport, a1.Conn.Remote, a1.Conn.Rport, a1.Conn.Opening, a1.Conn.Up, a1.Conn.Done, a1.Conn.Begin, a1.Conn.Una, a1.Conn.Next, a1.Conn.Want, a1.Conn.Win, a1.Conn.Mss, a1.Conn.ToHost, r2, a1.Conn.Early, a1.Conn.Fin, a1.Conn.Eof, a1.Conn.Shut, a1.Conn.At, a1.Conn.Wait, a1.Conn.Tries⟩ : TConn), a1.now, a1.segs, a1.calls, a1.gone⟩ : Tstep) fun y1 => (splice_step_push.f y1).bind fun r3 => some ((r1, r3))))
set_option maxRecDepth 100000 in
set_option maxHeartbeats 4000000 in
theorem splice_step_more.spc (b1 : Nat) (a1 : Tstep) (v1 : Value) (a2 : TTell) (r : Int × Tstep) (H : splice_step_more.f a1 a2 = some r) : Spc Try.prog 36 [pt b1, v1] [Val KTell v1 a2] [Fld Kstep b1 0 a1] (fun (s : Unit) => .int .i64 r.1) (fun s => [Ent.pur (InR .i64 r.1), Fld Kstep b1 0 r.2]) := by
 unfold splice_step_more.f at H
 refine Spc.go Try.func36 rfl (by kernel_rfl) rfl rfl (all_cons (Val.per PTell) all_nil) fun F a w h => ?_
 refine Go.seq ?_
 refine Go.reg ?_
 refine gs h (o_box (K := KTell) rfl (pv_at PTell 0 rfl)) rfl fun b2 _ _ h => ?_
 refine ga h (o_assign rfl) rfl fun h => ?_
 refine GoR.done ?_
 refine Go.seq ?_
 refine Go.seq ?_
 obtain ⟨o1, H, G1⟩ := bindE H
 refine g_cut (fun G => ∀ j1 (a : Act) (w : World), o1 = j1 → St Try.f36.ntmps F [(0, pt b1), (3, pt b2), (17, .bool j1)] [Fld KTell b2 0 a2, Fld Kstep b1 0 a1] a w → G a w) 1 ?_ fun J1 => ?_
 ·intro j1 a w ho_ h
  rw [ho_] at G1
  have H := G1
  by_cases c2 : j1 = true
  ·have H := ifT c2 H
   refine g_t h rfl c2 ?_
   refine Go.seq ?_
   refine Go.reg ?_
   refine ga h (o_assign rfl) rfl fun h => ?_
   refine GoR.done ?_
   rw [← som H]
   exact g_ret (vs := [.int .i64 0]) h Try.func36 ⟨rfl, trivial⟩ ⟨(), rfl, ((h.mem.pick [1] (by decide) rfl).addpur (show InR .i64 0 by decide))⟩
  ·have H := ifF c2 H
   refine g_f h rfl c2 ?_
   refine Go.skip ?_
   refine Go.seq ?_
   replace h := h.wq [(0, pt b1), (3, pt b2)] [Fld KTell b2 0 a2, Fld Kstep b1 0 a1] [0, 1]
   refine Go.draw (E := [(0, pt b1), (3, pt b2)]) [] (L := [Fld KTell b2 0 a2, Fld Kstep b1 0 a1]) h rfl rfl 10 [cn (.pointer (some ⟨b2, 2, none⟩)), cw [0] [] [] fun u => [Val (Kd.sl (Kd.int .u8)) u a2.Data], cm [0, 1] [1] [] (.int .i64 (a2.Data.length : Int)) fun u => [], cn (pt b1), ce [3] (pt b1), ce [3, 4] (pt b1), ce [3, 4, 5] (.pointer (some ⟨b1, 15, none⟩)), cw [3, 4, 5, 6] [] [] fun u => [Val (Kd.sl (Kd.int .u8)) u a1.Conn.ToGuest], cm [3, 4, 5, 6, 7] [7] [] (.int .i64 (a1.Conn.ToGuest.length : Int)) fun u => [], ce [3, 4, 5, 6, 7, 8] (.int .i64 (IntKind.i64.wrap (4096 - (a1.Conn.ToGuest.length : Int))))] rfl t_mxo (by kernel_rfl) (by rfl) ?_ fun f1 _ _ h => ?_
   ·exact ox rfl (o_fa rfl t_f44_2 rfl rfl) (oy rfl (o_lfv 0 rfl rfl sTell_Data rfl Per_sl t_y23) (ox rfl (o_ln rfl (rd_at 0 rfl) t_v23) (ox rfl (o_move rfl) (ox rfl (o_nilc rfl) (ox rfl (o_fa rfl t_f75_0 rfl rfl) (ox rfl (o_fa rfl t_f26_15 rfl rfl) (oy rfl (o_lfv (K := Kstep) (pr := fun x => x.Conn.ToGuest) (y := a1) 1 rfl rfl t_sstep_Conn_ToGuest rfl Per_sl t_y23) (ox rfl (o_ln rfl (rd_at 0 rfl) t_v23) (ox rfl (o_bin rfl rfl rfl) (obs_nil))))))))))
   replace h := h.wk (E' := [(0, pt b1), (3, pt b2), (20, .int .i64 (a2.Data.length : Int)), (27, .int .i64 (IntKind.i64.wrap (4096 - (a1.Conn.ToGuest.length : Int))))]) (L' := [Val (Kd.sl (Kd.int .u8)) (f1 1) a2.Data, Val (Kd.sl (Kd.int .u8)) (f1 7) a1.Conn.ToGuest, Fld KTell b2 0 a2, Fld Kstep b1 0 a1]) (by kernel_rfl) [0, 1, 2, 3] (by decide) (by kernel_rfl)
   have g1 := (len_at 0 rfl h.mem)
   refine gs h (o_bs (K := (Kd.int .i64)) (vs := [.int .i64 (a2.Data.length : Int), .int .i64 (IntKind.i64.wrap (4096 - (a1.Conn.ToGuest.length : Int)))]) (xs := ([(a2.Data.length : Int), IntKind.i64.wrap (4096 - (a1.Conn.ToGuest.length : Int))] : List Int)) rfl rfl (pvs_cons (pv_int g1) (pvs_cons (pv_int (wrap_in _ _)) pvs_nil)) t_a95 (by decide) (by decide)) rfl fun v4 _ _ h => ?_
   replace h := h.mm fun m => m.freeze 0 rfl
   obtain ⟨r1, er1, H⟩ := bindE H
   refine ga h (o_call (splice_least_int.spc v4 ([(a2.Data.length : Int), IntKind.i64.wrap (4096 - (a1.Conn.ToGuest.length : Int))] : List Int) r1 er1) rfl [0] [] (by decide) rfl rfl) rfl fun h => ?_
   have g2 := h.mem.pur 0 rfl
   refine ga h (o_assign rfl) rfl fun h => ?_
   refine GoR.done ?_
   refine Go.seq ?_
   replace h := h.wq [(0, pt b1), (3, pt b2), (5, .int .i64 r1)] [Ent.pur (InR .i64 r1), Val (Kd.sl (Kd.int .i64)) v4 ([(a2.Data.length : Int), IntKind.i64.wrap (4096 - (a1.Conn.ToGuest.length : Int))] : List Int), Val (Kd.sl (Kd.int .u8)) (f1 1) a2.Data, Val (Kd.sl (Kd.int .u8)) (f1 7) a1.Conn.ToGuest, Fld KTell b2 0 a2, Fld Kstep b1 0 a1] [0, 1, 2, 3, 4, 5]
   obtain ⟨x2, ex2, H⟩ := bindE H
   obtain ⟨r2, er2, H⟩ := bindE H
   refine Go.draw (E := [(0, pt b1), (3, pt b2), (5, .int .i64 r1)]) [] (L := [Ent.pur (InR .i64 r1), Val (Kd.sl (Kd.int .i64)) v4 ([(a2.Data.length : Int), IntKind.i64.wrap (4096 - (a1.Conn.ToGuest.length : Int))] : List Int), Val (Kd.sl (Kd.int .u8)) (f1 1) a2.Data, Val (Kd.sl (Kd.int .u8)) (f1 7) a1.Conn.ToGuest, Fld KTell b2 0 a2, Fld Kstep b1 0 a1]) h rfl rfl 12 [cn (pt b1), cn (pt b1), ce [1] (pt b1), ce [1, 2] (pt b1), ce [1, 2, 3] (.pointer (some ⟨b1, 15, none⟩)), cw [1, 2, 3, 4] [] [] fun u => [Val (Kd.sl (Kd.int .u8)) u a1.Conn.ToGuest], cn (.pointer (some ⟨b2, 2, none⟩)), cw [6] [] [] fun u => [Val (Kd.sl (Kd.int .u8)) u a2.Data], cn (.int .i64 r1), cw [6, 7, 8] [7] [] fun u => [Val (Kd.sl (Kd.int .u8)) u x2], cw [1, 2, 3, 4, 5, 6, 7, 8, 9] [5, 9] [] fun u => [Val (Kd.sl (Kd.sl (Kd.int .u8))) u ([a1.Conn.ToGuest, x2] : List (List Int))], cw [1, 2, 3, 4, 5, 6, 7, 8, 9, 10] [10] [] fun u => [Val (Kd.osl (Kd.int .u8)) u r2]] rfl t_mxo (by kernel_rfl) (by rfl) ?_ fun f3 _ _ h => ?_
   ·exact ox rfl (o_move rfl) (ox rfl (o_move rfl) (ox rfl (o_nilc rfl) (ox rfl (o_fa rfl t_f75_0 rfl rfl) (ox rfl (o_fa rfl t_f26_15 rfl rfl) (oy rfl (o_lfv (K := Kstep) (pr := fun x => x.Conn.ToGuest) (y := a1) 5 rfl rfl t_sstep_Conn_ToGuest rfl Per_sl t_y23) (ox rfl (o_fa rfl t_f44_2 rfl rfl) (oy rfl (o_lfv 4 rfl rfl sTell_Data rfl Per_sl t_y23) (ox rfl (o_move rfl) (oy rfl (o_cuth rfl (pv_at Per_sl 0 rfl) rfl ex2 t_v23) (ow rfl rfl rfl (fun f3 => (OpS.mm (o_bs (K := (Kd.sl (Kd.int .u8))) (vs := [(f3 5), (f3 9)]) (xs := ([a1.Conn.ToGuest, x2] : List (List Int))) rfl rfl (pvs_cons (pv_at Per_sl 0 rfl) (pvs_cons (pv_at Per_sl 1 rfl) pvs_nil)) t_a100 (by decide) (by decide)) (fun _ _ _ m => m.freeze 0 rfl))) (ow rfl rfl rfl (fun f3 => (o_call (slices_Concat_s_byte_byte.spc (f3 10) ([a1.Conn.ToGuest, x2] : List (List Int)) r2 er2) rfl [0] [] (by decide) rfl rfl)) (obs_nil))))))))))))
   replace h := h.wk (E' := [(0, pt b1), (5, .int .i64 r1), (30, pt b1), (41, (f3 11))]) (L' := [Val (Kd.sl (Kd.int .u8)) (f3 5) a1.Conn.ToGuest, Val (Kd.sl (Kd.int .u8)) (f3 7) a2.Data, Val (Kd.sl (Kd.int .u8)) (f3 9) x2, Val (Kd.sl (Kd.sl (Kd.int .u8))) (f3 10) ([a1.Conn.ToGuest, x2] : List (List Int)), Val (Kd.osl (Kd.int .u8)) (f3 11) r2, Ent.pur (InR .i64 r1), Val (Kd.sl (Kd.int .i64)) v4 ([(a2.Data.length : Int), IntKind.i64.wrap (4096 - (a1.Conn.ToGuest.length : Int))] : List Int), Val (Kd.sl (Kd.int .u8)) (f1 1) a2.Data, Val (Kd.sl (Kd.int .u8)) (f1 7) a1.Conn.ToGuest, Fld KTell b2 0 a2, Fld Kstep b1 0 a1]) (by kernel_rfl) [0, 1, 2, 3, 4, 5, 6, 7, 8, 9, 10] (by decide) (by kernel_rfl)
   refine ga h (o_nilc rfl) rfl fun h => ?_
   refine ga h (o_fa rfl t_f75_0 rfl rfl) rfl fun h => ?_
   refine ga h (o_fa rfl t_f26_15 rfl rfl) rfl fun h => ?_
   replace h := h.mm fun m => m.freeze 4 rfl
   obtain ⟨y1, ey1, H⟩ := ltE H
   refine gs0 h (o_stp (x0 := a1) (y := r2) 10 t_ustep_15_1 rfl rfl rfl rfl (pv_at Per_sl 4 rfl) t_w23) fun _ _ _ h => ?_
   rw [ey1] at h
   refine GoR.done ?_
   refine Go.seq ?_
   refine Go.reg ?_
   refine mv h rfl rfl fun h => ?_
   obtain ⟨r3, er3, H⟩ := bindE H
   refine ga h (o_call (splice_step_push.spc b1 y1 r3 er3) rfl [] [10] (by decide) rfl rfl) rfl fun h => ?_
   refine GoR.done ?_
   refine Go.seq ?_
   refine Go.reg ?_
   refine mv h rfl rfl fun h => ?_
   refine ga h (o_assign rfl) rfl fun h => ?_
   refine GoR.done ?_
   rw [← som H]
   exact g_ret (vs := [.int .i64 r1]) h Try.func36 ⟨rfl, trivial⟩ ⟨(), rfl, ((h.mem.pick [0] (by decide) rfl).addpur g2)⟩
 refine Go.reg ?_
 refine mv h rfl rfl fun h => ?_
 refine ga h (o_nilc rfl) rfl fun h => ?_
 refine ga h (o_fa rfl t_f75_0 rfl rfl) rfl fun h => ?_
 refine ga h (o_fa rfl t_f26_5 rfl rfl) rfl fun h => ?_
 refine ga h (o_lfx 2 rfl rfl t_sstep_Conn_Opening rfl X_bool t_y4) rfl fun h => ?_
 refine mv h rfl rfl fun h => ?_
 by_cases c1 : a1.Conn.Opening = true
 ·have H := ifT c1 H
  iterate 5 (refine gk h rfl rfl (nb_t c1) rfl fun _ h => ?_)
  refine ga h (o_pickT rfl rfl c1) rfl fun h => ?_
  refine GoR.done ?_
  exact J1 true _ _ (som H).symm (h.wr [0, 2])
 ·have H := ifF c1 H
  refine gg h rfl rfl (nbF c1) (o_move rfl) rfl fun _ _ _ h => ?_
  refine gg h rfl rfl (nbF c1) (o_nilc rfl) rfl fun _ _ _ h => ?_
  refine gg h rfl rfl (nbF c1) (o_fa rfl t_f75_0 rfl rfl) rfl fun _ _ _ h => ?_
  refine gg h rfl rfl (nbF c1) (o_fa rfl t_f26_18 rfl rfl) rfl fun _ _ _ h => ?_
  refine gg h rfl rfl (nbF c1) (o_lfx 2 rfl rfl t_sstep_Conn_Eof rfl X_bool t_y4) rfl fun _ _ _ h => ?_
  refine ga h (o_pickF rfl rfl c1) rfl fun h => ?_
  refine GoR.done ?_
  exact J1 a1.Conn.Eof _ _ (som H).symm (h.wr [0, 2])
def splice_step_more.g (k_ : Nat) (a1 : Tstep) (a2 : TTell) : Option (Int × Tstep) :=
  ((if a1.Conn.Opening = true then some (true) else some (a1.Conn.Eof))).bind (fun j1 => (if j1 = true then some ((0, a1)) else (splice_least_int.g k_ ([(a2.Data.length : Int), IntKind.i64.wrap (4096 - (a1.Conn.ToGuest.length : Int))] : List Int)).bind fun r1 => (cut a2.Data 0 r1).bind fun x2 => (slices_Concat_s_byte_byte.g k_ ([a1.Conn.ToGuest, x2] : List (List Int))).bind fun r2 => lt (⟨(⟨a1.Conn.Id, a1.Conn.Guest, a1.Conn.Gport, a1.Conn.Remote, a1.Conn.Rport, a1.Conn.Opening, a1.Conn.Up, a1.Conn.Done, a1.Conn.Begin, a1.Conn.Una, a1.Conn.Next, a1.Conn.Want, a1.Conn.Win, a1.Conn.Mss, a1.Conn.ToHost, r2, a1.Conn.Early, a1.Conn.Fin, a1.Conn.Eof, a1.Conn.Shut, a1.Conn.At, a1.Conn.Wait, a1.Conn.Tries⟩ : TConn), a1.now, a1.segs, a1.calls, a1.gone⟩ : Tstep) fun y1 => (splice_step_push.g k_ y1).bind fun r3 => some ((r1, r3))))
theorem splice_step_more.le (k_ : Nat) (a1 : Tstep) (a2 : TTell) : Le (splice_step_more.g k_ a1 a2) (splice_step_more.f a1 a2) := by
 unfold splice_step_more.g splice_step_more.f
 repeat' (first | with_reducible refine le_loop fun _ => ?_ | with_reducible refine le_bind ?_ fun _ => ?_ | with_reducible refine le_ite ?_ ?_ | with_reducible refine le_lt fun _ => ?_ | with_reducible refine le_elim (fun _ => ?_) (fun _ => ?_) _ | with_reducible apply slices_Concat_s_byte_byte.le | with_reducible apply splice_least_int.le | with_reducible apply splice_step_push.le | with_reducible exact le_refl _)
/-! (*drawbridge/splice.step).eof -/
noncomputable def splice_step_eof.f (a1 : Tstep) (a2 : TTell) : Option (Int × Tstep) :=
  (((if (!a1.Conn.Opening) = true then some ((!a1.Conn.Eof)) else some (false))).bind (fun j1 => (if j1 = true then lt (⟨(⟨a1.Conn.Id, a1.Conn.Guest, a1.Conn.Gport, a1.Conn.Remote, a1.Conn.Rport, a1.Conn.Opening, a1.Conn.Up, a1.Conn.Done, a1.Conn.Begin, a1.Conn.Una, a1.Conn.Next, a1.Conn.Want, a1.Conn.Win, a1.Conn.Mss, a1.Conn.ToHost, a1.Conn.ToGuest, a1.Conn.Early, a1.Conn.Fin, true, a1.Conn.Shut, a1.Conn.At, a1.Conn.Wait, a1.Conn.Tries⟩ : TConn), a1.now, a1.segs, a1.calls, a1.gone⟩ : Tstep) fun y1 => (splice_step_push.f y1).bind fun r1 => some (r1) else some (a1)))).bind (fun j2 => some ((0, j2)))
set_option maxRecDepth 100000 in
set_option maxHeartbeats 4000000 in
theorem splice_step_eof.spc (b1 : Nat) (a1 : Tstep) (v1 : Value) (a2 : TTell) (r : Int × Tstep) (H : splice_step_eof.f a1 a2 = some r) : Spc Try.prog 37 [pt b1, v1] [Val KTell v1 a2] [Fld Kstep b1 0 a1] (fun (s : Unit) => .int .i64 r.1) (fun s => [Ent.pur (InR .i64 r.1), Fld Kstep b1 0 r.2]) := by
 unfold splice_step_eof.f at H
 refine Spc.go Try.func37 rfl (by kernel_rfl) rfl rfl (all_cons (Val.per PTell) all_nil) fun F a w h => ?_
 refine Go.seq ?_
 refine Go.reg ?_
 refine gs h (o_box (K := KTell) rfl (pv_at PTell 0 rfl)) rfl fun b2 _ _ h => ?_
 refine ga h (o_assign rfl) rfl fun h => ?_
 refine GoR.done ?_
 refine Go.seq ?_
 obtain ⟨o1, H, G1⟩ := bindE H
 refine g_cut (fun G => ∀ j2 (a : Act) (w : World), o1 = j2 → St Try.f37.ntmps F [] [Fld Kstep b1 0 j2, Fld KTell b2 0 a2] a w → G a w) 1 ?_ fun J2 => ?_
 ·intro j2 a w ho_ h
  rw [ho_] at G1
  have H := G1
  refine Go.seq ?_
  refine Go.reg ?_
  refine ga h (o_assign rfl) rfl fun h => ?_
  refine GoR.done ?_
  rw [← som H]
  exact g_ret (vs := [.int .i64 0]) h Try.func37 ⟨rfl, trivial⟩ ⟨(), rfl, ((h.mem.pick [0] (by decide) rfl).addpur (show InR .i64 0 by decide))⟩
 refine Go.seq ?_
 obtain ⟨o2, H, G2⟩ := bindE H
 refine g_cut (fun G => ∀ j1 (a : Act) (w : World), o2 = j1 → St Try.f37.ntmps F [(0, pt b1), (18, .bool j1)] [Fld KTell b2 0 a2, Fld Kstep b1 0 a1] a w → G a w) 1 ?_ fun J1 => ?_
 ·intro j1 a w ho_ h
  rw [ho_] at G2
  have H := G2
  by_cases c2 : j1 = true
  ·have H := ifT c2 H
   refine g_t h rfl c2 ?_
   refine Go.seq ?_
   refine Go.reg ?_
   refine mv h rfl rfl fun h => ?_
   refine ga h (o_nilc rfl) rfl fun h => ?_
   refine ga h (o_fa rfl t_f75_0 rfl rfl) rfl fun h => ?_
   refine ga h (o_fa rfl t_f26_18 rfl rfl) rfl fun h => ?_
   obtain ⟨y1, ey1, H⟩ := ltE H
   refine gs0 h (o_stp (x0 := a1) (y := true) 1 t_ustep_18_1 rfl rfl rfl rfl pv_bool t_w4) fun _ _ _ h => ?_
   rw [ey1] at h
   refine GoR.done ?_
   refine Go.reg ?_
   refine mv h rfl rfl fun h => ?_
   obtain ⟨r1, er1, H⟩ := bindE H
   refine ga h (o_call (splice_step_push.spc b1 y1 r1 er1) rfl [] [1] (by decide) rfl rfl) rfl fun h => ?_
   refine GoR.done ?_
   exact J2 r1 _ _ (som H).symm (h.wr [0, 1])
  ·have H := ifF c2 H
   refine g_f h rfl c2 ?_
   refine Go.skip ?_
   exact J2 a1 _ _ (som H).symm (h.wr [1, 0])
 refine Go.reg ?_
 refine mv h rfl rfl fun h => ?_
 refine ga h (o_nilc rfl) rfl fun h => ?_
 refine ga h (o_fa rfl t_f75_0 rfl rfl) rfl fun h => ?_
 refine ga h (o_fa rfl t_f26_5 rfl rfl) rfl fun h => ?_
 refine ga h (o_lfx 2 rfl rfl t_sstep_Conn_Opening rfl X_bool t_y4) rfl fun h => ?_
 refine ga h (o_not rfl) rfl fun h => ?_
 refine mv h rfl rfl fun h => ?_
 by_cases c1 : (!a1.Conn.Opening) = true
 ·have H := ifT c1 H
  refine gg h rfl rfl c1 (o_move rfl) rfl fun _ _ _ h => ?_
  refine gg h rfl rfl c1 (o_nilc rfl) rfl fun _ _ _ h => ?_
  refine gg h rfl rfl c1 (o_fa rfl t_f75_0 rfl rfl) rfl fun _ _ _ h => ?_
  refine gg h rfl rfl c1 (o_fa rfl t_f26_18 rfl rfl) rfl fun _ _ _ h => ?_
  refine gg h rfl rfl c1 (o_lfx 2 rfl rfl t_sstep_Conn_Eof rfl X_bool t_y4) rfl fun _ _ _ h => ?_
  refine gg h rfl rfl c1 (o_not rfl) rfl fun _ _ _ h => ?_
  refine ga h (o_pickT rfl rfl c1) rfl fun h => ?_
  refine GoR.done ?_
  exact J1 (!a1.Conn.Eof) _ _ (som H).symm (h.wr [0, 2])
 ·have H := ifF c1 H
  iterate 6 (refine gk h rfl rfl (nb_f c1) rfl fun _ h => ?_)
  refine ga h (o_pickF rfl rfl c1) rfl fun h => ?_
  refine GoR.done ?_
  exact J1 false _ _ (som H).symm (h.wr [0, 2])
def splice_step_eof.g (k_ : Nat) (a1 : Tstep) (a2 : TTell) : Option (Int × Tstep) :=
  (((if (!a1.Conn.Opening) = true then some ((!a1.Conn.Eof)) else some (false))).bind (fun j1 => (if j1 = true then lt (⟨(⟨a1.Conn.Id, a1.Conn.Guest, a1.Conn.Gport, a1.Conn.Remote, a1.Conn.Rport, a1.Conn.Opening, a1.Conn.Up, a1.Conn.Done, a1.Conn.Begin, a1.Conn.Una, a1.Conn.Next, a1.Conn.Want, a1.Conn.Win, a1.Conn.Mss, a1.Conn.ToHost, a1.Conn.ToGuest, a1.Conn.Early, a1.Conn.Fin, true, a1.Conn.Shut, a1.Conn.At, a1.Conn.Wait, a1.Conn.Tries⟩ : TConn), a1.now, a1.segs, a1.calls, a1.gone⟩ : Tstep) fun y1 => (splice_step_push.g k_ y1).bind fun r1 => some (r1) else some (a1)))).bind (fun j2 => some ((0, j2)))
theorem splice_step_eof.le (k_ : Nat) (a1 : Tstep) (a2 : TTell) : Le (splice_step_eof.g k_ a1 a2) (splice_step_eof.f a1 a2) := by
 unfold splice_step_eof.g splice_step_eof.f
 repeat' (first | with_reducible refine le_loop fun _ => ?_ | with_reducible refine le_bind ?_ fun _ => ?_ | with_reducible refine le_ite ?_ ?_ | with_reducible refine le_lt fun _ => ?_ | with_reducible refine le_elim (fun _ => ?_) (fun _ => ?_) _ | with_reducible apply splice_step_push.le | with_reducible exact le_refl _)
/-! (*drawbridge/splice.step).call -/
noncomputable def splice_step_call.f (a1 : Tstep) (a2 : Int) (a3 : List Int) : Option (Tstep) :=
  (slices_Clone_s_byte_byte.f a3).bind fun r2 => (app a1.calls ([(⟨a2, a1.Conn.Id, 0, 0, r2⟩ : TCall)] : List TCall)).bind fun x1 => some ((⟨a1.Conn, a1.now, a1.segs, x1, a1.gone⟩ : Tstep))
set_option maxRecDepth 100000 in
set_option maxHeartbeats 4000000 in
theorem splice_step_call.spc (b1 : Nat) (a1 : Tstep) (a2 : Int) (ha2 : InR .i64 a2) (v1 : Value) (a3 : List Int) (r : Tstep) (H : splice_step_call.f a1 a2 a3 = some r) : Spc Try.prog 40 [pt b1, .int .i64 a2, v1] [Val (Kd.sl (Kd.int .u8)) v1 a3] [Fld Kstep b1 0 a1] (fun (s : Unit) => .tuple #[]) (fun s => [Fld Kstep b1 0 r]) := by
 unfold splice_step_call.f at H
 refine Spc.go Try.func40 rfl (by kernel_rfl) rfl rfl (all_cons (Val.per Per_sl) all_nil) fun F a w h => ?_
 replace h := h.mm fun m => (m.take (i := 1) rfl).opn (cstep _ _)
 obtain ⟨v2, h⟩ := h.unp 2 rfl
 obtain ⟨v3, h⟩ := h.unp 4 rfl
 replace h := h.wq [(0, pt b1), (1, .int .i64 a2), (2, v1)] [Val (Kd.osl KCall) v3 a1.calls, Fld (Kd.eq v3) b1 25 (), Fld (Kd.eq v2) b1 24 (), Fld KConn b1 0 a1.Conn, Fld (Kd.int .i64) b1 23 a1.now, Val (Kd.osl KSeg) v2 a1.segs, Fld Kd.bool b1 26 a1.gone, Val (Kd.sl (Kd.int .u8)) v1 a3] [5, 0, 1, 2, 3, 4, 6, 7]
 obtain ⟨r2, er2, H⟩ := bindE H
 obtain ⟨x1, ex1, H⟩ := bindE H
 refine Go.draw (E := [(0, pt b1), (1, .int .i64 a2), (2, v1)]) [] (L := [Fld (Kd.eq v3) b1 25 (), Fld (Kd.eq v2) b1 24 (), Fld KConn b1 0 a1.Conn, Fld (Kd.int .i64) b1 23 a1.now, Val (Kd.osl KSeg) v2 a1.segs, Fld Kd.bool b1 26 a1.gone, Val (Kd.sl (Kd.int .u8)) v1 a3]) h rfl rfl 16 [cn (pt b1), cn (pt b1), ce [1] (pt b1), ce [1, 2] (.pointer (some ⟨b1, 25, none⟩)), ce [1, 2, 3] (v3), cn (.int .i64 a2), cn (pt b1), ce [6] (pt b1), ce [6, 7] (pt b1), ce [6, 7, 8] (pt b1), cm [6, 7, 8, 9] [] [] (.int .i64 a1.Conn.Id) fun u => [Ent.pur (InR .i64 a1.Conn.Id)], cn (v1), cw [11] [] [] fun u => [Val (Kd.sl (Kd.int .u8)) u r2], cw [5, 6, 7, 8, 9, 10, 11, 12] [10, 12] [] fun u => [Val KCall u (⟨a2, a1.Conn.Id, 0, 0, r2⟩ : TCall)], cw [5, 6, 7, 8, 9, 10, 11, 12, 13] [13] [] fun u => [Val (Kd.osl KCall) u ([(⟨a2, a1.Conn.Id, 0, 0, r2⟩ : TCall)] : List TCall)], cw [1, 2, 3, 4, 5, 6, 7, 8, 9, 10, 11, 12, 13, 14] [16, 14] [16] fun u => [Val (Kd.osl KCall) u x1], cm [] [] [] undef fun u => [Val (Kd.osl KCall) v3 a1.calls]] rfl t_mxo (by kernel_rfl) (by rfl) ?_ fun f3 _ _ h => ?_
 ·exact ox rfl (o_move rfl) (ox rfl (o_move rfl) (ox rfl (o_nilc rfl) (ox rfl (o_fa rfl t_f75_3 rfl rfl) (ox rfl (o_ldx 0 rfl rfl X_eq t_y32) (ox rfl (o_move rfl) (ox rfl (o_move rfl) (ox rfl (o_nilc rfl) (ox rfl (o_fa rfl t_f75_0 rfl rfl) (ox rfl (o_fa rfl t_f26_0 rfl rfl) (ox rfl (OpS.pur (fun F w m_ => (in2 (fd_sub sConn_Id 2 rfl m_))) (o_lfx 2 rfl rfl sConn_Id rfl X_int t_y3)) (ox rfl (o_move rfl) (oy rfl (OpS.mm (o_call (slices_Clone_s_byte_byte.spc v1 a3 r2 er2) rfl [6] [] (by decide) rfl rfl) (fun _ _ _ m => m.freeze 0 rfl)) (ow rfl rfl rfl (fun f3 => (OpS.fact (p := InR .i64 a1.Conn.Id) (fun F w m_ => (Mem.pur 0 rfl m_)) fun g2 => (OpS.fact (p := InR .i64 a1.Conn.Id) (fun F w m_ => (Mem.pur 0 rfl m_)) fun g3 => (o_build (K := KCall) (x := (⟨a2, a1.Conn.Id, 0, 0, r2⟩ : TCall)) (ps := [(0, .int .i64 a2), (1, .int .i64 a1.Conn.Id), (4, (f3 12))]) rfl (zs := zsCall) rfl t_b37 rfl (show PB (Kd.pair (Kd.int .i64) (Kd.pair (Kd.int .i64) (Kd.pair (Kd.int .u32) (Kd.pair (Kd.int .i64) (Kd.last (Kd.sl (Kd.int .u8))))))) (a2, a1.Conn.Id, 0, 0, r2) 0 zsCall _ _ from (pb_part (pv_int ha2) rfl (pb_part (pv_int g3) rfl (pb_zero z_int (pb_zero z_int (pb_lastp (pv_at Per_sl 1 rfl) rfl)))))))))) (ow rfl rfl rfl (fun f3 => (o_bs (K := KCall) (vs := [(f3 13)]) (xs := ([(⟨a2, a1.Conn.Id, 0, 0, r2⟩ : TCall)] : List TCall)) rfl rfl (pvs_cons (pv_at PCall 0 rfl) pvs_nil) t_a32 (by decide) (by decide))) (oy rfl (o_app (K := KCall) 0 rfl rfl rfl (rd_own 1 rfl) ex1 t_a32 t_n32) (obs_nil))))))))))))))))
 replace h := h.wk (E' := [(6, pt b1), (21, (f3 15))]) (L' := [Ent.pur (InR .i64 a1.Conn.Id), Val (Kd.sl (Kd.int .u8)) (f3 12) r2, Val KCall (f3 13) (⟨a2, a1.Conn.Id, 0, 0, r2⟩ : TCall), Val (Kd.osl KCall) (f3 14) ([(⟨a2, a1.Conn.Id, 0, 0, r2⟩ : TCall)] : List TCall), Val (Kd.osl KCall) (f3 15) x1, Fld (Kd.eq v3) b1 25 (), Fld (Kd.eq v2) b1 24 (), Fld KConn b1 0 a1.Conn, Fld (Kd.int .i64) b1 23 a1.now, Val (Kd.osl KSeg) v2 a1.segs, Fld Kd.bool b1 26 a1.gone, Val (Kd.sl (Kd.int .u8)) v1 a3]) (by kernel_rfl) [0, 1, 2, 3, 4, 5, 6, 7, 8, 9, 10, 11] (by decide) (by kernel_rfl)
 refine ga h (o_nilc rfl) rfl fun h => ?_
 refine ga h (o_fa rfl t_f75_3 rfl rfl) rfl fun h => ?_
 refine gs0 h (o_st 5 rfl rfl rfl (pv_eqo 4 rfl) rfl t_w32) fun _ _ _ h => ?_
 refine GoR.done ?_
 replace h := h.mm fun m => (m.pull (Lo := [Fld (Kd.eq v2) b1 24 (), Val (Kd.osl KSeg) v2 a1.segs]) [6, 9] (by decide) rfl).pck
 replace h := h.mm fun m => (m.pull (Lo := [Fld (Kd.eq (f3 15)) b1 25 (), Val (Kd.osl KCall) (f3 15) x1]) [6, 5] (by decide) rfl).pck
 replace h := h.mm fun m => (m.pull (Lo := [Fld KConn b1 0 a1.Conn, Fld (Kd.int .i64) b1 23 a1.now, Fld (Kd.osl KSeg) b1 24 a1.segs, Fld (Kd.osl KCall) b1 25 x1, Fld Kd.bool b1 26 a1.gone]) [9, 10, 1, 0, 12] (by decide) rfl).cls (cstep _ (⟨a1.Conn, a1.now, a1.segs, x1, a1.gone⟩ : Tstep))
 rw [← som H]
 exact g_fin (vs := []) h Try.func40 trivial ⟨(), rfl, (h.mem.pick [0] (by decide) rfl)⟩
def splice_step_call.g (k_ : Nat) (a1 : Tstep) (a2 : Int) (a3 : List Int) : Option (Tstep) :=
  (slices_Clone_s_byte_byte.g k_ a3).bind fun r2 => (app a1.calls ([(⟨a2, a1.Conn.Id, 0, 0, r2⟩ : TCall)] : List TCall)).bind fun x1 => some ((⟨a1.Conn, a1.now, a1.segs, x1, a1.gone⟩ : Tstep))
theorem splice_step_call.le (k_ : Nat) (a1 : Tstep) (a2 : Int) (a3 : List Int) : Le (splice_step_call.g k_ a1 a2 a3) (splice_step_call.f a1 a2 a3) := by
 unfold splice_step_call.g splice_step_call.f
 repeat' (first | with_reducible refine le_loop fun _ => ?_ | with_reducible refine le_bind ?_ fun _ => ?_ | with_reducible refine le_ite ?_ ?_ | with_reducible refine le_lt fun _ => ?_ | with_reducible refine le_elim (fun _ => ?_) (fun _ => ?_) _ | with_reducible apply slices_Clone_s_byte_byte.le | with_reducible exact le_refl _)
/-! (*drawbridge/splice.step).ack -/
noncomputable def splice_step_ack.f (a1 : Tstep) : Option (Tstep) :=
  (splice_step_say.f a1 a1.Conn.Next 0 []).bind fun r1 => some (r1)
set_option maxRecDepth 100000 in
set_option maxHeartbeats 4000000 in
theorem splice_step_ack.spc (b1 : Nat) (a1 : Tstep) (r : Tstep) (H : splice_step_ack.f a1 = some r) : Spc Try.prog 50 [pt b1] [] [Fld Kstep b1 0 a1] (fun (s : Unit) => .tuple #[]) (fun s => [Fld Kstep b1 0 r]) := by
 unfold splice_step_ack.f at H
 refine Spc.go Try.func50 rfl (by kernel_rfl) rfl rfl all_nil fun F a w h => ?_
 refine Go.reg ?_
 refine mv h rfl rfl fun h => ?_
 refine mv h rfl rfl fun h => ?_
 refine ga h (o_nilc rfl) rfl fun h => ?_
 refine ga h (o_fa rfl t_f75_0 rfl rfl) rfl fun h => ?_
 refine ga h (o_fa rfl t_f26_10 rfl rfl) rfl fun h => ?_
 have g1 := (in2 (fd_sub t_sstep_Conn_Next 0 rfl h.mem))
 refine ga h (o_lfx 0 rfl rfl t_sstep_Conn_Next rfl X_int t_y22) rfl fun h => ?_
 replace h := h.mm fun m => (pv_nil (K := (Kd.int .u8))).ent m
 obtain ⟨r1, er1, H⟩ := bindE H
 refine ga h (o_call (splice_step_say.spc b1 a1 a1.Conn.Next g1 0 (show InR .i64 0 by decide) (.slice none 0 0) [] r1 er1) rfl [0] [1] (by decide) rfl rfl) rfl fun h => ?_
 refine GoR.done ?_
 rw [← som H]
 exact g_fin (vs := []) h Try.func50 trivial ⟨(), rfl, (h.mem.pick [0] (by decide) rfl)⟩
def splice_step_ack.g (k_ : Nat) (a1 : Tstep) : Option (Tstep) :=
  (splice_step_say.g k_ a1 a1.Conn.Next 0 []).bind fun r1 => some (r1)
theorem splice_step_ack.le (k_ : Nat) (a1 : Tstep) : Le (splice_step_ack.g k_ a1) (splice_step_ack.f a1) := by
 unfold splice_step_ack.g splice_step_ack.f
 repeat' (first | with_reducible refine le_loop fun _ => ?_ | with_reducible refine le_bind ?_ fun _ => ?_ | with_reducible refine le_ite ?_ ?_ | with_reducible refine le_lt fun _ => ?_ | with_reducible refine le_elim (fun _ => ?_) (fun _ => ?_) _ | with_reducible apply splice_step_say.le | with_reducible exact le_refl _)
/-! (*drawbridge/splice.step).shut -/
noncomputable def splice_step_shut.f (a1 : Tstep) : Option (Tstep) :=
  ((if a1.Conn.Fin = true then (if (!a1.Conn.Shut) = true then some (decide ((a1.Conn.ToHost.length : Int) = 0)) else some (false)) else some (false))).bind (fun j1 => (if j1 = true then lt (⟨(⟨a1.Conn.Id, a1.Conn.Guest, a1.Conn.Gport, a1.Conn.Remote, a1.Conn.Rport, a1.Conn.Opening, a1.Conn.Up, a1.Conn.Done, a1.Conn.Begin, a1.Conn.Una, a1.Conn.Next, a1.Conn.Want, a1.Conn.Win, a1.Conn.Mss, a1.Conn.ToHost, a1.Conn.ToGuest, a1.Conn.Early, a1.Conn.Fin, a1.Conn.Eof, true, a1.Conn.At, a1.Conn.Wait, a1.Conn.Tries⟩ : TConn), a1.now, a1.segs, a1.calls, a1.gone⟩ : Tstep) fun y1 => (splice_step_call.f y1 3 []).bind fun r1 => some (r1) else some (a1)))
set_option maxRecDepth 100000 in
set_option maxHeartbeats 4000000 in
theorem splice_step_shut.spc (b1 : Nat) (a1 : Tstep) (r : Tstep) (H : splice_step_shut.f a1 = some r) : Spc Try.prog 57 [pt b1] [] [Fld Kstep b1 0 a1] (fun (s : Unit) => .tuple #[]) (fun s => [Fld Kstep b1 0 r]) := by
 unfold splice_step_shut.f at H
 refine Spc.go Try.func57 rfl (by kernel_rfl) rfl rfl all_nil fun F a w h => ?_
 refine Go.seq ?_
 obtain ⟨o1, H, G1⟩ := bindE H
 refine g_cut (fun G => ∀ j1 (a : Act) (w : World), o1 = j1 → St Try.f57.ntmps F [(0, pt b1), (23, .bool j1)] [Fld Kstep b1 0 a1] a w → G a w) 1 ?_ fun J1 => ?_
 ·intro j1 a w ho_ h
  rw [ho_] at G1
  have H := G1
  by_cases c3 : j1 = true
  ·have H := ifT c3 H
   refine g_t h rfl c3 ?_
   refine Go.seq ?_
   refine Go.reg ?_
   refine mv h rfl rfl fun h => ?_
   refine ga h (o_nilc rfl) rfl fun h => ?_
   refine ga h (o_fa rfl t_f75_0 rfl rfl) rfl fun h => ?_
   refine ga h (o_fa rfl t_f26_19 rfl rfl) rfl fun h => ?_
   obtain ⟨y1, ey1, H⟩ := ltE H
   refine gs0 h (o_stp (x0 := a1) (y := true) 0 t_ustep_19_1 rfl rfl rfl rfl pv_bool t_w4) fun _ _ _ h => ?_
   rw [ey1] at h
   refine GoR.done ?_
   refine Go.reg ?_
   refine mv h rfl rfl fun h => ?_
   replace h := h.mm fun m => (pv_nil (K := (Kd.int .u8))).ent m
   obtain ⟨r1, er1, H⟩ := bindE H
   refine ga h (o_call (splice_step_call.spc b1 y1 3 (show InR .i64 3 by decide) (.slice none 0 0) [] r1 er1) rfl [0] [1] (by decide) rfl rfl) rfl fun h => ?_
   refine GoR.done ?_
   rw [← som H]
   exact g_fin (vs := []) h Try.func57 trivial ⟨(), rfl, (h.mem.pick [0] (by decide) rfl)⟩
  ·have H := ifF c3 H
   refine g_f h rfl c3 ?_
   refine Go.skip ?_
   rw [← som H]
   exact g_fin (vs := []) h Try.func57 trivial ⟨(), rfl, (h.mem.pick [0] (by decide) rfl)⟩
 refine Go.reg ?_
 refine mv h rfl rfl fun h => ?_
 refine ga h (o_nilc rfl) rfl fun h => ?_
 refine ga h (o_fa rfl t_f75_0 rfl rfl) rfl fun h => ?_
 refine ga h (o_fa rfl t_f26_17 rfl rfl) rfl fun h => ?_
 refine ga h (o_lfx 0 rfl rfl t_sstep_Conn_Fin rfl X_bool t_y4) rfl fun h => ?_
 refine mv h rfl rfl fun h => ?_
 by_cases c1 : a1.Conn.Fin = true
 ·have H := ifT c1 H
  refine gg h rfl rfl c1 (o_move rfl) rfl fun _ _ _ h => ?_
  refine gg h rfl rfl c1 (o_nilc rfl) rfl fun _ _ _ h => ?_
  refine gg h rfl rfl c1 (o_fa rfl t_f75_0 rfl rfl) rfl fun _ _ _ h => ?_
  refine gg h rfl rfl c1 (o_fa rfl t_f26_19 rfl rfl) rfl fun _ _ _ h => ?_
  refine gg h rfl rfl c1 (o_lfx 0 rfl rfl t_sstep_Conn_Shut rfl X_bool t_y4) rfl fun _ _ _ h => ?_
  refine gg h rfl rfl c1 (o_not rfl) rfl fun _ _ _ h => ?_
  refine ga h (o_pickT rfl rfl c1) rfl fun h => ?_
  refine mv h rfl rfl fun h => ?_
  by_cases c2 : (!a1.Conn.Shut) = true
  ·have H := ifT c2 H
   refine gg h rfl rfl c2 (o_move rfl) rfl fun _ _ _ h => ?_
   refine gg h rfl rfl c2 (o_nilc rfl) rfl fun _ _ _ h => ?_
   refine gg h rfl rfl c2 (o_fa rfl t_f75_0 rfl rfl) rfl fun _ _ _ h => ?_
   refine gg h rfl rfl c2 (o_fa rfl t_f26_14 rfl rfl) rfl fun _ _ _ h => ?_
   refine gg h rfl rfl c2 (o_lfv 0 rfl rfl t_sstep_Conn_ToHost rfl Per_sl t_y23) rfl fun v1 _ _ h => ?_
   have g1 := (len_at 0 rfl h.mem)
   refine gg h rfl rfl c2 (o_ln rfl (rd_at 0 rfl) t_v23) rfl fun _ _ _ h => ?_
   refine gg h rfl rfl c2 (o_bin rfl rfl rfl) rfl fun _ _ _ h => ?_
   refine ga h (o_pickT rfl rfl c2) rfl fun h => ?_
   refine GoR.done ?_
   exact J1 (decide ((a1.Conn.ToHost.length : Int) = 0)) _ _ (som H).symm (h.wr [1])
  ·have H := ifF c2 H
   iterate 7 (refine gk h rfl rfl (nb_f c2) rfl fun _ h => ?_)
   refine ga h (o_pickF rfl rfl c2) rfl fun h => ?_
   refine GoR.done ?_
   exact J1 false _ _ (som H).symm (h.wr [0])
 ·have H := ifF c1 H
  iterate 6 (refine gk h rfl rfl (nb_f c1) rfl fun _ h => ?_)
  refine ga h (o_pickF rfl rfl c1) rfl fun h => ?_
  refine mv h rfl rfl fun h => ?_
  iterate 7 (refine gk h rfl rfl (nb_f Bool.false_ne_true) rfl fun _ h => ?_)
  refine ga h (o_pickF rfl rfl Bool.false_ne_true) rfl fun h => ?_
  refine GoR.done ?_
  exact J1 false _ _ (som H).symm (h.wr [0])
def splice_step_shut.g (k_ : Nat) (a1 : Tstep) : Option (Tstep) :=
  ((if a1.Conn.Fin = true then (if (!a1.Conn.Shut) = true then some (decide ((a1.Conn.ToHost.length : Int) = 0)) else some (false)) else some (false))).bind (fun j1 => (if j1 = true then lt (⟨(⟨a1.Conn.Id, a1.Conn.Guest, a1.Conn.Gport, a1.Conn.Remote, a1.Conn.Rport, a1.Conn.Opening, a1.Conn.Up, a1.Conn.Done, a1.Conn.Begin, a1.Conn.Una, a1.Conn.Next, a1.Conn.Want, a1.Conn.Win, a1.Conn.Mss, a1.Conn.ToHost, a1.Conn.ToGuest, a1.Conn.Early, a1.Conn.Fin, a1.Conn.Eof, true, a1.Conn.At, a1.Conn.Wait, a1.Conn.Tries⟩ : TConn), a1.now, a1.segs, a1.calls, a1.gone⟩ : Tstep) fun y1 => (splice_step_call.g k_ y1 3 []).bind fun r1 => some (r1) else some (a1)))
theorem splice_step_shut.le (k_ : Nat) (a1 : Tstep) : Le (splice_step_shut.g k_ a1) (splice_step_shut.f a1) := by
 unfold splice_step_shut.g splice_step_shut.f
 repeat' (first | with_reducible refine le_loop fun _ => ?_ | with_reducible refine le_bind ?_ fun _ => ?_ | with_reducible refine le_ite ?_ ?_ | with_reducible refine le_lt fun _ => ?_ | with_reducible refine le_elim (fun _ => ?_) (fun _ => ?_) _ | with_reducible apply splice_step_call.le | with_reducible exact le_refl _)
end Go.Proofs.Ytpcbhkigmnpimaa.S
