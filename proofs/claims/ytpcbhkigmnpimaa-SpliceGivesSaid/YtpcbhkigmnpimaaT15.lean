/- Contracts, printed by a program of this session. -/
import Derived.Test.YtpcbhkigmnpimaaT1
import Derived.Test.YtpcbhkigmnpimaaT13
import Derived.Test.YtpcbhkigmnpimaaT14
namespace Go.Proofs.Ytpcbhkigmnpimaa.S
open Go Go.SL Go.RowKit
set_option linter.unusedVariables false
set_option linter.unusedSimpArgs false
/-! drawbridge/drawbridgelaw28.SpliceGives -/
noncomputable def law28_SpliceGives.f (a1 : TSeg) (a2 : Int) (a3 : Int) (a4 : List TEv) : Option (Bool) :=
  (law28_fits.f a4).bind fun r1 => (if (!r1) = true then (law28_heads.f).bind fun r2 => some (r2) else (law28_begin.f a1 a2).bind fun r3 => (if (!r3.2) = true then (law28_heads.f).bind fun r4 => some (r4) else (r3.1).bind fun y1 => (loop (fun s1 => ((if decide (s1.1 < (a4.length : Int)) = true then some ((!s1.2.gone)) else some (false))).bind (fun j1 => (if j1 = true then (idx a4 s1.1).bind fun x1 => (app ([] : List Int) x1.Seg.Data).bind fun x2 => (loop (fun s2 => (if decide (s2.1 < (s2.2.Seg.Data.length : Int)) = true then (law28_stream.f a3 (IntKind.u32.wrap ((IntKind.u32.wrap ((IntKind.u32.wrap (s2.2.Seg.Seq + (IntKind.u32.wrap s2.1))) - a1.Seq)) - 1))).bind fun r5 => (idx s2.2.Seg.Data s2.1).bind fun x3 => lt (s2.2.Seg.Data.set s2.1.toNat r5) fun y2 => lt (IntKind.i64.wrap (s2.1 + 1)) fun y3 => some (.inl (y3, (⟨s2.2.Kind, (⟨s2.2.Seg.Src, s2.2.Seg.Dst, s2.2.Seg.Seq, s2.2.Seg.Ack, s2.2.Seg.Flags, s2.2.Seg.Win, s2.2.Seg.Mss, y2⟩ : TSeg), s2.2.Tell, s2.2.N⟩ : TEv))) else some (.inr (s2.2)))) (0, (⟨x1.Kind, (⟨x1.Seg.Src, x1.Seg.Dst, x1.Seg.Seq, x1.Seg.Ack, x1.Seg.Flags, x1.Seg.Win, x1.Seg.Mss, x2⟩ : TSeg), x1.Tell, x1.N⟩ : TEv))).bind (fun j2 => (law28_play_do.f s1.2 j2).bind fun r6 => lt (IntKind.i64.wrap (s1.1 + 1)) fun y4 => some (.inl (y4, r6))) else some (.inr (s1.2))))) (0, y1)).bind (fun j3 => (loop (fun s3 => (if decide (s3 < (j3.given.length : Int)) = true then (idx j3.given s3).bind fun x4 => (law28_stream.f a3 (IntKind.u32.wrap s3)).bind fun r7 => (if (!decide (x4 = r7)) = true then some (.inr (.inr (false))) else lt (IntKind.i64.wrap (s3 + 1)) fun y5 => some (.inl y5)) else some (.inr (.inl (()))))) 0).bind (Sum.elim (fun j4 => (law28_heads.f).bind fun r8 => some (r8)) (fun z_ => some (z_))))))
set_option maxRecDepth 100000 in
set_option maxHeartbeats 4000000 in
theorem law28_SpliceGives.spc (v1 : Value) (a1 : TSeg) (a2 : Int) (ha2 : InR .u32 a2) (a3 : Int) (ha3 : InR .u32 a3) (v2 : Value) (a4 : List TEv) (r : Bool) (H : law28_SpliceGives.f a1 a2 a3 a4 = some r) : Spc Try.prog 6 [v1, .int .u32 a2, .int .u32 a3, v2] [Val KSeg v1 a1, Val (Kd.sl KEv) v2 a4] [] (fun (s : Unit) => .bool r) (fun s => []) := by
 unfold law28_SpliceGives.f at H
 refine Spc.go Try.func6 rfl (by kernel_rfl) rfl rfl (all_cons (Val.per PSeg) (all_cons (Val.per Per_sl) all_nil)) fun F a w h => ?_
 refine Go.seq ?_
 refine Go.reg ?_
 refine gs h (o_box (K := KSeg) rfl (pv_at PSeg 0 rfl)) rfl fun b1 _ _ h => ?_
 refine ga h (o_assign rfl) rfl fun h => ?_
 refine GoR.done ?_
 refine Go.seq ?_
 refine Go.seq ?_
 refine Go.reg ?_
 refine mv h rfl rfl fun h => ?_
 obtain ⟨r1, er1, H⟩ := bindE H
 refine ga h (o_call (law28_fits.spc v2 a4 r1 er1) rfl [2] [] (by decide) rfl rfl) rfl fun h => ?_
 refine ga h (o_not rfl) rfl fun h => ?_
 refine GoR.done ?_
 by_cases c1 : (!r1) = true
 ·have H := ifT c1 H
  refine g_t h rfl c1 ?_
  refine Go.seq ?_
  refine Go.reg ?_
  obtain ⟨r2, er2, H⟩ := bindE H
  refine ga h (o_call (law28_heads.spc  r2 er2) rfl [] [] (by decide) rfl rfl) rfl fun h => ?_
  refine ga h (o_assign rfl) rfl fun h => ?_
  refine GoR.done ?_
  rw [← som H]
  exact g_ret (vs := [.bool r2]) h Try.func6 ⟨rfl, trivial⟩ ⟨(), rfl, (h.mem.pick [] (by decide) rfl)⟩
 ·have H := ifF c1 H
  refine g_f h rfl c1 ?_
  refine Go.skip ?_
  refine Go.seq ?_
  refine Go.reg ?_
  refine gs h (o_ldv 0 rfl rfl PSeg t_y30) rfl fun v3 _ _ h => ?_
  refine mv h rfl rfl fun h => ?_
  obtain ⟨r3, er3, H⟩ := bindE H
  refine gs h (o_call (law28_begin.spc v3 a1 a2 ha2 r3 er3) rfl [0] [] (by decide) rfl rfl) rfl fun v4 _ _ h => ?_
  refine mv h rfl rfl fun h => ?_
  refine ga h (o_extract rfl rfl) rfl fun h => ?_
  refine ga h (o_extract rfl rfl) rfl fun h => ?_
  refine ga h (o_assign rfl) rfl fun h => ?_
  refine ga h (o_assign rfl) rfl fun h => ?_
  refine GoR.done ?_
  refine Go.seq ?_
  refine Go.seq ?_
  refine Go.reg ?_
  refine mv h rfl rfl fun h => ?_
  refine ga h (o_not rfl) rfl fun h => ?_
  refine GoR.done ?_
  by_cases c2 : (!r3.2) = true
  ·have H := ifT c2 H
   refine g_t h rfl c2 ?_
   refine Go.seq ?_
   refine Go.reg ?_
   obtain ⟨r4, er4, H⟩ := bindE H
   refine ga h (o_call (law28_heads.spc  r4 er4) rfl [] [] (by decide) rfl rfl) rfl fun h => ?_
   refine ga h (o_assign rfl) rfl fun h => ?_
   refine GoR.done ?_
   rw [← som H]
   exact g_ret (vs := [.bool r4]) h Try.func6 ⟨rfl, trivial⟩ ⟨(), rfl, (h.mem.pick [] (by decide) rfl)⟩
  ·have H := ifF c2 H
   refine g_f h rfl c2 ?_
   refine Go.skip ?_
   refine Go.seq ?_
   refine Go.seq ?_
   refine Go.reg ?_
   refine ga h (o_assign rfl) rfl fun h => ?_
   refine GoR.done ?_
   refine Go.block ?_
   obtain ⟨y1, ey1, H⟩ := bindE H
   obtain ⟨b2, eb2, h⟩ := h.unb 0 rfl ey1
   subst eb2
   obtain ⟨o1, hl, G1⟩ := bindE H
   refine g_cut (fun G => ∀ j3 (a : Act) (w : World), o1 = j3 → St Try.f6.ntmps F [(2, .int .u32 a3), (9, pt b2)] [Fld Kplay b2 0 j3, Fld KSeg b1 0 a1] a w → G a w) 2 ?_ fun J3 => ?_
   ·intro j3 a w ho_ h
    rw [ho_] at G1
    have H := G1
    refine Go.seq ?_
    refine Go.seq ?_
    refine Go.reg ?_
    refine ga h (o_assign rfl) rfl fun h => ?_
    refine GoR.done ?_
    refine Go.block ?_
    obtain ⟨o4, hl, G4⟩ := bindE H
    refine g_cut (fun G => ∀ j4 (a : Act) (w : World), o4 = .inl (j4) → St Try.f6.ntmps F [] [Fld Kplay b2 0 j3, Fld KSeg b1 0 a1] a w → G a w) 2 ?_ fun J4 => ?_
    ·intro j4 a w ho_ h
     rw [ho_] at G4
     have H := eInl G4
     refine Go.seq ?_
     refine Go.reg ?_
     obtain ⟨r8, er8, H⟩ := bindE H
     refine ga h (o_call (law28_heads.spc  r8 er8) rfl [] [] (by decide) rfl rfl) rfl fun h => ?_
     refine ga h (o_assign rfl) rfl fun h => ?_
     refine GoR.done ?_
     rw [← som H]
     exact g_ret (vs := [.bool r8]) h Try.func6 ⟨rfl, trivial⟩ ⟨(), rfl, (h.mem.pick [] (by decide) rfl)⟩
    refine g_loop (fun s3 G => ∀  (a : Act) (w : World), InR .i64 s3 → St Try.f6.ntmps F [(2, .int .u32 a3), (9, pt b2), (14, .int .i64 s3)] [Fld Kplay b2 0 j3, Fld KSeg b1 0 a1] a w → G a w) hl (fun s3 p3 H i3 => ?_) fun I_ => ?_
    ·intro  a w g6 h
     refine Go.seq ?_
     refine Go.seq ?_
     refine Go.reg ?_
     refine mv h rfl rfl fun h => ?_
     refine mv h rfl rfl fun h => ?_
     refine ga h (o_nilc rfl) rfl fun h => ?_
     refine ga h (o_fa rfl t_f48_2 rfl rfl) rfl fun h => ?_
     replace h := h.mm fun m => (m.take (i := 0) rfl).opn (cplay _ _)
     obtain ⟨v12, h⟩ := h.unp 2 rfl
     obtain ⟨v13, h⟩ := h.unp 4 rfl
     obtain ⟨v14, h⟩ := h.unp 6 rfl
     refine ga h (o_ldx 2 rfl rfl X_eq t_y23) rfl fun h => ?_
     have g7 := (len_own 5 rfl h.mem)
     refine ga h (o_ln rfl (rd_own 5 rfl) t_v23) rfl fun h => ?_
     refine ga h (o_bin rfl rfl rfl) rfl fun h => ?_
     refine GoR.done ?_
     by_cases c6 : decide (s3 < (j3.given.length : Int)) = true
     ·have H := ifT c6 H
      refine g_t h rfl c6 ?_
      refine Go.skip ?_
      refine Go.seq ?_
      refine Go.block ?_
      refine Go.seq ?_
      replace h := h.mm fun m => (m.pull (Lo := [Fld (Kd.eq v12) b2 24 (), Val (Kd.osl (Kd.int .u8)) v12 j3.given]) [2, 5] (by decide) rfl).pck
      replace h := h.mm fun m => (m.pull (Lo := [Fld (Kd.eq v13) b2 25 (), Val (Kd.osl (Kd.int .u8)) v13 j3.gave]) [2, 7] (by decide) rfl).pck
      replace h := h.mm fun m => (m.pull (Lo := [Fld (Kd.eq v14) b2 26 (), Val (Kd.osl KSeg) v14 j3.segs]) [2, 9] (by decide) rfl).pck
      replace h := h.mm fun m => (m.pull (Lo := [Fld KConn b2 0 j3.c, Fld (Kd.int .i64) b2 23 j3.now, Fld (Kd.osl (Kd.int .u8)) b2 24 j3.given, Fld (Kd.osl (Kd.int .u8)) b2 25 j3.gave, Fld (Kd.osl KSeg) b2 26 j3.segs, Fld Kd.bool b2 27 j3.gone, Fld (Kd.int .i64) b2 28 j3.calls]) [6, 7, 2, 1, 0, 11, 12] (by decide) rfl).cls (cplay _ j3)
      replace h := h.mm fun m => (m.take (i := 0) rfl).opn (cplay _ _)
      obtain ⟨v15, h⟩ := h.unp 2 rfl
      obtain ⟨v16, h⟩ := h.unp 4 rfl
      obtain ⟨v17, h⟩ := h.unp 6 rfl
      replace h := h.wq [(2, .int .u32 a3), (9, pt b2), (14, .int .i64 s3)] [Fld (Kd.eq v17) b2 26 (), Fld (Kd.eq v16) b2 25 (), Fld (Kd.eq v15) b2 24 (), Fld KConn b2 0 j3.c, Fld (Kd.int .i64) b2 23 j3.now, Val (Kd.osl (Kd.int .u8)) v15 j3.given, Val (Kd.osl (Kd.int .u8)) v16 j3.gave, Val (Kd.osl KSeg) v17 j3.segs, Fld Kd.bool b2 27 j3.gone, Fld (Kd.int .i64) b2 28 j3.calls, Fld KSeg b1 0 a1] [0, 1, 2, 3, 4, 5, 6, 7, 8, 9, 25]
      obtain ⟨x4, ex4, H⟩ := bindE H
      obtain ⟨r7, er7, H⟩ := bindE H
      refine Go.draw (E := [(2, .int .u32 a3), (9, pt b2), (14, .int .i64 s3)]) [] (L := [Fld (Kd.eq v17) b2 26 (), Fld (Kd.eq v16) b2 25 (), Fld (Kd.eq v15) b2 24 (), Fld KConn b2 0 j3.c, Fld (Kd.int .i64) b2 23 j3.now, Val (Kd.osl (Kd.int .u8)) v15 j3.given, Val (Kd.osl (Kd.int .u8)) v16 j3.gave, Val (Kd.osl KSeg) v17 j3.segs, Fld Kd.bool b2 27 j3.gone, Fld (Kd.int .i64) b2 28 j3.calls, Fld KSeg b1 0 a1]) h rfl rfl 11 [cn (pt b2), ce [0] (pt b2), ce [0, 1] (.pointer (some ⟨b2, 24, none⟩)), ce [0, 1, 2] (v15), cn (.int .i64 s3), ce [0, 1, 2, 3, 4] (elemP v15 (s3.toNat * Kd.n (Kd.int .u8))), cm [0, 1, 2, 3, 4, 5] [] [] (.int .u8 x4) fun u => [Ent.pur (InR .u8 x4)], cn (.int .u32 a3), cn (.int .i64 s3), ce [8] (.int .u32 (IntKind.u32.wrap s3)), cm [7, 8, 9] [] [] (.int .u8 r7) fun u => [Ent.pur (InR .u8 r7)]] rfl t_mxo (by kernel_rfl) (by rfl) ?_ fun f5 _ _ h => ?_
      ·exact ox rfl (o_move rfl) (ox rfl (o_nilc rfl) (ox rfl (o_fa rfl t_f48_2 rfl rfl) (ox rfl (o_ldx 2 rfl rfl X_eq t_y23) (ox rfl (o_move rfl) (ox rfl (o_ix rfl rfl (rd_own 5 rfl) ex4 t_v23) (ox rfl (OpS.pur (fun F w m_ => (rd_inr (rd_own 5 rfl) ex4 m_)) (o_lex rfl (rd_own 5 rfl) ex4 X_int t_y5 (by decide))) (ox rfl (o_move rfl) (ox rfl (o_move rfl) (ox rfl (o_conv rfl t_q3 t_u22) (ox rfl (o_call (law28_stream.spc a3 ha3 (IntKind.u32.wrap s3) (wrap_in _ _) r7 er7) rfl [] [] (by decide) rfl rfl) (obs_nil)))))))))))
      replace h := h.wk (E' := [(2, .int .u32 a3), (9, pt b2), (14, .int .i64 s3), (95, .int .u8 x4), (99, .int .u8 r7)]) (L' := [Ent.pur (InR .u8 x4), Ent.pur (InR .u8 r7), Fld (Kd.eq v17) b2 26 (), Fld (Kd.eq v16) b2 25 (), Fld (Kd.eq v15) b2 24 (), Fld KConn b2 0 j3.c, Fld (Kd.int .i64) b2 23 j3.now, Val (Kd.osl (Kd.int .u8)) v15 j3.given, Val (Kd.osl (Kd.int .u8)) v16 j3.gave, Val (Kd.osl KSeg) v17 j3.segs, Fld Kd.bool b2 27 j3.gone, Fld (Kd.int .i64) b2 28 j3.calls, Fld KSeg b1 0 a1]) (by kernel_rfl) [0, 1, 2, 3, 4, 5, 6, 7, 8, 9, 10, 11, 12] (by decide) (by kernel_rfl)
      have g8 := (Mem.pur 0 rfl h.mem)
      have g9 := (Mem.pur 1 rfl h.mem)
      refine ga h (o_bin rfl rfl rfl) rfl fun h => ?_
      refine GoR.done ?_
      by_cases c7 : (!decide (x4 = r7)) = true
      ·have H := ifT c7 H
       refine g_t h rfl c7 ?_
       refine Go.seq ?_
       refine Go.reg ?_
       refine ga h (o_assign rfl) rfl fun h => ?_
       refine GoR.done ?_
       have e_ := som H; subst e_
       rw [← nx_out i3] at G4
       have H := G4
       rw [← som H]
       exact g_ret (vs := [.bool false]) h Try.func6 ⟨rfl, trivial⟩ ⟨(), rfl, (h.mem.pick [] (by decide) rfl)⟩
      ·have H := ifF c7 H
       refine g_f h rfl c7 ?_
       refine Go.skip ?_
       refine Go.inBlock ?_
       refine Go.reg ?_
       refine mv h rfl rfl fun h => ?_
       refine ga h (o_bin rfl rfl rfl) rfl fun h => ?_
       obtain ⟨y5, ey5, H⟩ := ltE H
       refine ga h (o_assign' rfl (congrArg (fun z => Value.int .i64 z) ey5)) rfl fun h => ?_
       refine GoR.done ?_
       replace h := h.mm fun m => (m.pull (Lo := [Fld (Kd.eq v15) b2 24 (), Val (Kd.osl (Kd.int .u8)) v15 j3.given]) [4, 7] (by decide) rfl).pck
       replace h := h.mm fun m => (m.pull (Lo := [Fld (Kd.eq v16) b2 25 (), Val (Kd.osl (Kd.int .u8)) v16 j3.gave]) [4, 9] (by decide) rfl).pck
       replace h := h.mm fun m => (m.pull (Lo := [Fld (Kd.eq v17) b2 26 (), Val (Kd.osl KSeg) v17 j3.segs]) [4, 11] (by decide) rfl).pck
       replace h := h.mm fun m => (m.pull (Lo := [Fld KConn b2 0 j3.c, Fld (Kd.int .i64) b2 23 j3.now, Fld (Kd.osl (Kd.int .u8)) b2 24 j3.given, Fld (Kd.osl (Kd.int .u8)) b2 25 j3.gave, Fld (Kd.osl KSeg) b2 26 j3.segs, Fld Kd.bool b2 27 j3.gone, Fld (Kd.int .i64) b2 28 j3.calls]) [8, 9, 2, 1, 0, 13, 14] (by decide) rfl).cls (cplay _ j3)
       have e_ := som H; subst e_
       exact Go.inLoop (nx_in i3 _ _ (ey5 ▸ (wrap_in _ _)) (h.wr [0, 16]))
     ·have H := ifF c6 H
      refine g_f h rfl c6 ?_
      refine Go.exit rfl ?_
      replace h := h.mm fun m => (m.pull (Lo := [Fld (Kd.eq v12) b2 24 (), Val (Kd.osl (Kd.int .u8)) v12 j3.given]) [2, 5] (by decide) rfl).pck
      replace h := h.mm fun m => (m.pull (Lo := [Fld (Kd.eq v13) b2 25 (), Val (Kd.osl (Kd.int .u8)) v13 j3.gave]) [2, 7] (by decide) rfl).pck
      replace h := h.mm fun m => (m.pull (Lo := [Fld (Kd.eq v14) b2 26 (), Val (Kd.osl KSeg) v14 j3.segs]) [2, 9] (by decide) rfl).pck
      replace h := h.mm fun m => (m.pull (Lo := [Fld KConn b2 0 j3.c, Fld (Kd.int .i64) b2 23 j3.now, Fld (Kd.osl (Kd.int .u8)) b2 24 j3.given, Fld (Kd.osl (Kd.int .u8)) b2 25 j3.gave, Fld (Kd.osl KSeg) b2 26 j3.segs, Fld Kd.bool b2 27 j3.gone, Fld (Kd.int .i64) b2 28 j3.calls]) [6, 7, 2, 1, 0, 11, 12] (by decide) rfl).cls (cplay _ j3)
      have e_ := som H; subst e_
      exact J4 () _ _ (nx_out i3).symm (h.wr [0, 15])
    ·exact I_ _ _ (show InR .i64 0 by decide) (h.wr [0, 1])
   refine g_loop (fun s1 G => ∀  (a : Act) (w : World), InR .i64 s1.1 → St Try.f6.ntmps F [(2, .int .u32 a3), (3, v2), (4, pt b1), (9, pt b2), (11, .int .i64 s1.1)] [Val (Kd.sl KEv) v2 a4, Fld Kplay b2 0 s1.2, Fld KSeg b1 0 a1] a w → G a w) hl (fun s1 p1 H i1 => ?_) fun I_ => ?_
   ·intro  a w g1 h
    refine Go.seq ?_
    refine Go.seq ?_
    obtain ⟨o2, H, G2⟩ := bindE H
    refine g_cut (fun G => ∀ j1 (a : Act) (w : World), o2 = j1 → St Try.f6.ntmps F [(2, .int .u32 a3), (3, v2), (4, pt b1), (9, pt b2), (11, .int .i64 s1.1), (38, .bool j1)] [Val (Kd.sl KEv) v2 a4, Fld Kplay b2 0 s1.2, Fld KSeg b1 0 a1] a w → G a w) 1 ?_ fun J1 => ?_
    ·intro j1 a w ho_ h
     rw [ho_] at G2
     have H := G2
     by_cases c4 : j1 = true
     ·have H := ifT c4 H
      refine g_t h rfl c4 ?_
      refine Go.skip ?_
      refine Go.seq ?_
      refine Go.block ?_
      refine Go.seq ?_
      refine Go.reg ?_
      refine mv h rfl rfl fun h => ?_
      refine mv h rfl rfl fun h => ?_
      obtain ⟨x1, ex1, H⟩ := bindE H
      refine ga h (o_ix rfl rfl (rd_at 0 rfl) ex1 t_v50) rfl fun h => ?_
      refine gs h (o_lev rfl (rd_at 0 rfl) ex1 t_y46 (by decide)) rfl fun v5 _ _ h => ?_
      refine gs h (o_alloc (K := KEv) (z := (.agg #[.int .i64 0, .int .i64 0, .int .i64 0, .int .u32 0, .int .u32 0, .int .i64 0, .int .i64 0, .int .i64 0, .slice none 0 0, .int .i64 0, .int .i64 0, .slice none 0 0, .int .i64 0, .int .i64 0])) rfl ZEv) rfl fun b3 _ _ h => ?_
      refine gs0 h (o_st 0 rfl rfl rfl (pv_at PEv 1 rfl) rfl t_w46) fun _ _ _ h => ?_
      refine GoR.done ?_
      refine Go.seq ?_
      refine Go.reg ?_
      refine gs h (o_bs (K := (Kd.int .u8)) (vs := []) (xs := ([] : List Int)) rfl rfl pvs_nil t_a23 (by decide) (by decide)) rfl fun v6 _ _ h => ?_
      refine ga h (o_fa rfl t_f46_1 rfl rfl) rfl fun h => ?_
      refine ga h (o_fa rfl t_f30_7 rfl rfl) rfl fun h => ?_
      refine gs h (o_lfv 1 rfl rfl t_sEv_Seg_Data rfl Per_sl t_y23) rfl fun v7 _ _ h => ?_
      obtain ⟨x2, ex2, H⟩ := bindE H
      refine gs h (o_app (K := (Kd.int .u8)) 1 rfl rfl rfl (rd_at 0 rfl) ex2 t_a23 t_n23) rfl fun v8 _ _ h => ?_
      refine ga h (o_fa rfl t_f46_1 rfl rfl) rfl fun h => ?_
      refine ga h (o_fa rfl t_f30_7 rfl rfl) rfl fun h => ?_
      replace h := h.mm fun m => (m.take (i := 2) rfl).opn (cEv _ _)
      replace h := h.mm fun m => (m.take (i := 1) rfl).opn (t_cSeg_1 _ _)
      refine gs0 h (o_sto 7 13 rfl rfl rfl rfl rfl rfl t_w23) fun _ _ _ h => ?_
      refine GoR.done ?_
      refine Go.seq ?_
      refine Go.seq ?_
      refine Go.reg ?_
      refine ga h (o_assign rfl) rfl fun h => ?_
      refine GoR.done ?_
      refine Go.block ?_
      replace h := h.mm fun m => (m.pull (Lo := [Fld (Kd.int .i64) b3 1 x1.Seg.Src, Fld (Kd.int .i64) b3 2 x1.Seg.Dst, Fld (Kd.int .u32) b3 3 x1.Seg.Seq, Fld (Kd.int .u32) b3 4 x1.Seg.Ack, Fld (Kd.int .i64) b3 5 x1.Seg.Flags, Fld (Kd.int .i64) b3 6 x1.Seg.Win, Fld (Kd.int .i64) b3 7 x1.Seg.Mss, Fld (Kd.osl (Kd.int .u8)) b3 8 x2]) [0, 1, 2, 3, 4, 5, 6, 7] (by decide) rfl).cls (t_cSegOData_1 _ (⟨x1.Seg.Src, x1.Seg.Dst, x1.Seg.Seq, x1.Seg.Ack, x1.Seg.Flags, x1.Seg.Win, x1.Seg.Mss, x2⟩ : TSeg))
      replace h := h.mm fun m => (m.pull (Lo := [Fld (Kd.int .i64) b3 0 x1.Kind, Fld KSegOData b3 1 (⟨x1.Seg.Src, x1.Seg.Dst, x1.Seg.Seq, x1.Seg.Ack, x1.Seg.Flags, x1.Seg.Win, x1.Seg.Mss, x2⟩ : TSeg), Fld KTell b3 9 x1.Tell, Fld (Kd.int .i64) b3 13 x1.N]) [9, 0, 11, 12] (by decide) rfl).cls (cEvOSegData _ (⟨x1.Kind, (⟨x1.Seg.Src, x1.Seg.Dst, x1.Seg.Seq, x1.Seg.Ack, x1.Seg.Flags, x1.Seg.Win, x1.Seg.Mss, x2⟩ : TSeg), x1.Tell, x1.N⟩ : TEv))
      obtain ⟨o3, hl, G3⟩ := bindE H
      refine g_cut (fun G => ∀ j2 (a : Act) (w : World), o3 = j2 → St Try.f6.ntmps F [(2, .int .u32 a3), (3, v2), (4, pt b1), (9, pt b2), (11, .int .i64 s1.1), (12, pt b3)] [Val (Kd.sl KEv) v2 a4, Fld KEvOSegData b3 0 j2, Fld Kplay b2 0 s1.2, Fld KSeg b1 0 a1] a w → G a w) 2 ?_ fun J2 => ?_
      ·intro j2 a w ho_ h
       rw [ho_] at G3
       have H := G3
       refine Go.reg ?_
       refine mv h rfl rfl fun h => ?_
       replace h := h.mm fun m => m.rofrz (show RO KEvOSegData KEv from ro_iso (ro_pair (ro_per Per_int) (ro_pair (show RO KSegOData KSeg from ro_iso (ro_pair (ro_per Per_int) (ro_pair (ro_per Per_int) (ro_pair (ro_per Per_int) (ro_pair (ro_per Per_int) (ro_pair (ro_per Per_int) (ro_pair (ro_per Per_int) (ro_pair (ro_per Per_int) (ro_last ro_osl))))))))) (ro_pair (ro_per PTell) (ro_last (ro_per Per_int)))))) 1 rfl
       refine gs h (p_ldv 1 rfl rfl t_y46) rfl fun v11 _ _ h => ?_
       obtain ⟨r6, er6, H⟩ := bindE H
       refine ga h (o_call (law28_play_do.spc b2 s1.2 v11 j2 r6 er6) rfl [0] [3] (by decide) rfl rfl) rfl fun h => ?_
       refine GoR.done ?_
       refine Go.inBlock ?_
       refine Go.reg ?_
       refine mv h rfl rfl fun h => ?_
       refine ga h (o_bin rfl rfl rfl) rfl fun h => ?_
       obtain ⟨y4, ey4, H⟩ := ltE H
       refine ga h (o_assign' rfl (congrArg (fun z => Value.int .i64 z) ey4)) rfl fun h => ?_
       refine GoR.done ?_
       have e_ := som H; subst e_
       exact Go.inLoop (nx_in i1 _ _ (ey4 ▸ (wrap_in _ _)) (h.wr [2, 0, 5]))
      refine g_loop (fun s2 G => ∀  (a : Act) (w : World), InR .i64 s2.1 → St Try.f6.ntmps F [(2, .int .u32 a3), (3, v2), (4, pt b1), (9, pt b2), (11, .int .i64 s1.1), (12, pt b3), (13, .int .i64 s2.1)] [Val (Kd.sl KEv) v2 a4, Fld KEvOSegData b3 0 s2.2, Fld Kplay b2 0 s1.2, Fld KSeg b1 0 a1] a w → G a w) hl (fun s2 p2 H i2 => ?_) fun I_ => ?_
      ·intro  a w g3 h
       refine Go.seq ?_
       refine Go.seq ?_
       refine Go.reg ?_
       refine mv h rfl rfl fun h => ?_
       refine ga h (o_fa rfl t_f46_1 rfl rfl) rfl fun h => ?_
       refine ga h (o_fa rfl t_f30_7 rfl rfl) rfl fun h => ?_
       replace h := h.mm fun m => (m.take (i := 1) rfl).opn (cEvOSegData _ _)
       replace h := h.mm fun m => (m.take (i := 1) rfl).opn (t_cSegOData_1 _ _)
       obtain ⟨v9, h⟩ := h.unp 7 rfl
       refine ga h (o_ldx 0 rfl rfl X_eq t_y23) rfl fun h => ?_
       have g4 := (len_own 8 rfl h.mem)
       refine ga h (o_ln rfl (rd_own 8 rfl) t_v23) rfl fun h => ?_
       refine ga h (o_bin rfl rfl rfl) rfl fun h => ?_
       refine GoR.done ?_
       by_cases c5 : decide (s2.1 < (s2.2.Seg.Data.length : Int)) = true
       ·have H := ifT c5 H
        refine g_t h rfl c5 ?_
        refine Go.skip ?_
        refine Go.seq ?_
        refine Go.block ?_
        replace h := h.mm fun m => (m.pull (Lo := [Fld (Kd.eq v9) b3 8 (), Val (Kd.osl (Kd.int .u8)) v9 s2.2.Seg.Data]) [0, 8] (by decide) rfl).pck
        replace h := h.mm fun m => (m.pull (Lo := [Fld (Kd.int .i64) b3 1 s2.2.Seg.Src, Fld (Kd.int .i64) b3 2 s2.2.Seg.Dst, Fld (Kd.int .u32) b3 3 s2.2.Seg.Seq, Fld (Kd.int .u32) b3 4 s2.2.Seg.Ack, Fld (Kd.int .i64) b3 5 s2.2.Seg.Flags, Fld (Kd.int .i64) b3 6 s2.2.Seg.Win, Fld (Kd.int .i64) b3 7 s2.2.Seg.Mss, Fld (Kd.osl (Kd.int .u8)) b3 8 s2.2.Seg.Data]) [2, 3, 4, 5, 6, 7, 8, 0] (by decide) rfl).cls (t_cSegOData_1 _ s2.2.Seg)
        replace h := h.mm fun m => (m.pull (Lo := [Fld (Kd.int .i64) b3 0 s2.2.Kind, Fld KSegOData b3 1 s2.2.Seg, Fld KTell b3 9 s2.2.Tell, Fld (Kd.int .i64) b3 13 s2.2.N]) [11, 0, 13, 14] (by decide) rfl).cls (cEvOSegData _ s2.2)
        replace h := h.mm fun m => (m.take (i := 0) rfl).opn (cEvOSegData _ _)
        replace h := h.mm fun m => (m.take (i := 1) rfl).opn (t_cSegOData_1 _ _)
        obtain ⟨v10, h⟩ := h.unp 7 rfl
        replace h := h.wq [(2, .int .u32 a3), (3, v2), (4, pt b1), (9, pt b2), (11, .int .i64 s1.1), (12, pt b3), (13, .int .i64 s2.1)] [Fld (Kd.eq v10) b3 8 (), Fld (Kd.int .i64) b3 1 s2.2.Seg.Src, Fld (Kd.int .i64) b3 2 s2.2.Seg.Dst, Fld (Kd.int .u32) b3 3 s2.2.Seg.Seq, Fld (Kd.int .u32) b3 4 s2.2.Seg.Ack, Fld (Kd.int .i64) b3 5 s2.2.Seg.Flags, Fld (Kd.int .i64) b3 6 s2.2.Seg.Win, Fld (Kd.int .i64) b3 7 s2.2.Seg.Mss, Val (Kd.osl (Kd.int .u8)) v10 s2.2.Seg.Data, Fld (Kd.int .i64) b3 0 s2.2.Kind, Fld KTell b3 9 s2.2.Tell, Fld (Kd.int .i64) b3 13 s2.2.N, Val (Kd.sl KEv) v2 a4, Fld Kplay b2 0 s1.2, Fld KSeg b1 0 a1] [0, 1, 2, 3, 4, 5, 6, 7, 8, 9, 11, 12, 29, 31, 32]
        obtain ⟨r5, er5, H⟩ := bindE H
        refine Go.draw (E := [(2, .int .u32 a3), (3, v2), (4, pt b1), (9, pt b2), (11, .int .i64 s1.1), (12, pt b3), (13, .int .i64 s2.1)]) [] (L := [Fld (Kd.eq v10) b3 8 (), Fld (Kd.int .i64) b3 1 s2.2.Seg.Src, Fld (Kd.int .i64) b3 2 s2.2.Seg.Dst, Fld (Kd.int .u32) b3 3 s2.2.Seg.Seq, Fld (Kd.int .u32) b3 4 s2.2.Seg.Ack, Fld (Kd.int .i64) b3 5 s2.2.Seg.Flags, Fld (Kd.int .i64) b3 6 s2.2.Seg.Win, Fld (Kd.int .i64) b3 7 s2.2.Seg.Mss, Val (Kd.osl (Kd.int .u8)) v10 s2.2.Seg.Data, Fld (Kd.int .i64) b3 0 s2.2.Kind, Fld KTell b3 9 s2.2.Tell, Fld (Kd.int .i64) b3 13 s2.2.N, Val (Kd.sl KEv) v2 a4, Fld Kplay b2 0 s1.2, Fld KSeg b1 0 a1]) h rfl rfl 16 [cn (.pointer (some ⟨b3, 1, none⟩)), ce [0] (.pointer (some ⟨b3, 8, none⟩)), ce [0, 1] (v10), cn (.int .i64 s2.1), cn (.int .u32 a3), cn (.pointer (some ⟨b3, 1, none⟩)), ce [5] (.pointer (some ⟨b3, 3, none⟩)), cm [5, 6] [] [] (.int .u32 s2.2.Seg.Seq) fun u => [Ent.pur (InR .u32 s2.2.Seg.Seq)], cn (.int .i64 s2.1), ce [8] (.int .u32 (IntKind.u32.wrap s2.1)), ce [5, 6, 7, 8, 9] (.int .u32 (IntKind.u32.wrap (s2.2.Seg.Seq + (IntKind.u32.wrap s2.1)))), cn (.pointer (some ⟨b1, 2, none⟩)), cm [11] [] [] (.int .u32 a1.Seq) fun u => [Ent.pur (InR .u32 a1.Seq)], ce [5, 6, 7, 8, 9, 10, 11, 12] (.int .u32 (IntKind.u32.wrap ((IntKind.u32.wrap (s2.2.Seg.Seq + (IntKind.u32.wrap s2.1))) - a1.Seq))), ce [5, 6, 7, 8, 9, 10, 11, 12, 13] (.int .u32 (IntKind.u32.wrap ((IntKind.u32.wrap ((IntKind.u32.wrap (s2.2.Seg.Seq + (IntKind.u32.wrap s2.1))) - a1.Seq)) - 1))), cm [4, 5, 6, 7, 8, 9, 10, 11, 12, 13, 14] [] [] (.int .u8 r5) fun u => [Ent.pur (InR .u8 r5)]] rfl t_mxo (by kernel_rfl) (by rfl) ?_ fun f3 _ _ h => ?_
        ·exact ox rfl (o_fa rfl t_f46_1 rfl rfl) (ox rfl (o_fa rfl t_f30_7 rfl rfl) (ox rfl (o_ldx 0 rfl rfl X_eq t_y23) (ox rfl (o_move rfl) (ox rfl (o_move rfl) (ox rfl (o_fa rfl t_f46_1 rfl rfl) (ox rfl (o_fa rfl t_f30_2 rfl rfl) (ox rfl (OpS.pur (fun F w m_ => (fd_in 3 rfl m_)) (o_ldx 3 rfl rfl X_int t_y22)) (ox rfl (o_move rfl) (ox rfl (o_conv rfl t_q3 t_u22) (ox rfl (o_bin rfl rfl rfl) (ox rfl (o_fa rfl t_f30_2 rfl rfl) (ox rfl (OpS.pur (fun F w m_ => (in2 (fd_sub sSeg_Seq 14 rfl m_))) (o_lfx 14 rfl rfl sSeg_Seq rfl X_int t_y22)) (ox rfl (o_bin rfl rfl rfl) (ox rfl (o_bin rfl rfl rfl) (ox rfl (o_call (law28_stream.spc a3 ha3 (IntKind.u32.wrap ((IntKind.u32.wrap ((IntKind.u32.wrap (s2.2.Seg.Seq + (IntKind.u32.wrap s2.1))) - a1.Seq)) - 1)) (wrap_in _ _) r5 er5) rfl [] [] (by decide) rfl rfl) (obs_nil))))))))))))))))
        replace h := h.wk (E' := [(2, .int .u32 a3), (3, v2), (4, pt b1), (9, pt b2), (11, .int .i64 s1.1), (12, pt b3), (13, .int .i64 s2.1), (62, v10), (63, .int .i64 s2.1), (75, .int .u8 r5)]) (L' := [Ent.pur (InR .u32 s2.2.Seg.Seq), Ent.pur (InR .u32 a1.Seq), Ent.pur (InR .u8 r5), Fld (Kd.eq v10) b3 8 (), Fld (Kd.int .i64) b3 1 s2.2.Seg.Src, Fld (Kd.int .i64) b3 2 s2.2.Seg.Dst, Fld (Kd.int .u32) b3 3 s2.2.Seg.Seq, Fld (Kd.int .u32) b3 4 s2.2.Seg.Ack, Fld (Kd.int .i64) b3 5 s2.2.Seg.Flags, Fld (Kd.int .i64) b3 6 s2.2.Seg.Win, Fld (Kd.int .i64) b3 7 s2.2.Seg.Mss, Val (Kd.osl (Kd.int .u8)) v10 s2.2.Seg.Data, Fld (Kd.int .i64) b3 0 s2.2.Kind, Fld KTell b3 9 s2.2.Tell, Fld (Kd.int .i64) b3 13 s2.2.N, Val (Kd.sl KEv) v2 a4, Fld Kplay b2 0 s1.2, Fld KSeg b1 0 a1]) (by kernel_rfl) [0, 1, 2, 3, 4, 5, 6, 7, 8, 9, 10, 11, 12, 13, 14, 15, 16, 17] (by decide) (by kernel_rfl)
        have g5 := (Mem.pur 2 rfl h.mem)
        obtain ⟨x3, ex3, H⟩ := bindE H
        refine ga h (o_ix rfl rfl (rd_own 11 rfl) ex3 t_v23) rfl fun h => ?_
        obtain ⟨y2, ey2, H⟩ := ltE H
        refine gs0 h (o_ste 11 rfl rfl rfl (pv_int g5) ex3 t_w5 (by decide)) fun _ _ _ h => ?_
        rw [ey2] at h
        refine GoR.done ?_
        refine Go.inBlock ?_
        refine Go.reg ?_
        refine mv h rfl rfl fun h => ?_
        refine ga h (o_bin rfl rfl rfl) rfl fun h => ?_
        obtain ⟨y3, ey3, H⟩ := ltE H
        refine ga h (o_assign' rfl (congrArg (fun z => Value.int .i64 z) ey3)) rfl fun h => ?_
        refine GoR.done ?_
        replace h := h.mm fun m => (m.pull (Lo := [Fld (Kd.eq v10) b3 8 (), Val (Kd.osl (Kd.int .u8)) v10 y2]) [3, 11] (by decide) rfl).pck
        replace h := h.mm fun m => (m.pull (Lo := [Fld (Kd.int .i64) b3 1 s2.2.Seg.Src, Fld (Kd.int .i64) b3 2 s2.2.Seg.Dst, Fld (Kd.int .u32) b3 3 s2.2.Seg.Seq, Fld (Kd.int .u32) b3 4 s2.2.Seg.Ack, Fld (Kd.int .i64) b3 5 s2.2.Seg.Flags, Fld (Kd.int .i64) b3 6 s2.2.Seg.Win, Fld (Kd.int .i64) b3 7 s2.2.Seg.Mss, Fld (Kd.osl (Kd.int .u8)) b3 8 y2]) [5, 6, 7, 8, 9, 10, 11, 0] (by decide) rfl).cls (t_cSegOData_1 _ (⟨s2.2.Seg.Src, s2.2.Seg.Dst, s2.2.Seg.Seq, s2.2.Seg.Ack, s2.2.Seg.Flags, s2.2.Seg.Win, s2.2.Seg.Mss, y2⟩ : TSeg))
        replace h := h.mm fun m => (m.pull (Lo := [Fld (Kd.int .i64) b3 0 s2.2.Kind, Fld KSegOData b3 1 (⟨s2.2.Seg.Src, s2.2.Seg.Dst, s2.2.Seg.Seq, s2.2.Seg.Ack, s2.2.Seg.Flags, s2.2.Seg.Win, s2.2.Seg.Mss, y2⟩ : TSeg), Fld KTell b3 9 s2.2.Tell, Fld (Kd.int .i64) b3 13 s2.2.N]) [14, 0, 15, 16] (by decide) rfl).cls (cEvOSegData _ (⟨s2.2.Kind, (⟨s2.2.Seg.Src, s2.2.Seg.Dst, s2.2.Seg.Seq, s2.2.Seg.Ack, s2.2.Seg.Flags, s2.2.Seg.Win, s2.2.Seg.Mss, y2⟩ : TSeg), s2.2.Tell, s2.2.N⟩ : TEv))
        have e_ := som H; subst e_
        exact Go.inLoop (nx_in i2 _ _ (ey3 ▸ (wrap_in _ _)) (h.wr [18, 0, 19, 20]))
       ·have H := ifF c5 H
        refine g_f h rfl c5 ?_
        refine Go.exit rfl ?_
        replace h := h.mm fun m => (m.pull (Lo := [Fld (Kd.eq v9) b3 8 (), Val (Kd.osl (Kd.int .u8)) v9 s2.2.Seg.Data]) [0, 8] (by decide) rfl).pck
        replace h := h.mm fun m => (m.pull (Lo := [Fld (Kd.int .i64) b3 1 s2.2.Seg.Src, Fld (Kd.int .i64) b3 2 s2.2.Seg.Dst, Fld (Kd.int .u32) b3 3 s2.2.Seg.Seq, Fld (Kd.int .u32) b3 4 s2.2.Seg.Ack, Fld (Kd.int .i64) b3 5 s2.2.Seg.Flags, Fld (Kd.int .i64) b3 6 s2.2.Seg.Win, Fld (Kd.int .i64) b3 7 s2.2.Seg.Mss, Fld (Kd.osl (Kd.int .u8)) b3 8 s2.2.Seg.Data]) [2, 3, 4, 5, 6, 7, 8, 0] (by decide) rfl).cls (t_cSegOData_1 _ s2.2.Seg)
        replace h := h.mm fun m => (m.pull (Lo := [Fld (Kd.int .i64) b3 0 s2.2.Kind, Fld KSegOData b3 1 s2.2.Seg, Fld KTell b3 9 s2.2.Tell, Fld (Kd.int .i64) b3 13 s2.2.N]) [11, 0, 13, 14] (by decide) rfl).cls (cEvOSegData _ s2.2)
        have e_ := som H; subst e_
        exact J2 s2.2 _ _ (nx_out i2).symm (h.wr [16, 0, 18, 19])
      ·exact I_ _ _ (show InR .i64 0 by decide) (h.wr [18, 0, 19, 20])
     ·have H := ifF c4 H
      refine g_f h rfl c4 ?_
      refine Go.exit rfl ?_
      have e_ := som H; subst e_
      exact J3 s1.2 _ _ (nx_out i1).symm (h.wr [1, 2])
    refine Go.reg ?_
    refine mv h rfl rfl fun h => ?_
    refine mv h rfl rfl fun h => ?_
    have g2 := (len_at 0 rfl h.mem)
    refine ga h (o_ln rfl (rd_at 0 rfl) t_v50) rfl fun h => ?_
    refine ga h (o_bin rfl rfl rfl) rfl fun h => ?_
    refine mv h rfl rfl fun h => ?_
    by_cases c3 : decide (s1.1 < (a4.length : Int)) = true
    ·have H := ifT c3 H
     refine gg h rfl rfl c3 (o_move rfl) rfl fun _ _ _ h => ?_
     refine gg h rfl rfl c3 (o_nilc rfl) rfl fun _ _ _ h => ?_
     refine gg h rfl rfl c3 (o_fa rfl t_f48_5 rfl rfl) rfl fun _ _ _ h => ?_
     refine gg h rfl rfl c3 (o_lfx 1 rfl rfl splay_gone rfl X_bool t_y4) rfl fun _ _ _ h => ?_
     refine gg h rfl rfl c3 (o_not rfl) rfl fun _ _ _ h => ?_
     refine ga h (o_pickT rfl rfl c3) rfl fun h => ?_
     refine GoR.done ?_
     exact J1 (!s1.2.gone) _ _ (som H).symm (h.wr [0, 1, 2])
    ·have H := ifF c3 H
     iterate 5 (refine gk h rfl rfl (nb_f c3) rfl fun _ h => ?_)
     refine ga h (o_pickF rfl rfl c3) rfl fun h => ?_
     refine GoR.done ?_
     exact J1 false _ _ (som H).symm (h.wr [0, 1, 2])
   ·exact I_ _ _ (show InR .i64 0 by decide) (h.wr [4, 0, 2])
def law28_SpliceGives.g (k_ : Nat) (a1 : TSeg) (a2 : Int) (a3 : Int) (a4 : List TEv) : Option (Bool) :=
  (law28_fits.g k_ a4).bind fun r1 => (if (!r1) = true then (law28_heads.g k_).bind fun r2 => some (r2) else (law28_begin.g k_ a1 a2).bind fun r3 => (if (!r3.2) = true then (law28_heads.g k_).bind fun r4 => some (r4) else (r3.1).bind fun y1 => (loopK k_ (fun s1 => ((if decide (s1.1 < (a4.length : Int)) = true then some ((!s1.2.gone)) else some (false))).bind (fun j1 => (if j1 = true then (idx a4 s1.1).bind fun x1 => (app ([] : List Int) x1.Seg.Data).bind fun x2 => (loopK k_ (fun s2 => (if decide (s2.1 < (s2.2.Seg.Data.length : Int)) = true then (law28_stream.g k_ a3 (IntKind.u32.wrap ((IntKind.u32.wrap ((IntKind.u32.wrap (s2.2.Seg.Seq + (IntKind.u32.wrap s2.1))) - a1.Seq)) - 1))).bind fun r5 => (idx s2.2.Seg.Data s2.1).bind fun x3 => lt (s2.2.Seg.Data.set s2.1.toNat r5) fun y2 => lt (IntKind.i64.wrap (s2.1 + 1)) fun y3 => some (.inl (y3, (⟨s2.2.Kind, (⟨s2.2.Seg.Src, s2.2.Seg.Dst, s2.2.Seg.Seq, s2.2.Seg.Ack, s2.2.Seg.Flags, s2.2.Seg.Win, s2.2.Seg.Mss, y2⟩ : TSeg), s2.2.Tell, s2.2.N⟩ : TEv))) else some (.inr (s2.2)))) (0, (⟨x1.Kind, (⟨x1.Seg.Src, x1.Seg.Dst, x1.Seg.Seq, x1.Seg.Ack, x1.Seg.Flags, x1.Seg.Win, x1.Seg.Mss, x2⟩ : TSeg), x1.Tell, x1.N⟩ : TEv))).bind (fun j2 => (law28_play_do.g k_ s1.2 j2).bind fun r6 => lt (IntKind.i64.wrap (s1.1 + 1)) fun y4 => some (.inl (y4, r6))) else some (.inr (s1.2))))) (0, y1)).bind (fun j3 => (loopK k_ (fun s3 => (if decide (s3 < (j3.given.length : Int)) = true then (idx j3.given s3).bind fun x4 => (law28_stream.g k_ a3 (IntKind.u32.wrap s3)).bind fun r7 => (if (!decide (x4 = r7)) = true then some (.inr (.inr (false))) else lt (IntKind.i64.wrap (s3 + 1)) fun y5 => some (.inl y5)) else some (.inr (.inl (()))))) 0).bind (Sum.elim (fun j4 => (law28_heads.g k_).bind fun r8 => some (r8)) (fun z_ => some (z_))))))
theorem law28_SpliceGives.le (k_ : Nat) (a1 : TSeg) (a2 : Int) (a3 : Int) (a4 : List TEv) : Le (law28_SpliceGives.g k_ a1 a2 a3 a4) (law28_SpliceGives.f a1 a2 a3 a4) := by
 unfold law28_SpliceGives.g law28_SpliceGives.f
 repeat' (first | with_reducible refine le_loop fun _ => ?_ | with_reducible refine le_bind ?_ fun _ => ?_ | with_reducible refine le_ite ?_ ?_ | with_reducible refine le_lt fun _ => ?_ | with_reducible refine le_elim (fun _ => ?_) (fun _ => ?_) _ | with_reducible apply law28_begin.le | with_reducible apply law28_fits.le | with_reducible apply law28_heads.le | with_reducible apply law28_play_do.le | with_reducible apply law28_stream.le | with_reducible exact le_refl _)
end Go.Proofs.Ytpcbhkigmnpimaa.S
