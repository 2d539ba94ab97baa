/- Contracts, printed by a program of this session. -/
import Derived.Test.YtmmaojclfggioaaT2
import Derived.Test.YtmmaojclfggioaaT3
import Derived.Test.YtmmaojclfggioaaT7
import Derived.Test.YtmmaojclfggioaaT8
namespace Go.Proofs.Ytmmaojclfggioaa.S
open Go Go.SL Go.RowKit
set_option linter.unusedVariables false
set_option linter.unusedSimpArgs false
/-! drawbridge/drawbridgelaw25.LeaseOne -/
noncomputable def law25_LeaseOne.f (a1 : List TDhcp) (a2 : Int) : Option (Bool) :=
  ((if decide (60 < (a1.length : Int)) = true then some (true) else (if decide (a2 < 0) = true then some (true) else some (decide (1000 < a2))))).bind (fun j1 => (if j1 = true then (law25_heads.f).bind fun r1 => some (r1) else (loop (fun s1 => (if decide (s1.2.2 < (a1.length : Int)) = true then (idx a1 s1.2.2).bind fun x1 => (lease_Serve.f s1.1 s1.2.1 x1).bind fun r2 => (lease_Check.f r2.1).bind fun r3 => (if (!r3) = true then some (.inr (.inr (false))) else (((if r2.2.2 = true then some (decide (r2.2.1.Type_ = 5)) else some (false))).bind (fun j2 => (if j2 = true then (idx a1 s1.2.2).bind fun x2 => (lease_Find.f r2.1 s1.2.1 x2.Mac).bind fun r4 => (lease_Owner.f r2.1 s1.2.1 r2.2.1.Yi).bind fun r5 => (lease_Owner.f s1.1 s1.2.1 r2.2.1.Yi).bind fun r6 => ((if (!r4.2) = true then some (true) else (if (!decide (r4.1 = r2.2.1.Yi)) = true then some (true) else (if (!r5.2) = true then some (true) else (idx a1 s1.2.2).bind fun x3 => (ref01_Same.f r5.1 x3.Mac).bind fun r7 => (if (!r7) = true then some (true) else (if r6.2 = true then (idx a1 s1.2.2).bind fun x4 => (ref01_Same.f r6.1 x4.Mac).bind fun r8 => some ((!r8)) else some (false))))))).bind (fun j3 => (if j3 = true then some (.inr (false)) else some (.inl (())))) else some (.inl (()))))).bind (Sum.elim (fun j4 => (loop (fun s2 => (if decide (s2 < (s1.1.length : Int)) = true then (idx s1.1 s2).bind fun x5 => (lease_Find.f s1.1 s1.2.1 x5.Mac).bind fun r9 => (idx s1.1 s2).bind fun x6 => (lease_Find.f r2.1 s1.2.1 x6.Mac).bind fun r10 => ((if r9.2 = true then (idx s1.1 s2).bind fun x7 => (idx a1 s1.2.2).bind fun x8 => (ref01_Same.f x7.Mac x8.Mac).bind fun r11 => (if (!r11) = true then (if (!r10.2) = true then some (true) else some ((!decide (r10.1 = r9.1)))) else some (false)) else some (false))).bind (fun j5 => (if j5 = true then some (.inr (.inr (false))) else lt (IntKind.i64.wrap (s2 + 1)) fun y1 => some (.inl y1))) else some (.inr (.inl (()))))) 0).bind (Sum.elim (fun j6 => lt (IntKind.i64.wrap (s1.2.1 + a2)) fun y2 => lt (IntKind.i64.wrap (s1.2.2 + 1)) fun y3 => some (.inl (r2.1, y2, y3))) (fun z_ => some (.inr (.inr (z_)))))) (fun z_ => some (.inr (.inr (z_)))))) else some (.inr (.inl (()))))) (([] : List TLease), 0, 0)).bind (Sum.elim (fun j7 => (law25_heads.f).bind fun r12 => some (r12)) (fun z_ => some (z_)))))
set_option maxRecDepth 100000 in
set_option maxHeartbeats 4000000 in
theorem law25_LeaseOne.spc (v1 : Value) (a1 : List TDhcp) (a2 : Int) (ha2 : InR .i64 a2) (r : Bool) (H : law25_LeaseOne.f a1 a2 = some r) : Spc Try.prog 5 [v1, .int .i64 a2] [Val (Kd.sl KDhcp) v1 a1] [] (fun (s : Unit) => .bool r) (fun s => []) := by
 unfold law25_LeaseOne.f at H
 refine Spc.go Try.func5 rfl (by kernel_rfl) rfl rfl (all_cons (Val.per Per_sl) all_nil) fun F a w h => ?_
 refine Go.seq ?_
 refine Go.reg ?_
 refine ga h (o_assign rfl) rfl fun h => ?_
 refine GoR.done ?_
 refine Go.seq ?_
 refine Go.seq ?_
 obtain ⟨o1, H, G1⟩ := bindE H
 refine g_cut (fun G => ∀ j1 (a : Act) (w : World), o1 = j1 → St Try.f5.ntmps F [(0, v1), (1, .int .i64 a2), (32, .bool j1)] [Val (Kd.sl KDhcp) v1 a1] a w → G a w) 1 ?_ fun J1 => ?_
 ·intro j1 a w ho_ h
  rw [ho_] at G1
  have H := G1
  by_cases c3 : j1 = true
  ·have H := ifT c3 H
   refine g_t h rfl c3 ?_
   refine Go.seq ?_
   refine Go.reg ?_
   obtain ⟨r1, er1, H⟩ := bindE H
   refine ga h (o_call (law25_heads.spc  r1 er1) rfl [] [] (by decide) rfl rfl) rfl fun h => ?_
   refine ga h (o_assign rfl) rfl fun h => ?_
   refine GoR.done ?_
   rw [← som H]
   exact g_ret (vs := [.bool r1]) h Try.func5 ⟨rfl, trivial⟩ ⟨(), rfl, (h.mem.pick [] (by decide) rfl)⟩
  ·have H := ifF c3 H
   refine g_f h rfl c3 ?_
   refine Go.skip ?_
   refine Go.seq ?_
   refine Go.reg ?_
   refine ga h (o_assign rfl) rfl fun h => ?_
   refine GoR.done ?_
   refine Go.seq ?_
   refine Go.reg ?_
   refine ga h (o_assign rfl) rfl fun h => ?_
   refine GoR.done ?_
   refine Go.seq ?_
   refine Go.seq ?_
   refine Go.reg ?_
   refine ga h (o_assign rfl) rfl fun h => ?_
   refine GoR.done ?_
   refine Go.block ?_
   obtain ⟨o2, hl, G2⟩ := bindE H
   refine g_cut (fun G => ∀ j7 (a : Act) (w : World), o2 = .inl (j7) → St Try.f5.ntmps F [] [] a w → G a w) 2 ?_ fun J7 => ?_
   ·intro j7 a w ho_ h
    rw [ho_] at G2
    have H := eInl G2
    refine Go.seq ?_
    refine Go.reg ?_
    obtain ⟨r12, er12, H⟩ := bindE H
    refine ga h (o_call (law25_heads.spc  r12 er12) rfl [] [] (by decide) rfl rfl) rfl fun h => ?_
    refine ga h (o_assign rfl) rfl fun h => ?_
    refine GoR.done ?_
    rw [← som H]
    exact g_ret (vs := [.bool r12]) h Try.func5 ⟨rfl, trivial⟩ ⟨(), rfl, (h.mem.pick [] (by decide) rfl)⟩
   refine g_loop (fun s1 G => ∀ (v2 : Value) (a : Act) (w : World), InR .i64 s1.2.1 → InR .i64 s1.2.2 → St Try.f5.ntmps F [(0, v1), (1, .int .i64 a2), (5, v2), (6, .int .i64 s1.2.1), (7, .int .i64 s1.2.2)] [Val (Kd.sl KDhcp) v1 a1, Val (Kd.sl KLease) v2 s1.1] a w → G a w) hl (fun s1 p1 H i1 => ?_) fun I_ => ?_
   ·intro v2 a w g2 g3 h
    refine Go.seq ?_
    refine Go.seq ?_
    refine Go.reg ?_
    refine mv h rfl rfl fun h => ?_
    refine mv h rfl rfl fun h => ?_
    have g4 := (len_at 0 rfl h.mem)
    refine ga h (o_ln rfl (rd_at 0 rfl) t_v40) rfl fun h => ?_
    refine ga h (o_bin rfl rfl rfl) rfl fun h => ?_
    refine GoR.done ?_
    by_cases c4 : decide (s1.2.2 < (a1.length : Int)) = true
    ·have H := ifT c4 H
     refine g_t h rfl c4 ?_
     refine Go.skip ?_
     refine Go.seq ?_
     refine Go.block ?_
     refine Go.seq ?_
     refine Go.reg ?_
     iterate 4 (refine ga h (o_move rfl) rfl fun h => ?_)
     obtain ⟨x1, ex1, H⟩ := bindE H
     refine ga h (o_ix rfl rfl (rd_at 0 rfl) ex1 t_v40) rfl fun h => ?_
     refine gs h (o_lev rfl (rd_at 0 rfl) ex1 t_y28 (by decide)) rfl fun v3 _ _ h => ?_
     obtain ⟨r2, er2, H⟩ := bindE H
     refine gs h (o_call (lease_Serve.spc v2 s1.1 s1.2.1 g2 v3 x1 r2 er2) rfl [2, 0] [] (by decide) rfl rfl) rfl fun s_ _ _ h => ?_
     obtain ⟨v4, v5⟩ := s_
     refine mv h rfl rfl fun h => ?_
     iterate 3 (refine ga h (o_extract rfl rfl) rfl fun h => ?_)
     refine gs h (o_alloc (K := KDhcp) (z := (.agg #[.int .i64 0, .int .u32 0, .int .u32 0, .int .u32 0, .slice none 0 0, .int .i64 0, .int .u32 0, .int .u32 0, .int .u32 0, .int .u32 0, .int .u32 0, .int .u32 0])) rfl ZDhcp) rfl fun b1 _ _ h => ?_
     refine ga h (o_assign rfl) rfl fun h => ?_
     refine gs0 h (o_st 0 rfl rfl rfl (pv_at PDhcp 2 rfl) rfl t_w28) fun _ _ _ h => ?_
     refine ga h (o_assign rfl) rfl fun h => ?_
     refine GoR.done ?_
     refine Go.seq ?_
     refine Go.seq ?_
     refine Go.reg ?_
     refine mv h rfl rfl fun h => ?_
     obtain ⟨r3, er3, H⟩ := bindE H
     refine ga h (o_call (lease_Check.spc v4 r2.1 r3 er3) rfl [1] [] (by decide) rfl rfl) rfl fun h => ?_
     refine ga h (o_not rfl) rfl fun h => ?_
     refine GoR.done ?_
     by_cases c5 : (!r3) = true
     ·have H := ifT c5 H
      refine g_t h rfl c5 ?_
      refine Go.seq ?_
      refine Go.reg ?_
      refine ga h (o_assign rfl) rfl fun h => ?_
      refine GoR.done ?_
      have e_ := som H; subst e_
      rw [← nx_out i1] at G2
      have H := G2
      rw [← som H]
      exact g_ret (vs := [.bool false]) h Try.func5 ⟨rfl, trivial⟩ ⟨(), rfl, (h.mem.pick [] (by decide) rfl)⟩
     ·have H := ifF c5 H
      refine g_f h rfl c5 ?_
      refine Go.skip ?_
      refine Go.seq ?_
      obtain ⟨o3, H, G3⟩ := bindE H
      refine g_cut (fun G => ∀ j4 (a : Act) (w : World), o3 = .inl (j4) → St Try.f5.ntmps F [(0, v1), (1, .int .i64 a2), (5, v2), (6, .int .i64 s1.2.1), (7, .int .i64 s1.2.2), (8, v4)] [Val (Kd.sl KDhcp) v1 a1, Val (Kd.sl KLease) v2 s1.1, Val (Kd.sl KLease) v4 r2.1, Fld KDhcp b1 0 r2.2.1] a w → G a w) 1 ?_ fun J4 => ?_
      ·intro j4 a w ho_ h
       rw [ho_] at G3
       have H := eInl G3
       refine Go.seq ?_
       refine Go.seq ?_
       refine Go.reg ?_
       refine ga h (o_assign rfl) rfl fun h => ?_
       refine GoR.done ?_
       refine Go.block ?_
       obtain ⟨o6, hl, G6⟩ := bindE H
       refine g_cut (fun G => ∀ j6 (a : Act) (w : World), o6 = .inl (j6) → St Try.f5.ntmps F [(0, v1), (1, .int .i64 a2), (6, .int .i64 s1.2.1), (7, .int .i64 s1.2.2), (8, v4)] [Val (Kd.sl KDhcp) v1 a1, Val (Kd.sl KLease) v4 r2.1, Fld KDhcp b1 0 r2.2.1] a w → G a w) 2 ?_ fun J6 => ?_
       ·intro j6 a w ho_ h
        rw [ho_] at G6
        have H := eInl G6
        refine Go.seq ?_
        refine Go.reg ?_
        refine mv h rfl rfl fun h => ?_
        refine ga h (o_assign rfl) rfl fun h => ?_
        refine GoR.done ?_
        refine Go.reg ?_
        refine mv h rfl rfl fun h => ?_
        refine mv h rfl rfl fun h => ?_
        refine ga h (o_bin rfl rfl rfl) rfl fun h => ?_
        obtain ⟨y2, ey2, H⟩ := ltE H
        refine ga h (o_assign' rfl (congrArg (fun z => Value.int .i64 z) ey2)) rfl fun h => ?_
        refine GoR.done ?_
        refine Go.inBlock ?_
        refine Go.reg ?_
        refine mv h rfl rfl fun h => ?_
        refine ga h (o_bin rfl rfl rfl) rfl fun h => ?_
        obtain ⟨y3, ey3, H⟩ := ltE H
        refine ga h (o_assign' rfl (congrArg (fun z => Value.int .i64 z) ey3)) rfl fun h => ?_
        refine GoR.done ?_
        have e_ := som H; subst e_
        exact Go.inLoop (nx_in i1 v4 _ _ (ey2 ▸ (wrap_in _ _)) (ey3 ▸ (wrap_in _ _)) (h.wr [0, 1]))
       refine g_loop (fun s2 G => ∀  (a : Act) (w : World), InR .i64 s2 → St Try.f5.ntmps F [(0, v1), (1, .int .i64 a2), (5, v2), (6, .int .i64 s1.2.1), (7, .int .i64 s1.2.2), (8, v4), (17, .int .i64 s2)] [Val (Kd.sl KDhcp) v1 a1, Val (Kd.sl KLease) v2 s1.1, Val (Kd.sl KLease) v4 r2.1, Fld KDhcp b1 0 r2.2.1] a w → G a w) hl (fun s2 p2 H i2 => ?_) fun I_ => ?_
       ·intro  a w g10 h
        refine Go.seq ?_
        refine Go.seq ?_
        refine Go.reg ?_
        refine mv h rfl rfl fun h => ?_
        refine mv h rfl rfl fun h => ?_
        have g11 := (len_at 1 rfl h.mem)
        refine ga h (o_ln rfl (rd_at 1 rfl) t_v26) rfl fun h => ?_
        refine ga h (o_bin rfl rfl rfl) rfl fun h => ?_
        refine GoR.done ?_
        by_cases c14 : decide (s2 < (s1.1.length : Int)) = true
        ·have H := ifT c14 H
         refine g_t h rfl c14 ?_
         refine Go.skip ?_
         refine Go.seq ?_
         refine Go.block ?_
         refine Go.seq ?_
         refine Go.reg ?_
         iterate 4 (refine ga h (o_move rfl) rfl fun h => ?_)
         obtain ⟨x5, ex5, H⟩ := bindE H
         refine ga h (o_ix rfl rfl (rd_at 1 rfl) ex5 t_v26) rfl fun h => ?_
         refine ga h (o_fae (k' := s2.toNat * Kd.n KLease + 0) rfl (rd_at 1 rfl) ex5 (by decide) t_f42_0 rfl rfl) rfl fun h => ?_
         refine gs h (o_lsv rfl (rd_at 1 rfl) ex5 sLease_Mac t_y22 (by decide)) rfl fun v11 _ _ h => ?_
         obtain ⟨r9, er9, H⟩ := bindE H
         refine ga h (o_call (lease_Find.spc v2 s1.1 s1.2.1 g2 v11 x5.Mac r9 er9) rfl [2, 0] [] (by decide) rfl rfl) rfl fun h => ?_
         have g12 := h.mem.pur 0 rfl
         refine mv h rfl rfl fun h => ?_
         refine ga h (o_extract rfl rfl) rfl fun h => ?_
         refine ga h (o_extract rfl rfl) rfl fun h => ?_
         refine ga h (o_assign rfl) rfl fun h => ?_
         refine ga h (o_assign rfl) rfl fun h => ?_
         refine GoR.done ?_
         refine Go.seq ?_
         refine Go.reg ?_
         iterate 4 (refine ga h (o_move rfl) rfl fun h => ?_)
         obtain ⟨x6, ex6, H⟩ := bindE H
         refine ga h (o_ix rfl rfl (rd_at 3 rfl) ex6 t_v26) rfl fun h => ?_
         refine ga h (o_fae (k' := s2.toNat * Kd.n KLease + 0) rfl (rd_at 3 rfl) ex6 (by decide) t_f42_0 rfl rfl) rfl fun h => ?_
         refine gs h (o_lsv rfl (rd_at 3 rfl) ex6 sLease_Mac t_y22 (by decide)) rfl fun v12 _ _ h => ?_
         obtain ⟨r10, er10, H⟩ := bindE H
         refine ga h (o_call (lease_Find.spc v4 r2.1 s1.2.1 g2 v12 x6.Mac r10 er10) rfl [5, 0] [] (by decide) rfl rfl) rfl fun h => ?_
         have g13 := h.mem.pur 0 rfl
         refine mv h rfl rfl fun h => ?_
         refine ga h (o_extract rfl rfl) rfl fun h => ?_
         refine ga h (o_extract rfl rfl) rfl fun h => ?_
         refine ga h (o_assign rfl) rfl fun h => ?_
         refine ga h (o_assign rfl) rfl fun h => ?_
         refine GoR.done ?_
         refine Go.seq ?_
         replace h := h.wq [(0, v1), (1, .int .i64 a2), (5, v2), (6, .int .i64 s1.2.1), (7, .int .i64 s1.2.2), (8, v4), (17, .int .i64 s2), (18, .int .u32 r9.1), (19, .bool r9.2), (20, .int .u32 r10.1), (21, .bool r10.2)] [Ent.pur (InR .u32 r10.1), Val (Kd.sl (Kd.int .u8)) v12 x6.Mac, Ent.pur (InR .u32 r9.1), Val (Kd.sl (Kd.int .u8)) v11 x5.Mac, Val (Kd.sl KDhcp) v1 a1, Val (Kd.sl KLease) v2 s1.1, Val (Kd.sl KLease) v4 r2.1, Fld KDhcp b1 0 r2.2.1] [0, 1, 2, 3, 4, 5, 6, 7]
         obtain ⟨o7, H, G7⟩ := bindE H
         refine g_cut (fun G => ∀ j5 (a : Act) (w : World), o7 = j5 → St Try.f5.ntmps F [(0, v1), (1, .int .i64 a2), (5, v2), (6, .int .i64 s1.2.1), (7, .int .i64 s1.2.2), (8, v4), (17, .int .i64 s2), (173, .bool j5)] [Val (Kd.sl KDhcp) v1 a1, Val (Kd.sl KLease) v2 s1.1, Val (Kd.sl KLease) v4 r2.1, Fld KDhcp b1 0 r2.2.1] a w → G a w) 1 ?_ fun J5 => ?_
         ·intro j5 a w ho_ h
          rw [ho_] at G7
          have H := G7
          by_cases c18 : j5 = true
          ·have H := ifT c18 H
           refine g_t h rfl c18 ?_
           refine Go.seq ?_
           refine Go.reg ?_
           refine ga h (o_assign rfl) rfl fun h => ?_
           refine GoR.done ?_
           have e_ := som H; subst e_
           rw [← nx_out i2] at G6
           have H := G6
           have e_ := som H; subst e_
           rw [← nx_out i1] at G2
           have H := G2
           rw [← som H]
           exact g_ret (vs := [.bool false]) h Try.func5 ⟨rfl, trivial⟩ ⟨(), rfl, (h.mem.pick [] (by decide) rfl)⟩
          ·have H := ifF c18 H
           refine g_f h rfl c18 ?_
           refine Go.skip ?_
           refine Go.inBlock ?_
           refine Go.reg ?_
           refine mv h rfl rfl fun h => ?_
           refine ga h (o_bin rfl rfl rfl) rfl fun h => ?_
           obtain ⟨y1, ey1, H⟩ := ltE H
           refine ga h (o_assign' rfl (congrArg (fun z => Value.int .i64 z) ey1)) rfl fun h => ?_
           refine GoR.done ?_
           have e_ := som H; subst e_
           exact Go.inLoop (nx_in i2 _ _ (ey1 ▸ (wrap_in _ _)) (h.wr [0, 1, 2, 3]))
         by_cases c15 : r9.2 = true
         ·have H := ifT c15 H
          obtain ⟨x7, ex7, H⟩ := bindE H
          obtain ⟨x8, ex8, H⟩ := bindE H
          obtain ⟨r11, er11, H⟩ := bindE H
          by_cases c16 : (!r11) = true
          ·have H := ifT c16 H
           by_cases c17 : (!r10.2) = true
           ·have H := ifT c17 H
            refine Go.draw (E := [(0, v1), (1, .int .i64 a2), (5, v2), (6, .int .i64 s1.2.1), (7, .int .i64 s1.2.2), (8, v4), (17, .int .i64 s2), (18, .int .u32 r9.1), (19, .bool r9.2), (20, .int .u32 r10.1), (21, .bool r10.2)]) [] (L := [Ent.pur (InR .u32 r10.1), Val (Kd.sl (Kd.int .u8)) v12 x6.Mac, Ent.pur (InR .u32 r9.1), Val (Kd.sl (Kd.int .u8)) v11 x5.Mac, Val (Kd.sl KDhcp) v1 a1, Val (Kd.sl KLease) v2 s1.1, Val (Kd.sl KLease) v4 r2.1, Fld KDhcp b1 0 r2.2.1]) h rfl rfl 21 [cn (.bool r9.2), ce [0] (.bool r9.2), ce [0, 1] (v2), ce [0, 1] (.int .i64 s2), ce [0, 1, 2, 3] (elemP v2 (s2.toNat * Kd.n KLease)), ce [0, 1, 2, 3, 4] (elemP v2 (s2.toNat * Kd.n KLease + 0)), cw [0, 1, 2, 3, 4, 5] [] [] fun u => [Val (Kd.sl (Kd.int .u8)) u x7.Mac], ce [0, 1] (v1), ce [0, 1] (.int .i64 s1.2.2), ce [0, 1, 7, 8] (elemP v1 (s1.2.2.toNat * Kd.n KDhcp)), ce [0, 1, 7, 8, 9] (elemP v1 (s1.2.2.toNat * Kd.n KDhcp + 4)), cw [0, 1, 7, 8, 9, 10] [] [] fun u => [Val (Kd.sl (Kd.int .u8)) u x8.Mac], cm [0, 1, 2, 3, 4, 5, 6, 7, 8, 9, 10, 11] [6, 11] [] (.bool r11) fun u => [], ce [0, 1, 2, 3, 4, 5, 6, 7, 8, 9, 10, 11, 12] (.bool (!r11)), ce [0, 1, 2, 3, 4, 5, 6, 7, 8, 9, 10, 11, 12, 13] (.bool (!r11)), ce [0, 1, 2, 3, 4, 5, 6, 7, 8, 9, 10, 11, 12, 13, 14] (.bool (!r11)), ce [0, 1, 2, 3, 4, 5, 6, 7, 8, 9, 10, 11, 12, 13, 14, 15] (.bool r10.2), ce [0, 1, 2, 3, 4, 5, 6, 7, 8, 9, 10, 11, 12, 13, 14, 15, 16] (.bool (!r10.2)), ce [0, 1, 2, 3, 4, 5, 6, 7, 8, 9, 10, 11, 12, 13, 14, 15, 16, 17] (.bool (!r10.2)), ⟨[18], [], [], true, .con undef, none, fun u => [], []⟩, ⟨[18], [], [], true, .con undef, none, fun u => [], []⟩] rfl t_mxo (by kernel_rfl) (by rfl) ?_ fun f1 _ _ h => ?_
            ·exact ox rfl (o_move rfl) (ox rfl (o_move rfl) (og rfl rfl (fun _ => rfl) c15 (o_move rfl) (og rfl rfl (fun _ => rfl) c15 (o_move rfl) (og rfl rfl (fun _ => rfl) c15 (o_ix rfl rfl (rd_at 5 rfl) ex7 t_v26) (og rfl rfl (fun _ => rfl) c15 (o_fae (k' := s2.toNat * Kd.n KLease + 0) rfl (rd_at 5 rfl) ex7 (by decide) t_f42_0 rfl rfl) (obs_cons (ob_own rfl (gok_some rfl rfl rfl (fun _ => rfl) c15) rfl fun f1 => (o_lsv rfl (rd_at 5 rfl) ex7 sLease_Mac t_y22 (by decide))) (og rfl rfl (fun _ => rfl) c15 (o_move rfl) (og rfl rfl (fun _ => rfl) c15 (o_move rfl) (og rfl rfl (fun _ => rfl) c15 (o_ix rfl rfl (rd_at 4 rfl) ex8 t_v40) (og rfl rfl (fun _ => rfl) c15 (o_fae (k' := s1.2.2.toNat * Kd.n KDhcp + 4) rfl (rd_at 4 rfl) ex8 (by decide) t_f28_4 rfl rfl) (obs_cons (ob_own rfl (gok_some rfl rfl rfl (fun _ => rfl) c15) rfl fun f1 => (o_lsv rfl (rd_at 4 rfl) ex8 sDhcp_Mac t_y22 (by decide))) (obs_cons (ob_con rfl (gok_some rfl rfl rfl (fun _ => rfl) c15) rfl fun f1 => (o_call (ref01_Same.spc (f1 6) x7.Mac (f1 11) x8.Mac r11 er11) rfl [0, 1] [] (by decide) rfl rfl)) (og rfl rfl (fun _ => rfl) c15 (o_not rfl) (ox rfl (o_pickT rfl rfl c15) (ox rfl (o_move rfl) (og rfl rfl (fun _ => rfl) c16 (o_move rfl) (og rfl rfl (fun _ => rfl) c16 (o_not rfl) (og rfl rfl (fun _ => rfl) c16 (o_move rfl) (oj rfl rfl (fun _ => rfl) (nb_t c17) (oj rfl rfl (fun _ => rfl) (nb_t c17) (obs_nil)))))))))))))))))))))
            replace h := h.wk (E' := [(0, v1), (1, .int .i64 a2), (5, v2), (6, .int .i64 s1.2.1), (7, .int .i64 s1.2.2), (8, v4), (17, .int .i64 s2), (165, .bool (!r11)), (168, .bool (!r10.2))]) (L' := [Val (Kd.sl (Kd.int .u8)) (f1 6) x7.Mac, Val (Kd.sl (Kd.int .u8)) (f1 11) x8.Mac, Ent.pur (InR .u32 r10.1), Val (Kd.sl (Kd.int .u8)) v12 x6.Mac, Ent.pur (InR .u32 r9.1), Val (Kd.sl (Kd.int .u8)) v11 x5.Mac, Val (Kd.sl KDhcp) v1 a1, Val (Kd.sl KLease) v2 s1.1, Val (Kd.sl KLease) v4 r2.1, Fld KDhcp b1 0 r2.2.1]) (by kernel_rfl) [0, 1, 2, 3, 4, 5, 6, 7, 8, 9] (by decide) (by kernel_rfl)
            refine gk h rfl rfl (nb_t c17) rfl fun _ h => ?_
            refine gg h rfl rfl c16 (o_pickT rfl rfl c17) rfl fun _ _ _ h => ?_
            refine ga h (o_pickT rfl rfl c16) rfl fun h => ?_
            refine GoR.done ?_
            exact J5 true _ _ (som H).symm (h.wr [6, 7, 8, 9])
           ·have H := ifF c17 H
            refine Go.draw (E := [(0, v1), (1, .int .i64 a2), (5, v2), (6, .int .i64 s1.2.1), (7, .int .i64 s1.2.2), (8, v4), (17, .int .i64 s2), (18, .int .u32 r9.1), (19, .bool r9.2), (20, .int .u32 r10.1), (21, .bool r10.2)]) [] (L := [Ent.pur (InR .u32 r10.1), Val (Kd.sl (Kd.int .u8)) v12 x6.Mac, Ent.pur (InR .u32 r9.1), Val (Kd.sl (Kd.int .u8)) v11 x5.Mac, Val (Kd.sl KDhcp) v1 a1, Val (Kd.sl KLease) v2 s1.1, Val (Kd.sl KLease) v4 r2.1, Fld KDhcp b1 0 r2.2.1]) h rfl rfl 21 [cn (.bool r9.2), ce [0] (.bool r9.2), ce [0, 1] (v2), ce [0, 1] (.int .i64 s2), ce [0, 1, 2, 3] (elemP v2 (s2.toNat * Kd.n KLease)), ce [0, 1, 2, 3, 4] (elemP v2 (s2.toNat * Kd.n KLease + 0)), cw [0, 1, 2, 3, 4, 5] [] [] fun u => [Val (Kd.sl (Kd.int .u8)) u x7.Mac], ce [0, 1] (v1), ce [0, 1] (.int .i64 s1.2.2), ce [0, 1, 7, 8] (elemP v1 (s1.2.2.toNat * Kd.n KDhcp)), ce [0, 1, 7, 8, 9] (elemP v1 (s1.2.2.toNat * Kd.n KDhcp + 4)), cw [0, 1, 7, 8, 9, 10] [] [] fun u => [Val (Kd.sl (Kd.int .u8)) u x8.Mac], cm [0, 1, 2, 3, 4, 5, 6, 7, 8, 9, 10, 11] [6, 11] [] (.bool r11) fun u => [], ce [0, 1, 2, 3, 4, 5, 6, 7, 8, 9, 10, 11, 12] (.bool (!r11)), ce [0, 1, 2, 3, 4, 5, 6, 7, 8, 9, 10, 11, 12, 13] (.bool (!r11)), ce [0, 1, 2, 3, 4, 5, 6, 7, 8, 9, 10, 11, 12, 13, 14] (.bool (!r11)), ce [0, 1, 2, 3, 4, 5, 6, 7, 8, 9, 10, 11, 12, 13, 14, 15] (.bool r10.2), ce [0, 1, 2, 3, 4, 5, 6, 7, 8, 9, 10, 11, 12, 13, 14, 15, 16] (.bool (!r10.2)), ce [0, 1, 2, 3, 4, 5, 6, 7, 8, 9, 10, 11, 12, 13, 14, 15, 16, 17] (.bool (!r10.2)), ce [0, 1, 2, 3, 4, 5, 6, 7, 8, 9, 10, 11, 12, 13, 14, 15, 16, 17, 18] (.int .u32 r10.1), ce [0, 1, 2, 3, 4, 5, 6, 7, 8, 9, 10, 11, 12, 13, 14, 15, 16, 17, 18] (.int .u32 r9.1)] rfl t_mxo (by kernel_rfl) (by rfl) ?_ fun f1 _ _ h => ?_
            ·exact ox rfl (o_move rfl) (ox rfl (o_move rfl) (og rfl rfl (fun _ => rfl) c15 (o_move rfl) (og rfl rfl (fun _ => rfl) c15 (o_move rfl) (og rfl rfl (fun _ => rfl) c15 (o_ix rfl rfl (rd_at 5 rfl) ex7 t_v26) (og rfl rfl (fun _ => rfl) c15 (o_fae (k' := s2.toNat * Kd.n KLease + 0) rfl (rd_at 5 rfl) ex7 (by decide) t_f42_0 rfl rfl) (obs_cons (ob_own rfl (gok_some rfl rfl rfl (fun _ => rfl) c15) rfl fun f1 => (o_lsv rfl (rd_at 5 rfl) ex7 sLease_Mac t_y22 (by decide))) (og rfl rfl (fun _ => rfl) c15 (o_move rfl) (og rfl rfl (fun _ => rfl) c15 (o_move rfl) (og rfl rfl (fun _ => rfl) c15 (o_ix rfl rfl (rd_at 4 rfl) ex8 t_v40) (og rfl rfl (fun _ => rfl) c15 (o_fae (k' := s1.2.2.toNat * Kd.n KDhcp + 4) rfl (rd_at 4 rfl) ex8 (by decide) t_f28_4 rfl rfl) (obs_cons (ob_own rfl (gok_some rfl rfl rfl (fun _ => rfl) c15) rfl fun f1 => (o_lsv rfl (rd_at 4 rfl) ex8 sDhcp_Mac t_y22 (by decide))) (obs_cons (ob_con rfl (gok_some rfl rfl rfl (fun _ => rfl) c15) rfl fun f1 => (o_call (ref01_Same.spc (f1 6) x7.Mac (f1 11) x8.Mac r11 er11) rfl [0, 1] [] (by decide) rfl rfl)) (og rfl rfl (fun _ => rfl) c15 (o_not rfl) (ox rfl (o_pickT rfl rfl c15) (ox rfl (o_move rfl) (og rfl rfl (fun _ => rfl) c16 (o_move rfl) (og rfl rfl (fun _ => rfl) c16 (o_not rfl) (og rfl rfl (fun _ => rfl) c16 (o_move rfl) (og rfl rfl (fun _ => rfl) (nbF c17) (o_move rfl) (og rfl rfl (fun _ => rfl) (nbF c17) (o_move rfl) (obs_nil)))))))))))))))))))))
            replace h := h.wk (E' := [(0, v1), (1, .int .i64 a2), (5, v2), (6, .int .i64 s1.2.1), (7, .int .i64 s1.2.2), (8, v4), (17, .int .i64 s2), (165, .bool (!r11)), (168, .bool (!r10.2)), (169, .int .u32 r10.1), (170, .int .u32 r9.1)]) (L' := [Val (Kd.sl (Kd.int .u8)) (f1 6) x7.Mac, Val (Kd.sl (Kd.int .u8)) (f1 11) x8.Mac, Ent.pur (InR .u32 r10.1), Val (Kd.sl (Kd.int .u8)) v12 x6.Mac, Ent.pur (InR .u32 r9.1), Val (Kd.sl (Kd.int .u8)) v11 x5.Mac, Val (Kd.sl KDhcp) v1 a1, Val (Kd.sl KLease) v2 s1.1, Val (Kd.sl KLease) v4 r2.1, Fld KDhcp b1 0 r2.2.1]) (by kernel_rfl) [0, 1, 2, 3, 4, 5, 6, 7, 8, 9] (by decide) (by kernel_rfl)
            refine gg h rfl rfl (nbF c17) (o_bin rfl rfl rfl) rfl fun _ _ _ h => ?_
            refine gg h rfl rfl c16 (o_pickF rfl rfl c17) rfl fun _ _ _ h => ?_
            refine ga h (o_pickT rfl rfl c16) rfl fun h => ?_
            refine GoR.done ?_
            exact J5 (!decide (r10.1 = r9.1)) _ _ (som H).symm (h.wr [6, 7, 8, 9])
          ·have H := ifF c16 H
           refine Go.draw (E := [(0, v1), (1, .int .i64 a2), (5, v2), (6, .int .i64 s1.2.1), (7, .int .i64 s1.2.2), (8, v4), (17, .int .i64 s2), (18, .int .u32 r9.1), (19, .bool r9.2), (20, .int .u32 r10.1), (21, .bool r10.2)]) [] (L := [Ent.pur (InR .u32 r10.1), Val (Kd.sl (Kd.int .u8)) v12 x6.Mac, Ent.pur (InR .u32 r9.1), Val (Kd.sl (Kd.int .u8)) v11 x5.Mac, Val (Kd.sl KDhcp) v1 a1, Val (Kd.sl KLease) v2 s1.1, Val (Kd.sl KLease) v4 r2.1, Fld KDhcp b1 0 r2.2.1]) h rfl rfl 21 [cn (.bool r9.2), ce [0] (.bool r9.2), ce [0, 1] (v2), ce [0, 1] (.int .i64 s2), ce [0, 1, 2, 3] (elemP v2 (s2.toNat * Kd.n KLease)), ce [0, 1, 2, 3, 4] (elemP v2 (s2.toNat * Kd.n KLease + 0)), cw [0, 1, 2, 3, 4, 5] [] [] fun u => [Val (Kd.sl (Kd.int .u8)) u x7.Mac], ce [0, 1] (v1), ce [0, 1] (.int .i64 s1.2.2), ce [0, 1, 7, 8] (elemP v1 (s1.2.2.toNat * Kd.n KDhcp)), ce [0, 1, 7, 8, 9] (elemP v1 (s1.2.2.toNat * Kd.n KDhcp + 4)), cw [0, 1, 7, 8, 9, 10] [] [] fun u => [Val (Kd.sl (Kd.int .u8)) u x8.Mac], cm [0, 1, 2, 3, 4, 5, 6, 7, 8, 9, 10, 11] [6, 11] [] (.bool r11) fun u => [], ce [0, 1, 2, 3, 4, 5, 6, 7, 8, 9, 10, 11, 12] (.bool (!r11)), ce [0, 1, 2, 3, 4, 5, 6, 7, 8, 9, 10, 11, 12, 13] (.bool (!r11)), ce [0, 1, 2, 3, 4, 5, 6, 7, 8, 9, 10, 11, 12, 13, 14] (.bool (!r11)), ⟨[15], [], [], true, .con undef, none, fun u => [], []⟩, ⟨[15], [], [], true, .con undef, none, fun u => [], []⟩, ⟨[15], [], [], true, .con undef, none, fun u => [], []⟩, ⟨[18], [], [], true, .con undef, none, fun u => [], []⟩, ⟨[18], [], [], true, .con undef, none, fun u => [], []⟩] rfl t_mxo (by kernel_rfl) (by rfl) ?_ fun f1 _ _ h => ?_
           ·exact ox rfl (o_move rfl) (ox rfl (o_move rfl) (og rfl rfl (fun _ => rfl) c15 (o_move rfl) (og rfl rfl (fun _ => rfl) c15 (o_move rfl) (og rfl rfl (fun _ => rfl) c15 (o_ix rfl rfl (rd_at 5 rfl) ex7 t_v26) (og rfl rfl (fun _ => rfl) c15 (o_fae (k' := s2.toNat * Kd.n KLease + 0) rfl (rd_at 5 rfl) ex7 (by decide) t_f42_0 rfl rfl) (obs_cons (ob_own rfl (gok_some rfl rfl rfl (fun _ => rfl) c15) rfl fun f1 => (o_lsv rfl (rd_at 5 rfl) ex7 sLease_Mac t_y22 (by decide))) (og rfl rfl (fun _ => rfl) c15 (o_move rfl) (og rfl rfl (fun _ => rfl) c15 (o_move rfl) (og rfl rfl (fun _ => rfl) c15 (o_ix rfl rfl (rd_at 4 rfl) ex8 t_v40) (og rfl rfl (fun _ => rfl) c15 (o_fae (k' := s1.2.2.toNat * Kd.n KDhcp + 4) rfl (rd_at 4 rfl) ex8 (by decide) t_f28_4 rfl rfl) (obs_cons (ob_own rfl (gok_some rfl rfl rfl (fun _ => rfl) c15) rfl fun f1 => (o_lsv rfl (rd_at 4 rfl) ex8 sDhcp_Mac t_y22 (by decide))) (obs_cons (ob_con rfl (gok_some rfl rfl rfl (fun _ => rfl) c15) rfl fun f1 => (o_call (ref01_Same.spc (f1 6) x7.Mac (f1 11) x8.Mac r11 er11) rfl [0, 1] [] (by decide) rfl rfl)) (og rfl rfl (fun _ => rfl) c15 (o_not rfl) (ox rfl (o_pickT rfl rfl c15) (ox rfl (o_move rfl) (oj rfl rfl (fun _ => rfl) (nb_f c16) (oj rfl rfl (fun _ => rfl) (nb_f c16) (oj rfl rfl (fun _ => rfl) (nb_f c16) (oj rfl rfl (fun _ => rfl) rfl (oj rfl rfl (fun _ => rfl) rfl (obs_nil)))))))))))))))))))))
           replace h := h.wk (E' := [(0, v1), (1, .int .i64 a2), (5, v2), (6, .int .i64 s1.2.1), (7, .int .i64 s1.2.2), (8, v4), (17, .int .i64 s2), (165, .bool (!r11)), (168, undef)]) (L' := [Val (Kd.sl (Kd.int .u8)) (f1 6) x7.Mac, Val (Kd.sl (Kd.int .u8)) (f1 11) x8.Mac, Ent.pur (InR .u32 r10.1), Val (Kd.sl (Kd.int .u8)) v12 x6.Mac, Ent.pur (InR .u32 r9.1), Val (Kd.sl (Kd.int .u8)) v11 x5.Mac, Val (Kd.sl KDhcp) v1 a1, Val (Kd.sl KLease) v2 s1.1, Val (Kd.sl KLease) v4 r2.1, Fld KDhcp b1 0 r2.2.1]) (by kernel_rfl) [0, 1, 2, 3, 4, 5, 6, 7, 8, 9] (by decide) (by kernel_rfl)
           refine gk h rfl rfl rfl rfl fun _ h => ?_
           refine gk h rfl rfl (nb_f c16) rfl fun _ h => ?_
           refine ga h (o_pickF rfl rfl c16) rfl fun h => ?_
           refine GoR.done ?_
           exact J5 false _ _ (som H).symm (h.wr [6, 7, 8, 9])
         ·have H := ifF c15 H
          refine Go.draw (E := [(0, v1), (1, .int .i64 a2), (5, v2), (6, .int .i64 s1.2.1), (7, .int .i64 s1.2.2), (8, v4), (17, .int .i64 s2), (18, .int .u32 r9.1), (19, .bool r9.2), (20, .int .u32 r10.1), (21, .bool r10.2)]) [] (L := [Ent.pur (InR .u32 r10.1), Val (Kd.sl (Kd.int .u8)) v12 x6.Mac, Ent.pur (InR .u32 r9.1), Val (Kd.sl (Kd.int .u8)) v11 x5.Mac, Val (Kd.sl KDhcp) v1 a1, Val (Kd.sl KLease) v2 s1.1, Val (Kd.sl KLease) v4 r2.1, Fld KDhcp b1 0 r2.2.1]) h rfl rfl 21 [cn (.bool r9.2), ce [0] (.bool r9.2), ⟨[1], [], [], true, .con undef, none, fun u => [], []⟩, ⟨[1], [], [], true, .con undef, none, fun u => [], []⟩, ⟨[1], [], [], true, .con undef, none, fun u => [], []⟩, ⟨[1], [], [], true, .con undef, none, fun u => [], []⟩, ⟨[1], [], [], true, .con undef, none, fun u => [], []⟩, ⟨[1], [], [], true, .con undef, none, fun u => [], []⟩, ⟨[1], [], [], true, .con undef, none, fun u => [], []⟩, ⟨[1], [], [], true, .con undef, none, fun u => [], []⟩, ⟨[1], [], [], true, .con undef, none, fun u => [], []⟩, ⟨[1], [], [], true, .con undef, none, fun u => [], []⟩, ⟨[1], [], [], true, .con undef, none, fun u => [], []⟩, ⟨[1], [], [], true, .con undef, none, fun u => [], []⟩, ce [0, 1, 2, 3, 4, 5, 6, 7, 8, 9, 10, 11, 12, 13] (.bool false), ce [0, 1, 2, 3, 4, 5, 6, 7, 8, 9, 10, 11, 12, 13, 14] (.bool false), ⟨[15], [], [], true, .con undef, none, fun u => [], []⟩, ⟨[15], [], [], true, .con undef, none, fun u => [], []⟩, ⟨[15], [], [], true, .con undef, none, fun u => [], []⟩, ⟨[18], [], [], true, .con undef, none, fun u => [], []⟩, ⟨[18], [], [], true, .con undef, none, fun u => [], []⟩] rfl t_mxo (by kernel_rfl) (by rfl) ?_ fun f1 _ _ h => ?_
          ·exact ox rfl (o_move rfl) (ox rfl (o_move rfl) (oj rfl rfl (fun _ => rfl) (nb_f c15) (oj rfl rfl (fun _ => rfl) (nb_f c15) (oj rfl rfl (fun _ => rfl) (nb_f c15) (oj rfl rfl (fun _ => rfl) (nb_f c15) (oj rfl rfl (fun _ => rfl) (nb_f c15) (oj rfl rfl (fun _ => rfl) (nb_f c15) (oj rfl rfl (fun _ => rfl) (nb_f c15) (oj rfl rfl (fun _ => rfl) (nb_f c15) (oj rfl rfl (fun _ => rfl) (nb_f c15) (oj rfl rfl (fun _ => rfl) (nb_f c15) (oj rfl rfl (fun _ => rfl) (nb_f c15) (oj rfl rfl (fun _ => rfl) (nb_f c15) (ox rfl (o_pickF rfl rfl c15) (ox rfl (o_move rfl) (obs_cons (ob_skip rfl rfl rfl rfl (fun _ => rfl) (nb_f Bool.false_ne_true) rfl rfl rfl rfl) (obs_cons (ob_skip rfl rfl rfl rfl (fun _ => rfl) (nb_f Bool.false_ne_true) rfl rfl rfl rfl) (obs_cons (ob_skip rfl rfl rfl rfl (fun _ => rfl) (nb_f Bool.false_ne_true) rfl rfl rfl rfl) (oj rfl rfl (fun _ => rfl) rfl (oj rfl rfl (fun _ => rfl) rfl (obs_nil)))))))))))))))))))))
          replace h := h.wk (E' := [(0, v1), (1, .int .i64 a2), (5, v2), (6, .int .i64 s1.2.1), (7, .int .i64 s1.2.2), (8, v4), (17, .int .i64 s2), (165, .bool false), (168, undef)]) (L' := [Ent.pur (InR .u32 r10.1), Val (Kd.sl (Kd.int .u8)) v12 x6.Mac, Ent.pur (InR .u32 r9.1), Val (Kd.sl (Kd.int .u8)) v11 x5.Mac, Val (Kd.sl KDhcp) v1 a1, Val (Kd.sl KLease) v2 s1.1, Val (Kd.sl KLease) v4 r2.1, Fld KDhcp b1 0 r2.2.1]) (by kernel_rfl) [0, 1, 2, 3, 4, 5, 6, 7] (by decide) (by kernel_rfl)
          refine gk h rfl rfl rfl rfl fun _ h => ?_
          refine gk h rfl rfl (nb_f Bool.false_ne_true) rfl fun _ h => ?_
          refine ga h (o_pickF rfl rfl Bool.false_ne_true) rfl fun h => ?_
          refine GoR.done ?_
          exact J5 false _ _ (som H).symm (h.wr [4, 5, 6, 7])
        ·have H := ifF c14 H
         refine g_f h rfl c14 ?_
         refine Go.exit rfl ?_
         have e_ := som H; subst e_
         exact J6 () _ _ (nx_out i2).symm (h.wr [0, 2, 3])
       ·exact I_ _ _ (show InR .i64 0 by decide) (h.wr [0, 1, 2, 3])
      refine Go.seq ?_
      obtain ⟨o4, H, G4⟩ := bindE H
      refine g_cut (fun G => ∀ j2 (a : Act) (w : World), o4 = j2 → St Try.f5.ntmps F [(0, v1), (1, .int .i64 a2), (5, v2), (6, .int .i64 s1.2.1), (7, .int .i64 s1.2.2), (8, v4), (9, pt b1), (59, .bool j2)] [Val (Kd.sl KDhcp) v1 a1, Val (Kd.sl KLease) v2 s1.1, Val (Kd.sl KLease) v4 r2.1, Fld KDhcp b1 0 r2.2.1] a w → G a w) 1 ?_ fun J2 => ?_
      ·intro j2 a w ho_ h
       rw [ho_] at G4
       have H := G4
       by_cases c7 : j2 = true
       ·have H := ifT c7 H
        refine g_t h rfl c7 ?_
        refine Go.seq ?_
        refine Go.reg ?_
        iterate 4 (refine ga h (o_move rfl) rfl fun h => ?_)
        obtain ⟨x2, ex2, H⟩ := bindE H
        refine ga h (o_ix rfl rfl (rd_at 0 rfl) ex2 t_v40) rfl fun h => ?_
        refine ga h (o_fae (k' := s1.2.2.toNat * Kd.n KDhcp + 4) rfl (rd_at 0 rfl) ex2 (by decide) t_f28_4 rfl rfl) rfl fun h => ?_
        refine gs h (o_lsv rfl (rd_at 0 rfl) ex2 sDhcp_Mac t_y22 (by decide)) rfl fun v6 _ _ h => ?_
        obtain ⟨r4, er4, H⟩ := bindE H
        refine ga h (o_call (lease_Find.spc v4 r2.1 s1.2.1 g2 v6 x2.Mac r4 er4) rfl [3, 0] [] (by decide) rfl rfl) rfl fun h => ?_
        have g6 := h.mem.pur 0 rfl
        refine mv h rfl rfl fun h => ?_
        refine ga h (o_extract rfl rfl) rfl fun h => ?_
        refine ga h (o_extract rfl rfl) rfl fun h => ?_
        refine ga h (o_assign rfl) rfl fun h => ?_
        refine ga h (o_assign rfl) rfl fun h => ?_
        refine GoR.done ?_
        refine Go.seq ?_
        refine Go.reg ?_
        refine mv h rfl rfl fun h => ?_
        refine mv h rfl rfl fun h => ?_
        refine ga h (o_fa rfl t_f28_3 rfl rfl) rfl fun h => ?_
        have g7 := (in2 (fd_sub sDhcp_Yi 5 rfl h.mem))
        refine ga h (o_lfx 5 rfl rfl sDhcp_Yi rfl X_int t_y25) rfl fun h => ?_
        obtain ⟨r5, er5, H⟩ := bindE H
        refine gs h (o_call (lease_Owner.spc v4 r2.1 s1.2.1 g2 r2.2.1.Yi g7 r5 er5) rfl [4] [] (by decide) rfl rfl) rfl fun v7 _ _ h => ?_
        refine mv h rfl rfl fun h => ?_
        refine ga h (o_extract rfl rfl) rfl fun h => ?_
        refine ga h (o_extract rfl rfl) rfl fun h => ?_
        refine ga h (o_assign rfl) rfl fun h => ?_
        refine ga h (o_assign rfl) rfl fun h => ?_
        refine GoR.done ?_
        refine Go.seq ?_
        refine Go.reg ?_
        refine mv h rfl rfl fun h => ?_
        refine mv h rfl rfl fun h => ?_
        refine ga h (o_fa rfl t_f28_3 rfl rfl) rfl fun h => ?_
        have g8 := (in2 (fd_sub sDhcp_Yi 6 rfl h.mem))
        refine ga h (o_lfx 6 rfl rfl sDhcp_Yi rfl X_int t_y25) rfl fun h => ?_
        obtain ⟨r6, er6, H⟩ := bindE H
        refine gs h (o_call (lease_Owner.spc v2 s1.1 s1.2.1 g2 r2.2.1.Yi g8 r6 er6) rfl [4] [] (by decide) rfl rfl) rfl fun v8 _ _ h => ?_
        refine mv h rfl rfl fun h => ?_
        refine ga h (o_extract rfl rfl) rfl fun h => ?_
        refine ga h (o_extract rfl rfl) rfl fun h => ?_
        refine ga h (o_assign rfl) rfl fun h => ?_
        refine ga h (o_assign rfl) rfl fun h => ?_
        refine GoR.done ?_
        refine Go.seq ?_
        obtain ⟨o5, H, G5⟩ := bindE H
        refine g_cut (fun G => ∀ j3 (a : Act) (w : World), o5 = j3 → St Try.f5.ntmps F [(0, v1), (1, .int .i64 a2), (5, v2), (6, .int .i64 s1.2.1), (7, .int .i64 s1.2.2), (8, v4), (121, .bool j3)] [Val (Kd.sl KDhcp) v1 a1, Val (Kd.sl KLease) v2 s1.1, Val (Kd.sl KLease) v4 r2.1, Fld KDhcp b1 0 r2.2.1] a w → G a w) 1 ?_ fun J3 => ?_
        ·intro j3 a w ho_ h
         rw [ho_] at G5
         have H := G5
         by_cases c13 : j3 = true
         ·have H := ifT c13 H
          refine g_t h rfl c13 ?_
          refine Go.seq ?_
          refine Go.reg ?_
          refine ga h (o_assign rfl) rfl fun h => ?_
          refine GoR.done ?_
          rw [← som H] at G3
          have H := G3
          have e_ := som H; subst e_
          rw [← nx_out i1] at G2
          have H := G2
          rw [← som H]
          exact g_ret (vs := [.bool false]) h Try.func5 ⟨rfl, trivial⟩ ⟨(), rfl, (h.mem.pick [] (by decide) rfl)⟩
         ·have H := ifF c13 H
          refine g_f h rfl c13 ?_
          refine Go.skip ?_
          exact J4 () _ _ (som H).symm (h.wr [0, 1, 2, 3])
        refine Go.reg ?_
        refine mv h rfl rfl fun h => ?_
        refine ga h (o_not rfl) rfl fun h => ?_
        refine mv h rfl rfl fun h => ?_
        by_cases c8 : (!r4.2) = true
        ·have H := ifT c8 H
         iterate 4 (refine gk h rfl rfl (nb_t c8) rfl fun _ h => ?_)
         refine ga h (o_pickT rfl rfl c8) rfl fun h => ?_
         refine mv h rfl rfl fun h => ?_
         refine gk h rfl rfl (nb_t rfl) rfl fun _ h => ?_
         refine gk h rfl rfl (nb_t rfl) rfl fun _ h => ?_
         refine ga h (o_pickT rfl rfl rfl) rfl fun h => ?_
         refine mv h rfl rfl fun h => ?_
         iterate 8 (refine gk h rfl rfl (nb_t rfl) rfl fun _ h => ?_)
         refine ga h (o_pickT rfl rfl rfl) rfl fun h => ?_
         refine mv h rfl rfl fun h => ?_
         refine gk h rfl rfl (nb_t rfl) rfl fun _ h => ?_
         refine gk h rfl rfl (nb_t rfl) rfl fun _ h => ?_
         iterate 8 (refine gk h rfl rfl rfl rfl fun _ h => ?_)
         refine gk h rfl rfl (nb_t rfl) rfl fun _ h => ?_
         refine ga h (o_pickT rfl rfl rfl) rfl fun h => ?_
         refine GoR.done ?_
         exact J3 true _ _ (som H).symm (h.wr [4, 5, 6, 7])
        ·have H := ifF c8 H
         refine gg h rfl rfl (nbF c8) (o_move rfl) rfl fun _ _ _ h => ?_
         refine gg h rfl rfl (nbF c8) (o_fa rfl t_f28_3 rfl rfl) rfl fun _ _ _ h => ?_
         have g9 := (in2 (fd_sub sDhcp_Yi 7 rfl h.mem))
         refine gg h rfl rfl (nbF c8) (o_lfx 7 rfl rfl sDhcp_Yi rfl X_int t_y25) rfl fun _ _ _ h => ?_
         refine gg h rfl rfl (nbF c8) (o_bin rfl rfl rfl) rfl fun _ _ _ h => ?_
         refine ga h (o_pickF rfl rfl c8) rfl fun h => ?_
         refine mv h rfl rfl fun h => ?_
         by_cases c9 : (!decide (r4.1 = r2.2.1.Yi)) = true
         ·have H := ifT c9 H
          refine gk h rfl rfl (nb_t c9) rfl fun _ h => ?_
          refine gk h rfl rfl (nb_t c9) rfl fun _ h => ?_
          refine ga h (o_pickT rfl rfl c9) rfl fun h => ?_
          refine mv h rfl rfl fun h => ?_
          iterate 8 (refine gk h rfl rfl (nb_t rfl) rfl fun _ h => ?_)
          refine ga h (o_pickT rfl rfl rfl) rfl fun h => ?_
          refine mv h rfl rfl fun h => ?_
          refine gk h rfl rfl (nb_t rfl) rfl fun _ h => ?_
          refine gk h rfl rfl (nb_t rfl) rfl fun _ h => ?_
          iterate 8 (refine gk h rfl rfl rfl rfl fun _ h => ?_)
          refine gk h rfl rfl (nb_t rfl) rfl fun _ h => ?_
          refine ga h (o_pickT rfl rfl rfl) rfl fun h => ?_
          refine GoR.done ?_
          exact J3 true _ _ (som H).symm (h.wr [4, 5, 6, 7])
         ·have H := ifF c9 H
          refine gg h rfl rfl (nbF c9) (o_move rfl) rfl fun _ _ _ h => ?_
          refine gg h rfl rfl (nbF c9) (o_not rfl) rfl fun _ _ _ h => ?_
          refine ga h (o_pickF rfl rfl c9) rfl fun h => ?_
          refine mv h rfl rfl fun h => ?_
          by_cases c10 : (!r5.2) = true
          ·have H := ifT c10 H
           iterate 8 (refine gk h rfl rfl (nb_t c10) rfl fun _ h => ?_)
           refine ga h (o_pickT rfl rfl c10) rfl fun h => ?_
           refine mv h rfl rfl fun h => ?_
           refine gk h rfl rfl (nb_t rfl) rfl fun _ h => ?_
           refine gk h rfl rfl (nb_t rfl) rfl fun _ h => ?_
           iterate 8 (refine gk h rfl rfl rfl rfl fun _ h => ?_)
           refine gk h rfl rfl (nb_t rfl) rfl fun _ h => ?_
           refine ga h (o_pickT rfl rfl rfl) rfl fun h => ?_
           refine GoR.done ?_
           exact J3 true _ _ (som H).symm (h.wr [4, 5, 6, 7])
          ·have H := ifF c10 H
           iterate 3 (refine gg h rfl rfl (nbF c10) (o_move rfl) rfl fun _ _ _ h => ?_)
           obtain ⟨x3, ex3, H⟩ := bindE H
           refine gg h rfl rfl (nbF c10) (o_ix rfl rfl (rd_at 4 rfl) ex3 t_v40) rfl fun _ _ _ h => ?_
           refine gg h rfl rfl (nbF c10) (o_fae (k' := s1.2.2.toNat * Kd.n KDhcp + 4) rfl (rd_at 4 rfl) ex3 (by decide) t_f28_4 rfl rfl) rfl fun _ _ _ h => ?_
           refine gg h rfl rfl (nbF c10) (o_lsv rfl (rd_at 4 rfl) ex3 sDhcp_Mac t_y22 (by decide)) rfl fun v9 _ _ h => ?_
           replace h := h.mm fun m => m.freeze 2 rfl
           obtain ⟨r7, er7, H⟩ := bindE H
           refine gg h rfl rfl (nbF c10) (o_call (ref01_Same.spc v7 r5.1 v9 x3.Mac r7 er7) rfl [2, 0] [] (by decide) rfl rfl) rfl fun _ _ _ h => ?_
           refine gg h rfl rfl (nbF c10) (o_not rfl) rfl fun _ _ _ h => ?_
           refine ga h (o_pickF rfl rfl c10) rfl fun h => ?_
           refine mv h rfl rfl fun h => ?_
           by_cases c11 : (!r7) = true
           ·have H := ifT c11 H
            refine gk h rfl rfl (nb_t c11) rfl fun _ h => ?_
            refine gk h rfl rfl (nb_t c11) rfl fun _ h => ?_
            iterate 8 (refine gk h rfl rfl rfl rfl fun _ h => ?_)
            refine gk h rfl rfl (nb_t c11) rfl fun _ h => ?_
            refine ga h (o_pickT rfl rfl c11) rfl fun h => ?_
            refine GoR.done ?_
            exact J3 true _ _ (som H).symm (h.wr [5, 6, 7, 8])
           ·have H := ifF c11 H
            refine gg h rfl rfl (nbF c11) (o_move rfl) rfl fun _ _ _ h => ?_
            refine gg h rfl rfl (nbF c11) (o_move rfl) rfl fun _ _ _ h => ?_
            by_cases c12 : r6.2 = true
            ·have H := ifT c12 H
             iterate 3 (refine gg h rfl rfl c12 (o_move rfl) rfl fun _ _ _ h => ?_)
             obtain ⟨x4, ex4, H⟩ := bindE H
             refine gg h rfl rfl c12 (o_ix rfl rfl (rd_at 5 rfl) ex4 t_v40) rfl fun _ _ _ h => ?_
             refine gg h rfl rfl c12 (o_fae (k' := s1.2.2.toNat * Kd.n KDhcp + 4) rfl (rd_at 5 rfl) ex4 (by decide) t_f28_4 rfl rfl) rfl fun _ _ _ h => ?_
             refine gg h rfl rfl c12 (o_lsv rfl (rd_at 5 rfl) ex4 sDhcp_Mac t_y22 (by decide)) rfl fun v10 _ _ h => ?_
             replace h := h.mm fun m => m.freeze 2 rfl
             obtain ⟨r8, er8, H⟩ := bindE H
             refine gg h rfl rfl c12 (o_call (ref01_Same.spc v8 r6.1 v10 x4.Mac r8 er8) rfl [2, 0] [] (by decide) rfl rfl) rfl fun _ _ _ h => ?_
             refine gg h rfl rfl c12 (o_not rfl) rfl fun _ _ _ h => ?_
             refine gg h rfl rfl (nbF c11) (o_pickT rfl rfl c12) rfl fun _ _ _ h => ?_
             refine ga h (o_pickF rfl rfl c11) rfl fun h => ?_
             refine GoR.done ?_
             exact J3 (!r8) _ _ (som H).symm (h.wr [6, 7, 8, 9])
            ·have H := ifF c12 H
             iterate 8 (refine gk h rfl rfl (nb_f c12) rfl fun _ h => ?_)
             refine gg h rfl rfl (nbF c11) (o_pickF rfl rfl c12) rfl fun _ _ _ h => ?_
             refine ga h (o_pickF rfl rfl c11) rfl fun h => ?_
             refine GoR.done ?_
             exact J3 false _ _ (som H).symm (h.wr [5, 6, 7, 8])
       ·have H := ifF c7 H
        refine g_f h rfl c7 ?_
        refine Go.skip ?_
        exact J4 () _ _ (som H).symm (h.wr [0, 1, 2, 3])
      refine Go.reg ?_
      refine mv h rfl rfl fun h => ?_
      refine mv h rfl rfl fun h => ?_
      by_cases c6 : r2.2.2 = true
      ·have H := ifT c6 H
       refine gg h rfl rfl c6 (o_fa rfl t_f28_5 rfl rfl) rfl fun _ _ _ h => ?_
       have g5 := (in2 (fd_sub sDhcp_Type_ 0 rfl h.mem))
       refine gg h rfl rfl c6 (o_lfx 0 rfl rfl sDhcp_Type_ rfl X_int t_y3) rfl fun _ _ _ h => ?_
       refine gg h rfl rfl c6 (o_bin rfl rfl rfl) rfl fun _ _ _ h => ?_
       refine ga h (o_pickT rfl rfl c6) rfl fun h => ?_
       refine GoR.done ?_
       exact J2 (decide (r2.2.1.Type_ = 5)) _ _ (som H).symm (h.wr [4, 5, 1, 0])
      ·have H := ifF c6 H
       iterate 3 (refine gk h rfl rfl (nb_f c6) rfl fun _ h => ?_)
       refine ga h (o_pickF rfl rfl c6) rfl fun h => ?_
       refine GoR.done ?_
       exact J2 false _ _ (som H).symm (h.wr [4, 5, 1, 0])
    ·have H := ifF c4 H
     refine g_f h rfl c4 ?_
     refine Go.exit rfl ?_
     have e_ := som H; subst e_
     exact J7 () _ _ (nx_out i1).symm (h.wr [])
   ·replace h := h.mm fun m => (pv_nil (K := KLease)).ent m
    exact I_ (.slice none 0 0) _ _ (show InR .i64 0 by decide) (show InR .i64 0 by decide) (h.wr [1, 0])
 refine Go.reg ?_
 refine mv h rfl rfl fun h => ?_
 have g1 := (len_at 0 rfl h.mem)
 refine ga h (o_ln rfl (rd_at 0 rfl) t_v40) rfl fun h => ?_
 refine ga h (o_bin rfl rfl rfl) rfl fun h => ?_
 refine mv h rfl rfl fun h => ?_
 by_cases c1 : decide (60 < (a1.length : Int)) = true
 ·have H := ifT c1 H
  refine gk h rfl rfl (nb_t c1) rfl fun _ h => ?_
  refine gk h rfl rfl (nb_t c1) rfl fun _ h => ?_
  refine ga h (o_pickT rfl rfl c1) rfl fun h => ?_
  refine mv h rfl rfl fun h => ?_
  refine gk h rfl rfl (nb_t rfl) rfl fun _ h => ?_
  refine gk h rfl rfl (nb_t rfl) rfl fun _ h => ?_
  refine ga h (o_pickT rfl rfl rfl) rfl fun h => ?_
  refine GoR.done ?_
  exact J1 true _ _ (som H).symm (h.wr [0])
 ·have H := ifF c1 H
  refine gg h rfl rfl (nbF c1) (o_move rfl) rfl fun _ _ _ h => ?_
  refine gg h rfl rfl (nbF c1) (o_bin rfl rfl rfl) rfl fun _ _ _ h => ?_
  refine ga h (o_pickF rfl rfl c1) rfl fun h => ?_
  refine mv h rfl rfl fun h => ?_
  by_cases c2 : decide (a2 < 0) = true
  ·have H := ifT c2 H
   refine gk h rfl rfl (nb_t c2) rfl fun _ h => ?_
   refine gk h rfl rfl (nb_t c2) rfl fun _ h => ?_
   refine ga h (o_pickT rfl rfl c2) rfl fun h => ?_
   refine GoR.done ?_
   exact J1 true _ _ (som H).symm (h.wr [0])
  ·have H := ifF c2 H
   refine gg h rfl rfl (nbF c2) (o_move rfl) rfl fun _ _ _ h => ?_
   refine gg h rfl rfl (nbF c2) (o_bin rfl rfl rfl) rfl fun _ _ _ h => ?_
   refine ga h (o_pickF rfl rfl c2) rfl fun h => ?_
   refine GoR.done ?_
   exact J1 (decide (1000 < a2)) _ _ (som H).symm (h.wr [0])
def law25_LeaseOne.g (k_ : Nat) (a1 : List TDhcp) (a2 : Int) : Option (Bool) :=
  ((if decide (60 < (a1.length : Int)) = true then some (true) else (if decide (a2 < 0) = true then some (true) else some (decide (1000 < a2))))).bind (fun j1 => (if j1 = true then (law25_heads.g k_).bind fun r1 => some (r1) else (loopK k_ (fun s1 => (if decide (s1.2.2 < (a1.length : Int)) = true then (idx a1 s1.2.2).bind fun x1 => (lease_Serve.g k_ s1.1 s1.2.1 x1).bind fun r2 => (lease_Check.g k_ r2.1).bind fun r3 => (if (!r3) = true then some (.inr (.inr (false))) else (((if r2.2.2 = true then some (decide (r2.2.1.Type_ = 5)) else some (false))).bind (fun j2 => (if j2 = true then (idx a1 s1.2.2).bind fun x2 => (lease_Find.g k_ r2.1 s1.2.1 x2.Mac).bind fun r4 => (lease_Owner.g k_ r2.1 s1.2.1 r2.2.1.Yi).bind fun r5 => (lease_Owner.g k_ s1.1 s1.2.1 r2.2.1.Yi).bind fun r6 => ((if (!r4.2) = true then some (true) else (if (!decide (r4.1 = r2.2.1.Yi)) = true then some (true) else (if (!r5.2) = true then some (true) else (idx a1 s1.2.2).bind fun x3 => (ref01_Same.g k_ r5.1 x3.Mac).bind fun r7 => (if (!r7) = true then some (true) else (if r6.2 = true then (idx a1 s1.2.2).bind fun x4 => (ref01_Same.g k_ r6.1 x4.Mac).bind fun r8 => some ((!r8)) else some (false))))))).bind (fun j3 => (if j3 = true then some (.inr (false)) else some (.inl (())))) else some (.inl (()))))).bind (Sum.elim (fun j4 => (loopK k_ (fun s2 => (if decide (s2 < (s1.1.length : Int)) = true then (idx s1.1 s2).bind fun x5 => (lease_Find.g k_ s1.1 s1.2.1 x5.Mac).bind fun r9 => (idx s1.1 s2).bind fun x6 => (lease_Find.g k_ r2.1 s1.2.1 x6.Mac).bind fun r10 => ((if r9.2 = true then (idx s1.1 s2).bind fun x7 => (idx a1 s1.2.2).bind fun x8 => (ref01_Same.g k_ x7.Mac x8.Mac).bind fun r11 => (if (!r11) = true then (if (!r10.2) = true then some (true) else some ((!decide (r10.1 = r9.1)))) else some (false)) else some (false))).bind (fun j5 => (if j5 = true then some (.inr (.inr (false))) else lt (IntKind.i64.wrap (s2 + 1)) fun y1 => some (.inl y1))) else some (.inr (.inl (()))))) 0).bind (Sum.elim (fun j6 => lt (IntKind.i64.wrap (s1.2.1 + a2)) fun y2 => lt (IntKind.i64.wrap (s1.2.2 + 1)) fun y3 => some (.inl (r2.1, y2, y3))) (fun z_ => some (.inr (.inr (z_)))))) (fun z_ => some (.inr (.inr (z_)))))) else some (.inr (.inl (()))))) (([] : List TLease), 0, 0)).bind (Sum.elim (fun j7 => (law25_heads.g k_).bind fun r12 => some (r12)) (fun z_ => some (z_)))))
theorem law25_LeaseOne.le (k_ : Nat) (a1 : List TDhcp) (a2 : Int) : Le (law25_LeaseOne.g k_ a1 a2) (law25_LeaseOne.f a1 a2) := by
 unfold law25_LeaseOne.g law25_LeaseOne.f
 repeat' (first | with_reducible refine le_loop fun _ => ?_ | with_reducible refine le_bind ?_ fun _ => ?_ | with_reducible refine le_ite ?_ ?_ | with_reducible refine le_lt fun _ => ?_ | with_reducible refine le_elim (fun _ => ?_) (fun _ => ?_) _ | with_reducible apply law25_heads.le | with_reducible apply lease_Check.le | with_reducible apply lease_Find.le | with_reducible apply lease_Owner.le | with_reducible apply lease_Serve.le | with_reducible apply ref01_Same.le | with_reducible exact le_refl _)
end Go.Proofs.Ytmmaojclfggioaa.S
