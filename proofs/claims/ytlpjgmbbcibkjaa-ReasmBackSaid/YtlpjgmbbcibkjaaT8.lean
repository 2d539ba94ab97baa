/- Contracts, printed by a program of this session. -/
import Derived.Test.YtlpjgmbbcibkjaaT4
import Derived.Test.YtlpjgmbbcibkjaaT6
import Derived.Test.YtlpjgmbbcibkjaaT7
namespace Go.Proofs.Ytlpjgmbbcibkjaa.S
open Go Go.SL Go.RowKit
set_option linter.unusedVariables false
set_option linter.unusedSimpArgs false
/-! drawbridge/drawbridgelaw24.ReasmBack -/
noncomputable def law24_ReasmBack.f (a1 : TIp) (a2 : Int) (a3 : List Int) : Option (Bool) :=
  ((if decide (3000 < (a1.Data.length : Int)) = true then some (true) else (if decide (200 < (a3.length : Int)) = true then some (true) else (if (!decide (a1.Off = 0)) = true then some (true) else some ((!decide (a1.Flags = 0))))))).bind (fun j1 => (if j1 = true then (law24_heads.f).bind fun r1 => some (r1) else (ref17_Cut.f a1 a2).bind fun r2 => ((if (!decide (r2.2 = 0)) = true then some (true) else (if decide ((r2.1.length : Int) < 2) = true then some (true) else some (decide (60 < (r2.1.length : Int)))))).bind (fun j2 => (if j2 = true then (law24_heads.f).bind fun r3 => some (r3) else (mk (r2.1.length : Int) false).bind fun x1 => lt (r2.1.length : Int) fun y1 => (loop (fun s1 => (if decide (s1.2.2.2 < (IntKind.i64.wrap ((a3.length : Int) + (r2.1.length : Int)))) = true then lt (IntKind.i64.wrap (s1.2.2.2 - (a3.length : Int))) fun y2 => ((if decide (s1.2.2.2 < (a3.length : Int)) = true then (idx a3 s1.2.2.2).bind fun x2 => if (IntKind.u64.wrap (r2.1.length : Int)) ≠ 0 then (lt (IntKind.i64.wrap (Int.tmod (IntKind.u64.wrap x2) (IntKind.u64.wrap (r2.1.length : Int)))) fun y3 => some (y3)) else none else some (y2))).bind (fun j3 => (idx r2.1 j3).bind fun x3 => (reasm_Add.f s1.1 7 x3).bind fun r4 => ((idx s1.2.1 j3).bind fun x4 => (if (!x4) = true then (idx s1.2.1 j3).bind fun x5 => lt (s1.2.1.set j3.toNat true) fun y4 => lt (IntKind.i64.wrap (s1.2.2.1 - 1)) fun y5 => some ((y4, y5)) else some ((s1.2.1, s1.2.2.1)))).bind (fun j4 => (if (!(r4.2.2 == (decide (j4.2 = 0)))) = true then some (.inr (.inr (false))) else (if r4.2.2 = true then ((ref01_Same.f r4.2.1.Data a1.Data).bind fun r5 => (if r5 = true then (if decide (r4.2.1.Off = 0) = true then (if decide (r4.2.1.Flags = 0) = true then (if decide (r4.2.1.Src = a1.Src) = true then (if decide (r4.2.1.Dst = a1.Dst) = true then (if decide (r4.2.1.Id = a1.Id) = true then (if decide ((r4.1.length : Int) = 0) = true then (law24_heads.f).bind fun r6 => some (r6) else some (false)) else some (false)) else some (false)) else some (false)) else some (false)) else some (false)) else some (false))).bind (fun j5 => some (.inr (.inr (j5)))) else lt (IntKind.i64.wrap (s1.2.2.2 + 1)) fun y6 => some (.inl (r4.1, j4.1, j4.2, y6)))))) else some (.inr (.inl (()))))) (([] : List TPiece), x1, y1, 0)).bind (Sum.elim (fun j6 => some (false)) (fun z_ => some (z_)))))))
set_option maxRecDepth 100000 in
set_option maxHeartbeats 4000000 in
theorem law24_ReasmBack.spc (v1 : Value) (a1 : TIp) (a2 : Int) (ha2 : InR .i64 a2) (v2 : Value) (a3 : List Int) (r : Bool) (H : law24_ReasmBack.f a1 a2 a3 = some r) : Spc Try.prog 4 [v1, .int .i64 a2, v2] [Val KIp v1 a1, Val (Kd.sl (Kd.int .i64)) v2 a3] [] (fun (s : Unit) => .bool r) (fun s => []) := by
 unfold law24_ReasmBack.f at H
 refine Spc.go Try.func4 rfl (by kernel_rfl) rfl rfl (all_cons (Val.per PIp) (all_cons (Val.per Per_sl) all_nil)) fun F a w h => ?_
 refine Go.seq ?_
 refine Go.reg ?_
 refine gs h (o_box (K := KIp) rfl (pv_at PIp 0 rfl)) rfl fun b1 _ _ h => ?_
 refine gs h (o_assign rfl) rfl fun _ _ _ h => ?_
 refine GoR.done ?_
 refine Go.seq ?_
 refine Go.seq ?_
 obtain ⟨o1, H, G1⟩ := bindE H
 refine g_cut (fun G => ∀ j1 (a : Act) (w : World), o1 = j1 → St Try.f4.ntmps F [(1, .int .i64 a2), (2, v2), (3, .pointer (some ⟨b1, 0, none⟩)), (35, .bool j1)] [Val (Kd.sl (Kd.int .i64)) v2 a3, Fld KIp b1 0 a1] a w → G a w) 1 ?_ fun J1 => ?_
 ·intro j1 a w ho_ h
  rw [ho_] at G1
  have H := G1
  by_cases c4 : j1 = true
  ·have H := ifT c4 H
   refine g_t h rfl c4 ?_
   refine Go.seq ?_
   refine Go.reg ?_
   obtain ⟨r1, er1, H⟩ := bindE H
   refine gs h (o_call (law24_heads.spc  r1 er1) rfl [] [] (by decide) rfl rfl) rfl fun _ _ _ h => ?_
   refine gs h (o_assign rfl) rfl fun _ _ _ h => ?_
   refine GoR.done ?_
   rw [← som H]
   exact g_ret (vs := [.bool r1]) h Try.func4 ⟨rfl, trivial⟩ ⟨(), rfl, (h.mem.pick [] (by decide) rfl)⟩
  ·have H := ifF c4 H
   refine g_f h rfl c4 ?_
   refine Go.skip ?_
   refine Go.seq ?_
   refine Go.reg ?_
   refine gs h (o_ldv 1 rfl rfl PIp t_y27) rfl fun v4 _ _ h => ?_
   refine gs h (o_move rfl) rfl fun _ _ _ h => ?_
   obtain ⟨r2, er2, H⟩ := bindE H
   refine gs h (o_call (ref17_Cut.spc v4 a1 a2 ha2 r2 er2) rfl [0] [] (by decide) rfl rfl) rfl fun v5 _ _ h => ?_
   have g5 := h.mem.pur 0 rfl
   refine gs h (o_move rfl) rfl fun _ _ _ h => ?_
   refine gs h (o_extract rfl rfl) rfl fun _ _ _ h => ?_
   refine gs h (o_extract rfl rfl) rfl fun _ _ _ h => ?_
   refine gs h (o_assign rfl) rfl fun _ _ _ h => ?_
   refine gs h (o_assign rfl) rfl fun _ _ _ h => ?_
   refine GoR.done ?_
   refine Go.seq ?_
   refine Go.seq ?_
   obtain ⟨o2, H, G2⟩ := bindE H
   refine g_cut (fun G => ∀ j2 (a : Act) (w : World), o2 = j2 → St Try.f4.ntmps F [(2, v2), (3, .pointer (some ⟨b1, 0, none⟩)), (7, v5), (54, .bool j2)] [Val (Kd.sl (Kd.int .i64)) v2 a3, Val (Kd.osl KIp) v5 r2.1, Fld KIp b1 0 a1] a w → G a w) 1 ?_ fun J2 => ?_
   ·intro j2 a w ho_ h
    rw [ho_] at G2
    have H := G2
    by_cases c7 : j2 = true
    ·have H := ifT c7 H
     refine g_t h rfl c7 ?_
     refine Go.seq ?_
     refine Go.reg ?_
     obtain ⟨r3, er3, H⟩ := bindE H
     refine gs h (o_call (law24_heads.spc  r3 er3) rfl [] [] (by decide) rfl rfl) rfl fun _ _ _ h => ?_
     refine gs h (o_assign rfl) rfl fun _ _ _ h => ?_
     refine GoR.done ?_
     rw [← som H]
     exact g_ret (vs := [.bool r3]) h Try.func4 ⟨rfl, trivial⟩ ⟨(), rfl, (h.mem.pick [] (by decide) rfl)⟩
    ·have H := ifF c7 H
     refine g_f h rfl c7 ?_
     refine Go.skip ?_
     refine Go.seq ?_
     refine Go.reg ?_
     refine gs h (o_assign rfl) rfl fun _ _ _ h => ?_
     refine GoR.done ?_
     refine Go.seq ?_
     refine Go.reg ?_
     refine gs h (o_move rfl) rfl fun _ _ _ h => ?_
     have g8 := (len_own 1 rfl h.mem)
     refine gs h (o_ln rfl (rd_own 1 rfl) t_v35) rfl fun _ _ _ h => ?_
     obtain ⟨x1, ex1, H⟩ := bindE H
     refine gs h (o_mk (K := Kd.bool) rfl rfl ex1 t_a38 (by decide) (fun e he => ⟨[.bool false], by cases he; exact t_zc4, z_bool⟩)) rfl fun v6 _ _ h => ?_
     refine gs h (o_assign rfl) rfl fun _ _ _ h => ?_
     refine GoR.done ?_
     refine Go.seq ?_
     refine Go.reg ?_
     refine gs h (o_move rfl) rfl fun _ _ _ h => ?_
     have g9 := (len_own 2 rfl h.mem)
     refine gs h (o_ln rfl (rd_own 2 rfl) t_v35) rfl fun _ _ _ h => ?_
     obtain ⟨y1, ey1, H⟩ := ltE H
     refine gs h (o_assign' rfl (congrArg (fun z => Value.int .i64 z) ey1)) rfl fun _ _ _ h => ?_
     refine GoR.done ?_
     refine Go.seq ?_
     refine Go.seq ?_
     refine Go.reg ?_
     refine gs h (o_assign rfl) rfl fun _ _ _ h => ?_
     refine GoR.done ?_
     refine Go.block ?_
     obtain ⟨o3, hl, G3⟩ := bindE H
     refine g_cut (fun G => ∀ j6 (a : Act) (w : World), o3 = .inl (j6) → St Try.f4.ntmps F [] [Fld KIp b1 0 a1] a w → G a w) 2 ?_ fun J6 => ?_
     ·intro j6 a w ho_ h
      rw [ho_] at G3
      have H := G3
      refine Go.seq ?_
      refine Go.reg ?_
      refine gs h (o_assign rfl) rfl fun _ _ _ h => ?_
      refine GoR.done ?_
      rw [← som H]
      exact g_ret (vs := [.bool false]) h Try.func4 ⟨rfl, trivial⟩ ⟨(), rfl, (h.mem.pick [] (by decide) rfl)⟩
     refine g_loop (fun s1 G => ∀ (v7 : Value) (a : Act) (w : World), InR .i64 s1.2.2.1 → InR .i64 s1.2.2.2 → St Try.f4.ntmps F [(2, v2), (3, .pointer (some ⟨b1, 0, none⟩)), (7, v5), (9, v7), (10, v6), (11, .int .i64 s1.2.2.1), (12, .int .i64 s1.2.2.2)] [Val (Kd.sl (Kd.int .i64)) v2 a3, Val (Kd.osl KIp) v5 r2.1, Val (Kd.sl KPiece) v7 s1.1, Val (Kd.osl Kd.bool) v6 s1.2.1, Fld KIp b1 0 a1] a w → G a w) hl (fun s1 p1 H i1 => ?_) fun I_ => ?_
     ·intro v7 a w g10 g11 h
      refine Go.seq ?_
      refine Go.seq ?_
      refine Go.reg ?_
      refine gs h (o_move rfl) rfl fun _ _ _ h => ?_
      refine gs h (o_move rfl) rfl fun _ _ _ h => ?_
      have g12 := (len_at 0 rfl h.mem)
      refine gs h (o_ln rfl (rd_at 0 rfl) t_v34) rfl fun _ _ _ h => ?_
      refine gs h (o_move rfl) rfl fun _ _ _ h => ?_
      have g13 := (len_own 1 rfl h.mem)
      refine gs h (o_ln rfl (rd_own 1 rfl) t_v35) rfl fun _ _ _ h => ?_
      refine gs h (o_bin rfl rfl rfl) rfl fun _ _ _ h => ?_
      refine gs h (o_bin rfl rfl rfl) rfl fun _ _ _ h => ?_
      refine GoR.done ?_
      by_cases c8 : decide (s1.2.2.2 < (IntKind.i64.wrap ((a3.length : Int) + (r2.1.length : Int)))) = true
      ·have H := ifT c8 H
       refine g_t h rfl c8 ?_
       refine Go.skip ?_
       refine Go.seq ?_
       refine Go.block ?_
       refine Go.seq ?_
       refine Go.reg ?_
       refine gs h (o_move rfl) rfl fun _ _ _ h => ?_
       refine gs h (o_move rfl) rfl fun _ _ _ h => ?_
       have g14 := (len_at 0 rfl h.mem)
       refine gs h (o_ln rfl (rd_at 0 rfl) t_v34) rfl fun _ _ _ h => ?_
       refine gs h (o_bin rfl rfl rfl) rfl fun _ _ _ h => ?_
       obtain ⟨y2, ey2, H⟩ := ltE H
       refine gs h (o_assign' rfl (congrArg (fun z => Value.int .i64 z) ey2)) rfl fun _ _ _ h => ?_
       refine GoR.done ?_
       refine Go.seq ?_
       obtain ⟨o4, H, G4⟩ := bindE H
       refine g_cut (fun G => ∀ j3 (a : Act) (w : World), o4 = j3 → InR .i64 j3 → St Try.f4.ntmps F [(2, v2), (3, .pointer (some ⟨b1, 0, none⟩)), (7, v5), (9, v7), (10, v6), (11, .int .i64 s1.2.2.1), (12, .int .i64 s1.2.2.2), (13, .int .i64 j3)] [Val (Kd.sl (Kd.int .i64)) v2 a3, Val (Kd.osl KIp) v5 r2.1, Val (Kd.sl KPiece) v7 s1.1, Val (Kd.osl Kd.bool) v6 s1.2.1, Fld KIp b1 0 a1] a w → G a w) 1 ?_ fun J3 => ?_
       ·intro j3 a w ho_ g18 h
        rw [ho_] at G4
        have H := G4
        refine Go.seq ?_
        refine Go.reg ?_
        refine gs h (o_move rfl) rfl fun _ _ _ h => ?_
        refine gs h (o_move rfl) rfl fun _ _ _ h => ?_
        refine gs h (o_move rfl) rfl fun _ _ _ h => ?_
        obtain ⟨x3, ex3, H⟩ := bindE H
        refine gs h (o_ix rfl rfl (rd_own 1 rfl) ex3 t_v35) rfl fun _ _ _ h => ?_
        refine gs h (o_lev rfl (rd_own 1 rfl) ex3 t_y27 (by decide)) rfl fun v8 _ _ h => ?_
        obtain ⟨r4, er4, H⟩ := bindE H
        refine gs h (o_call (reasm_Add.spc v7 s1.1 7 (show InR .i64 7 by decide) v8 x3 r4 er4) rfl [3, 0] [] (by decide) rfl rfl) rfl fun s_ _ _ h => ?_
        obtain ⟨v9, v10⟩ := s_
        refine gs h (o_move rfl) rfl fun _ _ _ h => ?_
        refine gs h (o_extract rfl rfl) rfl fun _ _ _ h => ?_
        refine gs h (o_extract rfl rfl) rfl fun _ _ _ h => ?_
        refine gs h (o_extract rfl rfl) rfl fun _ _ _ h => ?_
        refine gs h (o_alloc (K := KIp) (z := (.agg #[.int .i64 0, .int .i64 0, .int .i64 0, .int .i64 0, .int .i64 0, .int .i64 0, .int .u32 0, .int .u32 0, .slice none 0 0, .slice none 0 0])) rfl ZIp) rfl fun b2 _ _ h => ?_
        refine gs h (o_assign rfl) rfl fun _ _ _ h => ?_
        refine gs0 h (o_st 0 rfl rfl rfl (pv_at PIp 2 rfl) rfl t_w27) fun _ _ _ h => ?_
        refine gs h (o_assign rfl) rfl fun _ _ _ h => ?_
        refine GoR.done ?_
        refine Go.seq ?_
        obtain ⟨o5, H, G5⟩ := bindE H
        refine g_cut (fun G => ∀ j4 (a : Act) (w : World), o5 = j4 → InR .i64 j4.2 → St Try.f4.ntmps F [(2, v2), (3, .pointer (some ⟨b1, 0, none⟩)), (7, v5), (10, v6), (11, .int .i64 j4.2), (12, .int .i64 s1.2.2.2), (14, v9), (15, .pointer (some ⟨b2, 0, none⟩)), (16, .bool r4.2.2)] [Val (Kd.sl (Kd.int .i64)) v2 a3, Val (Kd.osl KIp) v5 r2.1, Val (Kd.osl Kd.bool) v6 j4.1, Val (Kd.sl KPiece) v9 r4.1, Fld KIp b2 0 r4.2.1, Fld KIp b1 0 a1] a w → G a w) 1 ?_ fun J4 => ?_
        ·intro j4 a w ho_ g19 h
         rw [ho_] at G5
         have H := G5
         refine Go.seq ?_
         refine Go.seq ?_
         refine Go.reg ?_
         refine gs h (o_move rfl) rfl fun _ _ _ h => ?_
         refine gs h (o_move rfl) rfl fun _ _ _ h => ?_
         refine gs h (o_bin rfl rfl rfl) rfl fun _ _ _ h => ?_
         refine gs h (o_neb rfl rfl t_u4) rfl fun _ _ _ h => ?_
         refine GoR.done ?_
         by_cases c11 : (!(r4.2.2 == (decide (j4.2 = 0)))) = true
         ·have H := ifT c11 H
          refine g_t h rfl c11 ?_
          refine Go.seq ?_
          refine Go.reg ?_
          refine gs h (o_assign rfl) rfl fun _ _ _ h => ?_
          refine GoR.done ?_
          have e_ := som H; subst e_
          rw [← nx_out i1] at G3
          have H := G3
          rw [← som H]
          exact g_ret (vs := [.bool false]) h Try.func4 ⟨rfl, trivial⟩ ⟨(), rfl, (h.mem.pick [] (by decide) rfl)⟩
         ·have H := ifF c11 H
          refine g_f h rfl c11 ?_
          refine Go.skip ?_
          refine Go.seq ?_
          refine Go.seq ?_
          refine Go.reg ?_
          refine gs h (o_move rfl) rfl fun _ _ _ h => ?_
          refine GoR.done ?_
          by_cases c12 : r4.2.2 = true
          ·have H := ifT c12 H
           refine g_t h rfl c12 ?_
           refine Go.seq ?_
           obtain ⟨o6, H, G6⟩ := bindE H
           refine g_cut (fun G => ∀ j5 (a : Act) (w : World), o6 = j5 → St Try.f4.ntmps F [(6, .bool j5)] [Fld KIp b2 0 r4.2.1, Fld KIp b1 0 a1] a w → G a w) 1 ?_ fun J5 => ?_
           ·intro j5 a w ho_ h
            rw [ho_] at G6
            have H := G6
            have e_ := som H; subst e_
            rw [← nx_out i1] at G3
            have H := G3
            rw [← som H]
            exact g_ret (vs := [.bool j5]) h Try.func4 ⟨rfl, trivial⟩ ⟨(), rfl, (h.mem.pick [] (by decide) rfl)⟩
           refine Go.reg ?_
           refine gs h (o_fa rfl t_f27_9 rfl rfl) rfl fun _ _ _ h => ?_
           refine gs h (o_lfv 4 rfl rfl sIp_Data rfl Per_sl t_y25) rfl fun v11 _ _ h => ?_
           refine gs h (o_fa rfl t_f27_9 rfl rfl) rfl fun _ _ _ h => ?_
           refine gs h (o_lfv 6 rfl rfl sIp_Data rfl Per_sl t_y25) rfl fun v12 _ _ h => ?_
           obtain ⟨r5, er5, H⟩ := bindE H
           refine gs h (o_call (ref01_Same.spc v11 r4.2.1.Data v12 a1.Data r5 er5) rfl [1, 0] [] (by decide) rfl rfl) rfl fun _ _ _ h => ?_
           refine gs h (o_move rfl) rfl fun _ _ _ h => ?_
           by_cases c13 : r5 = true
           ·have H := ifT c13 H
            refine gg h rfl rfl c13 (o_fa rfl t_f27_3 rfl rfl) rfl fun _ _ _ h => ?_
            have g20 := (in2 (fd_sub sIp_Off 6 rfl h.mem))
            refine gg h rfl rfl c13 (o_lfx 6 rfl rfl sIp_Off rfl X_int t_y3) rfl fun _ _ _ h => ?_
            refine gg h rfl rfl c13 (o_bin rfl rfl rfl) rfl fun _ _ _ h => ?_
            refine gs h (o_pickT rfl rfl c13) rfl fun _ _ _ h => ?_
            refine gs h (o_move rfl) rfl fun _ _ _ h => ?_
            by_cases c14 : decide (r4.2.1.Off = 0) = true
            ·have H := ifT c14 H
             refine gg h rfl rfl c14 (o_fa rfl t_f27_2 rfl rfl) rfl fun _ _ _ h => ?_
             have g21 := (in2 (fd_sub sIp_Flags 6 rfl h.mem))
             refine gg h rfl rfl c14 (o_lfx 6 rfl rfl sIp_Flags rfl X_int t_y3) rfl fun _ _ _ h => ?_
             refine gg h rfl rfl c14 (o_bin rfl rfl rfl) rfl fun _ _ _ h => ?_
             refine gs h (o_pickT rfl rfl c14) rfl fun _ _ _ h => ?_
             refine gs h (o_move rfl) rfl fun _ _ _ h => ?_
             by_cases c15 : decide (r4.2.1.Flags = 0) = true
             ·have H := ifT c15 H
              refine gg h rfl rfl c15 (o_fa rfl t_f27_6 rfl rfl) rfl fun _ _ _ h => ?_
              have g22 := (in2 (fd_sub sIp_Src 6 rfl h.mem))
              refine gg h rfl rfl c15 (o_lfx 6 rfl rfl sIp_Src rfl X_int t_y24) rfl fun _ _ _ h => ?_
              refine gg h rfl rfl c15 (o_fa rfl t_f27_6 rfl rfl) rfl fun _ _ _ h => ?_
              have g23 := (in2 (fd_sub sIp_Src 7 rfl h.mem))
              refine gg h rfl rfl c15 (o_lfx 7 rfl rfl sIp_Src rfl X_int t_y24) rfl fun _ _ _ h => ?_
              refine gg h rfl rfl c15 (o_bin rfl rfl rfl) rfl fun _ _ _ h => ?_
              refine gs h (o_pickT rfl rfl c15) rfl fun _ _ _ h => ?_
              refine gs h (o_move rfl) rfl fun _ _ _ h => ?_
              by_cases c16 : decide (r4.2.1.Src = a1.Src) = true
              ·have H := ifT c16 H
               refine gg h rfl rfl c16 (o_fa rfl t_f27_7 rfl rfl) rfl fun _ _ _ h => ?_
               have g24 := (in2 (fd_sub sIp_Dst 6 rfl h.mem))
               refine gg h rfl rfl c16 (o_lfx 6 rfl rfl sIp_Dst rfl X_int t_y24) rfl fun _ _ _ h => ?_
               refine gg h rfl rfl c16 (o_fa rfl t_f27_7 rfl rfl) rfl fun _ _ _ h => ?_
               have g25 := (in2 (fd_sub sIp_Dst 7 rfl h.mem))
               refine gg h rfl rfl c16 (o_lfx 7 rfl rfl sIp_Dst rfl X_int t_y24) rfl fun _ _ _ h => ?_
               refine gg h rfl rfl c16 (o_bin rfl rfl rfl) rfl fun _ _ _ h => ?_
               refine gs h (o_pickT rfl rfl c16) rfl fun _ _ _ h => ?_
               refine gs h (o_move rfl) rfl fun _ _ _ h => ?_
               by_cases c17 : decide (r4.2.1.Dst = a1.Dst) = true
               ·have H := ifT c17 H
                refine gg h rfl rfl c17 (o_fa rfl t_f27_1 rfl rfl) rfl fun _ _ _ h => ?_
                have g26 := (in2 (fd_sub sIp_Id 6 rfl h.mem))
                refine gg h rfl rfl c17 (o_lfx 6 rfl rfl sIp_Id rfl X_int t_y3) rfl fun _ _ _ h => ?_
                refine gg h rfl rfl c17 (o_fa rfl t_f27_1 rfl rfl) rfl fun _ _ _ h => ?_
                have g27 := (in2 (fd_sub sIp_Id 7 rfl h.mem))
                refine gg h rfl rfl c17 (o_lfx 7 rfl rfl sIp_Id rfl X_int t_y3) rfl fun _ _ _ h => ?_
                refine gg h rfl rfl c17 (o_bin rfl rfl rfl) rfl fun _ _ _ h => ?_
                refine gs h (o_pickT rfl rfl c17) rfl fun _ _ _ h => ?_
                refine gs h (o_move rfl) rfl fun _ _ _ h => ?_
                by_cases c18 : decide (r4.2.1.Id = a1.Id) = true
                ·have H := ifT c18 H
                 refine gg h rfl rfl c18 (o_move rfl) rfl fun _ _ _ h => ?_
                 have g28 := (len_at 5 rfl h.mem)
                 refine gg h rfl rfl c18 (o_ln rfl (rd_at 5 rfl) t_v23) rfl fun _ _ _ h => ?_
                 refine gg h rfl rfl c18 (o_bin rfl rfl rfl) rfl fun _ _ _ h => ?_
                 refine gs h (o_pickT rfl rfl c18) rfl fun _ _ _ h => ?_
                 refine gs h (o_move rfl) rfl fun _ _ _ h => ?_
                 by_cases c19 : decide ((r4.1.length : Int) = 0) = true
                 ·have H := ifT c19 H
                  obtain ⟨r6, er6, H⟩ := bindE H
                  refine gg h rfl rfl c19 (o_call (law24_heads.spc  r6 er6) rfl [] [] (by decide) rfl rfl) rfl fun _ _ _ h => ?_
                  refine gs h (o_pickT rfl rfl c19) rfl fun _ _ _ h => ?_
                  refine gs h (o_assign rfl) rfl fun _ _ _ h => ?_
                  refine GoR.done ?_
                  exact J5 r6 _ _ (som H).symm (h.wk (by rfl) [6, 7] (by decide) (by rfl))
                 ·have H := ifF c19 H
                  refine gk h rfl rfl (nb_f c19) rfl fun _ h => ?_
                  refine gs h (o_pickF rfl rfl c19) rfl fun _ _ _ h => ?_
                  refine gs h (o_assign rfl) rfl fun _ _ _ h => ?_
                  refine GoR.done ?_
                  exact J5 false _ _ (som H).symm (h.wk (by rfl) [6, 7] (by decide) (by rfl))
                ·have H := ifF c18 H
                 refine gk h rfl rfl (nb_f c18) rfl fun _ h => ?_
                 refine gk h rfl rfl (nb_f c18) rfl fun _ h => ?_
                 refine gk h rfl rfl (nb_f c18) rfl fun _ h => ?_
                 refine gs h (o_pickF rfl rfl c18) rfl fun _ _ _ h => ?_
                 refine gs h (o_move rfl) rfl fun _ _ _ h => ?_
                 refine gk h rfl rfl (nb_f Bool.false_ne_true) rfl fun _ h => ?_
                 refine gs h (o_pickF rfl rfl Bool.false_ne_true) rfl fun _ _ _ h => ?_
                 refine gs h (o_assign rfl) rfl fun _ _ _ h => ?_
                 refine GoR.done ?_
                 exact J5 false _ _ (som H).symm (h.wk (by rfl) [6, 7] (by decide) (by rfl))
               ·have H := ifF c17 H
                refine gk h rfl rfl (nb_f c17) rfl fun _ h => ?_
                refine gk h rfl rfl (nb_f c17) rfl fun _ h => ?_
                refine gk h rfl rfl (nb_f c17) rfl fun _ h => ?_
                refine gk h rfl rfl (nb_f c17) rfl fun _ h => ?_
                refine gk h rfl rfl (nb_f c17) rfl fun _ h => ?_
                refine gs h (o_pickF rfl rfl c17) rfl fun _ _ _ h => ?_
                refine gs h (o_move rfl) rfl fun _ _ _ h => ?_
                refine gk h rfl rfl (nb_f Bool.false_ne_true) rfl fun _ h => ?_
                refine gk h rfl rfl (nb_f Bool.false_ne_true) rfl fun _ h => ?_
                refine gk h rfl rfl (nb_f Bool.false_ne_true) rfl fun _ h => ?_
                refine gs h (o_pickF rfl rfl Bool.false_ne_true) rfl fun _ _ _ h => ?_
                refine gs h (o_move rfl) rfl fun _ _ _ h => ?_
                refine gk h rfl rfl (nb_f Bool.false_ne_true) rfl fun _ h => ?_
                refine gs h (o_pickF rfl rfl Bool.false_ne_true) rfl fun _ _ _ h => ?_
                refine gs h (o_assign rfl) rfl fun _ _ _ h => ?_
                refine GoR.done ?_
                exact J5 false _ _ (som H).symm (h.wk (by rfl) [6, 7] (by decide) (by rfl))
              ·have H := ifF c16 H
               refine gk h rfl rfl (nb_f c16) rfl fun _ h => ?_
               refine gk h rfl rfl (nb_f c16) rfl fun _ h => ?_
               refine gk h rfl rfl (nb_f c16) rfl fun _ h => ?_
               refine gk h rfl rfl (nb_f c16) rfl fun _ h => ?_
               refine gk h rfl rfl (nb_f c16) rfl fun _ h => ?_
               refine gs h (o_pickF rfl rfl c16) rfl fun _ _ _ h => ?_
               refine gs h (o_move rfl) rfl fun _ _ _ h => ?_
               refine gk h rfl rfl (nb_f Bool.false_ne_true) rfl fun _ h => ?_
               refine gk h rfl rfl (nb_f Bool.false_ne_true) rfl fun _ h => ?_
               refine gk h rfl rfl (nb_f Bool.false_ne_true) rfl fun _ h => ?_
               refine gk h rfl rfl (nb_f Bool.false_ne_true) rfl fun _ h => ?_
               refine gk h rfl rfl (nb_f Bool.false_ne_true) rfl fun _ h => ?_
               refine gs h (o_pickF rfl rfl Bool.false_ne_true) rfl fun _ _ _ h => ?_
               refine gs h (o_move rfl) rfl fun _ _ _ h => ?_
               refine gk h rfl rfl (nb_f Bool.false_ne_true) rfl fun _ h => ?_
               refine gk h rfl rfl (nb_f Bool.false_ne_true) rfl fun _ h => ?_
               refine gk h rfl rfl (nb_f Bool.false_ne_true) rfl fun _ h => ?_
               refine gs h (o_pickF rfl rfl Bool.false_ne_true) rfl fun _ _ _ h => ?_
               refine gs h (o_move rfl) rfl fun _ _ _ h => ?_
               refine gk h rfl rfl (nb_f Bool.false_ne_true) rfl fun _ h => ?_
               refine gs h (o_pickF rfl rfl Bool.false_ne_true) rfl fun _ _ _ h => ?_
               refine gs h (o_assign rfl) rfl fun _ _ _ h => ?_
               refine GoR.done ?_
               exact J5 false _ _ (som H).symm (h.wk (by rfl) [6, 7] (by decide) (by rfl))
             ·have H := ifF c15 H
              refine gk h rfl rfl (nb_f c15) rfl fun _ h => ?_
              refine gk h rfl rfl (nb_f c15) rfl fun _ h => ?_
              refine gk h rfl rfl (nb_f c15) rfl fun _ h => ?_
              refine gk h rfl rfl (nb_f c15) rfl fun _ h => ?_
              refine gk h rfl rfl (nb_f c15) rfl fun _ h => ?_
              refine gs h (o_pickF rfl rfl c15) rfl fun _ _ _ h => ?_
              refine gs h (o_move rfl) rfl fun _ _ _ h => ?_
              refine gk h rfl rfl (nb_f Bool.false_ne_true) rfl fun _ h => ?_
              refine gk h rfl rfl (nb_f Bool.false_ne_true) rfl fun _ h => ?_
              refine gk h rfl rfl (nb_f Bool.false_ne_true) rfl fun _ h => ?_
              refine gk h rfl rfl (nb_f Bool.false_ne_true) rfl fun _ h => ?_
              refine gk h rfl rfl (nb_f Bool.false_ne_true) rfl fun _ h => ?_
              refine gs h (o_pickF rfl rfl Bool.false_ne_true) rfl fun _ _ _ h => ?_
              refine gs h (o_move rfl) rfl fun _ _ _ h => ?_
              refine gk h rfl rfl (nb_f Bool.false_ne_true) rfl fun _ h => ?_
              refine gk h rfl rfl (nb_f Bool.false_ne_true) rfl fun _ h => ?_
              refine gk h rfl rfl (nb_f Bool.false_ne_true) rfl fun _ h => ?_
              refine gk h rfl rfl (nb_f Bool.false_ne_true) rfl fun _ h => ?_
              refine gk h rfl rfl (nb_f Bool.false_ne_true) rfl fun _ h => ?_
              refine gs h (o_pickF rfl rfl Bool.false_ne_true) rfl fun _ _ _ h => ?_
              refine gs h (o_move rfl) rfl fun _ _ _ h => ?_
              refine gk h rfl rfl (nb_f Bool.false_ne_true) rfl fun _ h => ?_
              refine gk h rfl rfl (nb_f Bool.false_ne_true) rfl fun _ h => ?_
              refine gk h rfl rfl (nb_f Bool.false_ne_true) rfl fun _ h => ?_
              refine gs h (o_pickF rfl rfl Bool.false_ne_true) rfl fun _ _ _ h => ?_
              refine gs h (o_move rfl) rfl fun _ _ _ h => ?_
              refine gk h rfl rfl (nb_f Bool.false_ne_true) rfl fun _ h => ?_
              refine gs h (o_pickF rfl rfl Bool.false_ne_true) rfl fun _ _ _ h => ?_
              refine gs h (o_assign rfl) rfl fun _ _ _ h => ?_
              refine GoR.done ?_
              exact J5 false _ _ (som H).symm (h.wk (by rfl) [6, 7] (by decide) (by rfl))
            ·have H := ifF c14 H
             refine gk h rfl rfl (nb_f c14) rfl fun _ h => ?_
             refine gk h rfl rfl (nb_f c14) rfl fun _ h => ?_
             refine gk h rfl rfl (nb_f c14) rfl fun _ h => ?_
             refine gs h (o_pickF rfl rfl c14) rfl fun _ _ _ h => ?_
             refine gs h (o_move rfl) rfl fun _ _ _ h => ?_
             refine gk h rfl rfl (nb_f Bool.false_ne_true) rfl fun _ h => ?_
             refine gk h rfl rfl (nb_f Bool.false_ne_true) rfl fun _ h => ?_
             refine gk h rfl rfl (nb_f Bool.false_ne_true) rfl fun _ h => ?_
             refine gk h rfl rfl (nb_f Bool.false_ne_true) rfl fun _ h => ?_
             refine gk h rfl rfl (nb_f Bool.false_ne_true) rfl fun _ h => ?_
             refine gs h (o_pickF rfl rfl Bool.false_ne_true) rfl fun _ _ _ h => ?_
             refine gs h (o_move rfl) rfl fun _ _ _ h => ?_
             refine gk h rfl rfl (nb_f Bool.false_ne_true) rfl fun _ h => ?_
             refine gk h rfl rfl (nb_f Bool.false_ne_true) rfl fun _ h => ?_
             refine gk h rfl rfl (nb_f Bool.false_ne_true) rfl fun _ h => ?_
             refine gk h rfl rfl (nb_f Bool.false_ne_true) rfl fun _ h => ?_
             refine gk h rfl rfl (nb_f Bool.false_ne_true) rfl fun _ h => ?_
             refine gs h (o_pickF rfl rfl Bool.false_ne_true) rfl fun _ _ _ h => ?_
             refine gs h (o_move rfl) rfl fun _ _ _ h => ?_
             refine gk h rfl rfl (nb_f Bool.false_ne_true) rfl fun _ h => ?_
             refine gk h rfl rfl (nb_f Bool.false_ne_true) rfl fun _ h => ?_
             refine gk h rfl rfl (nb_f Bool.false_ne_true) rfl fun _ h => ?_
             refine gk h rfl rfl (nb_f Bool.false_ne_true) rfl fun _ h => ?_
             refine gk h rfl rfl (nb_f Bool.false_ne_true) rfl fun _ h => ?_
             refine gs h (o_pickF rfl rfl Bool.false_ne_true) rfl fun _ _ _ h => ?_
             refine gs h (o_move rfl) rfl fun _ _ _ h => ?_
             refine gk h rfl rfl (nb_f Bool.false_ne_true) rfl fun _ h => ?_
             refine gk h rfl rfl (nb_f Bool.false_ne_true) rfl fun _ h => ?_
             refine gk h rfl rfl (nb_f Bool.false_ne_true) rfl fun _ h => ?_
             refine gs h (o_pickF rfl rfl Bool.false_ne_true) rfl fun _ _ _ h => ?_
             refine gs h (o_move rfl) rfl fun _ _ _ h => ?_
             refine gk h rfl rfl (nb_f Bool.false_ne_true) rfl fun _ h => ?_
             refine gs h (o_pickF rfl rfl Bool.false_ne_true) rfl fun _ _ _ h => ?_
             refine gs h (o_assign rfl) rfl fun _ _ _ h => ?_
             refine GoR.done ?_
             exact J5 false _ _ (som H).symm (h.wk (by rfl) [6, 7] (by decide) (by rfl))
           ·have H := ifF c13 H
            refine gk h rfl rfl (nb_f c13) rfl fun _ h => ?_
            refine gk h rfl rfl (nb_f c13) rfl fun _ h => ?_
            refine gk h rfl rfl (nb_f c13) rfl fun _ h => ?_
            refine gs h (o_pickF rfl rfl c13) rfl fun _ _ _ h => ?_
            refine gs h (o_move rfl) rfl fun _ _ _ h => ?_
            refine gk h rfl rfl (nb_f Bool.false_ne_true) rfl fun _ h => ?_
            refine gk h rfl rfl (nb_f Bool.false_ne_true) rfl fun _ h => ?_
            refine gk h rfl rfl (nb_f Bool.false_ne_true) rfl fun _ h => ?_
            refine gs h (o_pickF rfl rfl Bool.false_ne_true) rfl fun _ _ _ h => ?_
            refine gs h (o_move rfl) rfl fun _ _ _ h => ?_
            refine gk h rfl rfl (nb_f Bool.false_ne_true) rfl fun _ h => ?_
            refine gk h rfl rfl (nb_f Bool.false_ne_true) rfl fun _ h => ?_
            refine gk h rfl rfl (nb_f Bool.false_ne_true) rfl fun _ h => ?_
            refine gk h rfl rfl (nb_f Bool.false_ne_true) rfl fun _ h => ?_
            refine gk h rfl rfl (nb_f Bool.false_ne_true) rfl fun _ h => ?_
            refine gs h (o_pickF rfl rfl Bool.false_ne_true) rfl fun _ _ _ h => ?_
            refine gs h (o_move rfl) rfl fun _ _ _ h => ?_
            refine gk h rfl rfl (nb_f Bool.false_ne_true) rfl fun _ h => ?_
            refine gk h rfl rfl (nb_f Bool.false_ne_true) rfl fun _ h => ?_
            refine gk h rfl rfl (nb_f Bool.false_ne_true) rfl fun _ h => ?_
            refine gk h rfl rfl (nb_f Bool.false_ne_true) rfl fun _ h => ?_
            refine gk h rfl rfl (nb_f Bool.false_ne_true) rfl fun _ h => ?_
            refine gs h (o_pickF rfl rfl Bool.false_ne_true) rfl fun _ _ _ h => ?_
            refine gs h (o_move rfl) rfl fun _ _ _ h => ?_
            refine gk h rfl rfl (nb_f Bool.false_ne_true) rfl fun _ h => ?_
            refine gk h rfl rfl (nb_f Bool.false_ne_true) rfl fun _ h => ?_
            refine gk h rfl rfl (nb_f Bool.false_ne_true) rfl fun _ h => ?_
            refine gk h rfl rfl (nb_f Bool.false_ne_true) rfl fun _ h => ?_
            refine gk h rfl rfl (nb_f Bool.false_ne_true) rfl fun _ h => ?_
            refine gs h (o_pickF rfl rfl Bool.false_ne_true) rfl fun _ _ _ h => ?_
            refine gs h (o_move rfl) rfl fun _ _ _ h => ?_
            refine gk h rfl rfl (nb_f Bool.false_ne_true) rfl fun _ h => ?_
            refine gk h rfl rfl (nb_f Bool.false_ne_true) rfl fun _ h => ?_
            refine gk h rfl rfl (nb_f Bool.false_ne_true) rfl fun _ h => ?_
            refine gs h (o_pickF rfl rfl Bool.false_ne_true) rfl fun _ _ _ h => ?_
            refine gs h (o_move rfl) rfl fun _ _ _ h => ?_
            refine gk h rfl rfl (nb_f Bool.false_ne_true) rfl fun _ h => ?_
            refine gs h (o_pickF rfl rfl Bool.false_ne_true) rfl fun _ _ _ h => ?_
            refine gs h (o_assign rfl) rfl fun _ _ _ h => ?_
            refine GoR.done ?_
            exact J5 false _ _ (som H).symm (h.wk (by rfl) [6, 7] (by decide) (by rfl))
          ·have H := ifF c12 H
           refine g_f h rfl c12 ?_
           refine Go.skip ?_
           refine Go.reg ?_
           refine gs h (o_move rfl) rfl fun _ _ _ h => ?_
           refine gs h (o_assign rfl) rfl fun _ _ _ h => ?_
           refine GoR.done ?_
           refine Go.inBlock ?_
           refine Go.reg ?_
           refine gs h (o_move rfl) rfl fun _ _ _ h => ?_
           refine gs h (o_bin rfl rfl rfl) rfl fun _ _ _ h => ?_
           obtain ⟨y6, ey6, H⟩ := ltE H
           refine gs h (o_assign' rfl (congrArg (fun z => Value.int .i64 z) ey6)) rfl fun _ _ _ h => ?_
           refine GoR.done ?_
           have e_ := som H; subst e_
           exact Go.inLoop (nx_in i1 v9 _ _ g19 (ey6 ▸ (wrap_in _ _)) (h.wk (by rfl) [0, 1, 3, 2, 5] (by decide) (by rfl)))
        refine Go.seq ?_
        refine Go.reg ?_
        refine gs h (o_move rfl) rfl fun _ _ _ h => ?_
        refine gs h (o_move rfl) rfl fun _ _ _ h => ?_
        obtain ⟨x4, ex4, H⟩ := bindE H
        refine gs h (o_ix rfl rfl (rd_own 7 rfl) ex4 t_v38) rfl fun _ _ _ h => ?_
        refine gs h (o_lex rfl (rd_own 7 rfl) ex4 X_bool t_y4 (by decide)) rfl fun _ _ _ h => ?_
        refine gs h (o_not rfl) rfl fun _ _ _ h => ?_
        refine GoR.done ?_
        by_cases c10 : (!x4) = true
        ·have H := ifT c10 H
         refine g_t h rfl c10 ?_
         refine Go.seq ?_
         refine Go.reg ?_
         refine gs h (o_move rfl) rfl fun _ _ _ h => ?_
         refine gs h (o_move rfl) rfl fun _ _ _ h => ?_
         obtain ⟨x5, ex5, H⟩ := bindE H
         refine gs h (o_ix rfl rfl (rd_own 7 rfl) ex5 t_v38) rfl fun _ _ _ h => ?_
         obtain ⟨y4, ey4, H⟩ := ltE H
         refine gs0 h (o_ste 7 rfl rfl rfl pv_bool ex5 t_w4 (by decide)) fun _ _ _ h => ?_
         rw [ey4] at h
         refine GoR.done ?_
         refine Go.reg ?_
         refine gs h (o_move rfl) rfl fun _ _ _ h => ?_
         refine gs h (o_bin rfl rfl rfl) rfl fun _ _ _ h => ?_
         obtain ⟨y5, ey5, H⟩ := ltE H
         refine gs h (o_assign' rfl (congrArg (fun z => Value.int .i64 z) ey5)) rfl fun _ _ _ h => ?_
         refine GoR.done ?_
         exact J4 (y4, y5) _ _ (som H).symm (ey5 ▸ (wrap_in _ _)) (h.wk (by rfl) [4, 5, 7, 1, 0, 8] (by decide) (by rfl))
        ·have H := ifF c10 H
         refine g_f h rfl c10 ?_
         refine Go.skip ?_
         exact J4 (s1.2.1, s1.2.2.1) _ _ (som H).symm g10 (h.wk (by rfl) [4, 5, 7, 1, 0, 8] (by decide) (by rfl))
       refine Go.seq ?_
       refine Go.reg ?_
       refine gs h (o_move rfl) rfl fun _ _ _ h => ?_
       refine gs h (o_move rfl) rfl fun _ _ _ h => ?_
       have g15 := (len_at 0 rfl h.mem)
       refine gs h (o_ln rfl (rd_at 0 rfl) t_v34) rfl fun _ _ _ h => ?_
       refine gs h (o_bin rfl rfl rfl) rfl fun _ _ _ h => ?_
       refine GoR.done ?_
       by_cases c9 : decide (s1.2.2.2 < (a3.length : Int)) = true
       ·have H := ifT c9 H
        refine g_t h rfl c9 ?_
        refine Go.reg ?_
        refine gs h (o_move rfl) rfl fun _ _ _ h => ?_
        refine gs h (o_move rfl) rfl fun _ _ _ h => ?_
        obtain ⟨x2, ex2, H⟩ := bindE H
        refine gs h (o_ix rfl rfl (rd_at 0 rfl) ex2 t_v34) rfl fun _ _ _ h => ?_
        have g16 := (rd_inr (rd_at 0 rfl) ex2 h.mem)
        refine gs h (o_lex rfl (rd_at 0 rfl) ex2 X_int t_y3 (by decide)) rfl fun _ _ _ h => ?_
        refine gs h (o_conv rfl t_q3 t_u39) rfl fun _ _ _ h => ?_
        refine gs h (o_move rfl) rfl fun _ _ _ h => ?_
        have g17 := (len_own 1 rfl h.mem)
        refine gs h (o_ln rfl (rd_own 1 rfl) t_v35) rfl fun _ _ _ h => ?_
        refine gs h (o_conv rfl t_q3 t_u39) rfl fun _ _ _ h => ?_
        obtain ⟨q1, H⟩ := ifS H
        refine gs h (o_rem rfl rfl q1) rfl fun _ _ _ h => ?_
        refine gs h (o_conv rfl t_q39 t_u3) rfl fun _ _ _ h => ?_
        obtain ⟨y3, ey3, H⟩ := ltE H
        refine gs h (o_assign' rfl (congrArg (fun z => Value.int .i64 z) ey3)) rfl fun _ _ _ h => ?_
        refine GoR.done ?_
        exact J3 y3 _ _ (som H).symm (ey3 ▸ (wrap_in _ _)) (h.wk (by rfl) [0, 1, 2, 3, 4] (by decide) (by rfl))
       ·have H := ifF c9 H
        refine g_f h rfl c9 ?_
        refine Go.skip ?_
        exact J3 y2 _ _ (som H).symm (ey2 ▸ (wrap_in _ _)) (h.wk (by rfl) [0, 1, 2, 3, 4] (by decide) (by rfl))
      ·have H := ifF c8 H
       refine g_f h rfl c8 ?_
       refine Go.exit rfl ?_
       have e_ := som H; subst e_
       exact J6 () _ _ (nx_out i1).symm (h.wk (by rfl) [4] (by decide) (by rfl))
     ·replace h := h.mm fun m => (pv_nil (K := KPiece)).ent m
      exact I_ (.slice none 0 0) _ _ (ey1 ▸ g9) (show InR .i64 0 by decide) (h.wk (by rfl) [2, 3, 0, 1, 4] (by decide) (by rfl))
   refine Go.reg ?_
   refine gs h (o_move rfl) rfl fun _ _ _ h => ?_
   refine gs h (o_bin rfl rfl rfl) rfl fun _ _ _ h => ?_
   refine gs h (o_move rfl) rfl fun _ _ _ h => ?_
   by_cases c5 : (!decide (r2.2 = 0)) = true
   ·have H := ifT c5 H
    refine gk h rfl rfl (nb_t c5) rfl fun _ h => ?_
    refine gk h rfl rfl (nb_t c5) rfl fun _ h => ?_
    refine gk h rfl rfl (nb_t c5) rfl fun _ h => ?_
    refine gs h (o_pickT rfl rfl c5) rfl fun _ _ _ h => ?_
    refine gs h (o_move rfl) rfl fun _ _ _ h => ?_
    refine gk h rfl rfl (nb_t rfl) rfl fun _ h => ?_
    refine gk h rfl rfl (nb_t rfl) rfl fun _ h => ?_
    refine gk h rfl rfl (nb_t rfl) rfl fun _ h => ?_
    refine gs h (o_pickT rfl rfl rfl) rfl fun _ _ _ h => ?_
    refine GoR.done ?_
    exact J2 true _ _ (som H).symm (h.wk (by rfl) [3, 1, 4] (by decide) (by rfl))
   ·have H := ifF c5 H
    refine gg h rfl rfl (nbF c5) (o_move rfl) rfl fun _ _ _ h => ?_
    have g6 := (len_own 1 rfl h.mem)
    refine gg h rfl rfl (nbF c5) (o_ln rfl (rd_own 1 rfl) t_v35) rfl fun _ _ _ h => ?_
    refine gg h rfl rfl (nbF c5) (o_bin rfl rfl rfl) rfl fun _ _ _ h => ?_
    refine gs h (o_pickF rfl rfl c5) rfl fun _ _ _ h => ?_
    refine gs h (o_move rfl) rfl fun _ _ _ h => ?_
    by_cases c6 : decide ((r2.1.length : Int) < 2) = true
    ·have H := ifT c6 H
     refine gk h rfl rfl (nb_t c6) rfl fun _ h => ?_
     refine gk h rfl rfl (nb_t c6) rfl fun _ h => ?_
     refine gk h rfl rfl (nb_t c6) rfl fun _ h => ?_
     refine gs h (o_pickT rfl rfl c6) rfl fun _ _ _ h => ?_
     refine GoR.done ?_
     exact J2 true _ _ (som H).symm (h.wk (by rfl) [3, 1, 4] (by decide) (by rfl))
    ·have H := ifF c6 H
     refine gg h rfl rfl (nbF c6) (o_move rfl) rfl fun _ _ _ h => ?_
     have g7 := (len_own 1 rfl h.mem)
     refine gg h rfl rfl (nbF c6) (o_ln rfl (rd_own 1 rfl) t_v35) rfl fun _ _ _ h => ?_
     refine gg h rfl rfl (nbF c6) (o_bin rfl rfl rfl) rfl fun _ _ _ h => ?_
     refine gs h (o_pickF rfl rfl c6) rfl fun _ _ _ h => ?_
     refine GoR.done ?_
     exact J2 (decide (60 < (r2.1.length : Int))) _ _ (som H).symm (h.wk (by rfl) [3, 1, 4] (by decide) (by rfl))
 refine Go.reg ?_
 refine gs h (o_fa rfl t_f27_9 rfl rfl) rfl fun _ _ _ h => ?_
 refine gs h (o_lfv 0 rfl rfl sIp_Data rfl Per_sl t_y25) rfl fun v3 _ _ h => ?_
 have g1 := (len_at 0 rfl h.mem)
 refine gs h (o_ln rfl (rd_at 0 rfl) t_v25) rfl fun _ _ _ h => ?_
 refine gs h (o_bin rfl rfl rfl) rfl fun _ _ _ h => ?_
 refine gs h (o_move rfl) rfl fun _ _ _ h => ?_
 by_cases c1 : decide (3000 < (a1.Data.length : Int)) = true
 ·have H := ifT c1 H
  refine gk h rfl rfl (nb_t c1) rfl fun _ h => ?_
  refine gk h rfl rfl (nb_t c1) rfl fun _ h => ?_
  refine gk h rfl rfl (nb_t c1) rfl fun _ h => ?_
  refine gs h (o_pickT rfl rfl c1) rfl fun _ _ _ h => ?_
  refine gs h (o_move rfl) rfl fun _ _ _ h => ?_
  refine gk h rfl rfl (nb_t rfl) rfl fun _ h => ?_
  refine gk h rfl rfl (nb_t rfl) rfl fun _ h => ?_
  refine gk h rfl rfl (nb_t rfl) rfl fun _ h => ?_
  refine gs h (o_pickT rfl rfl rfl) rfl fun _ _ _ h => ?_
  refine gs h (o_move rfl) rfl fun _ _ _ h => ?_
  refine gk h rfl rfl (nb_t rfl) rfl fun _ h => ?_
  refine gk h rfl rfl (nb_t rfl) rfl fun _ h => ?_
  refine gk h rfl rfl (nb_t rfl) rfl fun _ h => ?_
  refine gs h (o_pickT rfl rfl rfl) rfl fun _ _ _ h => ?_
  refine GoR.done ?_
  exact J1 true _ _ (som H).symm (h.wk (by rfl) [3, 1] (by decide) (by rfl))
 ·have H := ifF c1 H
  refine gg h rfl rfl (nbF c1) (o_move rfl) rfl fun _ _ _ h => ?_
  have g2 := (len_at 3 rfl h.mem)
  refine gg h rfl rfl (nbF c1) (o_ln rfl (rd_at 3 rfl) t_v34) rfl fun _ _ _ h => ?_
  refine gg h rfl rfl (nbF c1) (o_bin rfl rfl rfl) rfl fun _ _ _ h => ?_
  refine gs h (o_pickF rfl rfl c1) rfl fun _ _ _ h => ?_
  refine gs h (o_move rfl) rfl fun _ _ _ h => ?_
  by_cases c2 : decide (200 < (a3.length : Int)) = true
  ·have H := ifT c2 H
   refine gk h rfl rfl (nb_t c2) rfl fun _ h => ?_
   refine gk h rfl rfl (nb_t c2) rfl fun _ h => ?_
   refine gk h rfl rfl (nb_t c2) rfl fun _ h => ?_
   refine gs h (o_pickT rfl rfl c2) rfl fun _ _ _ h => ?_
   refine gs h (o_move rfl) rfl fun _ _ _ h => ?_
   refine gk h rfl rfl (nb_t rfl) rfl fun _ h => ?_
   refine gk h rfl rfl (nb_t rfl) rfl fun _ h => ?_
   refine gk h rfl rfl (nb_t rfl) rfl fun _ h => ?_
   refine gs h (o_pickT rfl rfl rfl) rfl fun _ _ _ h => ?_
   refine GoR.done ?_
   exact J1 true _ _ (som H).symm (h.wk (by rfl) [3, 1] (by decide) (by rfl))
  ·have H := ifF c2 H
   refine gg h rfl rfl (nbF c2) (o_fa rfl t_f27_3 rfl rfl) rfl fun _ _ _ h => ?_
   have g3 := (in2 (fd_sub sIp_Off 1 rfl h.mem))
   refine gg h rfl rfl (nbF c2) (o_lfx 1 rfl rfl sIp_Off rfl X_int t_y3) rfl fun _ _ _ h => ?_
   refine gg h rfl rfl (nbF c2) (o_bin rfl rfl rfl) rfl fun _ _ _ h => ?_
   refine gs h (o_pickF rfl rfl c2) rfl fun _ _ _ h => ?_
   refine gs h (o_move rfl) rfl fun _ _ _ h => ?_
   by_cases c3 : (!decide (a1.Off = 0)) = true
   ·have H := ifT c3 H
    refine gk h rfl rfl (nb_t c3) rfl fun _ h => ?_
    refine gk h rfl rfl (nb_t c3) rfl fun _ h => ?_
    refine gk h rfl rfl (nb_t c3) rfl fun _ h => ?_
    refine gs h (o_pickT rfl rfl c3) rfl fun _ _ _ h => ?_
    refine GoR.done ?_
    exact J1 true _ _ (som H).symm (h.wk (by rfl) [3, 1] (by decide) (by rfl))
   ·have H := ifF c3 H
    refine gg h rfl rfl (nbF c3) (o_fa rfl t_f27_2 rfl rfl) rfl fun _ _ _ h => ?_
    have g4 := (in2 (fd_sub sIp_Flags 1 rfl h.mem))
    refine gg h rfl rfl (nbF c3) (o_lfx 1 rfl rfl sIp_Flags rfl X_int t_y3) rfl fun _ _ _ h => ?_
    refine gg h rfl rfl (nbF c3) (o_bin rfl rfl rfl) rfl fun _ _ _ h => ?_
    refine gs h (o_pickF rfl rfl c3) rfl fun _ _ _ h => ?_
    refine GoR.done ?_
    exact J1 (!decide (a1.Flags = 0)) _ _ (som H).symm (h.wk (by rfl) [3, 1] (by decide) (by rfl))
def law24_ReasmBack.g (k_ : Nat) (a1 : TIp) (a2 : Int) (a3 : List Int) : Option (Bool) :=
  ((if decide (3000 < (a1.Data.length : Int)) = true then some (true) else (if decide (200 < (a3.length : Int)) = true then some (true) else (if (!decide (a1.Off = 0)) = true then some (true) else some ((!decide (a1.Flags = 0))))))).bind (fun j1 => (if j1 = true then (law24_heads.g k_).bind fun r1 => some (r1) else (ref17_Cut.g k_ a1 a2).bind fun r2 => ((if (!decide (r2.2 = 0)) = true then some (true) else (if decide ((r2.1.length : Int) < 2) = true then some (true) else some (decide (60 < (r2.1.length : Int)))))).bind (fun j2 => (if j2 = true then (law24_heads.g k_).bind fun r3 => some (r3) else (mk (r2.1.length : Int) false).bind fun x1 => lt (r2.1.length : Int) fun y1 => (loopK k_ (fun s1 => (if decide (s1.2.2.2 < (IntKind.i64.wrap ((a3.length : Int) + (r2.1.length : Int)))) = true then lt (IntKind.i64.wrap (s1.2.2.2 - (a3.length : Int))) fun y2 => ((if decide (s1.2.2.2 < (a3.length : Int)) = true then (idx a3 s1.2.2.2).bind fun x2 => if (IntKind.u64.wrap (r2.1.length : Int)) ≠ 0 then (lt (IntKind.i64.wrap (Int.tmod (IntKind.u64.wrap x2) (IntKind.u64.wrap (r2.1.length : Int)))) fun y3 => some (y3)) else none else some (y2))).bind (fun j3 => (idx r2.1 j3).bind fun x3 => (reasm_Add.g k_ s1.1 7 x3).bind fun r4 => ((idx s1.2.1 j3).bind fun x4 => (if (!x4) = true then (idx s1.2.1 j3).bind fun x5 => lt (s1.2.1.set j3.toNat true) fun y4 => lt (IntKind.i64.wrap (s1.2.2.1 - 1)) fun y5 => some ((y4, y5)) else some ((s1.2.1, s1.2.2.1)))).bind (fun j4 => (if (!(r4.2.2 == (decide (j4.2 = 0)))) = true then some (.inr (.inr (false))) else (if r4.2.2 = true then ((ref01_Same.g k_ r4.2.1.Data a1.Data).bind fun r5 => (if r5 = true then (if decide (r4.2.1.Off = 0) = true then (if decide (r4.2.1.Flags = 0) = true then (if decide (r4.2.1.Src = a1.Src) = true then (if decide (r4.2.1.Dst = a1.Dst) = true then (if decide (r4.2.1.Id = a1.Id) = true then (if decide ((r4.1.length : Int) = 0) = true then (law24_heads.g k_).bind fun r6 => some (r6) else some (false)) else some (false)) else some (false)) else some (false)) else some (false)) else some (false)) else some (false))).bind (fun j5 => some (.inr (.inr (j5)))) else lt (IntKind.i64.wrap (s1.2.2.2 + 1)) fun y6 => some (.inl (r4.1, j4.1, j4.2, y6)))))) else some (.inr (.inl (()))))) (([] : List TPiece), x1, y1, 0)).bind (Sum.elim (fun j6 => some (false)) (fun z_ => some (z_)))))))
theorem law24_ReasmBack.le (k_ : Nat) (a1 : TIp) (a2 : Int) (a3 : List Int) : Le (law24_ReasmBack.g k_ a1 a2 a3) (law24_ReasmBack.f a1 a2 a3) := by
 unfold law24_ReasmBack.g law24_ReasmBack.f
 repeat' (first | with_reducible refine le_loop fun _ => ?_ | with_reducible refine le_bind ?_ fun _ => ?_ | with_reducible refine le_ite ?_ ?_ | with_reducible refine le_lt fun _ => ?_ | with_reducible refine le_elim (fun _ => ?_) (fun _ => ?_) _ | with_reducible apply law24_heads.le | with_reducible apply reasm_Add.le | with_reducible apply ref01_Same.le | with_reducible apply ref17_Cut.le | with_reducible exact le_refl _)
/-! drawbridge/drawbridgelaw24.small -/
noncomputable def law24_small.f (a1 : List TPiece) (a2 : TIp) : Option (Bool) :=
  ((if decide (20 < (a1.length : Int)) = true then some (true) else some (decide (70000 < (a2.Data.length : Int))))).bind (fun j1 => (if j1 = true then some (false) else (loop (fun s1 => (if decide (s1 < (a1.length : Int)) = true then ((idx a1 s1).bind fun x1 => (if decide (9000 < (x1.Data.length : Int)) = true then some (true) else (idx a1 s1).bind fun x2 => some (decide (9000 < (x2.Have.length : Int))))).bind (fun j2 => (if j2 = true then some (.inr (.inr (false))) else lt (IntKind.i64.wrap (s1 + 1)) fun y1 => some (.inl y1))) else some (.inr (.inl (()))))) 0).bind (Sum.elim (fun j3 => some (true)) (fun z_ => some (z_)))))
set_option maxRecDepth 100000 in
set_option maxHeartbeats 4000000 in
theorem law24_small.spc (v1 : Value) (a1 : List TPiece) (v2 : Value) (a2 : TIp) (r : Bool) (H : law24_small.f a1 a2 = some r) : Spc Try.prog 11 [v1, v2] [Val (Kd.sl KPiece) v1 a1, Val KIp v2 a2] [] (fun (s : Unit) => .bool r) (fun s => []) := by
 unfold law24_small.f at H
 refine Spc.go Try.func11 rfl (by kernel_rfl) rfl rfl (all_cons (Val.per Per_sl) (all_cons (Val.per PIp) all_nil)) fun F a w h => ?_
 refine Go.seq ?_
 refine Go.reg ?_
 refine gs h (o_box (K := KIp) rfl (pv_at PIp 1 rfl)) rfl fun b1 _ _ h => ?_
 refine gs h (o_assign rfl) rfl fun _ _ _ h => ?_
 refine GoR.done ?_
 refine Go.seq ?_
 refine Go.seq ?_
 obtain ⟨o1, H, G1⟩ := bindE H
 refine g_cut (fun G => ∀ j1 (a : Act) (w : World), o1 = j1 → St Try.f11.ntmps F [(0, v1), (14, .bool j1)] [Val (Kd.sl KPiece) v1 a1, Fld KIp b1 0 a2] a w → G a w) 1 ?_ fun J1 => ?_
 ·intro j1 a w ho_ h
  rw [ho_] at G1
  have H := G1
  by_cases c2 : j1 = true
  ·have H := ifT c2 H
   refine g_t h rfl c2 ?_
   refine Go.seq ?_
   refine Go.reg ?_
   refine gs h (o_assign rfl) rfl fun _ _ _ h => ?_
   refine GoR.done ?_
   rw [← som H]
   exact g_ret (vs := [.bool false]) h Try.func11 ⟨rfl, trivial⟩ ⟨(), rfl, (h.mem.pick [] (by decide) rfl)⟩
  ·have H := ifF c2 H
   refine g_f h rfl c2 ?_
   refine Go.skip ?_
   refine Go.seq ?_
   refine Go.seq ?_
   refine Go.reg ?_
   refine gs h (o_assign rfl) rfl fun _ _ _ h => ?_
   refine GoR.done ?_
   refine Go.block ?_
   obtain ⟨o2, hl, G2⟩ := bindE H
   refine g_cut (fun G => ∀ j3 (a : Act) (w : World), o2 = .inl (j3) → St Try.f11.ntmps F [] [Fld KIp b1 0 a2] a w → G a w) 2 ?_ fun J3 => ?_
   ·intro j3 a w ho_ h
    rw [ho_] at G2
    have H := G2
    refine Go.seq ?_
    refine Go.reg ?_
    refine gs h (o_assign rfl) rfl fun _ _ _ h => ?_
    refine GoR.done ?_
    rw [← som H]
    exact g_ret (vs := [.bool true]) h Try.func11 ⟨rfl, trivial⟩ ⟨(), rfl, (h.mem.pick [] (by decide) rfl)⟩
   refine g_loop (fun s1 G => ∀  (a : Act) (w : World), InR .i64 s1 → St Try.f11.ntmps F [(0, v1), (5, .int .i64 s1)] [Val (Kd.sl KPiece) v1 a1, Fld KIp b1 0 a2] a w → G a w) hl (fun s1 p1 H i1 => ?_) fun I_ => ?_
   ·intro  a w g3 h
    refine Go.seq ?_
    refine Go.seq ?_
    refine Go.reg ?_
    refine gs h (o_move rfl) rfl fun _ _ _ h => ?_
    refine gs h (o_move rfl) rfl fun _ _ _ h => ?_
    have g4 := (len_at 0 rfl h.mem)
    refine gs h (o_ln rfl (rd_at 0 rfl) t_v23) rfl fun _ _ _ h => ?_
    refine gs h (o_bin rfl rfl rfl) rfl fun _ _ _ h => ?_
    refine GoR.done ?_
    by_cases c3 : decide (s1 < (a1.length : Int)) = true
    ·have H := ifT c3 H
     refine g_t h rfl c3 ?_
     refine Go.skip ?_
     refine Go.seq ?_
     refine Go.block ?_
     refine Go.seq ?_
     obtain ⟨o3, H, G3⟩ := bindE H
     refine g_cut (fun G => ∀ j2 (a : Act) (w : World), o3 = j2 → St Try.f11.ntmps F [(0, v1), (5, .int .i64 s1), (36, .bool j2)] [Val (Kd.sl KPiece) v1 a1, Fld KIp b1 0 a2] a w → G a w) 1 ?_ fun J2 => ?_
     ·intro j2 a w ho_ h
      rw [ho_] at G3
      have H := G3
      by_cases c5 : j2 = true
      ·have H := ifT c5 H
       refine g_t h rfl c5 ?_
       refine Go.seq ?_
       refine Go.reg ?_
       refine gs h (o_assign rfl) rfl fun _ _ _ h => ?_
       refine GoR.done ?_
       have e_ := som H; subst e_
       rw [← nx_out i1] at G2
       have H := G2
       rw [← som H]
       exact g_ret (vs := [.bool false]) h Try.func11 ⟨rfl, trivial⟩ ⟨(), rfl, (h.mem.pick [] (by decide) rfl)⟩
      ·have H := ifF c5 H
       refine g_f h rfl c5 ?_
       refine Go.skip ?_
       refine Go.inBlock ?_
       refine Go.reg ?_
       refine gs h (o_move rfl) rfl fun _ _ _ h => ?_
       refine gs h (o_bin rfl rfl rfl) rfl fun _ _ _ h => ?_
       obtain ⟨y1, ey1, H⟩ := ltE H
       refine gs h (o_assign' rfl (congrArg (fun z => Value.int .i64 z) ey1)) rfl fun _ _ _ h => ?_
       refine GoR.done ?_
       have e_ := som H; subst e_
       exact Go.inLoop (nx_in i1 _ _ (ey1 ▸ (wrap_in _ _)) (h.wk (by rfl) [0, 1] (by decide) (by rfl)))
     refine Go.reg ?_
     refine gs h (o_move rfl) rfl fun _ _ _ h => ?_
     refine gs h (o_move rfl) rfl fun _ _ _ h => ?_
     obtain ⟨x1, ex1, H⟩ := bindE H
     refine gs h (o_ix rfl rfl (rd_at 0 rfl) ex1 t_v23) rfl fun _ _ _ h => ?_
     refine gs h (o_fae (k' := s1.toNat * Kd.n KPiece + 5) rfl (rd_at 0 rfl) ex1 (by decide) t_f50_5 rfl rfl) rfl fun _ _ _ h => ?_
     refine gs h (o_lsv rfl (rd_at 0 rfl) ex1 sPiece_Data t_y25 (by decide)) rfl fun v4 _ _ h => ?_
     have g5 := (len_at 0 rfl h.mem)
     refine gs h (o_ln rfl (rd_at 0 rfl) t_v25) rfl fun _ _ _ h => ?_
     refine gs h (o_bin rfl rfl rfl) rfl fun _ _ _ h => ?_
     refine gs h (o_move rfl) rfl fun _ _ _ h => ?_
     by_cases c4 : decide (9000 < (x1.Data.length : Int)) = true
     ·have H := ifT c4 H
      refine gk h rfl rfl (nb_t c4) rfl fun _ h => ?_
      refine gk h rfl rfl (nb_t c4) rfl fun _ h => ?_
      refine gk h rfl rfl (nb_t c4) rfl fun _ h => ?_
      refine gk h rfl rfl (nb_t c4) rfl fun _ h => ?_
      refine gk h rfl rfl (nb_t c4) rfl fun _ h => ?_
      refine gk h rfl rfl (nb_t c4) rfl fun _ h => ?_
      refine gk h rfl rfl (nb_t c4) rfl fun _ h => ?_
      refine gs h (o_pickT rfl rfl c4) rfl fun _ _ _ h => ?_
      refine GoR.done ?_
      exact J2 true _ _ (som H).symm (h.wk (by rfl) [1, 2] (by decide) (by rfl))
     ·have H := ifF c4 H
      refine gg h rfl rfl (nbF c4) (o_move rfl) rfl fun _ _ _ h => ?_
      refine gg h rfl rfl (nbF c4) (o_move rfl) rfl fun _ _ _ h => ?_
      obtain ⟨x2, ex2, H⟩ := bindE H
      refine gg h rfl rfl (nbF c4) (o_ix rfl rfl (rd_at 1 rfl) ex2 t_v23) rfl fun _ _ _ h => ?_
      refine gg h rfl rfl (nbF c4) (o_fae (k' := s1.toNat * Kd.n KPiece + 6) rfl (rd_at 1 rfl) ex2 (by decide) t_f50_6 rfl rfl) rfl fun _ _ _ h => ?_
      refine gg h rfl rfl (nbF c4) (o_lsv rfl (rd_at 1 rfl) ex2 sPiece_Have t_y38 (by decide)) rfl fun v5 _ _ h => ?_
      have g6 := (len_at 0 rfl h.mem)
      refine gg h rfl rfl (nbF c4) (o_ln rfl (rd_at 0 rfl) t_v38) rfl fun _ _ _ h => ?_
      refine gg h rfl rfl (nbF c4) (o_bin rfl rfl rfl) rfl fun _ _ _ h => ?_
      refine gs h (o_pickF rfl rfl c4) rfl fun _ _ _ h => ?_
      refine GoR.done ?_
      exact J2 (decide (9000 < (x2.Have.length : Int))) _ _ (som H).symm (h.wk (by rfl) [2, 3] (by decide) (by rfl))
    ·have H := ifF c3 H
     refine g_f h rfl c3 ?_
     refine Go.exit rfl ?_
     have e_ := som H; subst e_
     exact J3 () _ _ (nx_out i1).symm (h.wk (by rfl) [1] (by decide) (by rfl))
   ·exact I_ _ _ (show InR .i64 0 by decide) (h.wk (by rfl) [0, 1] (by decide) (by rfl))
 refine Go.reg ?_
 refine gs h (o_move rfl) rfl fun _ _ _ h => ?_
 have g1 := (len_at 1 rfl h.mem)
 refine gs h (o_ln rfl (rd_at 1 rfl) t_v23) rfl fun _ _ _ h => ?_
 refine gs h (o_bin rfl rfl rfl) rfl fun _ _ _ h => ?_
 refine gs h (o_move rfl) rfl fun _ _ _ h => ?_
 by_cases c1 : decide (20 < (a1.length : Int)) = true
 ·have H := ifT c1 H
  refine gk h rfl rfl (nb_t c1) rfl fun _ h => ?_
  refine gk h rfl rfl (nb_t c1) rfl fun _ h => ?_
  refine gk h rfl rfl (nb_t c1) rfl fun _ h => ?_
  refine gk h rfl rfl (nb_t c1) rfl fun _ h => ?_
  refine gs h (o_pickT rfl rfl c1) rfl fun _ _ _ h => ?_
  refine GoR.done ?_
  exact J1 true _ _ (som H).symm (h.wk (by rfl) [1, 0] (by decide) (by rfl))
 ·have H := ifF c1 H
  refine gg h rfl rfl (nbF c1) (o_fa rfl t_f27_9 rfl rfl) rfl fun _ _ _ h => ?_
  refine gg h rfl rfl (nbF c1) (o_lfv 0 rfl rfl sIp_Data rfl Per_sl t_y25) rfl fun v3 _ _ h => ?_
  have g2 := (len_at 0 rfl h.mem)
  refine gg h rfl rfl (nbF c1) (o_ln rfl (rd_at 0 rfl) t_v25) rfl fun _ _ _ h => ?_
  refine gg h rfl rfl (nbF c1) (o_bin rfl rfl rfl) rfl fun _ _ _ h => ?_
  refine gs h (o_pickF rfl rfl c1) rfl fun _ _ _ h => ?_
  refine GoR.done ?_
  exact J1 (decide (70000 < (a2.Data.length : Int))) _ _ (som H).symm (h.wk (by rfl) [2, 1] (by decide) (by rfl))
def law24_small.g (k_ : Nat) (a1 : List TPiece) (a2 : TIp) : Option (Bool) :=
  ((if decide (20 < (a1.length : Int)) = true then some (true) else some (decide (70000 < (a2.Data.length : Int))))).bind (fun j1 => (if j1 = true then some (false) else (loopK k_ (fun s1 => (if decide (s1 < (a1.length : Int)) = true then ((idx a1 s1).bind fun x1 => (if decide (9000 < (x1.Data.length : Int)) = true then some (true) else (idx a1 s1).bind fun x2 => some (decide (9000 < (x2.Have.length : Int))))).bind (fun j2 => (if j2 = true then some (.inr (.inr (false))) else lt (IntKind.i64.wrap (s1 + 1)) fun y1 => some (.inl y1))) else some (.inr (.inl (()))))) 0).bind (Sum.elim (fun j3 => some (true)) (fun z_ => some (z_)))))
theorem law24_small.le (k_ : Nat) (a1 : List TPiece) (a2 : TIp) : Le (law24_small.g k_ a1 a2) (law24_small.f a1 a2) := by
 unfold law24_small.g law24_small.f
 repeat' (first | with_reducible refine le_loop fun _ => ?_ | with_reducible refine le_bind ?_ fun _ => ?_ | with_reducible refine le_ite ?_ ?_ | with_reducible refine le_lt fun _ => ?_ | with_reducible refine le_elim (fun _ => ?_) (fun _ => ?_) _ | with_reducible exact le_refl _)
end Go.Proofs.Ytlpjgmbbcibkjaa.S
