/- Contracts, printed by a program of this session. -/
import Derived.Test.YtlpjgmbbcibkjaaT1
import Derived.Test.YtlpjgmbbcibkjaaT5
import Derived.Test.YtlpjgmbbcibkjaaT7
namespace Go.Proofs.Ytlpjgmbbcibkjaa.S
open Go Go.SL Go.RowKit
set_option linter.unusedVariables false
set_option linter.unusedSimpArgs false
/-! drawbridge/drawbridgelaw24.ReasmFirst -/
noncomputable def law24_ReasmFirst.f (a1 : Int) (a2 : Int) (a3 : Int) (a4 : Int) : Option (Bool) :=
  (law24_eight.f a2).bind fun r1 => (reasm_Add.f [] 0 (⟨0, 0, 1, 1, 0, 0, 0, 0, [], r1⟩ : TIp)).bind fun r2 => (law24_eight.f a4).bind fun r3 => (reasm_Add.f r2.1 1 (⟨0, 0, 1, 1, 0, 0, 0, 0, [], r3⟩ : TIp)).bind fun r4 => (law24_eight.f a3).bind fun r5 => (reasm_Add.f r4.1 2 (⟨0, 0, 0, 2, 0, 0, 0, 0, [], r5⟩ : TIp)).bind fun r6 => (law24_eight.f a1).bind fun r7 => (reasm_Add.f r6.1 3 (⟨0, 0, 1, 0, 0, 0, 0, 0, [], r7⟩ : TIp)).bind fun r8 => (law24_eight.f a1).bind fun r9 => (law24_eight.f a2).bind fun r10 => (app r9 r10).bind fun x1 => (law24_eight.f a3).bind fun r11 => (app x1 r11).bind fun x2 => ((if (!r2.2.2) = true then (if (!r4.2.2) = true then (if (!r6.2.2) = true then (if r8.2.2 = true then (if decide ((r8.1.length : Int) = 0) = true then (ref01_Same.f r8.2.1.Data x2).bind fun r12 => (if r12 = true then (law24_heads.f).bind fun r13 => some (r13) else some (false)) else some (false)) else some (false)) else some (false)) else some (false)) else some (false))).bind (fun j1 => some (j1))
set_option maxRecDepth 100000 in
set_option maxHeartbeats 4000000 in
theorem law24_ReasmFirst.spc (a1 : Int) (ha1 : InR .u64 a1) (a2 : Int) (ha2 : InR .u64 a2) (a3 : Int) (ha3 : InR .u64 a3) (a4 : Int) (ha4 : InR .u64 a4) (r : Bool) (H : law24_ReasmFirst.f a1 a2 a3 a4 = some r) : Spc Try.prog 3 [.int .u64 a1, .int .u64 a2, .int .u64 a3, .int .u64 a4] [] [] (fun (s : Unit) => .bool r) (fun s => []) := by
 unfold law24_ReasmFirst.f at H
 refine Spc.go Try.func3 rfl (by kernel_rfl) rfl rfl all_nil fun F a w h => ?_
 refine Go.seq ?_
 refine Go.reg ?_
 refine gs h (o_assign rfl) rfl fun _ _ _ h => ?_
 refine GoR.done ?_
 refine Go.seq ?_
 refine Go.reg ?_
 refine gs h (o_move rfl) rfl fun _ _ _ h => ?_
 obtain ⟨r1, er1, H⟩ := bindE H
 refine gs h (o_call (law24_eight.spc a2 ha2 r1 er1) rfl [] [] (by decide) rfl rfl) rfl fun v1 _ _ h => ?_
 replace h := h.mm fun m => m.freeze 0 rfl
 refine gs h (o_buildp (K := KIp) (x := (⟨0, 0, 1, 1, 0, 0, 0, 0, [], r1⟩ : TIp)) (ps0 := [(3, .int .i64 1), (2, .int .i64 1), (9, v1)]) (ps := [(2, .int .i64 1), (3, .int .i64 1), (9, v1)]) rfl (List.Perm.swap _ _ _) (show ([3, 2, 9] : List Nat).Nodup by decide) (zs := zsIp) rfl t_b27 rfl (show PB (Kd.pair (Kd.int .i64) (Kd.pair (Kd.int .i64) (Kd.pair (Kd.int .i64) (Kd.pair (Kd.int .i64) (Kd.pair (Kd.int .i64) (Kd.pair (Kd.int .i64) (Kd.pair (Kd.int .u32) (Kd.pair (Kd.int .u32) (Kd.pair (Kd.sl (Kd.int .u8)) (Kd.last (Kd.sl (Kd.int .u8)))))))))))) (0, 0, 1, 1, 0, 0, 0, 0, [], r1) 0 zsIp _ _ from (pb_zero z_int (pb_zero z_int (pb_part (pv_int (show InR .i64 1 by decide)) rfl (pb_part (pv_int (show InR .i64 1 by decide)) rfl (pb_zero z_int (pb_zero z_int (pb_zero z_int (pb_zero z_int (pb_zero z_sl (pb_lastp (pv_at Per_sl 0 rfl) rfl)))))))))))) rfl fun v2 _ _ h => ?_
 replace h := h.mm fun m => (pv_nil (K := KPiece)).ent m
 obtain ⟨r2, er2, H⟩ := bindE H
 refine gs h (o_call (reasm_Add.spc (.slice none 0 0) [] 0 (show InR .i64 0 by decide) v2 (⟨0, 0, 1, 1, 0, 0, 0, 0, [], r1⟩ : TIp) r2 er2) rfl [0, 1] [] (by decide) rfl rfl) rfl fun s_ _ _ h => ?_
 obtain ⟨v3, v4⟩ := s_
 refine gs h (o_move rfl) rfl fun _ _ _ h => ?_
 refine gs h (o_extract rfl rfl) rfl fun _ _ _ h => ?_
 refine gs h (o_extract rfl rfl) rfl fun _ _ _ h => ?_
 refine gs h (o_extract rfl rfl) rfl fun _ _ _ h => ?_
 refine gs h (o_alloc (K := KIp) (z := (.agg #[.int .i64 0, .int .i64 0, .int .i64 0, .int .i64 0, .int .i64 0, .int .i64 0, .int .u32 0, .int .u32 0, .slice none 0 0, .slice none 0 0])) rfl ZIp) rfl fun b1 _ _ h => ?_
 refine gs h (o_assign rfl) rfl fun _ _ _ h => ?_
 refine gs0 h (o_st 0 rfl rfl rfl (pv_at PIp 2 rfl) rfl t_w27) fun _ _ _ h => ?_
 refine gs h (o_assign rfl) rfl fun _ _ _ h => ?_
 refine GoR.done ?_
 refine Go.seq ?_
 refine Go.reg ?_
 refine gs h (o_move rfl) rfl fun _ _ _ h => ?_
 refine gs h (o_move rfl) rfl fun _ _ _ h => ?_
 obtain ⟨r3, er3, H⟩ := bindE H
 refine gs h (o_call (law24_eight.spc a4 ha4 r3 er3) rfl [] [] (by decide) rfl rfl) rfl fun v5 _ _ h => ?_
 replace h := h.mm fun m => m.freeze 0 rfl
 refine gs h (o_buildp (K := KIp) (x := (⟨0, 0, 1, 1, 0, 0, 0, 0, [], r3⟩ : TIp)) (ps0 := [(3, .int .i64 1), (2, .int .i64 1), (9, v5)]) (ps := [(2, .int .i64 1), (3, .int .i64 1), (9, v5)]) rfl (List.Perm.swap _ _ _) (show ([3, 2, 9] : List Nat).Nodup by decide) (zs := zsIp) rfl t_b27 rfl (show PB (Kd.pair (Kd.int .i64) (Kd.pair (Kd.int .i64) (Kd.pair (Kd.int .i64) (Kd.pair (Kd.int .i64) (Kd.pair (Kd.int .i64) (Kd.pair (Kd.int .i64) (Kd.pair (Kd.int .u32) (Kd.pair (Kd.int .u32) (Kd.pair (Kd.sl (Kd.int .u8)) (Kd.last (Kd.sl (Kd.int .u8)))))))))))) (0, 0, 1, 1, 0, 0, 0, 0, [], r3) 0 zsIp _ _ from (pb_zero z_int (pb_zero z_int (pb_part (pv_int (show InR .i64 1 by decide)) rfl (pb_part (pv_int (show InR .i64 1 by decide)) rfl (pb_zero z_int (pb_zero z_int (pb_zero z_int (pb_zero z_int (pb_zero z_sl (pb_lastp (pv_at Per_sl 0 rfl) rfl)))))))))))) rfl fun v6 _ _ h => ?_
 obtain ⟨r4, er4, H⟩ := bindE H
 refine gs h (o_call (reasm_Add.spc v3 r2.1 1 (show InR .i64 1 by decide) v6 (⟨0, 0, 1, 1, 0, 0, 0, 0, [], r3⟩ : TIp) r4 er4) rfl [3, 0] [] (by decide) rfl rfl) rfl fun s_ _ _ h => ?_
 obtain ⟨v7, v8⟩ := s_
 refine gs h (o_move rfl) rfl fun _ _ _ h => ?_
 refine gs h (o_extract rfl rfl) rfl fun _ _ _ h => ?_
 refine gs h (o_extract rfl rfl) rfl fun _ _ _ h => ?_
 refine gs h (o_extract rfl rfl) rfl fun _ _ _ h => ?_
 refine gs h (o_alloc (K := KIp) (z := (.agg #[.int .i64 0, .int .i64 0, .int .i64 0, .int .i64 0, .int .i64 0, .int .i64 0, .int .u32 0, .int .u32 0, .slice none 0 0, .slice none 0 0])) rfl ZIp) rfl fun b2 _ _ h => ?_
 refine gs h (o_assign rfl) rfl fun _ _ _ h => ?_
 refine gs0 h (o_st 0 rfl rfl rfl (pv_at PIp 2 rfl) rfl t_w27) fun _ _ _ h => ?_
 refine gs h (o_assign rfl) rfl fun _ _ _ h => ?_
 refine GoR.done ?_
 refine Go.seq ?_
 refine Go.reg ?_
 refine gs h (o_move rfl) rfl fun _ _ _ h => ?_
 refine gs h (o_move rfl) rfl fun _ _ _ h => ?_
 obtain ⟨r5, er5, H⟩ := bindE H
 refine gs h (o_call (law24_eight.spc a3 ha3 r5 er5) rfl [] [] (by decide) rfl rfl) rfl fun v9 _ _ h => ?_
 replace h := h.mm fun m => m.freeze 0 rfl
 refine gs h (o_build (K := KIp) (x := (⟨0, 0, 0, 2, 0, 0, 0, 0, [], r5⟩ : TIp)) (ps := [(3, .int .i64 2), (9, v9)]) rfl (zs := zsIp) rfl t_b27 rfl (show PB (Kd.pair (Kd.int .i64) (Kd.pair (Kd.int .i64) (Kd.pair (Kd.int .i64) (Kd.pair (Kd.int .i64) (Kd.pair (Kd.int .i64) (Kd.pair (Kd.int .i64) (Kd.pair (Kd.int .u32) (Kd.pair (Kd.int .u32) (Kd.pair (Kd.sl (Kd.int .u8)) (Kd.last (Kd.sl (Kd.int .u8)))))))))))) (0, 0, 0, 2, 0, 0, 0, 0, [], r5) 0 zsIp _ _ from (pb_zero z_int (pb_zero z_int (pb_zero z_int (pb_part (pv_int (show InR .i64 2 by decide)) rfl (pb_zero z_int (pb_zero z_int (pb_zero z_int (pb_zero z_int (pb_zero z_sl (pb_lastp (pv_at Per_sl 0 rfl) rfl)))))))))))) rfl fun v10 _ _ h => ?_
 obtain ⟨r6, er6, H⟩ := bindE H
 refine gs h (o_call (reasm_Add.spc v7 r4.1 2 (show InR .i64 2 by decide) v10 (⟨0, 0, 0, 2, 0, 0, 0, 0, [], r5⟩ : TIp) r6 er6) rfl [3, 0] [] (by decide) rfl rfl) rfl fun s_ _ _ h => ?_
 obtain ⟨v11, v12⟩ := s_
 refine gs h (o_move rfl) rfl fun _ _ _ h => ?_
 refine gs h (o_extract rfl rfl) rfl fun _ _ _ h => ?_
 refine gs h (o_extract rfl rfl) rfl fun _ _ _ h => ?_
 refine gs h (o_extract rfl rfl) rfl fun _ _ _ h => ?_
 refine gs h (o_alloc (K := KIp) (z := (.agg #[.int .i64 0, .int .i64 0, .int .i64 0, .int .i64 0, .int .i64 0, .int .i64 0, .int .u32 0, .int .u32 0, .slice none 0 0, .slice none 0 0])) rfl ZIp) rfl fun b3 _ _ h => ?_
 refine gs h (o_assign rfl) rfl fun _ _ _ h => ?_
 refine gs0 h (o_st 0 rfl rfl rfl (pv_at PIp 2 rfl) rfl t_w27) fun _ _ _ h => ?_
 refine gs h (o_assign rfl) rfl fun _ _ _ h => ?_
 refine GoR.done ?_
 refine Go.seq ?_
 refine Go.reg ?_
 refine gs h (o_move rfl) rfl fun _ _ _ h => ?_
 refine gs h (o_move rfl) rfl fun _ _ _ h => ?_
 obtain ⟨r7, er7, H⟩ := bindE H
 refine gs h (o_call (law24_eight.spc a1 ha1 r7 er7) rfl [] [] (by decide) rfl rfl) rfl fun v13 _ _ h => ?_
 replace h := h.mm fun m => m.freeze 0 rfl
 refine gs h (o_build (K := KIp) (x := (⟨0, 0, 1, 0, 0, 0, 0, 0, [], r7⟩ : TIp)) (ps := [(2, .int .i64 1), (9, v13)]) rfl (zs := zsIp) rfl t_b27 rfl (show PB (Kd.pair (Kd.int .i64) (Kd.pair (Kd.int .i64) (Kd.pair (Kd.int .i64) (Kd.pair (Kd.int .i64) (Kd.pair (Kd.int .i64) (Kd.pair (Kd.int .i64) (Kd.pair (Kd.int .u32) (Kd.pair (Kd.int .u32) (Kd.pair (Kd.sl (Kd.int .u8)) (Kd.last (Kd.sl (Kd.int .u8)))))))))))) (0, 0, 1, 0, 0, 0, 0, 0, [], r7) 0 zsIp _ _ from (pb_zero z_int (pb_zero z_int (pb_part (pv_int (show InR .i64 1 by decide)) rfl (pb_zero z_int (pb_zero z_int (pb_zero z_int (pb_zero z_int (pb_zero z_int (pb_zero z_sl (pb_lastp (pv_at Per_sl 0 rfl) rfl)))))))))))) rfl fun v14 _ _ h => ?_
 obtain ⟨r8, er8, H⟩ := bindE H
 refine gs h (o_call (reasm_Add.spc v11 r6.1 3 (show InR .i64 3 by decide) v14 (⟨0, 0, 1, 0, 0, 0, 0, 0, [], r7⟩ : TIp) r8 er8) rfl [3, 0] [] (by decide) rfl rfl) rfl fun s_ _ _ h => ?_
 obtain ⟨v15, v16⟩ := s_
 refine gs h (o_move rfl) rfl fun _ _ _ h => ?_
 refine gs h (o_extract rfl rfl) rfl fun _ _ _ h => ?_
 refine gs h (o_extract rfl rfl) rfl fun _ _ _ h => ?_
 refine gs h (o_extract rfl rfl) rfl fun _ _ _ h => ?_
 refine gs h (o_alloc (K := KIp) (z := (.agg #[.int .i64 0, .int .i64 0, .int .i64 0, .int .i64 0, .int .i64 0, .int .i64 0, .int .u32 0, .int .u32 0, .slice none 0 0, .slice none 0 0])) rfl ZIp) rfl fun b4 _ _ h => ?_
 refine gs h (o_assign rfl) rfl fun _ _ _ h => ?_
 refine gs0 h (o_st 0 rfl rfl rfl (pv_at PIp 2 rfl) rfl t_w27) fun _ _ _ h => ?_
 refine gs h (o_assign rfl) rfl fun _ _ _ h => ?_
 refine GoR.done ?_
 refine Go.seq ?_
 refine Go.reg ?_
 refine gs h (o_move rfl) rfl fun _ _ _ h => ?_
 obtain ⟨r9, er9, H⟩ := bindE H
 refine gs h (o_call (law24_eight.spc a1 ha1 r9 er9) rfl [] [] (by decide) rfl rfl) rfl fun v17 _ _ h => ?_
 refine gs h (o_move rfl) rfl fun _ _ _ h => ?_
 obtain ⟨r10, er10, H⟩ := bindE H
 refine gs h (o_call (law24_eight.spc a2 ha2 r10 er10) rfl [] [] (by decide) rfl rfl) rfl fun v18 _ _ h => ?_
 obtain ⟨x1, ex1, H⟩ := bindE H
 refine gs h (o_app (K := (Kd.int .u8)) 1 rfl rfl rfl (rd_own 0 rfl) ex1 t_a25 t_n25) rfl fun v19 _ _ h => ?_
 refine gs h (o_move rfl) rfl fun _ _ _ h => ?_
 obtain ⟨r11, er11, H⟩ := bindE H
 refine gs h (o_call (law24_eight.spc a3 ha3 r11 er11) rfl [] [] (by decide) rfl rfl) rfl fun v20 _ _ h => ?_
 obtain ⟨x2, ex2, H⟩ := bindE H
 refine gs h (o_app (K := (Kd.int .u8)) 2 rfl rfl rfl (rd_own 0 rfl) ex2 t_a25 t_n25) rfl fun v21 _ _ h => ?_
 refine gs h (o_assign rfl) rfl fun _ _ _ h => ?_
 refine GoR.done ?_
 refine Go.seq ?_
 obtain ⟨o1, H, G1⟩ := bindE H
 refine g_cut (fun G => ∀ j1 (a : Act) (w : World), o1 = j1 → St Try.f3.ntmps F [(8, .bool j1)] [Fld KIp b4 0 r8.2.1, Fld KIp b3 0 r6.2.1, Fld KIp b2 0 r4.2.1, Fld KIp b1 0 r2.2.1] a w → G a w) 1 ?_ fun J1 => ?_
 ·intro j1 a w ho_ h
  rw [ho_] at G1
  have H := G1
  rw [← som H]
  exact g_ret (vs := [.bool j1]) h Try.func3 ⟨rfl, trivial⟩ ⟨(), rfl, (h.mem.pick [] (by decide) rfl)⟩
 refine Go.reg ?_
 refine gs h (o_move rfl) rfl fun _ _ _ h => ?_
 refine gs h (o_not rfl) rfl fun _ _ _ h => ?_
 refine gs h (o_move rfl) rfl fun _ _ _ h => ?_
 by_cases c1 : (!r2.2.2) = true
 ·have H := ifT c1 H
  refine gg h rfl rfl c1 (o_move rfl) rfl fun _ _ _ h => ?_
  refine gg h rfl rfl c1 (o_not rfl) rfl fun _ _ _ h => ?_
  refine gs h (o_pickT rfl rfl c1) rfl fun _ _ _ h => ?_
  refine gs h (o_move rfl) rfl fun _ _ _ h => ?_
  by_cases c2 : (!r4.2.2) = true
  ·have H := ifT c2 H
   refine gg h rfl rfl c2 (o_move rfl) rfl fun _ _ _ h => ?_
   refine gg h rfl rfl c2 (o_not rfl) rfl fun _ _ _ h => ?_
   refine gs h (o_pickT rfl rfl c2) rfl fun _ _ _ h => ?_
   refine gs h (o_move rfl) rfl fun _ _ _ h => ?_
   by_cases c3 : (!r6.2.2) = true
   ·have H := ifT c3 H
    refine gg h rfl rfl c3 (o_move rfl) rfl fun _ _ _ h => ?_
    refine gs h (o_pickT rfl rfl c3) rfl fun _ _ _ h => ?_
    refine gs h (o_move rfl) rfl fun _ _ _ h => ?_
    by_cases c4 : r8.2.2 = true
    ·have H := ifT c4 H
     refine gg h rfl rfl c4 (o_move rfl) rfl fun _ _ _ h => ?_
     have g1 := (len_at 4 rfl h.mem)
     refine gg h rfl rfl c4 (o_ln rfl (rd_at 4 rfl) t_v23) rfl fun _ _ _ h => ?_
     refine gg h rfl rfl c4 (o_bin rfl rfl rfl) rfl fun _ _ _ h => ?_
     refine gs h (o_pickT rfl rfl c4) rfl fun _ _ _ h => ?_
     refine gs h (o_move rfl) rfl fun _ _ _ h => ?_
     by_cases c5 : decide ((r8.1.length : Int) = 0) = true
     ·have H := ifT c5 H
      refine gg h rfl rfl c5 (o_fa rfl t_f27_9 rfl rfl) rfl fun _ _ _ h => ?_
      refine gg h rfl rfl c5 (o_lfv 3 rfl rfl sIp_Data rfl Per_sl t_y25) rfl fun v22 _ _ h => ?_
      refine gg h rfl rfl c5 (o_move rfl) rfl fun _ _ _ h => ?_
      replace h := h.mm fun m => m.freeze 3 rfl
      obtain ⟨r12, er12, H⟩ := bindE H
      refine gg h rfl rfl c5 (o_call (ref01_Same.spc v22 r8.2.1.Data v21 x2 r12 er12) rfl [0, 3] [] (by decide) rfl rfl) rfl fun _ _ _ h => ?_
      refine gs h (o_pickT rfl rfl c5) rfl fun _ _ _ h => ?_
      refine gs h (o_move rfl) rfl fun _ _ _ h => ?_
      by_cases c6 : r12 = true
      ·have H := ifT c6 H
       obtain ⟨r13, er13, H⟩ := bindE H
       refine gg h rfl rfl c6 (o_call (law24_heads.spc  r13 er13) rfl [] [] (by decide) rfl rfl) rfl fun _ _ _ h => ?_
       refine gs h (o_pickT rfl rfl c6) rfl fun _ _ _ h => ?_
       refine gs h (o_assign rfl) rfl fun _ _ _ h => ?_
       refine GoR.done ?_
       exact J1 r13 _ _ (som H).symm (h.wk (by rfl) [4, 9, 14, 19] (by decide) (by rfl))
      ·have H := ifF c6 H
       refine gk h rfl rfl (nb_f c6) rfl fun _ h => ?_
       refine gs h (o_pickF rfl rfl c6) rfl fun _ _ _ h => ?_
       refine gs h (o_assign rfl) rfl fun _ _ _ h => ?_
       refine GoR.done ?_
       exact J1 false _ _ (som H).symm (h.wk (by rfl) [4, 9, 14, 19] (by decide) (by rfl))
     ·have H := ifF c5 H
      refine gk h rfl rfl (nb_f c5) rfl fun _ h => ?_
      refine gk h rfl rfl (nb_f c5) rfl fun _ h => ?_
      refine gk h rfl rfl (nb_f c5) rfl fun _ h => ?_
      refine gk h rfl rfl (nb_f c5) rfl fun _ h => ?_
      refine gs h (o_pickF rfl rfl c5) rfl fun _ _ _ h => ?_
      refine gs h (o_move rfl) rfl fun _ _ _ h => ?_
      refine gk h rfl rfl (nb_f Bool.false_ne_true) rfl fun _ h => ?_
      refine gs h (o_pickF rfl rfl Bool.false_ne_true) rfl fun _ _ _ h => ?_
      refine gs h (o_assign rfl) rfl fun _ _ _ h => ?_
      refine GoR.done ?_
      exact J1 false _ _ (som H).symm (h.wk (by rfl) [3, 8, 13, 18] (by decide) (by rfl))
    ·have H := ifF c4 H
     refine gk h rfl rfl (nb_f c4) rfl fun _ h => ?_
     refine gk h rfl rfl (nb_f c4) rfl fun _ h => ?_
     refine gk h rfl rfl (nb_f c4) rfl fun _ h => ?_
     refine gs h (o_pickF rfl rfl c4) rfl fun _ _ _ h => ?_
     refine gs h (o_move rfl) rfl fun _ _ _ h => ?_
     refine gk h rfl rfl (nb_f Bool.false_ne_true) rfl fun _ h => ?_
     refine gk h rfl rfl (nb_f Bool.false_ne_true) rfl fun _ h => ?_
     refine gk h rfl rfl (nb_f Bool.false_ne_true) rfl fun _ h => ?_
     refine gk h rfl rfl (nb_f Bool.false_ne_true) rfl fun _ h => ?_
     refine gs h (o_pickF rfl rfl Bool.false_ne_true) rfl fun _ _ _ h => ?_
     refine gs h (o_move rfl) rfl fun _ _ _ h => ?_
     refine gk h rfl rfl (nb_f Bool.false_ne_true) rfl fun _ h => ?_
     refine gs h (o_pickF rfl rfl Bool.false_ne_true) rfl fun _ _ _ h => ?_
     refine gs h (o_assign rfl) rfl fun _ _ _ h => ?_
     refine GoR.done ?_
     exact J1 false _ _ (som H).symm (h.wk (by rfl) [3, 8, 13, 18] (by decide) (by rfl))
   ·have H := ifF c3 H
    refine gk h rfl rfl (nb_f c3) rfl fun _ h => ?_
    refine gs h (o_pickF rfl rfl c3) rfl fun _ _ _ h => ?_
    refine gs h (o_move rfl) rfl fun _ _ _ h => ?_
    refine gk h rfl rfl (nb_f Bool.false_ne_true) rfl fun _ h => ?_
    refine gk h rfl rfl (nb_f Bool.false_ne_true) rfl fun _ h => ?_
    refine gk h rfl rfl (nb_f Bool.false_ne_true) rfl fun _ h => ?_
    refine gs h (o_pickF rfl rfl Bool.false_ne_true) rfl fun _ _ _ h => ?_
    refine gs h (o_move rfl) rfl fun _ _ _ h => ?_
    refine gk h rfl rfl (nb_f Bool.false_ne_true) rfl fun _ h => ?_
    refine gk h rfl rfl (nb_f Bool.false_ne_true) rfl fun _ h => ?_
    refine gk h rfl rfl (nb_f Bool.false_ne_true) rfl fun _ h => ?_
    refine gk h rfl rfl (nb_f Bool.false_ne_true) rfl fun _ h => ?_
    refine gs h (o_pickF rfl rfl Bool.false_ne_true) rfl fun _ _ _ h => ?_
    refine gs h (o_move rfl) rfl fun _ _ _ h => ?_
    refine gk h rfl rfl (nb_f Bool.false_ne_true) rfl fun _ h => ?_
    refine gs h (o_pickF rfl rfl Bool.false_ne_true) rfl fun _ _ _ h => ?_
    refine gs h (o_assign rfl) rfl fun _ _ _ h => ?_
    refine GoR.done ?_
    exact J1 false _ _ (som H).symm (h.wk (by rfl) [3, 8, 13, 18] (by decide) (by rfl))
  ·have H := ifF c2 H
   refine gk h rfl rfl (nb_f c2) rfl fun _ h => ?_
   refine gk h rfl rfl (nb_f c2) rfl fun _ h => ?_
   refine gs h (o_pickF rfl rfl c2) rfl fun _ _ _ h => ?_
   refine gs h (o_move rfl) rfl fun _ _ _ h => ?_
   refine gk h rfl rfl (nb_f Bool.false_ne_true) rfl fun _ h => ?_
   refine gs h (o_pickF rfl rfl Bool.false_ne_true) rfl fun _ _ _ h => ?_
   refine gs h (o_move rfl) rfl fun _ _ _ h => ?_
   refine gk h rfl rfl (nb_f Bool.false_ne_true) rfl fun _ h => ?_
   refine gk h rfl rfl (nb_f Bool.false_ne_true) rfl fun _ h => ?_
   refine gk h rfl rfl (nb_f Bool.false_ne_true) rfl fun _ h => ?_
   refine gs h (o_pickF rfl rfl Bool.false_ne_true) rfl fun _ _ _ h => ?_
   refine gs h (o_move rfl) rfl fun _ _ _ h => ?_
   refine gk h rfl rfl (nb_f Bool.false_ne_true) rfl fun _ h => ?_
   refine gk h rfl rfl (nb_f Bool.false_ne_true) rfl fun _ h => ?_
   refine gk h rfl rfl (nb_f Bool.false_ne_true) rfl fun _ h => ?_
   refine gk h rfl rfl (nb_f Bool.false_ne_true) rfl fun _ h => ?_
   refine gs h (o_pickF rfl rfl Bool.false_ne_true) rfl fun _ _ _ h => ?_
   refine gs h (o_move rfl) rfl fun _ _ _ h => ?_
   refine gk h rfl rfl (nb_f Bool.false_ne_true) rfl fun _ h => ?_
   refine gs h (o_pickF rfl rfl Bool.false_ne_true) rfl fun _ _ _ h => ?_
   refine gs h (o_assign rfl) rfl fun _ _ _ h => ?_
   refine GoR.done ?_
   exact J1 false _ _ (som H).symm (h.wk (by rfl) [3, 8, 13, 18] (by decide) (by rfl))
 ·have H := ifF c1 H
  refine gk h rfl rfl (nb_f c1) rfl fun _ h => ?_
  refine gk h rfl rfl (nb_f c1) rfl fun _ h => ?_
  refine gs h (o_pickF rfl rfl c1) rfl fun _ _ _ h => ?_
  refine gs h (o_move rfl) rfl fun _ _ _ h => ?_
  refine gk h rfl rfl (nb_f Bool.false_ne_true) rfl fun _ h => ?_
  refine gk h rfl rfl (nb_f Bool.false_ne_true) rfl fun _ h => ?_
  refine gs h (o_pickF rfl rfl Bool.false_ne_true) rfl fun _ _ _ h => ?_
  refine gs h (o_move rfl) rfl fun _ _ _ h => ?_
  refine gk h rfl rfl (nb_f Bool.false_ne_true) rfl fun _ h => ?_
  refine gs h (o_pickF rfl rfl Bool.false_ne_true) rfl fun _ _ _ h => ?_
  refine gs h (o_move rfl) rfl fun _ _ _ h => ?_
  refine gk h rfl rfl (nb_f Bool.false_ne_true) rfl fun _ h => ?_
  refine gk h rfl rfl (nb_f Bool.false_ne_true) rfl fun _ h => ?_
  refine gk h rfl rfl (nb_f Bool.false_ne_true) rfl fun _ h => ?_
  refine gs h (o_pickF rfl rfl Bool.false_ne_true) rfl fun _ _ _ h => ?_
  refine gs h (o_move rfl) rfl fun _ _ _ h => ?_
  refine gk h rfl rfl (nb_f Bool.false_ne_true) rfl fun _ h => ?_
  refine gk h rfl rfl (nb_f Bool.false_ne_true) rfl fun _ h => ?_
  refine gk h rfl rfl (nb_f Bool.false_ne_true) rfl fun _ h => ?_
  refine gk h rfl rfl (nb_f Bool.false_ne_true) rfl fun _ h => ?_
  refine gs h (o_pickF rfl rfl Bool.false_ne_true) rfl fun _ _ _ h => ?_
  refine gs h (o_move rfl) rfl fun _ _ _ h => ?_
  refine gk h rfl rfl (nb_f Bool.false_ne_true) rfl fun _ h => ?_
  refine gs h (o_pickF rfl rfl Bool.false_ne_true) rfl fun _ _ _ h => ?_
  refine gs h (o_assign rfl) rfl fun _ _ _ h => ?_
  refine GoR.done ?_
  exact J1 false _ _ (som H).symm (h.wk (by rfl) [3, 8, 13, 18] (by decide) (by rfl))
def law24_ReasmFirst.g (k_ : Nat) (a1 : Int) (a2 : Int) (a3 : Int) (a4 : Int) : Option (Bool) :=
  (law24_eight.g k_ a2).bind fun r1 => (reasm_Add.g k_ [] 0 (⟨0, 0, 1, 1, 0, 0, 0, 0, [], r1⟩ : TIp)).bind fun r2 => (law24_eight.g k_ a4).bind fun r3 => (reasm_Add.g k_ r2.1 1 (⟨0, 0, 1, 1, 0, 0, 0, 0, [], r3⟩ : TIp)).bind fun r4 => (law24_eight.g k_ a3).bind fun r5 => (reasm_Add.g k_ r4.1 2 (⟨0, 0, 0, 2, 0, 0, 0, 0, [], r5⟩ : TIp)).bind fun r6 => (law24_eight.g k_ a1).bind fun r7 => (reasm_Add.g k_ r6.1 3 (⟨0, 0, 1, 0, 0, 0, 0, 0, [], r7⟩ : TIp)).bind fun r8 => (law24_eight.g k_ a1).bind fun r9 => (law24_eight.g k_ a2).bind fun r10 => (app r9 r10).bind fun x1 => (law24_eight.g k_ a3).bind fun r11 => (app x1 r11).bind fun x2 => ((if (!r2.2.2) = true then (if (!r4.2.2) = true then (if (!r6.2.2) = true then (if r8.2.2 = true then (if decide ((r8.1.length : Int) = 0) = true then (ref01_Same.g k_ r8.2.1.Data x2).bind fun r12 => (if r12 = true then (law24_heads.g k_).bind fun r13 => some (r13) else some (false)) else some (false)) else some (false)) else some (false)) else some (false)) else some (false))).bind (fun j1 => some (j1))
theorem law24_ReasmFirst.le (k_ : Nat) (a1 : Int) (a2 : Int) (a3 : Int) (a4 : Int) : Le (law24_ReasmFirst.g k_ a1 a2 a3 a4) (law24_ReasmFirst.f a1 a2 a3 a4) := by
 unfold law24_ReasmFirst.g law24_ReasmFirst.f
 repeat' (first | with_reducible refine le_loop fun _ => ?_ | with_reducible refine le_bind ?_ fun _ => ?_ | with_reducible refine le_ite ?_ ?_ | with_reducible refine le_lt fun _ => ?_ | with_reducible refine le_elim (fun _ => ?_) (fun _ => ?_) _ | with_reducible apply law24_eight.le | with_reducible apply law24_heads.le | with_reducible apply reasm_Add.le | with_reducible apply ref01_Same.le | with_reducible exact le_refl _)
end Go.Proofs.Ytlpjgmbbcibkjaa.S
