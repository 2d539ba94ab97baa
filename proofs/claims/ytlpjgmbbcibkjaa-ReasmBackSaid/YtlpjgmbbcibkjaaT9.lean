/- Contracts, printed by a program of this session. -/
import Derived.Test.YtlpjgmbbcibkjaaT3
import Derived.Test.YtlpjgmbbcibkjaaT4
import Derived.Test.YtlpjgmbbcibkjaaT5
import Derived.Test.YtlpjgmbbcibkjaaT6
import Derived.Test.YtlpjgmbbcibkjaaT8
namespace Go.Proofs.Ytlpjgmbbcibkjaa.S
open Go Go.SL Go.RowKit
set_option linter.unusedVariables false
set_option linter.unusedSimpArgs false
/-! drawbridge/drawbridgelaw24.ReasmStays -/
noncomputable def law24_ReasmStays.f (a1 : List TPiece) (a2 : Int) (a3 : TIp) : Option (Bool) :=
  ((law24_small.f a1 a3).bind fun r1 => (if (!r1) = true then some (true) else (reasm_Check.f a1).bind fun r2 => some ((!r2)))).bind (fun j1 => (if j1 = true then (law24_heads.f).bind fun r3 => some (r3) else (reasm_Add.f a1 a2 a3).bind fun r4 => (reasm_Expire.f a1 a2).bind fun r5 => ((reasm_Check.f r4.1).bind fun r6 => (if r6 = true then (reasm_Check.f r5).bind fun r7 => (if r7 = true then (if decide ((r4.1.length : Int) ≤ 4) = true then (if decide ((r5.length : Int) ≤ (a1.length : Int)) = true then (if r4.2.2 = true then (law24_heads.f).bind fun r8 => some (r8) else (if decide ((r4.2.1.Data.length : Int) = 0) = true then (law24_heads.f).bind fun r9 => some (r9) else some (false))) else some (false)) else some (false)) else some (false)) else some (false))).bind (fun j2 => some (j2))))
set_option maxRecDepth 100000 in
set_option maxHeartbeats 4000000 in
theorem law24_ReasmStays.spc (v1 : Value) (a1 : List TPiece) (a2 : Int) (ha2 : InR .i64 a2) (v2 : Value) (a3 : TIp) (r : Bool) (H : law24_ReasmStays.f a1 a2 a3 = some r) : Spc Try.prog 5 [v1, .int .i64 a2, v2] [Val (Kd.sl KPiece) v1 a1, Val KIp v2 a3] [] (fun (s : Unit) => .bool r) (fun s => []) := by
 unfold law24_ReasmStays.f at H
 refine Spc.go Try.func5 rfl (by kernel_rfl) rfl rfl (all_cons (Val.per Per_sl) (all_cons (Val.per PIp) all_nil)) fun F a w h => ?_
 refine Go.seq ?_
 refine Go.reg ?_
 refine gs h (o_box (K := KIp) rfl (pv_at PIp 1 rfl)) rfl fun b1 _ _ h => ?_
 refine gs h (o_assign rfl) rfl fun _ _ _ h => ?_
 refine GoR.done ?_
 refine Go.seq ?_
 refine Go.seq ?_
 obtain ⟨o1, H, G1⟩ := bindE H
 refine g_cut (fun G => ∀ j1 (a : Act) (w : World), o1 = j1 → St Try.f5.ntmps F [(0, v1), (1, .int .i64 a2), (5, .pointer (some ⟨b1, 0, none⟩)), (19, .bool j1)] [Val (Kd.sl KPiece) v1 a1, Fld KIp b1 0 a3] a w → G a w) 1 ?_ fun J1 => ?_
 ·intro j1 a w ho_ h
  rw [ho_] at G1
  have H := G1
  by_cases c2 : j1 = true
  ·have H := ifT c2 H
   refine g_t h rfl c2 ?_
   refine Go.seq ?_
   refine Go.reg ?_
   obtain ⟨r3, er3, H⟩ := bindE H
   refine gs h (o_call (law24_heads.spc  r3 er3) rfl [] [] (by decide) rfl rfl) rfl fun _ _ _ h => ?_
   refine gs h (o_assign rfl) rfl fun _ _ _ h => ?_
   refine GoR.done ?_
   rw [← som H]
   exact g_ret (vs := [.bool r3]) h Try.func5 ⟨rfl, trivial⟩ ⟨(), rfl, (h.mem.pick [] (by decide) rfl)⟩
  ·have H := ifF c2 H
   refine g_f h rfl c2 ?_
   refine Go.skip ?_
   refine Go.seq ?_
   refine Go.reg ?_
   refine gs h (o_move rfl) rfl fun _ _ _ h => ?_
   refine gs h (o_move rfl) rfl fun _ _ _ h => ?_
   refine gs h (o_ldv 1 rfl rfl PIp t_y27) rfl fun v4 _ _ h => ?_
   obtain ⟨r4, er4, H⟩ := bindE H
   refine gs h (o_call (reasm_Add.spc v1 a1 a2 ha2 v4 a3 r4 er4) rfl [1, 0] [] (by decide) rfl rfl) rfl fun s_ _ _ h => ?_
   obtain ⟨v5, v6⟩ := s_
   refine gs h (o_move rfl) rfl fun _ _ _ h => ?_
   refine gs h (o_extract rfl rfl) rfl fun _ _ _ h => ?_
   refine gs h (o_extract rfl rfl) rfl fun _ _ _ h => ?_
   refine gs h (o_extract rfl rfl) rfl fun _ _ _ h => ?_
   refine gs h (o_alloc (K := KIp) (z := (.agg #[.int .i64 0, .int .i64 0, .int .i64 0, .int .i64 0, .int .i64 0, .int .i64 0, .int .u32 0, .int .u32 0, .slice none 0 0, .slice none 0 0])) rfl ZIp) rfl fun b2 _ _ h => ?_
   refine gs h (o_assign rfl) rfl fun _ _ _ h => ?_
   refine gs0 h (o_st 0 rfl rfl rfl (pv_at PIp 2 rfl) rfl t_w27) fun _ _ _ h => ?_
   refine gs h (o_assign rfl) rfl fun _ _ _ h => ?_
   refine GoR.done ?_
   refine Go.seq ?_
   refine Go.reg ?_
   refine gs h (o_move rfl) rfl fun _ _ _ h => ?_
   refine gs h (o_move rfl) rfl fun _ _ _ h => ?_
   obtain ⟨r5, er5, H⟩ := bindE H
   refine gs h (o_call (reasm_Expire.spc v1 a1 a2 ha2 r5 er5) rfl [4] [] (by decide) rfl rfl) rfl fun v7 _ _ h => ?_
   refine gs h (o_assign rfl) rfl fun _ _ _ h => ?_
   refine GoR.done ?_
   refine Go.seq ?_
   obtain ⟨o2, H, G2⟩ := bindE H
   refine g_cut (fun G => ∀ j2 (a : Act) (w : World), o2 = j2 → St Try.f5.ntmps F [(6, .bool j2)] [Fld KIp b2 0 r4.2.1, Fld KIp b1 0 a3] a w → G a w) 1 ?_ fun J2 => ?_
   ·intro j2 a w ho_ h
    rw [ho_] at G2
    have H := G2
    rw [← som H]
    exact g_ret (vs := [.bool j2]) h Try.func5 ⟨rfl, trivial⟩ ⟨(), rfl, (h.mem.pick [] (by decide) rfl)⟩
   refine Go.reg ?_
   refine gs h (o_move rfl) rfl fun _ _ _ h => ?_
   obtain ⟨r6, er6, H⟩ := bindE H
   refine gs h (o_call (reasm_Check.spc v5 r4.1 r6 er6) rfl [2] [] (by decide) rfl rfl) rfl fun _ _ _ h => ?_
   refine gs h (o_move rfl) rfl fun _ _ _ h => ?_
   by_cases c3 : r6 = true
   ·have H := ifT c3 H
    refine gg h rfl rfl c3 (o_move rfl) rfl fun _ _ _ h => ?_
    obtain ⟨r7, er7, H⟩ := bindE H
    refine gg h rfl rfl c3 (o_call (reasm_Check.spc v7 r5 r7 er7) rfl [0] [] (by decide) rfl rfl) rfl fun _ _ _ h => ?_
    refine gs h (o_pickT rfl rfl c3) rfl fun _ _ _ h => ?_
    refine gs h (o_move rfl) rfl fun _ _ _ h => ?_
    by_cases c4 : r7 = true
    ·have H := ifT c4 H
     refine gg h rfl rfl c4 (o_move rfl) rfl fun _ _ _ h => ?_
     have g1 := (len_at 2 rfl h.mem)
     refine gg h rfl rfl c4 (o_ln rfl (rd_at 2 rfl) t_v23) rfl fun _ _ _ h => ?_
     refine gg h rfl rfl c4 (o_bin rfl rfl rfl) rfl fun _ _ _ h => ?_
     refine gs h (o_pickT rfl rfl c4) rfl fun _ _ _ h => ?_
     refine gs h (o_move rfl) rfl fun _ _ _ h => ?_
     by_cases c5 : decide ((r4.1.length : Int) ≤ 4) = true
     ·have H := ifT c5 H
      refine gg h rfl rfl c5 (o_move rfl) rfl fun _ _ _ h => ?_
      have g2 := (len_at 0 rfl h.mem)
      refine gg h rfl rfl c5 (o_ln rfl (rd_at 0 rfl) t_v23) rfl fun _ _ _ h => ?_
      refine gg h rfl rfl c5 (o_move rfl) rfl fun _ _ _ h => ?_
      have g3 := (len_at 5 rfl h.mem)
      refine gg h rfl rfl c5 (o_ln rfl (rd_at 5 rfl) t_v23) rfl fun _ _ _ h => ?_
      refine gg h rfl rfl c5 (o_bin rfl rfl rfl) rfl fun _ _ _ h => ?_
      refine gs h (o_pickT rfl rfl c5) rfl fun _ _ _ h => ?_
      refine gs h (o_move rfl) rfl fun _ _ _ h => ?_
      by_cases c6 : decide ((r5.length : Int) ≤ (a1.length : Int)) = true
      ·have H := ifT c6 H
       refine gg h rfl rfl c6 (o_move rfl) rfl fun _ _ _ h => ?_
       refine gg h rfl rfl c6 (o_move rfl) rfl fun _ _ _ h => ?_
       by_cases c7 : r4.2.2 = true
       ·have H := ifT c7 H
        refine gk h rfl rfl (nb_t c7) rfl fun _ h => ?_
        refine gk h rfl rfl (nb_t c7) rfl fun _ h => ?_
        refine gk h rfl rfl (nb_t c7) rfl fun _ h => ?_
        refine gk h rfl rfl (nb_t c7) rfl fun _ h => ?_
        refine gg h rfl rfl c6 (o_pickT rfl rfl c7) rfl fun _ _ _ h => ?_
        refine gs h (o_pickT rfl rfl c6) rfl fun _ _ _ h => ?_
        refine gs h (o_move rfl) rfl fun _ _ _ h => ?_
        obtain ⟨r8, er8, H⟩ := bindE H
        refine gg h rfl rfl rfl (o_call (law24_heads.spc  r8 er8) rfl [] [] (by decide) rfl rfl) rfl fun _ _ _ h => ?_
        refine gs h (o_pickT rfl rfl rfl) rfl fun _ _ _ h => ?_
        refine gs h (o_assign rfl) rfl fun _ _ _ h => ?_
        refine GoR.done ?_
        exact J2 r8 _ _ (som H).symm (h.wk (by rfl) [1, 6] (by decide) (by rfl))
       ·have H := ifF c7 H
        refine gg h rfl rfl (nbF c7) (o_fa rfl t_f27_9 rfl rfl) rfl fun _ _ _ h => ?_
        refine gg h rfl rfl (nbF c7) (o_lfv 1 rfl rfl sIp_Data rfl Per_sl t_y25) rfl fun v8 _ _ h => ?_
        have g4 := (len_at 0 rfl h.mem)
        refine gg h rfl rfl (nbF c7) (o_ln rfl (rd_at 0 rfl) t_v25) rfl fun _ _ _ h => ?_
        refine gg h rfl rfl (nbF c7) (o_bin rfl rfl rfl) rfl fun _ _ _ h => ?_
        refine gg h rfl rfl c6 (o_pickF rfl rfl c7) rfl fun _ _ _ h => ?_
        refine gs h (o_pickT rfl rfl c6) rfl fun _ _ _ h => ?_
        refine gs h (o_move rfl) rfl fun _ _ _ h => ?_
        by_cases c8 : decide ((r4.2.1.Data.length : Int) = 0) = true
        ·have H := ifT c8 H
         obtain ⟨r9, er9, H⟩ := bindE H
         refine gg h rfl rfl c8 (o_call (law24_heads.spc  r9 er9) rfl [] [] (by decide) rfl rfl) rfl fun _ _ _ h => ?_
         refine gs h (o_pickT rfl rfl c8) rfl fun _ _ _ h => ?_
         refine gs h (o_assign rfl) rfl fun _ _ _ h => ?_
         refine GoR.done ?_
         exact J2 r9 _ _ (som H).symm (h.wk (by rfl) [2, 7] (by decide) (by rfl))
        ·have H := ifF c8 H
         refine gk h rfl rfl (nb_f c8) rfl fun _ h => ?_
         refine gs h (o_pickF rfl rfl c8) rfl fun _ _ _ h => ?_
         refine gs h (o_assign rfl) rfl fun _ _ _ h => ?_
         refine GoR.done ?_
         exact J2 false _ _ (som H).symm (h.wk (by rfl) [2, 7] (by decide) (by rfl))
      ·have H := ifF c6 H
       refine gk h rfl rfl (nb_f c6) rfl fun _ h => ?_
       refine gk h rfl rfl (nb_f c6) rfl fun _ h => ?_
       refine gk h rfl rfl rfl rfl fun _ h => ?_
       refine gk h rfl rfl rfl rfl fun _ h => ?_
       refine gk h rfl rfl rfl rfl fun _ h => ?_
       refine gk h rfl rfl rfl rfl fun _ h => ?_
       refine gk h rfl rfl (nb_f c6) rfl fun _ h => ?_
       refine gs h (o_pickF rfl rfl c6) rfl fun _ _ _ h => ?_
       refine gs h (o_move rfl) rfl fun _ _ _ h => ?_
       refine gk h rfl rfl (nb_f Bool.false_ne_true) rfl fun _ h => ?_
       refine gs h (o_pickF rfl rfl Bool.false_ne_true) rfl fun _ _ _ h => ?_
       refine gs h (o_assign rfl) rfl fun _ _ _ h => ?_
       refine GoR.done ?_
       exact J2 false _ _ (som H).symm (h.wk (by rfl) [1, 6] (by decide) (by rfl))
     ·have H := ifF c5 H
      refine gk h rfl rfl (nb_f c5) rfl fun _ h => ?_
      refine gk h rfl rfl (nb_f c5) rfl fun _ h => ?_
      refine gk h rfl rfl (nb_f c5) rfl fun _ h => ?_
      refine gk h rfl rfl (nb_f c5) rfl fun _ h => ?_
      refine gk h rfl rfl (nb_f c5) rfl fun _ h => ?_
      refine gs h (o_pickF rfl rfl c5) rfl fun _ _ _ h => ?_
      refine gs h (o_move rfl) rfl fun _ _ _ h => ?_
      refine gk h rfl rfl (nb_f Bool.false_ne_true) rfl fun _ h => ?_
      refine gk h rfl rfl (nb_f Bool.false_ne_true) rfl fun _ h => ?_
      refine gk h rfl rfl rfl rfl fun _ h => ?_
      refine gk h rfl rfl rfl rfl fun _ h => ?_
      refine gk h rfl rfl rfl rfl fun _ h => ?_
      refine gk h rfl rfl rfl rfl fun _ h => ?_
      refine gk h rfl rfl (nb_f Bool.false_ne_true) rfl fun _ h => ?_
      refine gs h (o_pickF rfl rfl Bool.false_ne_true) rfl fun _ _ _ h => ?_
      refine gs h (o_move rfl) rfl fun _ _ _ h => ?_
      refine gk h rfl rfl (nb_f Bool.false_ne_true) rfl fun _ h => ?_
      refine gs h (o_pickF rfl rfl Bool.false_ne_true) rfl fun _ _ _ h => ?_
      refine gs h (o_assign rfl) rfl fun _ _ _ h => ?_
      refine GoR.done ?_
      exact J2 false _ _ (som H).symm (h.wk (by rfl) [1, 6] (by decide) (by rfl))
    ·have H := ifF c4 H
     refine gk h rfl rfl (nb_f c4) rfl fun _ h => ?_
     refine gk h rfl rfl (nb_f c4) rfl fun _ h => ?_
     refine gk h rfl rfl (nb_f c4) rfl fun _ h => ?_
     refine gs h (o_pickF rfl rfl c4) rfl fun _ _ _ h => ?_
     refine gs h (o_move rfl) rfl fun _ _ _ h => ?_
     refine gk h rfl rfl (nb_f Bool.false_ne_true) rfl fun _ h => ?_
     refine gk h rfl rfl (nb_f Bool.false_ne_true) rfl fun _ h => ?_
     refine gk h rfl rfl (nb_f Bool.false_ne_true) rfl fun _ h => ?_
     refine gk h rfl rfl (nb_f Bool.false_ne_true) rfl fun _ h => ?_
     refine gk h rfl rfl (nb_f Bool.false_ne_true) rfl fun _ h => ?_
     refine gs h (o_pickF rfl rfl Bool.false_ne_true) rfl fun _ _ _ h => ?_
     refine gs h (o_move rfl) rfl fun _ _ _ h => ?_
     refine gk h rfl rfl (nb_f Bool.false_ne_true) rfl fun _ h => ?_
     refine gk h rfl rfl (nb_f Bool.false_ne_true) rfl fun _ h => ?_
     refine gk h rfl rfl rfl rfl fun _ h => ?_
     refine gk h rfl rfl rfl rfl fun _ h => ?_
     refine gk h rfl rfl rfl rfl fun _ h => ?_
     refine gk h rfl rfl rfl rfl fun _ h => ?_
     refine gk h rfl rfl (nb_f Bool.false_ne_true) rfl fun _ h => ?_
     refine gs h (o_pickF rfl rfl Bool.false_ne_true) rfl fun _ _ _ h => ?_
     refine gs h (o_move rfl) rfl fun _ _ _ h => ?_
     refine gk h rfl rfl (nb_f Bool.false_ne_true) rfl fun _ h => ?_
     refine gs h (o_pickF rfl rfl Bool.false_ne_true) rfl fun _ _ _ h => ?_
     refine gs h (o_assign rfl) rfl fun _ _ _ h => ?_
     refine GoR.done ?_
     exact J2 false _ _ (som H).symm (h.wk (by rfl) [1, 6] (by decide) (by rfl))
   ·have H := ifF c3 H
    refine gk h rfl rfl (nb_f c3) rfl fun _ h => ?_
    refine gk h rfl rfl (nb_f c3) rfl fun _ h => ?_
    refine gs h (o_pickF rfl rfl c3) rfl fun _ _ _ h => ?_
    refine gs h (o_move rfl) rfl fun _ _ _ h => ?_
    refine gk h rfl rfl (nb_f Bool.false_ne_true) rfl fun _ h => ?_
    refine gk h rfl rfl (nb_f Bool.false_ne_true) rfl fun _ h => ?_
    refine gk h rfl rfl (nb_f Bool.false_ne_true) rfl fun _ h => ?_
    refine gs h (o_pickF rfl rfl Bool.false_ne_true) rfl fun _ _ _ h => ?_
    refine gs h (o_move rfl) rfl fun _ _ _ h => ?_
    refine gk h rfl rfl (nb_f Bool.false_ne_true) rfl fun _ h => ?_
    refine gk h rfl rfl (nb_f Bool.false_ne_true) rfl fun _ h => ?_
    refine gk h rfl rfl (nb_f Bool.false_ne_true) rfl fun _ h => ?_
    refine gk h rfl rfl (nb_f Bool.false_ne_true) rfl fun _ h => ?_
    refine gk h rfl rfl (nb_f Bool.false_ne_true) rfl fun _ h => ?_
    refine gs h (o_pickF rfl rfl Bool.false_ne_true) rfl fun _ _ _ h => ?_
    refine gs h (o_move rfl) rfl fun _ _ _ h => ?_
    refine gk h rfl rfl (nb_f Bool.false_ne_true) rfl fun _ h => ?_
    refine gk h rfl rfl (nb_f Bool.false_ne_true) rfl fun _ h => ?_
    refine gk h rfl rfl rfl rfl fun _ h => ?_
    refine gk h rfl rfl rfl rfl fun _ h => ?_
    refine gk h rfl rfl rfl rfl fun _ h => ?_
    refine gk h rfl rfl rfl rfl fun _ h => ?_
    refine gk h rfl rfl (nb_f Bool.false_ne_true) rfl fun _ h => ?_
    refine gs h (o_pickF rfl rfl Bool.false_ne_true) rfl fun _ _ _ h => ?_
    refine gs h (o_move rfl) rfl fun _ _ _ h => ?_
    refine gk h rfl rfl (nb_f Bool.false_ne_true) rfl fun _ h => ?_
    refine gs h (o_pickF rfl rfl Bool.false_ne_true) rfl fun _ _ _ h => ?_
    refine gs h (o_assign rfl) rfl fun _ _ _ h => ?_
    refine GoR.done ?_
    exact J2 false _ _ (som H).symm (h.wk (by rfl) [1, 6] (by decide) (by rfl))
 refine Go.reg ?_
 refine gs h (o_move rfl) rfl fun _ _ _ h => ?_
 refine gs h (o_ldv 0 rfl rfl PIp t_y27) rfl fun v3 _ _ h => ?_
 obtain ⟨r1, er1, H⟩ := bindE H
 refine gs h (o_call (law24_small.spc v1 a1 v3 a3 r1 er1) rfl [2, 0] [] (by decide) rfl rfl) rfl fun _ _ _ h => ?_
 refine gs h (o_not rfl) rfl fun _ _ _ h => ?_
 refine gs h (o_move rfl) rfl fun _ _ _ h => ?_
 by_cases c1 : (!r1) = true
 ·have H := ifT c1 H
  refine gk h rfl rfl (nb_t c1) rfl fun _ h => ?_
  refine gk h rfl rfl (nb_t c1) rfl fun _ h => ?_
  refine gk h rfl rfl (nb_t c1) rfl fun _ h => ?_
  refine gs h (o_pickT rfl rfl c1) rfl fun _ _ _ h => ?_
  refine GoR.done ?_
  exact J1 true _ _ (som H).symm (h.wk (by rfl) [2, 1] (by decide) (by rfl))
 ·have H := ifF c1 H
  refine gg h rfl rfl (nbF c1) (o_move rfl) rfl fun _ _ _ h => ?_
  obtain ⟨r2, er2, H⟩ := bindE H
  refine gg h rfl rfl (nbF c1) (o_call (reasm_Check.spc v1 a1 r2 er2) rfl [2] [] (by decide) rfl rfl) rfl fun _ _ _ h => ?_
  refine gg h rfl rfl (nbF c1) (o_not rfl) rfl fun _ _ _ h => ?_
  refine gs h (o_pickF rfl rfl c1) rfl fun _ _ _ h => ?_
  refine GoR.done ?_
  exact J1 (!r2) _ _ (som H).symm (h.wk (by rfl) [2, 1] (by decide) (by rfl))
def law24_ReasmStays.g (k_ : Nat) (a1 : List TPiece) (a2 : Int) (a3 : TIp) : Option (Bool) :=
  ((law24_small.g k_ a1 a3).bind fun r1 => (if (!r1) = true then some (true) else (reasm_Check.g k_ a1).bind fun r2 => some ((!r2)))).bind (fun j1 => (if j1 = true then (law24_heads.g k_).bind fun r3 => some (r3) else (reasm_Add.g k_ a1 a2 a3).bind fun r4 => (reasm_Expire.g k_ a1 a2).bind fun r5 => ((reasm_Check.g k_ r4.1).bind fun r6 => (if r6 = true then (reasm_Check.g k_ r5).bind fun r7 => (if r7 = true then (if decide ((r4.1.length : Int) ≤ 4) = true then (if decide ((r5.length : Int) ≤ (a1.length : Int)) = true then (if r4.2.2 = true then (law24_heads.g k_).bind fun r8 => some (r8) else (if decide ((r4.2.1.Data.length : Int) = 0) = true then (law24_heads.g k_).bind fun r9 => some (r9) else some (false))) else some (false)) else some (false)) else some (false)) else some (false))).bind (fun j2 => some (j2))))
theorem law24_ReasmStays.le (k_ : Nat) (a1 : List TPiece) (a2 : Int) (a3 : TIp) : Le (law24_ReasmStays.g k_ a1 a2 a3) (law24_ReasmStays.f a1 a2 a3) := by
 unfold law24_ReasmStays.g law24_ReasmStays.f
 repeat' (first | with_reducible refine le_loop fun _ => ?_ | with_reducible refine le_bind ?_ fun _ => ?_ | with_reducible refine le_ite ?_ ?_ | with_reducible refine le_lt fun _ => ?_ | with_reducible refine le_elim (fun _ => ?_) (fun _ => ?_) _ | with_reducible apply law24_heads.le | with_reducible apply law24_small.le | with_reducible apply reasm_Add.le | with_reducible apply reasm_Check.le | with_reducible apply reasm_Expire.le | with_reducible exact le_refl _)
end Go.Proofs.Ytlpjgmbbcibkjaa.S
