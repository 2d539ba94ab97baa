/- Contracts, printed by a program of this session. -/
import Derived.Test.YtmmaojclfggioaaT2
import Derived.Test.YtmmaojclfggioaaT3
import Derived.Test.YtmmaojclfggioaaT7
import Derived.Test.YtmmaojclfggioaaT8
namespace Go.Proofs.Ytmmaojclfggioaa.S
open Go Go.SL Go.RowKit
set_option linter.unusedVariables false
set_option linter.unusedSimpArgs false
/-! drawbridge/drawbridgeref25.Same -/
noncomputable def ref25_Same.f (a1 : List TLease) (a2 : List TLease) : Option (Bool) :=
  (if (!decide ((a1.length : Int) = (a2.length : Int))) = true then some (false) else (loop (fun s1 => (if decide (s1 < (a1.length : Int)) = true then ((idx a1 s1).bind fun x1 => (idx a2 s1).bind fun x2 => (if (!decide (x1.Ip = x2.Ip)) = true then some (true) else (idx a1 s1).bind fun x3 => (idx a2 s1).bind fun x4 => (if (!decide (x3.Mac = x4.Mac)) = true then some (true) else (idx a1 s1).bind fun x5 => (idx a2 s1).bind fun x6 => some ((!decide (x5.Until = x6.Until)))))).bind (fun j1 => (if j1 = true then some (.inr (.inr (false))) else lt (IntKind.i64.wrap (s1 + 1)) fun y1 => some (.inl y1))) else some (.inr (.inl (()))))) 0).bind (Sum.elim (fun j2 => some (true)) (fun z_ => some (z_))))
set_option maxRecDepth 100000 in
set_option maxHeartbeats 4000000 in
theorem ref25_Same.spc (v1 : Value) (a1 : List TLease) (v2 : Value) (a2 : List TLease) (r : Bool) (H : ref25_Same.f a1 a2 = some r) : Spc Try.prog 11 [v1, v2] [Val (Kd.sl KLease) v1 a1, Val (Kd.sl KLease) v2 a2] [] (fun (s : Unit) => .bool r) (fun s => []) := by
 unfold ref25_Same.f at H
 refine Spc.go Try.func11 rfl (by kernel_rfl) rfl rfl (all_cons (Val.per Per_sl) (all_cons (Val.per Per_sl) all_nil)) fun F a w h => ?_
 refine Go.seq ?_
 refine Go.reg ?_
 refine ga h (o_assign rfl) rfl fun h => ?_
 refine GoR.done ?_
 refine Go.seq ?_
 refine Go.seq ?_
 refine Go.reg ?_
 refine mv h rfl rfl fun h => ?_
 have g1 := (len_at 0 rfl h.mem)
 refine ga h (o_ln rfl (rd_at 0 rfl) t_v26) rfl fun h => ?_
 refine mv h rfl rfl fun h => ?_
 have g2 := (len_at 1 rfl h.mem)
 refine ga h (o_ln rfl (rd_at 1 rfl) t_v26) rfl fun h => ?_
 refine ga h (o_bin rfl rfl rfl) rfl fun h => ?_
 refine GoR.done ?_
 by_cases c1 : (!decide ((a1.length : Int) = (a2.length : Int))) = true
 ·have H := ifT c1 H
  refine g_t h rfl c1 ?_
  refine Go.seq ?_
  refine Go.reg ?_
  refine ga h (o_assign rfl) rfl fun h => ?_
  refine GoR.done ?_
  rw [← som H]
  exact g_ret (vs := [.bool false]) h Try.func11 ⟨rfl, trivial⟩ ⟨(), rfl, (h.mem.pick [] (by decide) rfl)⟩
 ·have H := ifF c1 H
  refine g_f h rfl c1 ?_
  refine Go.skip ?_
  refine Go.seq ?_
  refine Go.seq ?_
  refine Go.reg ?_
  refine ga h (o_assign rfl) rfl fun h => ?_
  refine GoR.done ?_
  refine Go.block ?_
  obtain ⟨o1, hl, G1⟩ := bindE H
  refine g_cut (fun G => ∀ j2 (a : Act) (w : World), o1 = .inl (j2) → St Try.f11.ntmps F [] [] a w → G a w) 2 ?_ fun J2 => ?_
  ·intro j2 a w ho_ h
   rw [ho_] at G1
   have H := eInl G1
   refine Go.seq ?_
   refine Go.reg ?_
   refine ga h (o_assign rfl) rfl fun h => ?_
   refine GoR.done ?_
   rw [← som H]
   exact g_ret (vs := [.bool true]) h Try.func11 ⟨rfl, trivial⟩ ⟨(), rfl, (h.mem.pick [] (by decide) rfl)⟩
  refine g_loop (fun s1 G => ∀  (a : Act) (w : World), InR .i64 s1 → St Try.f11.ntmps F [(0, v1), (1, v2), (5, .int .i64 s1)] [Val (Kd.sl KLease) v1 a1, Val (Kd.sl KLease) v2 a2] a w → G a w) hl (fun s1 p1 H i1 => ?_) fun I_ => ?_
  ·intro  a w g3 h
   refine Go.seq ?_
   refine Go.seq ?_
   refine Go.reg ?_
   refine mv h rfl rfl fun h => ?_
   refine mv h rfl rfl fun h => ?_
   have g4 := (len_at 0 rfl h.mem)
   refine ga h (o_ln rfl (rd_at 0 rfl) t_v26) rfl fun h => ?_
   refine ga h (o_bin rfl rfl rfl) rfl fun h => ?_
   refine GoR.done ?_
   by_cases c2 : decide (s1 < (a1.length : Int)) = true
   ·have H := ifT c2 H
    refine g_t h rfl c2 ?_
    refine Go.skip ?_
    refine Go.seq ?_
    refine Go.block ?_
    refine Go.seq ?_
    replace h := h.wq [(0, v1), (1, v2), (5, .int .i64 s1)] [Val (Kd.sl KLease) v1 a1, Val (Kd.sl KLease) v2 a2] [0, 1]
    obtain ⟨o2, H, G2⟩ := bindE H
    refine g_cut (fun G => ∀ j1 (a : Act) (w : World), o2 = j1 → St Try.f11.ntmps F [(0, v1), (1, v2), (5, .int .i64 s1), (55, .bool j1)] [Val (Kd.sl KLease) v1 a1, Val (Kd.sl KLease) v2 a2] a w → G a w) 1 ?_ fun J1 => ?_
    ·intro j1 a w ho_ h
     rw [ho_] at G2
     have H := G2
     by_cases c5 : j1 = true
     ·have H := ifT c5 H
      refine g_t h rfl c5 ?_
      refine Go.seq ?_
      refine Go.reg ?_
      refine ga h (o_assign rfl) rfl fun h => ?_
      refine GoR.done ?_
      have e_ := som H; subst e_
      rw [← nx_out i1] at G1
      have H := G1
      rw [← som H]
      exact g_ret (vs := [.bool false]) h Try.func11 ⟨rfl, trivial⟩ ⟨(), rfl, (h.mem.pick [] (by decide) rfl)⟩
     ·have H := ifF c5 H
      refine g_f h rfl c5 ?_
      refine Go.skip ?_
      refine Go.inBlock ?_
      refine Go.reg ?_
      refine mv h rfl rfl fun h => ?_
      refine ga h (o_bin rfl rfl rfl) rfl fun h => ?_
      obtain ⟨y1, ey1, H⟩ := ltE H
      refine ga h (o_assign' rfl (congrArg (fun z => Value.int .i64 z) ey1)) rfl fun h => ?_
      refine GoR.done ?_
      have e_ := som H; subst e_
      exact Go.inLoop (nx_in i1 _ _ (ey1 ▸ (wrap_in _ _)) (h.wr [0, 1]))
    obtain ⟨x1, ex1, H⟩ := bindE H
    obtain ⟨x2, ex2, H⟩ := bindE H
    by_cases c3 : (!decide (x1.Ip = x2.Ip)) = true
    ·have H := ifT c3 H
     refine Go.draw (E := [(0, v1), (1, v2), (5, .int .i64 s1)]) [] (L := [Val (Kd.sl KLease) v1 a1, Val (Kd.sl KLease) v2 a2]) h rfl rfl 37 [cn (v1), cn (.int .i64 s1), ce [0, 1] (elemP v1 (s1.toNat * Kd.n KLease)), ce [0, 1, 2] (elemP v1 (s1.toNat * Kd.n KLease + 1)), cm [0, 1, 2, 3] [] [] (.int .u32 x1.Ip) fun u => [Ent.pur (InR .u32 x1.Ip)], cn (v2), cn (.int .i64 s1), ce [5, 6] (elemP v2 (s1.toNat * Kd.n KLease)), ce [5, 6, 7] (elemP v2 (s1.toNat * Kd.n KLease + 1)), cm [5, 6, 7, 8] [] [] (.int .u32 x2.Ip) fun u => [Ent.pur (InR .u32 x2.Ip)], ce [0, 1, 2, 3, 4, 5, 6, 7, 8, 9] (.bool (!decide (x1.Ip = x2.Ip))), ce [0, 1, 2, 3, 4, 5, 6, 7, 8, 9, 10] (.bool (!decide (x1.Ip = x2.Ip))), ⟨[11], [], [], true, .con undef, none, fun u => [], []⟩, ⟨[11], [], [], true, .con undef, none, fun u => [], []⟩, ⟨[11], [], [], true, .con undef, none, fun u => [], []⟩, ⟨[11], [], [], true, .con undef, none, fun u => [], []⟩, ⟨[11], [], [], true, .con undef, none, fun u => [], []⟩, ⟨[11], [], [], true, .con undef, none, fun u => [], []⟩, ⟨[11], [], [], true, .con undef, none, fun u => [], []⟩, ⟨[11], [], [], true, .con undef, none, fun u => [], []⟩, ⟨[11], [], [], true, .con undef, none, fun u => [], []⟩, ⟨[11], [], [], true, .con undef, none, fun u => [], []⟩, ⟨[11], [], [], true, .con undef, none, fun u => [], []⟩, ⟨[11], [], [], true, .con undef, none, fun u => [], []⟩, ⟨[11], [], [], true, .con undef, none, fun u => [], []⟩, ce [0, 1, 2, 3, 4, 5, 6, 7, 8, 9, 10, 11, 12, 13, 14, 15, 16, 17, 18, 19, 20, 21, 22, 23, 24] (.bool true), ce [0, 1, 2, 3, 4, 5, 6, 7, 8, 9, 10, 11, 12, 13, 14, 15, 16, 17, 18, 19, 20, 21, 22, 23, 24, 25] (.bool true), ⟨[26], [], [], true, .con undef, none, fun u => [], []⟩, ⟨[26], [], [], true, .con undef, none, fun u => [], []⟩, ⟨[26], [], [], true, .con undef, none, fun u => [], []⟩, ⟨[26], [], [], true, .con undef, none, fun u => [], []⟩, ⟨[26], [], [], true, .con undef, none, fun u => [], []⟩, ⟨[26], [], [], true, .con undef, none, fun u => [], []⟩, ⟨[26], [], [], true, .con undef, none, fun u => [], []⟩, ⟨[26], [], [], true, .con undef, none, fun u => [], []⟩, ⟨[26], [], [], true, .con undef, none, fun u => [], []⟩, ⟨[26], [], [], true, .con undef, none, fun u => [], []⟩] rfl t_mxo (by kernel_rfl) (by rfl) ?_ fun f1 _ _ h => ?_
     ·exact ox rfl (o_move rfl) (ox rfl (o_move rfl) (ox rfl (o_ix rfl rfl (rd_at 0 rfl) ex1 t_v26) (ox rfl (o_fae (k' := s1.toNat * Kd.n KLease + 1) rfl (rd_at 0 rfl) ex1 (by decide) t_f42_1 rfl rfl) (ox rfl (OpS.pur (fun F w m_ => (in1 (rd_sub sLease_Ip (rd_at 0 rfl) ex1 m_))) (o_lsx rfl (rd_at 0 rfl) ex1 sLease_Ip X_int t_y25 (by decide))) (ox rfl (o_move rfl) (ox rfl (o_move rfl) (ox rfl (o_ix rfl rfl (rd_at 1 rfl) ex2 t_v26) (ox rfl (o_fae (k' := s1.toNat * Kd.n KLease + 1) rfl (rd_at 1 rfl) ex2 (by decide) t_f42_1 rfl rfl) (ox rfl (OpS.pur (fun F w m_ => (in1 (rd_sub sLease_Ip (rd_at 1 rfl) ex2 m_))) (o_lsx rfl (rd_at 1 rfl) ex2 sLease_Ip X_int t_y25 (by decide))) (ox rfl (o_bin rfl rfl rfl) (ox rfl (o_move rfl) (oj rfl rfl (fun _ => rfl) (nb_t c3) (oj rfl rfl (fun _ => rfl) (nb_t c3) (oj rfl rfl (fun _ => rfl) (nb_t c3) (oj rfl rfl (fun _ => rfl) (nb_t c3) (oj rfl rfl (fun _ => rfl) (nb_t c3) (oj rfl rfl (fun _ => rfl) (nb_t c3) (oj rfl rfl (fun _ => rfl) (nb_t c3) (oj rfl rfl (fun _ => rfl) (nb_t c3) (oj rfl rfl (fun _ => rfl) (nb_t c3) (oj rfl rfl (fun _ => rfl) (nb_t c3) (oj rfl rfl (fun _ => rfl) (nb_t c3) (oj rfl rfl (fun _ => rfl) (nb_t c3) (oj rfl rfl (fun _ => rfl) (nb_t c3) (ox rfl (o_pickT rfl rfl c3) (ox rfl (o_move rfl) (oj rfl rfl (fun _ => rfl) (nb_t rfl) (oj rfl rfl (fun _ => rfl) (nb_t rfl) (oj rfl rfl (fun _ => rfl) (nb_t rfl) (oj rfl rfl (fun _ => rfl) (nb_t rfl) (oj rfl rfl (fun _ => rfl) (nb_t rfl) (oj rfl rfl (fun _ => rfl) (nb_t rfl) (oj rfl rfl (fun _ => rfl) (nb_t rfl) (oj rfl rfl (fun _ => rfl) (nb_t rfl) (oj rfl rfl (fun _ => rfl) (nb_t rfl) (oj rfl rfl (fun _ => rfl) (nb_t rfl) (obs_nil)))))))))))))))))))))))))))))))))))))
     replace h := h.wk (E' := [(0, v1), (1, v2), (5, .int .i64 s1), (43, .bool true)]) (L' := [Ent.pur (InR .u32 x1.Ip), Ent.pur (InR .u32 x2.Ip), Val (Kd.sl KLease) v1 a1, Val (Kd.sl KLease) v2 a2]) (by kernel_rfl) [0, 1, 2, 3] (by decide) (by kernel_rfl)
     refine gk h rfl rfl (nb_t rfl) rfl fun _ h => ?_
     refine ga h (o_pickT rfl rfl rfl) rfl fun h => ?_
     refine GoR.done ?_
     exact J1 true _ _ (som H).symm (h.wr [2, 3])
    ·have H := ifF c3 H
     obtain ⟨x3, ex3, H⟩ := bindE H
     obtain ⟨x4, ex4, H⟩ := bindE H
     by_cases c4 : (!decide (x3.Mac = x4.Mac)) = true
     ·have H := ifT c4 H
      refine Go.draw (E := [(0, v1), (1, v2), (5, .int .i64 s1)]) [] (L := [Val (Kd.sl KLease) v1 a1, Val (Kd.sl KLease) v2 a2]) h rfl rfl 37 [cn (v1), cn (.int .i64 s1), ce [0, 1] (elemP v1 (s1.toNat * Kd.n KLease)), ce [0, 1, 2] (elemP v1 (s1.toNat * Kd.n KLease + 1)), cm [0, 1, 2, 3] [] [] (.int .u32 x1.Ip) fun u => [Ent.pur (InR .u32 x1.Ip)], cn (v2), cn (.int .i64 s1), ce [5, 6] (elemP v2 (s1.toNat * Kd.n KLease)), ce [5, 6, 7] (elemP v2 (s1.toNat * Kd.n KLease + 1)), cm [5, 6, 7, 8] [] [] (.int .u32 x2.Ip) fun u => [Ent.pur (InR .u32 x2.Ip)], ce [0, 1, 2, 3, 4, 5, 6, 7, 8, 9] (.bool (!decide (x1.Ip = x2.Ip))), ce [0, 1, 2, 3, 4, 5, 6, 7, 8, 9, 10] (.bool (!decide (x1.Ip = x2.Ip))), ce [0, 1, 2, 3, 4, 5, 6, 7, 8, 9, 10, 11] (v1), ce [0, 1, 2, 3, 4, 5, 6, 7, 8, 9, 10, 11] (.int .i64 s1), ce [0, 1, 2, 3, 4, 5, 6, 7, 8, 9, 10, 11, 12, 13] (elemP v1 (s1.toNat * Kd.n KLease)), ce [0, 1, 2, 3, 4, 5, 6, 7, 8, 9, 10, 11, 12, 13, 14] (elemP v1 (s1.toNat * Kd.n KLease + 0)), cw [0, 1, 2, 3, 4, 5, 6, 7, 8, 9, 10, 11, 12, 13, 14, 15] [] [] fun u => [Val (Kd.sl (Kd.int .u8)) u x3.Mac], cm [0, 1, 2, 3, 4, 5, 6, 7, 8, 9, 10, 11, 12, 13, 14, 15, 16] [16] [] (.string (mkS x3.Mac)) fun u => [], ce [0, 1, 2, 3, 4, 5, 6, 7, 8, 9, 10, 11] (v2), ce [0, 1, 2, 3, 4, 5, 6, 7, 8, 9, 10, 11] (.int .i64 s1), ce [0, 1, 2, 3, 4, 5, 6, 7, 8, 9, 10, 11, 18, 19] (elemP v2 (s1.toNat * Kd.n KLease)), ce [0, 1, 2, 3, 4, 5, 6, 7, 8, 9, 10, 11, 18, 19, 20] (elemP v2 (s1.toNat * Kd.n KLease + 0)), cw [0, 1, 2, 3, 4, 5, 6, 7, 8, 9, 10, 11, 18, 19, 20, 21] [] [] fun u => [Val (Kd.sl (Kd.int .u8)) u x4.Mac], cm [0, 1, 2, 3, 4, 5, 6, 7, 8, 9, 10, 11, 18, 19, 20, 21, 22] [22] [] (.string (mkS x4.Mac)) fun u => [], cm [0, 1, 2, 3, 4, 5, 6, 7, 8, 9, 10, 11, 12, 13, 14, 15, 16, 17, 18, 19, 20, 21, 22, 23] [16, 22] [] (.bool (!decide (x3.Mac = x4.Mac))) fun u => [], ce [0, 1, 2, 3, 4, 5, 6, 7, 8, 9, 10, 11, 12, 13, 14, 15, 16, 17, 18, 19, 20, 21, 22, 23, 24] (.bool (!decide (x3.Mac = x4.Mac))), ce [0, 1, 2, 3, 4, 5, 6, 7, 8, 9, 10, 11, 12, 13, 14, 15, 16, 17, 18, 19, 20, 21, 22, 23, 24, 25] (.bool (!decide (x3.Mac = x4.Mac))), ⟨[26], [], [], true, .con undef, none, fun u => [], []⟩, ⟨[26], [], [], true, .con undef, none, fun u => [], []⟩, ⟨[26], [], [], true, .con undef, none, fun u => [], []⟩, ⟨[26], [], [], true, .con undef, none, fun u => [], []⟩, ⟨[26], [], [], true, .con undef, none, fun u => [], []⟩, ⟨[26], [], [], true, .con undef, none, fun u => [], []⟩, ⟨[26], [], [], true, .con undef, none, fun u => [], []⟩, ⟨[26], [], [], true, .con undef, none, fun u => [], []⟩, ⟨[26], [], [], true, .con undef, none, fun u => [], []⟩, ⟨[26], [], [], true, .con undef, none, fun u => [], []⟩] rfl t_mxo (by kernel_rfl) (by rfl) ?_ fun f1 _ _ h => ?_
      ·exact ox rfl (o_move rfl) (ox rfl (o_move rfl) (ox rfl (o_ix rfl rfl (rd_at 0 rfl) ex1 t_v26) (ox rfl (o_fae (k' := s1.toNat * Kd.n KLease + 1) rfl (rd_at 0 rfl) ex1 (by decide) t_f42_1 rfl rfl) (ox rfl (OpS.pur (fun F w m_ => (in1 (rd_sub sLease_Ip (rd_at 0 rfl) ex1 m_))) (o_lsx rfl (rd_at 0 rfl) ex1 sLease_Ip X_int t_y25 (by decide))) (ox rfl (o_move rfl) (ox rfl (o_move rfl) (ox rfl (o_ix rfl rfl (rd_at 1 rfl) ex2 t_v26) (ox rfl (o_fae (k' := s1.toNat * Kd.n KLease + 1) rfl (rd_at 1 rfl) ex2 (by decide) t_f42_1 rfl rfl) (ox rfl (OpS.pur (fun F w m_ => (in1 (rd_sub sLease_Ip (rd_at 1 rfl) ex2 m_))) (o_lsx rfl (rd_at 1 rfl) ex2 sLease_Ip X_int t_y25 (by decide))) (ox rfl (o_bin rfl rfl rfl) (ox rfl (o_move rfl) (og rfl rfl (fun _ => rfl) (nbF c3) (o_move rfl) (og rfl rfl (fun _ => rfl) (nbF c3) (o_move rfl) (og rfl rfl (fun _ => rfl) (nbF c3) (o_ix rfl rfl (rd_at 0 rfl) ex3 t_v26) (og rfl rfl (fun _ => rfl) (nbF c3) (o_fae (k' := s1.toNat * Kd.n KLease + 0) rfl (rd_at 0 rfl) ex3 (by decide) t_f42_0 rfl rfl) (obs_cons (ob_own rfl (gok_some rfl rfl rfl (fun _ => rfl) (nbF c3)) rfl fun f1 => (o_lsv rfl (rd_at 0 rfl) ex3 sLease_Mac t_y22 (by decide))) (og rfl rfl (fun _ => rfl) (nbF c3) (o_b2s rfl (rd_at 0 rfl) t_u22 t_u5 t_u9) (og rfl rfl (fun _ => rfl) (nbF c3) (o_move rfl) (og rfl rfl (fun _ => rfl) (nbF c3) (o_move rfl) (og rfl rfl (fun _ => rfl) (nbF c3) (o_ix rfl rfl (rd_at 1 rfl) ex4 t_v26) (og rfl rfl (fun _ => rfl) (nbF c3) (o_fae (k' := s1.toNat * Kd.n KLease + 0) rfl (rd_at 1 rfl) ex4 (by decide) t_f42_0 rfl rfl) (obs_cons (ob_own rfl (gok_some rfl rfl rfl (fun _ => rfl) (nbF c3)) rfl fun f1 => (o_lsv rfl (rd_at 1 rfl) ex4 sLease_Mac t_y22 (by decide))) (og rfl rfl (fun _ => rfl) (nbF c3) (o_b2s rfl (rd_at 0 rfl) t_u22 t_u5 t_u9) (og rfl rfl (fun _ => rfl) (nbF c3) (OpS.fact (p := Bs x3.Mac) (fun F w m_ => (rd_bs (rd_at 0 rfl) m_)) fun g5 => (OpS.fact (p := Bs x4.Mac) (fun F w m_ => (rd_bs (rd_at 1 rfl) m_)) fun g6 => (o_nes rfl rfl g5 g6))) (ox rfl (o_pickF rfl rfl c3) (ox rfl (o_move rfl) (oj rfl rfl (fun _ => rfl) (nb_t c4) (oj rfl rfl (fun _ => rfl) (nb_t c4) (oj rfl rfl (fun _ => rfl) (nb_t c4) (oj rfl rfl (fun _ => rfl) (nb_t c4) (oj rfl rfl (fun _ => rfl) (nb_t c4) (oj rfl rfl (fun _ => rfl) (nb_t c4) (oj rfl rfl (fun _ => rfl) (nb_t c4) (oj rfl rfl (fun _ => rfl) (nb_t c4) (oj rfl rfl (fun _ => rfl) (nb_t c4) (oj rfl rfl (fun _ => rfl) (nb_t c4) (obs_nil)))))))))))))))))))))))))))))))))))))
      replace h := h.wk (E' := [(0, v1), (1, v2), (5, .int .i64 s1), (43, .bool (!decide (x3.Mac = x4.Mac)))]) (L' := [Ent.pur (InR .u32 x1.Ip), Ent.pur (InR .u32 x2.Ip), Val (Kd.sl (Kd.int .u8)) (f1 16) x3.Mac, Val (Kd.sl (Kd.int .u8)) (f1 22) x4.Mac, Val (Kd.sl KLease) v1 a1, Val (Kd.sl KLease) v2 a2]) (by kernel_rfl) [0, 1, 2, 3, 4, 5] (by decide) (by kernel_rfl)
      refine gk h rfl rfl (nb_t c4) rfl fun _ h => ?_
      refine ga h (o_pickT rfl rfl c4) rfl fun h => ?_
      refine GoR.done ?_
      exact J1 true _ _ (som H).symm (h.wr [4, 5])
     ·have H := ifF c4 H
      obtain ⟨x5, ex5, H⟩ := bindE H
      obtain ⟨x6, ex6, H⟩ := bindE H
      refine Go.draw (E := [(0, v1), (1, v2), (5, .int .i64 s1)]) [] (L := [Val (Kd.sl KLease) v1 a1, Val (Kd.sl KLease) v2 a2]) h rfl rfl 37 [cn (v1), cn (.int .i64 s1), ce [0, 1] (elemP v1 (s1.toNat * Kd.n KLease)), ce [0, 1, 2] (elemP v1 (s1.toNat * Kd.n KLease + 1)), cm [0, 1, 2, 3] [] [] (.int .u32 x1.Ip) fun u => [Ent.pur (InR .u32 x1.Ip)], cn (v2), cn (.int .i64 s1), ce [5, 6] (elemP v2 (s1.toNat * Kd.n KLease)), ce [5, 6, 7] (elemP v2 (s1.toNat * Kd.n KLease + 1)), cm [5, 6, 7, 8] [] [] (.int .u32 x2.Ip) fun u => [Ent.pur (InR .u32 x2.Ip)], ce [0, 1, 2, 3, 4, 5, 6, 7, 8, 9] (.bool (!decide (x1.Ip = x2.Ip))), ce [0, 1, 2, 3, 4, 5, 6, 7, 8, 9, 10] (.bool (!decide (x1.Ip = x2.Ip))), ce [0, 1, 2, 3, 4, 5, 6, 7, 8, 9, 10, 11] (v1), ce [0, 1, 2, 3, 4, 5, 6, 7, 8, 9, 10, 11] (.int .i64 s1), ce [0, 1, 2, 3, 4, 5, 6, 7, 8, 9, 10, 11, 12, 13] (elemP v1 (s1.toNat * Kd.n KLease)), ce [0, 1, 2, 3, 4, 5, 6, 7, 8, 9, 10, 11, 12, 13, 14] (elemP v1 (s1.toNat * Kd.n KLease + 0)), cw [0, 1, 2, 3, 4, 5, 6, 7, 8, 9, 10, 11, 12, 13, 14, 15] [] [] fun u => [Val (Kd.sl (Kd.int .u8)) u x3.Mac], cm [0, 1, 2, 3, 4, 5, 6, 7, 8, 9, 10, 11, 12, 13, 14, 15, 16] [16] [] (.string (mkS x3.Mac)) fun u => [], ce [0, 1, 2, 3, 4, 5, 6, 7, 8, 9, 10, 11] (v2), ce [0, 1, 2, 3, 4, 5, 6, 7, 8, 9, 10, 11] (.int .i64 s1), ce [0, 1, 2, 3, 4, 5, 6, 7, 8, 9, 10, 11, 18, 19] (elemP v2 (s1.toNat * Kd.n KLease)), ce [0, 1, 2, 3, 4, 5, 6, 7, 8, 9, 10, 11, 18, 19, 20] (elemP v2 (s1.toNat * Kd.n KLease + 0)), cw [0, 1, 2, 3, 4, 5, 6, 7, 8, 9, 10, 11, 18, 19, 20, 21] [] [] fun u => [Val (Kd.sl (Kd.int .u8)) u x4.Mac], cm [0, 1, 2, 3, 4, 5, 6, 7, 8, 9, 10, 11, 18, 19, 20, 21, 22] [22] [] (.string (mkS x4.Mac)) fun u => [], cm [0, 1, 2, 3, 4, 5, 6, 7, 8, 9, 10, 11, 12, 13, 14, 15, 16, 17, 18, 19, 20, 21, 22, 23] [16, 22] [] (.bool (!decide (x3.Mac = x4.Mac))) fun u => [], ce [0, 1, 2, 3, 4, 5, 6, 7, 8, 9, 10, 11, 12, 13, 14, 15, 16, 17, 18, 19, 20, 21, 22, 23, 24] (.bool (!decide (x3.Mac = x4.Mac))), ce [0, 1, 2, 3, 4, 5, 6, 7, 8, 9, 10, 11, 12, 13, 14, 15, 16, 17, 18, 19, 20, 21, 22, 23, 24, 25] (.bool (!decide (x3.Mac = x4.Mac))), ce [0, 1, 2, 3, 4, 5, 6, 7, 8, 9, 10, 11, 12, 13, 14, 15, 16, 17, 18, 19, 20, 21, 22, 23, 24, 25, 26] (v1), ce [0, 1, 2, 3, 4, 5, 6, 7, 8, 9, 10, 11, 12, 13, 14, 15, 16, 17, 18, 19, 20, 21, 22, 23, 24, 25, 26] (.int .i64 s1), ce [0, 1, 2, 3, 4, 5, 6, 7, 8, 9, 10, 11, 12, 13, 14, 15, 16, 17, 18, 19, 20, 21, 22, 23, 24, 25, 26, 27, 28] (elemP v1 (s1.toNat * Kd.n KLease)), ce [0, 1, 2, 3, 4, 5, 6, 7, 8, 9, 10, 11, 12, 13, 14, 15, 16, 17, 18, 19, 20, 21, 22, 23, 24, 25, 26, 27, 28, 29] (elemP v1 (s1.toNat * Kd.n KLease + 2)), cm [0, 1, 2, 3, 4, 5, 6, 7, 8, 9, 10, 11, 12, 13, 14, 15, 16, 17, 18, 19, 20, 21, 22, 23, 24, 25, 26, 27, 28, 29, 30] [] [] (.int .i64 x5.Until) fun u => [Ent.pur (InR .i64 x5.Until)], ce [0, 1, 2, 3, 4, 5, 6, 7, 8, 9, 10, 11, 12, 13, 14, 15, 16, 17, 18, 19, 20, 21, 22, 23, 24, 25, 26] (v2), ce [0, 1, 2, 3, 4, 5, 6, 7, 8, 9, 10, 11, 12, 13, 14, 15, 16, 17, 18, 19, 20, 21, 22, 23, 24, 25, 26] (.int .i64 s1), ce [0, 1, 2, 3, 4, 5, 6, 7, 8, 9, 10, 11, 12, 13, 14, 15, 16, 17, 18, 19, 20, 21, 22, 23, 24, 25, 26, 32, 33] (elemP v2 (s1.toNat * Kd.n KLease)), ce [0, 1, 2, 3, 4, 5, 6, 7, 8, 9, 10, 11, 12, 13, 14, 15, 16, 17, 18, 19, 20, 21, 22, 23, 24, 25, 26, 32, 33, 34] (elemP v2 (s1.toNat * Kd.n KLease + 2)), cm [0, 1, 2, 3, 4, 5, 6, 7, 8, 9, 10, 11, 12, 13, 14, 15, 16, 17, 18, 19, 20, 21, 22, 23, 24, 25, 26, 32, 33, 34, 35] [] [] (.int .i64 x6.Until) fun u => [Ent.pur (InR .i64 x6.Until)]] rfl t_mxo (by kernel_rfl) (by rfl) ?_ fun f1 _ _ h => ?_
      ·exact ox rfl (o_move rfl) (ox rfl (o_move rfl) (ox rfl (o_ix rfl rfl (rd_at 0 rfl) ex1 t_v26) (ox rfl (o_fae (k' := s1.toNat * Kd.n KLease + 1) rfl (rd_at 0 rfl) ex1 (by decide) t_f42_1 rfl rfl) (ox rfl (OpS.pur (fun F w m_ => (in1 (rd_sub sLease_Ip (rd_at 0 rfl) ex1 m_))) (o_lsx rfl (rd_at 0 rfl) ex1 sLease_Ip X_int t_y25 (by decide))) (ox rfl (o_move rfl) (ox rfl (o_move rfl) (ox rfl (o_ix rfl rfl (rd_at 1 rfl) ex2 t_v26) (ox rfl (o_fae (k' := s1.toNat * Kd.n KLease + 1) rfl (rd_at 1 rfl) ex2 (by decide) t_f42_1 rfl rfl) (ox rfl (OpS.pur (fun F w m_ => (in1 (rd_sub sLease_Ip (rd_at 1 rfl) ex2 m_))) (o_lsx rfl (rd_at 1 rfl) ex2 sLease_Ip X_int t_y25 (by decide))) (ox rfl (o_bin rfl rfl rfl) (ox rfl (o_move rfl) (og rfl rfl (fun _ => rfl) (nbF c3) (o_move rfl) (og rfl rfl (fun _ => rfl) (nbF c3) (o_move rfl) (og rfl rfl (fun _ => rfl) (nbF c3) (o_ix rfl rfl (rd_at 0 rfl) ex3 t_v26) (og rfl rfl (fun _ => rfl) (nbF c3) (o_fae (k' := s1.toNat * Kd.n KLease + 0) rfl (rd_at 0 rfl) ex3 (by decide) t_f42_0 rfl rfl) (obs_cons (ob_own rfl (gok_some rfl rfl rfl (fun _ => rfl) (nbF c3)) rfl fun f1 => (o_lsv rfl (rd_at 0 rfl) ex3 sLease_Mac t_y22 (by decide))) (og rfl rfl (fun _ => rfl) (nbF c3) (o_b2s rfl (rd_at 0 rfl) t_u22 t_u5 t_u9) (og rfl rfl (fun _ => rfl) (nbF c3) (o_move rfl) (og rfl rfl (fun _ => rfl) (nbF c3) (o_move rfl) (og rfl rfl (fun _ => rfl) (nbF c3) (o_ix rfl rfl (rd_at 1 rfl) ex4 t_v26) (og rfl rfl (fun _ => rfl) (nbF c3) (o_fae (k' := s1.toNat * Kd.n KLease + 0) rfl (rd_at 1 rfl) ex4 (by decide) t_f42_0 rfl rfl) (obs_cons (ob_own rfl (gok_some rfl rfl rfl (fun _ => rfl) (nbF c3)) rfl fun f1 => (o_lsv rfl (rd_at 1 rfl) ex4 sLease_Mac t_y22 (by decide))) (og rfl rfl (fun _ => rfl) (nbF c3) (o_b2s rfl (rd_at 0 rfl) t_u22 t_u5 t_u9) (og rfl rfl (fun _ => rfl) (nbF c3) (OpS.fact (p := Bs x3.Mac) (fun F w m_ => (rd_bs (rd_at 0 rfl) m_)) fun g5 => (OpS.fact (p := Bs x4.Mac) (fun F w m_ => (rd_bs (rd_at 1 rfl) m_)) fun g6 => (o_nes rfl rfl g5 g6))) (ox rfl (o_pickF rfl rfl c3) (ox rfl (o_move rfl) (og rfl rfl (fun _ => rfl) (nbF c4) (o_move rfl) (og rfl rfl (fun _ => rfl) (nbF c4) (o_move rfl) (og rfl rfl (fun _ => rfl) (nbF c4) (o_ix rfl rfl (rd_at 0 rfl) ex5 t_v26) (og rfl rfl (fun _ => rfl) (nbF c4) (o_fae (k' := s1.toNat * Kd.n KLease + 2) rfl (rd_at 0 rfl) ex5 (by decide) t_f42_2 rfl rfl) (og rfl rfl (fun _ => rfl) (nbF c4) (OpS.pur (fun F w m_ => (in1 (rd_sub sLease_Until (rd_at 0 rfl) ex5 m_))) (o_lsx rfl (rd_at 0 rfl) ex5 sLease_Until X_int t_y3 (by decide))) (og rfl rfl (fun _ => rfl) (nbF c4) (o_move rfl) (og rfl rfl (fun _ => rfl) (nbF c4) (o_move rfl) (og rfl rfl (fun _ => rfl) (nbF c4) (o_ix rfl rfl (rd_at 1 rfl) ex6 t_v26) (og rfl rfl (fun _ => rfl) (nbF c4) (o_fae (k' := s1.toNat * Kd.n KLease + 2) rfl (rd_at 1 rfl) ex6 (by decide) t_f42_2 rfl rfl) (og rfl rfl (fun _ => rfl) (nbF c4) (OpS.pur (fun F w m_ => (in1 (rd_sub sLease_Until (rd_at 1 rfl) ex6 m_))) (o_lsx rfl (rd_at 1 rfl) ex6 sLease_Until X_int t_y3 (by decide))) (obs_nil)))))))))))))))))))))))))))))))))))))
      replace h := h.wk (E' := [(0, v1), (1, v2), (5, .int .i64 s1), (43, .bool (!decide (x3.Mac = x4.Mac))), (48, .int .i64 x5.Until), (53, .int .i64 x6.Until)]) (L' := [Ent.pur (InR .u32 x1.Ip), Ent.pur (InR .u32 x2.Ip), Val (Kd.sl (Kd.int .u8)) (f1 16) x3.Mac, Val (Kd.sl (Kd.int .u8)) (f1 22) x4.Mac, Ent.pur (InR .i64 x5.Until), Ent.pur (InR .i64 x6.Until), Val (Kd.sl KLease) v1 a1, Val (Kd.sl KLease) v2 a2]) (by kernel_rfl) [0, 1, 2, 3, 4, 5, 6, 7] (by decide) (by kernel_rfl)
      have g7 := (Mem.pur 4 rfl h.mem)
      have g8 := (Mem.pur 5 rfl h.mem)
      refine gg h rfl rfl (nbF c4) (o_bin rfl rfl rfl) rfl fun _ _ _ h => ?_
      refine ga h (o_pickF rfl rfl c4) rfl fun h => ?_
      refine GoR.done ?_
      exact J1 (!decide (x5.Until = x6.Until)) _ _ (som H).symm (h.wr [6, 7])
   ·have H := ifF c2 H
    refine g_f h rfl c2 ?_
    refine Go.exit rfl ?_
    have e_ := som H; subst e_
    exact J2 () _ _ (nx_out i1).symm (h.wr [])
  ·exact I_ _ _ (show InR .i64 0 by decide) (h.wr [0, 1])
def ref25_Same.g (k_ : Nat) (a1 : List TLease) (a2 : List TLease) : Option (Bool) :=
  (if (!decide ((a1.length : Int) = (a2.length : Int))) = true then some (false) else (loopK k_ (fun s1 => (if decide (s1 < (a1.length : Int)) = true then ((idx a1 s1).bind fun x1 => (idx a2 s1).bind fun x2 => (if (!decide (x1.Ip = x2.Ip)) = true then some (true) else (idx a1 s1).bind fun x3 => (idx a2 s1).bind fun x4 => (if (!decide (x3.Mac = x4.Mac)) = true then some (true) else (idx a1 s1).bind fun x5 => (idx a2 s1).bind fun x6 => some ((!decide (x5.Until = x6.Until)))))).bind (fun j1 => (if j1 = true then some (.inr (.inr (false))) else lt (IntKind.i64.wrap (s1 + 1)) fun y1 => some (.inl y1))) else some (.inr (.inl (()))))) 0).bind (Sum.elim (fun j2 => some (true)) (fun z_ => some (z_))))
theorem ref25_Same.le (k_ : Nat) (a1 : List TLease) (a2 : List TLease) : Le (ref25_Same.g k_ a1 a2) (ref25_Same.f a1 a2) := by
 unfold ref25_Same.g ref25_Same.f
 repeat' (first | with_reducible refine le_loop fun _ => ?_ | with_reducible refine le_bind ?_ fun _ => ?_ | with_reducible refine le_ite ?_ ?_ | with_reducible refine le_lt fun _ => ?_ | with_reducible refine le_elim (fun _ => ?_) (fun _ => ?_) _ | with_reducible exact le_refl _)
/-! drawbridge/drawbridgelaw25.LeaseEnds -/
noncomputable def law25_LeaseEnds.f (a1 : List Int) (a2 : List Int) (a3 : Int) (a4 : Int) (a5 : Int) : Option (Bool) :=
  ((if (!decide ((a1.length : Int) = 6)) = true then some (true) else (if (!decide ((a2.length : Int) = 6)) = true then some (true) else (ref01_Same.f a1 a2).bind fun r1 => (if r1 = true then some (true) else (if decide (a3 < 0) = true then some (true) else (if decide (8 ≤ a3) = true then some (true) else (if decide (a4 < 0) = true then some (true) else (if decide (549755813888 < a4) = true then some (true) else (if decide (a5 < 0) = true then some (true) else some (decide (7200 < a5))))))))))).bind (fun j1 => (if j1 = true then (law25_heads.f).bind fun r2 => some (r2) else lt (IntKind.u32.wrap (IntKind.i64.wrap (167772687 + a3))) fun y1 => (lease_Serve.f [] a4 (⟨1, 0, 0, 0, a1, 3, y1, 0, 0, 0, 0, 0⟩ : TDhcp)).bind fun r3 => (lease_Serve.f r3.1 (IntKind.i64.wrap (a4 + a5)) (⟨1, 0, 0, 0, a2, 3, y1, 0, 0, 0, 0, 0⟩ : TDhcp)).bind fun r4 => ((if (!r3.2.2) = true then some (true) else (if (!r4.2.2) = true then some (true) else (if (!decide (r3.2.1.Type_ = 5)) = true then some (true) else (lease_Check.f r4.1).bind fun r5 => some ((!r5)))))).bind (fun j2 => (if j2 = true then some (false) else (if decide (a5 < 3600) = true then ((if decide (r4.2.1.Type_ = 6) = true then (ref25_Same.f r4.1 r3.1).bind fun r6 => (if r6 = true then (law25_heads.f).bind fun r7 => some (r7) else some (false)) else some (false))).bind (fun j3 => some (j3)) else (lease_Owner.f r4.1 (IntKind.i64.wrap (a4 + a5)) y1).bind fun r8 => ((if decide (r4.2.1.Type_ = 5) = true then (if r8.2 = true then (ref01_Same.f r8.1 a2).bind fun r9 => (if r9 = true then (if decide ((r4.1.length : Int) = 1) = true then (law25_heads.f).bind fun r10 => some (r10) else some (false)) else some (false)) else some (false)) else some (false))).bind (fun j4 => some (j4)))))))
set_option maxRecDepth 100000 in
set_option maxHeartbeats 4000000 in
theorem law25_LeaseEnds.spc (v1 : Value) (a1 : List Int) (v2 : Value) (a2 : List Int) (a3 : Int) (ha3 : InR .i64 a3) (a4 : Int) (ha4 : InR .i64 a4) (a5 : Int) (ha5 : InR .i64 a5) (r : Bool) (H : law25_LeaseEnds.f a1 a2 a3 a4 a5 = some r) : Spc Try.prog 3 [v1, v2, .int .i64 a3, .int .i64 a4, .int .i64 a5] [Val (Kd.sl (Kd.int .u8)) v1 a1, Val (Kd.sl (Kd.int .u8)) v2 a2] [] (fun (s : Unit) => .bool r) (fun s => []) := by
 unfold law25_LeaseEnds.f at H
 refine Spc.go Try.func3 rfl (by kernel_rfl) rfl rfl (all_cons (Val.per Per_sl) (all_cons (Val.per Per_sl) all_nil)) fun F a w h => ?_
 refine Go.seq ?_
 refine Go.reg ?_
 refine ga h (o_assign rfl) rfl fun h => ?_
 refine GoR.done ?_
 refine Go.seq ?_
 refine Go.seq ?_
 obtain ⟨o1, H, G1⟩ := bindE H
 refine g_cut (fun G => ∀ j1 (a : Act) (w : World), o1 = j1 → St Try.f3.ntmps F [(0, v1), (1, v2), (2, .int .i64 a3), (3, .int .i64 a4), (4, .int .i64 a5), (56, .bool j1)] [Val (Kd.sl (Kd.int .u8)) v1 a1, Val (Kd.sl (Kd.int .u8)) v2 a2] a w → G a w) 1 ?_ fun J1 => ?_
 ·intro j1 a w ho_ h
  rw [ho_] at G1
  have H := G1
  by_cases c9 : j1 = true
  ·have H := ifT c9 H
   refine g_t h rfl c9 ?_
   refine Go.seq ?_
   refine Go.reg ?_
   obtain ⟨r2, er2, H⟩ := bindE H
   refine ga h (o_call (law25_heads.spc  r2 er2) rfl [] [] (by decide) rfl rfl) rfl fun h => ?_
   refine ga h (o_assign rfl) rfl fun h => ?_
   refine GoR.done ?_
   rw [← som H]
   exact g_ret (vs := [.bool r2]) h Try.func3 ⟨rfl, trivial⟩ ⟨(), rfl, (h.mem.pick [] (by decide) rfl)⟩
  ·have H := ifF c9 H
   refine g_f h rfl c9 ?_
   refine Go.skip ?_
   refine Go.seq ?_
   refine Go.reg ?_
   refine mv h rfl rfl fun h => ?_
   refine ga h (o_bin rfl rfl rfl) rfl fun h => ?_
   refine ga h (o_conv rfl t_q3 t_u25) rfl fun h => ?_
   obtain ⟨y1, ey1, H⟩ := ltE H
   refine ga h (o_assign' rfl (congrArg (fun z => Value.int .u32 z) ey1)) rfl fun h => ?_
   refine GoR.done ?_
   refine Go.seq ?_
   refine Go.reg ?_
   iterate 3 (refine ga h (o_move rfl) rfl fun h => ?_)
   refine gs h (o_build (K := KDhcp) (x := (⟨1, 0, 0, 0, a1, 3, y1, 0, 0, 0, 0, 0⟩ : TDhcp)) (ps := [(0, .int .i64 1), (4, v1), (5, .int .i64 3), (6, .int .u32 y1)]) rfl (zs := zsDhcp) rfl t_b28 rfl (show PB (Kd.pair (Kd.int .i64) (Kd.pair (Kd.int .u32) (Kd.pair (Kd.int .u32) (Kd.pair (Kd.int .u32) (Kd.pair (Kd.sl (Kd.int .u8)) (Kd.pair (Kd.int .i64) (Kd.pair (Kd.int .u32) (Kd.pair (Kd.int .u32) (Kd.pair (Kd.int .u32) (Kd.pair (Kd.int .u32) (Kd.pair (Kd.int .u32) (Kd.last (Kd.int .u32))))))))))))) (1, 0, 0, 0, a1, 3, y1, 0, 0, 0, 0, 0) 0 zsDhcp _ _ from (pb_part (pv_int (show InR .i64 1 by decide)) rfl (pb_zero z_int (pb_zero z_int (pb_zero z_int (pb_part (pv_at Per_sl 0 rfl) rfl (pb_part (pv_int (show InR .i64 3 by decide)) rfl (pb_part (pv_int (ey1 ▸ (wrap_in _ _))) rfl (pb_zero z_int (pb_zero z_int (pb_zero z_int (pb_zero z_int (pb_lastz z_int)))))))))))))) rfl fun v3 _ _ h => ?_
   replace h := h.mm fun m => (pv_nil (K := KLease)).ent m
   obtain ⟨r3, er3, H⟩ := bindE H
   refine gs h (o_call (lease_Serve.spc (.slice none 0 0) [] a4 ha4 v3 (⟨1, 0, 0, 0, a1, 3, y1, 0, 0, 0, 0, 0⟩ : TDhcp) r3 er3) rfl [0, 1] [] (by decide) rfl rfl) rfl fun s_ _ _ h => ?_
   obtain ⟨v4, v5⟩ := s_
   refine mv h rfl rfl fun h => ?_
   iterate 3 (refine ga h (o_extract rfl rfl) rfl fun h => ?_)
   refine gs h (o_alloc (K := KDhcp) (z := (.agg #[.int .i64 0, .int .u32 0, .int .u32 0, .int .u32 0, .slice none 0 0, .int .i64 0, .int .u32 0, .int .u32 0, .int .u32 0, .int .u32 0, .int .u32 0, .int .u32 0])) rfl ZDhcp) rfl fun b1 _ _ h => ?_
   refine ga h (o_assign rfl) rfl fun h => ?_
   refine gs0 h (o_st 0 rfl rfl rfl (pv_at PDhcp 2 rfl) rfl t_w28) fun _ _ _ h => ?_
   refine ga h (o_assign rfl) rfl fun h => ?_
   refine GoR.done ?_
   refine Go.seq ?_
   refine Go.reg ?_
   iterate 3 (refine ga h (o_move rfl) rfl fun h => ?_)
   refine ga h (o_bin rfl rfl rfl) rfl fun h => ?_
   refine mv h rfl rfl fun h => ?_
   refine mv h rfl rfl fun h => ?_
   refine gs h (o_build (K := KDhcp) (x := (⟨1, 0, 0, 0, a2, 3, y1, 0, 0, 0, 0, 0⟩ : TDhcp)) (ps := [(0, .int .i64 1), (4, v2), (5, .int .i64 3), (6, .int .u32 y1)]) rfl (zs := zsDhcp) rfl t_b28 rfl (show PB (Kd.pair (Kd.int .i64) (Kd.pair (Kd.int .u32) (Kd.pair (Kd.int .u32) (Kd.pair (Kd.int .u32) (Kd.pair (Kd.sl (Kd.int .u8)) (Kd.pair (Kd.int .i64) (Kd.pair (Kd.int .u32) (Kd.pair (Kd.int .u32) (Kd.pair (Kd.int .u32) (Kd.pair (Kd.int .u32) (Kd.pair (Kd.int .u32) (Kd.last (Kd.int .u32))))))))))))) (1, 0, 0, 0, a2, 3, y1, 0, 0, 0, 0, 0) 0 zsDhcp _ _ from (pb_part (pv_int (show InR .i64 1 by decide)) rfl (pb_zero z_int (pb_zero z_int (pb_zero z_int (pb_part (pv_at Per_sl 6 rfl) rfl (pb_part (pv_int (show InR .i64 3 by decide)) rfl (pb_part (pv_int (ey1 ▸ (wrap_in _ _))) rfl (pb_zero z_int (pb_zero z_int (pb_zero z_int (pb_zero z_int (pb_lastz z_int)))))))))))))) rfl fun v6 _ _ h => ?_
   obtain ⟨r4, er4, H⟩ := bindE H
   refine gs h (o_call (lease_Serve.spc v4 r3.1 (IntKind.i64.wrap (a4 + a5)) (wrap_in _ _) v6 (⟨1, 0, 0, 0, a2, 3, y1, 0, 0, 0, 0, 0⟩ : TDhcp) r4 er4) rfl [2, 0] [] (by decide) rfl rfl) rfl fun s_ _ _ h => ?_
   obtain ⟨v7, v8⟩ := s_
   refine mv h rfl rfl fun h => ?_
   iterate 3 (refine ga h (o_extract rfl rfl) rfl fun h => ?_)
   refine gs h (o_alloc (K := KDhcp) (z := (.agg #[.int .i64 0, .int .u32 0, .int .u32 0, .int .u32 0, .slice none 0 0, .int .i64 0, .int .u32 0, .int .u32 0, .int .u32 0, .int .u32 0, .int .u32 0, .int .u32 0])) rfl ZDhcp) rfl fun b2 _ _ h => ?_
   refine ga h (o_assign rfl) rfl fun h => ?_
   refine gs0 h (o_st 0 rfl rfl rfl (pv_at PDhcp 2 rfl) rfl t_w28) fun _ _ _ h => ?_
   refine ga h (o_assign rfl) rfl fun h => ?_
   refine GoR.done ?_
   refine Go.seq ?_
   refine Go.seq ?_
   obtain ⟨o2, H, G2⟩ := bindE H
   refine g_cut (fun G => ∀ j2 (a : Act) (w : World), o2 = j2 → St Try.f3.ntmps F [(1, v2), (3, .int .i64 a4), (4, .int .i64 a5), (11, .int .u32 y1), (12, v4), (15, v7), (16, pt b2), (97, .bool j2)] [Val (Kd.sl (Kd.int .u8)) v2 a2, Val (Kd.sl KLease) v4 r3.1, Val (Kd.sl KLease) v7 r4.1, Fld KDhcp b2 0 r4.2.1, Fld KDhcp b1 0 r3.2.1] a w → G a w) 1 ?_ fun J2 => ?_
   ·intro j2 a w ho_ h
    rw [ho_] at G2
    have H := G2
    by_cases c13 : j2 = true
    ·have H := ifT c13 H
     refine g_t h rfl c13 ?_
     refine Go.seq ?_
     refine Go.reg ?_
     refine ga h (o_assign rfl) rfl fun h => ?_
     refine GoR.done ?_
     rw [← som H]
     exact g_ret (vs := [.bool false]) h Try.func3 ⟨rfl, trivial⟩ ⟨(), rfl, (h.mem.pick [] (by decide) rfl)⟩
    ·have H := ifF c13 H
     refine g_f h rfl c13 ?_
     refine Go.skip ?_
     refine Go.seq ?_
     refine Go.seq ?_
     refine Go.reg ?_
     refine mv h rfl rfl fun h => ?_
     refine ga h (o_bin rfl rfl rfl) rfl fun h => ?_
     refine GoR.done ?_
     by_cases c14 : decide (a5 < 3600) = true
     ·have H := ifT c14 H
      refine g_t h rfl c14 ?_
      refine Go.seq ?_
      obtain ⟨o3, H, G3⟩ := bindE H
      refine g_cut (fun G => ∀ j3 (a : Act) (w : World), o3 = j3 → St Try.f3.ntmps F [(10, .bool j3)] [Fld KDhcp b2 0 r4.2.1, Fld KDhcp b1 0 r3.2.1] a w → G a w) 1 ?_ fun J3 => ?_
      ·intro j3 a w ho_ h
       rw [ho_] at G3
       have H := G3
       rw [← som H]
       exact g_ret (vs := [.bool j3]) h Try.func3 ⟨rfl, trivial⟩ ⟨(), rfl, (h.mem.pick [] (by decide) rfl)⟩
      refine Go.reg ?_
      refine ga h (o_fa rfl t_f28_5 rfl rfl) rfl fun h => ?_
      have g4 := (in2 (fd_sub sDhcp_Type_ 3 rfl h.mem))
      refine ga h (o_lfx 3 rfl rfl sDhcp_Type_ rfl X_int t_y3) rfl fun h => ?_
      refine ga h (o_bin rfl rfl rfl) rfl fun h => ?_
      refine mv h rfl rfl fun h => ?_
      by_cases c15 : decide (r4.2.1.Type_ = 6) = true
      ·have H := ifT c15 H
       refine gg h rfl rfl c15 (o_move rfl) rfl fun _ _ _ h => ?_
       refine gg h rfl rfl c15 (o_move rfl) rfl fun _ _ _ h => ?_
       obtain ⟨r6, er6, H⟩ := bindE H
       refine gg h rfl rfl c15 (o_call (ref25_Same.spc v7 r4.1 v4 r3.1 r6 er6) rfl [2, 1] [] (by decide) rfl rfl) rfl fun _ _ _ h => ?_
       refine ga h (o_pickT rfl rfl c15) rfl fun h => ?_
       refine mv h rfl rfl fun h => ?_
       by_cases c16 : r6 = true
       ·have H := ifT c16 H
        obtain ⟨r7, er7, H⟩ := bindE H
        refine gg h rfl rfl c16 (o_call (law25_heads.spc  r7 er7) rfl [] [] (by decide) rfl rfl) rfl fun _ _ _ h => ?_
        refine ga h (o_pickT rfl rfl c16) rfl fun h => ?_
        refine ga h (o_assign rfl) rfl fun h => ?_
        refine GoR.done ?_
        exact J3 r7 _ _ (som H).symm (h.wr [3, 4])
       ·have H := ifF c16 H
        refine gk h rfl rfl (nb_f c16) rfl fun _ h => ?_
        refine ga h (o_pickF rfl rfl c16) rfl fun h => ?_
        refine ga h (o_assign rfl) rfl fun h => ?_
        refine GoR.done ?_
        exact J3 false _ _ (som H).symm (h.wr [3, 4])
      ·have H := ifF c15 H
       iterate 3 (refine gk h rfl rfl (nb_f c15) rfl fun _ h => ?_)
       refine ga h (o_pickF rfl rfl c15) rfl fun h => ?_
       refine mv h rfl rfl fun h => ?_
       refine gk h rfl rfl (nb_f Bool.false_ne_true) rfl fun _ h => ?_
       refine ga h (o_pickF rfl rfl Bool.false_ne_true) rfl fun h => ?_
       refine ga h (o_assign rfl) rfl fun h => ?_
       refine GoR.done ?_
       exact J3 false _ _ (som H).symm (h.wr [3, 4])
     ·have H := ifF c14 H
      refine g_f h rfl c14 ?_
      refine Go.skip ?_
      refine Go.seq ?_
      refine Go.reg ?_
      iterate 3 (refine ga h (o_move rfl) rfl fun h => ?_)
      refine ga h (o_bin rfl rfl rfl) rfl fun h => ?_
      refine mv h rfl rfl fun h => ?_
      obtain ⟨r8, er8, H⟩ := bindE H
      refine gs h (o_call (lease_Owner.spc v7 r4.1 (IntKind.i64.wrap (a4 + a5)) (wrap_in _ _) y1 (ey1 ▸ (wrap_in _ _)) r8 er8) rfl [2] [] (by decide) rfl rfl) rfl fun v9 _ _ h => ?_
      refine mv h rfl rfl fun h => ?_
      refine ga h (o_extract rfl rfl) rfl fun h => ?_
      refine ga h (o_extract rfl rfl) rfl fun h => ?_
      refine ga h (o_assign rfl) rfl fun h => ?_
      refine ga h (o_assign rfl) rfl fun h => ?_
      refine GoR.done ?_
      refine Go.seq ?_
      obtain ⟨o4, H, G4⟩ := bindE H
      refine g_cut (fun G => ∀ j4 (a : Act) (w : World), o4 = j4 → St Try.f3.ntmps F [(10, .bool j4)] [Fld KDhcp b2 0 r4.2.1, Fld KDhcp b1 0 r3.2.1] a w → G a w) 1 ?_ fun J4 => ?_
      ·intro j4 a w ho_ h
       rw [ho_] at G4
       have H := G4
       rw [← som H]
       exact g_ret (vs := [.bool j4]) h Try.func3 ⟨rfl, trivial⟩ ⟨(), rfl, (h.mem.pick [] (by decide) rfl)⟩
      refine Go.reg ?_
      refine ga h (o_fa rfl t_f28_5 rfl rfl) rfl fun h => ?_
      have g5 := (in2 (fd_sub sDhcp_Type_ 4 rfl h.mem))
      refine ga h (o_lfx 4 rfl rfl sDhcp_Type_ rfl X_int t_y3) rfl fun h => ?_
      refine ga h (o_bin rfl rfl rfl) rfl fun h => ?_
      refine mv h rfl rfl fun h => ?_
      by_cases c17 : decide (r4.2.1.Type_ = 5) = true
      ·have H := ifT c17 H
       refine gg h rfl rfl c17 (o_move rfl) rfl fun _ _ _ h => ?_
       refine ga h (o_pickT rfl rfl c17) rfl fun h => ?_
       refine mv h rfl rfl fun h => ?_
       by_cases c18 : r8.2 = true
       ·have H := ifT c18 H
        refine gg h rfl rfl c18 (o_move rfl) rfl fun _ _ _ h => ?_
        refine gg h rfl rfl c18 (o_move rfl) rfl fun _ _ _ h => ?_
        replace h := h.mm fun m => m.freeze 0 rfl
        obtain ⟨r9, er9, H⟩ := bindE H
        refine gg h rfl rfl c18 (o_call (ref01_Same.spc v9 r8.1 v2 a2 r9 er9) rfl [0, 1] [] (by decide) rfl rfl) rfl fun _ _ _ h => ?_
        refine ga h (o_pickT rfl rfl c18) rfl fun h => ?_
        refine mv h rfl rfl fun h => ?_
        by_cases c19 : r9 = true
        ·have H := ifT c19 H
         refine gg h rfl rfl c19 (o_move rfl) rfl fun _ _ _ h => ?_
         have g6 := (len_at 3 rfl h.mem)
         refine gg h rfl rfl c19 (o_ln rfl (rd_at 3 rfl) t_v26) rfl fun _ _ _ h => ?_
         refine gg h rfl rfl c19 (o_bin rfl rfl rfl) rfl fun _ _ _ h => ?_
         refine ga h (o_pickT rfl rfl c19) rfl fun h => ?_
         refine mv h rfl rfl fun h => ?_
         by_cases c20 : decide ((r4.1.length : Int) = 1) = true
         ·have H := ifT c20 H
          obtain ⟨r10, er10, H⟩ := bindE H
          refine gg h rfl rfl c20 (o_call (law25_heads.spc  r10 er10) rfl [] [] (by decide) rfl rfl) rfl fun _ _ _ h => ?_
          refine ga h (o_pickT rfl rfl c20) rfl fun h => ?_
          refine ga h (o_assign rfl) rfl fun h => ?_
          refine GoR.done ?_
          exact J4 r10 _ _ (som H).symm (h.wr [4, 5])
         ·have H := ifF c20 H
          refine gk h rfl rfl (nb_f c20) rfl fun _ h => ?_
          refine ga h (o_pickF rfl rfl c20) rfl fun h => ?_
          refine ga h (o_assign rfl) rfl fun h => ?_
          refine GoR.done ?_
          exact J4 false _ _ (som H).symm (h.wr [4, 5])
        ·have H := ifF c19 H
         iterate 3 (refine gk h rfl rfl (nb_f c19) rfl fun _ h => ?_)
         refine ga h (o_pickF rfl rfl c19) rfl fun h => ?_
         refine mv h rfl rfl fun h => ?_
         refine gk h rfl rfl (nb_f Bool.false_ne_true) rfl fun _ h => ?_
         refine ga h (o_pickF rfl rfl Bool.false_ne_true) rfl fun h => ?_
         refine ga h (o_assign rfl) rfl fun h => ?_
         refine GoR.done ?_
         exact J4 false _ _ (som H).symm (h.wr [4, 5])
       ·have H := ifF c18 H
        iterate 3 (refine gk h rfl rfl (nb_f c18) rfl fun _ h => ?_)
        refine ga h (o_pickF rfl rfl c18) rfl fun h => ?_
        refine mv h rfl rfl fun h => ?_
        iterate 3 (refine gk h rfl rfl (nb_f Bool.false_ne_true) rfl fun _ h => ?_)
        refine ga h (o_pickF rfl rfl Bool.false_ne_true) rfl fun h => ?_
        refine mv h rfl rfl fun h => ?_
        refine gk h rfl rfl (nb_f Bool.false_ne_true) rfl fun _ h => ?_
        refine ga h (o_pickF rfl rfl Bool.false_ne_true) rfl fun h => ?_
        refine ga h (o_assign rfl) rfl fun h => ?_
        refine GoR.done ?_
        exact J4 false _ _ (som H).symm (h.wr [4, 5])
      ·have H := ifF c17 H
       refine gk h rfl rfl (nb_f c17) rfl fun _ h => ?_
       refine ga h (o_pickF rfl rfl c17) rfl fun h => ?_
       refine mv h rfl rfl fun h => ?_
       iterate 3 (refine gk h rfl rfl (nb_f Bool.false_ne_true) rfl fun _ h => ?_)
       refine ga h (o_pickF rfl rfl Bool.false_ne_true) rfl fun h => ?_
       refine mv h rfl rfl fun h => ?_
       iterate 3 (refine gk h rfl rfl (nb_f Bool.false_ne_true) rfl fun _ h => ?_)
       refine ga h (o_pickF rfl rfl Bool.false_ne_true) rfl fun h => ?_
       refine mv h rfl rfl fun h => ?_
       refine gk h rfl rfl (nb_f Bool.false_ne_true) rfl fun _ h => ?_
       refine ga h (o_pickF rfl rfl Bool.false_ne_true) rfl fun h => ?_
       refine ga h (o_assign rfl) rfl fun h => ?_
       refine GoR.done ?_
       exact J4 false _ _ (som H).symm (h.wr [4, 5])
   refine Go.reg ?_
   refine mv h rfl rfl fun h => ?_
   refine ga h (o_not rfl) rfl fun h => ?_
   refine mv h rfl rfl fun h => ?_
   by_cases c10 : (!r3.2.2) = true
   ·have H := ifT c10 H
    refine gk h rfl rfl (nb_t c10) rfl fun _ h => ?_
    refine gk h rfl rfl (nb_t c10) rfl fun _ h => ?_
    refine ga h (o_pickT rfl rfl c10) rfl fun h => ?_
    refine mv h rfl rfl fun h => ?_
    iterate 3 (refine gk h rfl rfl (nb_t rfl) rfl fun _ h => ?_)
    refine ga h (o_pickT rfl rfl rfl) rfl fun h => ?_
    refine mv h rfl rfl fun h => ?_
    iterate 3 (refine gk h rfl rfl (nb_t rfl) rfl fun _ h => ?_)
    refine ga h (o_pickT rfl rfl rfl) rfl fun h => ?_
    refine GoR.done ?_
    exact J2 true _ _ (som H).symm (h.wr [10, 5, 1, 0, 4])
   ·have H := ifF c10 H
    refine gg h rfl rfl (nbF c10) (o_move rfl) rfl fun _ _ _ h => ?_
    refine gg h rfl rfl (nbF c10) (o_not rfl) rfl fun _ _ _ h => ?_
    refine ga h (o_pickF rfl rfl c10) rfl fun h => ?_
    refine mv h rfl rfl fun h => ?_
    by_cases c11 : (!r4.2.2) = true
    ·have H := ifT c11 H
     iterate 3 (refine gk h rfl rfl (nb_t c11) rfl fun _ h => ?_)
     refine ga h (o_pickT rfl rfl c11) rfl fun h => ?_
     refine mv h rfl rfl fun h => ?_
     iterate 3 (refine gk h rfl rfl (nb_t rfl) rfl fun _ h => ?_)
     refine ga h (o_pickT rfl rfl rfl) rfl fun h => ?_
     refine GoR.done ?_
     exact J2 true _ _ (som H).symm (h.wr [10, 5, 1, 0, 4])
    ·have H := ifF c11 H
     refine gg h rfl rfl (nbF c11) (o_fa rfl t_f28_5 rfl rfl) rfl fun _ _ _ h => ?_
     have g3 := (in2 (fd_sub sDhcp_Type_ 4 rfl h.mem))
     refine gg h rfl rfl (nbF c11) (o_lfx 4 rfl rfl sDhcp_Type_ rfl X_int t_y3) rfl fun _ _ _ h => ?_
     refine gg h rfl rfl (nbF c11) (o_bin rfl rfl rfl) rfl fun _ _ _ h => ?_
     refine ga h (o_pickF rfl rfl c11) rfl fun h => ?_
     refine mv h rfl rfl fun h => ?_
     by_cases c12 : (!decide (r3.2.1.Type_ = 5)) = true
     ·have H := ifT c12 H
      iterate 3 (refine gk h rfl rfl (nb_t c12) rfl fun _ h => ?_)
      refine ga h (o_pickT rfl rfl c12) rfl fun h => ?_
      refine GoR.done ?_
      exact J2 true _ _ (som H).symm (h.wr [10, 5, 1, 0, 4])
     ·have H := ifF c12 H
      refine gg h rfl rfl (nbF c12) (o_move rfl) rfl fun _ _ _ h => ?_
      obtain ⟨r5, er5, H⟩ := bindE H
      refine gg h rfl rfl (nbF c12) (o_call (lease_Check.spc v7 r4.1 r5 er5) rfl [1] [] (by decide) rfl rfl) rfl fun _ _ _ h => ?_
      refine gg h rfl rfl (nbF c12) (o_not rfl) rfl fun _ _ _ h => ?_
      refine ga h (o_pickF rfl rfl c12) rfl fun h => ?_
      refine GoR.done ?_
      exact J2 (!r5) _ _ (som H).symm (h.wr [10, 5, 1, 0, 4])
 refine Go.reg ?_
 refine mv h rfl rfl fun h => ?_
 have g1 := (len_at 0 rfl h.mem)
 refine ga h (o_ln rfl (rd_at 0 rfl) t_v22) rfl fun h => ?_
 refine ga h (o_bin rfl rfl rfl) rfl fun h => ?_
 refine mv h rfl rfl fun h => ?_
 by_cases c1 : (!decide ((a1.length : Int) = 6)) = true
 ·have H := ifT c1 H
  iterate 3 (refine gk h rfl rfl (nb_t c1) rfl fun _ h => ?_)
  refine ga h (o_pickT rfl rfl c1) rfl fun h => ?_
  refine mv h rfl rfl fun h => ?_
  iterate 3 (refine gk h rfl rfl (nb_t rfl) rfl fun _ h => ?_)
  refine ga h (o_pickT rfl rfl rfl) rfl fun h => ?_
  refine mv h rfl rfl fun h => ?_
  refine gk h rfl rfl (nb_t rfl) rfl fun _ h => ?_
  refine gk h rfl rfl (nb_t rfl) rfl fun _ h => ?_
  refine ga h (o_pickT rfl rfl rfl) rfl fun h => ?_
  refine mv h rfl rfl fun h => ?_
  refine gk h rfl rfl (nb_t rfl) rfl fun _ h => ?_
  refine gk h rfl rfl (nb_t rfl) rfl fun _ h => ?_
  refine ga h (o_pickT rfl rfl rfl) rfl fun h => ?_
  refine mv h rfl rfl fun h => ?_
  refine gk h rfl rfl (nb_t rfl) rfl fun _ h => ?_
  refine gk h rfl rfl (nb_t rfl) rfl fun _ h => ?_
  refine ga h (o_pickT rfl rfl rfl) rfl fun h => ?_
  refine mv h rfl rfl fun h => ?_
  refine gk h rfl rfl (nb_t rfl) rfl fun _ h => ?_
  refine gk h rfl rfl (nb_t rfl) rfl fun _ h => ?_
  refine ga h (o_pickT rfl rfl rfl) rfl fun h => ?_
  refine mv h rfl rfl fun h => ?_
  refine gk h rfl rfl (nb_t rfl) rfl fun _ h => ?_
  refine gk h rfl rfl (nb_t rfl) rfl fun _ h => ?_
  refine ga h (o_pickT rfl rfl rfl) rfl fun h => ?_
  refine mv h rfl rfl fun h => ?_
  refine gk h rfl rfl (nb_t rfl) rfl fun _ h => ?_
  refine gk h rfl rfl (nb_t rfl) rfl fun _ h => ?_
  refine ga h (o_pickT rfl rfl rfl) rfl fun h => ?_
  refine GoR.done ?_
  exact J1 true _ _ (som H).symm (h.wr [0, 1])
 ·have H := ifF c1 H
  refine gg h rfl rfl (nbF c1) (o_move rfl) rfl fun _ _ _ h => ?_
  have g2 := (len_at 1 rfl h.mem)
  refine gg h rfl rfl (nbF c1) (o_ln rfl (rd_at 1 rfl) t_v22) rfl fun _ _ _ h => ?_
  refine gg h rfl rfl (nbF c1) (o_bin rfl rfl rfl) rfl fun _ _ _ h => ?_
  refine ga h (o_pickF rfl rfl c1) rfl fun h => ?_
  refine mv h rfl rfl fun h => ?_
  by_cases c2 : (!decide ((a2.length : Int) = 6)) = true
  ·have H := ifT c2 H
   iterate 3 (refine gk h rfl rfl (nb_t c2) rfl fun _ h => ?_)
   refine ga h (o_pickT rfl rfl c2) rfl fun h => ?_
   refine mv h rfl rfl fun h => ?_
   refine gk h rfl rfl (nb_t rfl) rfl fun _ h => ?_
   refine gk h rfl rfl (nb_t rfl) rfl fun _ h => ?_
   refine ga h (o_pickT rfl rfl rfl) rfl fun h => ?_
   refine mv h rfl rfl fun h => ?_
   refine gk h rfl rfl (nb_t rfl) rfl fun _ h => ?_
   refine gk h rfl rfl (nb_t rfl) rfl fun _ h => ?_
   refine ga h (o_pickT rfl rfl rfl) rfl fun h => ?_
   refine mv h rfl rfl fun h => ?_
   refine gk h rfl rfl (nb_t rfl) rfl fun _ h => ?_
   refine gk h rfl rfl (nb_t rfl) rfl fun _ h => ?_
   refine ga h (o_pickT rfl rfl rfl) rfl fun h => ?_
   refine mv h rfl rfl fun h => ?_
   refine gk h rfl rfl (nb_t rfl) rfl fun _ h => ?_
   refine gk h rfl rfl (nb_t rfl) rfl fun _ h => ?_
   refine ga h (o_pickT rfl rfl rfl) rfl fun h => ?_
   refine mv h rfl rfl fun h => ?_
   refine gk h rfl rfl (nb_t rfl) rfl fun _ h => ?_
   refine gk h rfl rfl (nb_t rfl) rfl fun _ h => ?_
   refine ga h (o_pickT rfl rfl rfl) rfl fun h => ?_
   refine mv h rfl rfl fun h => ?_
   refine gk h rfl rfl (nb_t rfl) rfl fun _ h => ?_
   refine gk h rfl rfl (nb_t rfl) rfl fun _ h => ?_
   refine ga h (o_pickT rfl rfl rfl) rfl fun h => ?_
   refine GoR.done ?_
   exact J1 true _ _ (som H).symm (h.wr [0, 1])
  ·have H := ifF c2 H
   refine gg h rfl rfl (nbF c2) (o_move rfl) rfl fun _ _ _ h => ?_
   refine gg h rfl rfl (nbF c2) (o_move rfl) rfl fun _ _ _ h => ?_
   obtain ⟨r1, er1, H⟩ := bindE H
   refine gg h rfl rfl (nbF c2) (o_call (ref01_Same.spc v1 a1 v2 a2 r1 er1) rfl [0, 1] [] (by decide) rfl rfl) rfl fun _ _ _ h => ?_
   refine ga h (o_pickF rfl rfl c2) rfl fun h => ?_
   refine mv h rfl rfl fun h => ?_
   by_cases c3 : r1 = true
   ·have H := ifT c3 H
    refine gk h rfl rfl (nb_t c3) rfl fun _ h => ?_
    refine gk h rfl rfl (nb_t c3) rfl fun _ h => ?_
    refine ga h (o_pickT rfl rfl c3) rfl fun h => ?_
    refine mv h rfl rfl fun h => ?_
    refine gk h rfl rfl (nb_t rfl) rfl fun _ h => ?_
    refine gk h rfl rfl (nb_t rfl) rfl fun _ h => ?_
    refine ga h (o_pickT rfl rfl rfl) rfl fun h => ?_
    refine mv h rfl rfl fun h => ?_
    refine gk h rfl rfl (nb_t rfl) rfl fun _ h => ?_
    refine gk h rfl rfl (nb_t rfl) rfl fun _ h => ?_
    refine ga h (o_pickT rfl rfl rfl) rfl fun h => ?_
    refine mv h rfl rfl fun h => ?_
    refine gk h rfl rfl (nb_t rfl) rfl fun _ h => ?_
    refine gk h rfl rfl (nb_t rfl) rfl fun _ h => ?_
    refine ga h (o_pickT rfl rfl rfl) rfl fun h => ?_
    refine mv h rfl rfl fun h => ?_
    refine gk h rfl rfl (nb_t rfl) rfl fun _ h => ?_
    refine gk h rfl rfl (nb_t rfl) rfl fun _ h => ?_
    refine ga h (o_pickT rfl rfl rfl) rfl fun h => ?_
    refine mv h rfl rfl fun h => ?_
    refine gk h rfl rfl (nb_t rfl) rfl fun _ h => ?_
    refine gk h rfl rfl (nb_t rfl) rfl fun _ h => ?_
    refine ga h (o_pickT rfl rfl rfl) rfl fun h => ?_
    refine GoR.done ?_
    exact J1 true _ _ (som H).symm (h.wr [0, 1])
   ·have H := ifF c3 H
    refine gg h rfl rfl (nbF c3) (o_move rfl) rfl fun _ _ _ h => ?_
    refine gg h rfl rfl (nbF c3) (o_bin rfl rfl rfl) rfl fun _ _ _ h => ?_
    refine ga h (o_pickF rfl rfl c3) rfl fun h => ?_
    refine mv h rfl rfl fun h => ?_
    by_cases c4 : decide (a3 < 0) = true
    ·have H := ifT c4 H
     refine gk h rfl rfl (nb_t c4) rfl fun _ h => ?_
     refine gk h rfl rfl (nb_t c4) rfl fun _ h => ?_
     refine ga h (o_pickT rfl rfl c4) rfl fun h => ?_
     refine mv h rfl rfl fun h => ?_
     refine gk h rfl rfl (nb_t rfl) rfl fun _ h => ?_
     refine gk h rfl rfl (nb_t rfl) rfl fun _ h => ?_
     refine ga h (o_pickT rfl rfl rfl) rfl fun h => ?_
     refine mv h rfl rfl fun h => ?_
     refine gk h rfl rfl (nb_t rfl) rfl fun _ h => ?_
     refine gk h rfl rfl (nb_t rfl) rfl fun _ h => ?_
     refine ga h (o_pickT rfl rfl rfl) rfl fun h => ?_
     refine mv h rfl rfl fun h => ?_
     refine gk h rfl rfl (nb_t rfl) rfl fun _ h => ?_
     refine gk h rfl rfl (nb_t rfl) rfl fun _ h => ?_
     refine ga h (o_pickT rfl rfl rfl) rfl fun h => ?_
     refine mv h rfl rfl fun h => ?_
     refine gk h rfl rfl (nb_t rfl) rfl fun _ h => ?_
     refine gk h rfl rfl (nb_t rfl) rfl fun _ h => ?_
     refine ga h (o_pickT rfl rfl rfl) rfl fun h => ?_
     refine GoR.done ?_
     exact J1 true _ _ (som H).symm (h.wr [0, 1])
    ·have H := ifF c4 H
     refine gg h rfl rfl (nbF c4) (o_move rfl) rfl fun _ _ _ h => ?_
     refine gg h rfl rfl (nbF c4) (o_bin rfl rfl rfl) rfl fun _ _ _ h => ?_
     refine ga h (o_pickF rfl rfl c4) rfl fun h => ?_
     refine mv h rfl rfl fun h => ?_
     by_cases c5 : decide (8 ≤ a3) = true
     ·have H := ifT c5 H
      refine gk h rfl rfl (nb_t c5) rfl fun _ h => ?_
      refine gk h rfl rfl (nb_t c5) rfl fun _ h => ?_
      refine ga h (o_pickT rfl rfl c5) rfl fun h => ?_
      refine mv h rfl rfl fun h => ?_
      refine gk h rfl rfl (nb_t rfl) rfl fun _ h => ?_
      refine gk h rfl rfl (nb_t rfl) rfl fun _ h => ?_
      refine ga h (o_pickT rfl rfl rfl) rfl fun h => ?_
      refine mv h rfl rfl fun h => ?_
      refine gk h rfl rfl (nb_t rfl) rfl fun _ h => ?_
      refine gk h rfl rfl (nb_t rfl) rfl fun _ h => ?_
      refine ga h (o_pickT rfl rfl rfl) rfl fun h => ?_
      refine mv h rfl rfl fun h => ?_
      refine gk h rfl rfl (nb_t rfl) rfl fun _ h => ?_
      refine gk h rfl rfl (nb_t rfl) rfl fun _ h => ?_
      refine ga h (o_pickT rfl rfl rfl) rfl fun h => ?_
      refine GoR.done ?_
      exact J1 true _ _ (som H).symm (h.wr [0, 1])
     ·have H := ifF c5 H
      refine gg h rfl rfl (nbF c5) (o_move rfl) rfl fun _ _ _ h => ?_
      refine gg h rfl rfl (nbF c5) (o_bin rfl rfl rfl) rfl fun _ _ _ h => ?_
      refine ga h (o_pickF rfl rfl c5) rfl fun h => ?_
      refine mv h rfl rfl fun h => ?_
      by_cases c6 : decide (a4 < 0) = true
      ·have H := ifT c6 H
       refine gk h rfl rfl (nb_t c6) rfl fun _ h => ?_
       refine gk h rfl rfl (nb_t c6) rfl fun _ h => ?_
       refine ga h (o_pickT rfl rfl c6) rfl fun h => ?_
       refine mv h rfl rfl fun h => ?_
       refine gk h rfl rfl (nb_t rfl) rfl fun _ h => ?_
       refine gk h rfl rfl (nb_t rfl) rfl fun _ h => ?_
       refine ga h (o_pickT rfl rfl rfl) rfl fun h => ?_
       refine mv h rfl rfl fun h => ?_
       refine gk h rfl rfl (nb_t rfl) rfl fun _ h => ?_
       refine gk h rfl rfl (nb_t rfl) rfl fun _ h => ?_
       refine ga h (o_pickT rfl rfl rfl) rfl fun h => ?_
       refine GoR.done ?_
       exact J1 true _ _ (som H).symm (h.wr [0, 1])
      ·have H := ifF c6 H
       refine gg h rfl rfl (nbF c6) (o_move rfl) rfl fun _ _ _ h => ?_
       refine gg h rfl rfl (nbF c6) (o_bin rfl rfl rfl) rfl fun _ _ _ h => ?_
       refine ga h (o_pickF rfl rfl c6) rfl fun h => ?_
       refine mv h rfl rfl fun h => ?_
       by_cases c7 : decide (549755813888 < a4) = true
       ·have H := ifT c7 H
        refine gk h rfl rfl (nb_t c7) rfl fun _ h => ?_
        refine gk h rfl rfl (nb_t c7) rfl fun _ h => ?_
        refine ga h (o_pickT rfl rfl c7) rfl fun h => ?_
        refine mv h rfl rfl fun h => ?_
        refine gk h rfl rfl (nb_t rfl) rfl fun _ h => ?_
        refine gk h rfl rfl (nb_t rfl) rfl fun _ h => ?_
        refine ga h (o_pickT rfl rfl rfl) rfl fun h => ?_
        refine GoR.done ?_
        exact J1 true _ _ (som H).symm (h.wr [0, 1])
       ·have H := ifF c7 H
        refine gg h rfl rfl (nbF c7) (o_move rfl) rfl fun _ _ _ h => ?_
        refine gg h rfl rfl (nbF c7) (o_bin rfl rfl rfl) rfl fun _ _ _ h => ?_
        refine ga h (o_pickF rfl rfl c7) rfl fun h => ?_
        refine mv h rfl rfl fun h => ?_
        by_cases c8 : decide (a5 < 0) = true
        ·have H := ifT c8 H
         refine gk h rfl rfl (nb_t c8) rfl fun _ h => ?_
         refine gk h rfl rfl (nb_t c8) rfl fun _ h => ?_
         refine ga h (o_pickT rfl rfl c8) rfl fun h => ?_
         refine GoR.done ?_
         exact J1 true _ _ (som H).symm (h.wr [0, 1])
        ·have H := ifF c8 H
         refine gg h rfl rfl (nbF c8) (o_move rfl) rfl fun _ _ _ h => ?_
         refine gg h rfl rfl (nbF c8) (o_bin rfl rfl rfl) rfl fun _ _ _ h => ?_
         refine ga h (o_pickF rfl rfl c8) rfl fun h => ?_
         refine GoR.done ?_
         exact J1 (decide (7200 < a5)) _ _ (som H).symm (h.wr [0, 1])
def law25_LeaseEnds.g (k_ : Nat) (a1 : List Int) (a2 : List Int) (a3 : Int) (a4 : Int) (a5 : Int) : Option (Bool) :=
  ((if (!decide ((a1.length : Int) = 6)) = true then some (true) else (if (!decide ((a2.length : Int) = 6)) = true then some (true) else (ref01_Same.g k_ a1 a2).bind fun r1 => (if r1 = true then some (true) else (if decide (a3 < 0) = true then some (true) else (if decide (8 ≤ a3) = true then some (true) else (if decide (a4 < 0) = true then some (true) else (if decide (549755813888 < a4) = true then some (true) else (if decide (a5 < 0) = true then some (true) else some (decide (7200 < a5))))))))))).bind (fun j1 => (if j1 = true then (law25_heads.g k_).bind fun r2 => some (r2) else lt (IntKind.u32.wrap (IntKind.i64.wrap (167772687 + a3))) fun y1 => (lease_Serve.g k_ [] a4 (⟨1, 0, 0, 0, a1, 3, y1, 0, 0, 0, 0, 0⟩ : TDhcp)).bind fun r3 => (lease_Serve.g k_ r3.1 (IntKind.i64.wrap (a4 + a5)) (⟨1, 0, 0, 0, a2, 3, y1, 0, 0, 0, 0, 0⟩ : TDhcp)).bind fun r4 => ((if (!r3.2.2) = true then some (true) else (if (!r4.2.2) = true then some (true) else (if (!decide (r3.2.1.Type_ = 5)) = true then some (true) else (lease_Check.g k_ r4.1).bind fun r5 => some ((!r5)))))).bind (fun j2 => (if j2 = true then some (false) else (if decide (a5 < 3600) = true then ((if decide (r4.2.1.Type_ = 6) = true then (ref25_Same.g k_ r4.1 r3.1).bind fun r6 => (if r6 = true then (law25_heads.g k_).bind fun r7 => some (r7) else some (false)) else some (false))).bind (fun j3 => some (j3)) else (lease_Owner.g k_ r4.1 (IntKind.i64.wrap (a4 + a5)) y1).bind fun r8 => ((if decide (r4.2.1.Type_ = 5) = true then (if r8.2 = true then (ref01_Same.g k_ r8.1 a2).bind fun r9 => (if r9 = true then (if decide ((r4.1.length : Int) = 1) = true then (law25_heads.g k_).bind fun r10 => some (r10) else some (false)) else some (false)) else some (false)) else some (false))).bind (fun j4 => some (j4)))))))
theorem law25_LeaseEnds.le (k_ : Nat) (a1 : List Int) (a2 : List Int) (a3 : Int) (a4 : Int) (a5 : Int) : Le (law25_LeaseEnds.g k_ a1 a2 a3 a4 a5) (law25_LeaseEnds.f a1 a2 a3 a4 a5) := by
 unfold law25_LeaseEnds.g law25_LeaseEnds.f
 repeat' (first | with_reducible refine le_loop fun _ => ?_ | with_reducible refine le_bind ?_ fun _ => ?_ | with_reducible refine le_ite ?_ ?_ | with_reducible refine le_lt fun _ => ?_ | with_reducible refine le_elim (fun _ => ?_) (fun _ => ?_) _ | with_reducible apply law25_heads.le | with_reducible apply lease_Check.le | with_reducible apply lease_Owner.le | with_reducible apply lease_Serve.le | with_reducible apply ref01_Same.le | with_reducible apply ref25_Same.le | with_reducible exact le_refl _)
end Go.Proofs.Ytmmaojclfggioaa.S
