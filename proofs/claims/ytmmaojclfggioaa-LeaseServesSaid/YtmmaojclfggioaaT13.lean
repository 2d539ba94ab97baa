/- Contracts, printed by a program of this session. -/
import Derived.Test.YtmmaojclfggioaaT0
namespace Go.Proofs.Ytmmaojclfggioaa.S
open Go Go.SL Go.RowKit
set_option linter.unusedVariables false
set_option linter.unusedSimpArgs false
/-! drawbridge/drawbridgeref25.Same -/
noncomputable def ref25_Same.f (a1 : List TLease) (a2 : List TLease) : Option (Bool) :=
  (if (!decide ((a1.length : Int) = (a2.length : Int))) = true then some (false) else (loop (fun s1 => (if decide (s1 < (a1.length : Int)) = true then ((idx a1 s1).bind fun x1 => (idx a2 s1).bind fun x2 => (if (!decide (x1.Ip = x2.Ip)) = true then some (true) else (idx a1 s1).bind fun x3 => (idx a2 s1).bind fun x4 => (if (!decide (x3.Mac = x4.Mac)) = true then some (true) else (idx a1 s1).bind fun x5 => (idx a2 s1).bind fun x6 => some ((!decide (x5.Until = x6.Until)))))).bind (fun j1 => (if j1 = true then some (.inr (.inr (false))) else lt (IntKind.i64.wrap (s1 + 1)) fun y1 => some (.inl y1))) else some (.inr (.inl (()))))) 0).bind (Sum.elim (fun j2 => some (true)) (fun z_ => some (z_))))
set_option maxRecDepth 100000 in
set_option maxHeartbeats 4000000 in
theorem ref25_Same.spc (v1 : Value) (a1 : List TLease) (v2 : Value) (a2 : List TLease) (r : Bool) (H : ref25_Same.f a1 a2 = some r) : Spc Try.prog 11 [v1, v2] [Val (Kd.sl KLease) v1 a1, Val (Kd.sl KLease) v2 a2] [] (fun (s : Unit) => .bool r) (fun s => []) := by
 unfold ref25_Same.f at H
 refine Spc.go Try.func11 rfl (by kernel_rfl) rfl rfl (all_cons (Val.per Per_sl) (all_cons (Val.per Per_sl) all_nil)) fun F a w h => ?_
 refine Go.seq ?_
 refine Go.reg ?_
 refine ga h (o_assign rfl) rfl fun h => ?_
 refine GoR.done ?_
 refine Go.seq ?_
 refine Go.seq ?_
 refine Go.reg ?_
 refine mv h rfl rfl fun h => ?_
 have g1 := (len_at 0 rfl h.mem)
 refine ga h (o_ln rfl (rd_at 0 rfl) t_v26) rfl fun h => ?_
 refine mv h rfl rfl fun h => ?_
 have g2 := (len_at 1 rfl h.mem)
 refine ga h (o_ln rfl (rd_at 1 rfl) t_v26) rfl fun h => ?_
 refine ga h (o_bin rfl rfl rfl) rfl fun h => ?_
 refine GoR.done ?_
 by_cases c1 : (!decide ((a1.length : Int) = (a2.length : Int))) = true
 ·have H := ifT c1 H
  refine g_t h rfl c1 ?_
  refine Go.seq ?_
  refine Go.reg ?_
  refine ga h (o_assign rfl) rfl fun h => ?_
  refine GoR.done ?_
  rw [← som H]
  exact g_ret (vs := [.bool false]) h Try.func11 ⟨rfl, trivial⟩ ⟨(), rfl, (h.mem.pick [] (by decide) rfl)⟩
 ·have H := ifF c1 H
  refine g_f h rfl c1 ?_
  refine Go.skip ?_
  refine Go.seq ?_
  refine Go.seq ?_
  refine Go.reg ?_
  refine ga h (o_assign rfl) rfl fun h => ?_
  refine GoR.done ?_
  refine Go.block ?_
  obtain ⟨o1, hl, G1⟩ := bindE H
  refine g_cut (fun G => ∀ j2 (a : Act) (w : World), o1 = .inl (j2) → St Try.f11.ntmps F [] [] a w → G a w) 2 ?_ fun J2 => ?_
  ·intro j2 a w ho_ h
   rw [ho_] at G1
   have H := eInl G1
   refine Go.seq ?_
   refine Go.reg ?_
   refine ga h (o_assign rfl) rfl fun h => ?_
   refine GoR.done ?_
   rw [← som H]
   exact g_ret (vs := [.bool true]) h Try.func11 ⟨rfl, trivial⟩ ⟨(), rfl, (h.mem.pick [] (by decide) rfl)⟩
  refine g_loop (fun s1 G => ∀  (a : Act) (w : World), InR .i64 s1 → St Try.f11.ntmps F [(0, v1), (1, v2), (5, .int .i64 s1)] [Val (Kd.sl KLease) v1 a1, Val (Kd.sl KLease) v2 a2] a w → G a w) hl (fun s1 p1 H i1 => ?_) fun I_ => ?_
  ·intro  a w g3 h
   refine Go.seq ?_
   refine Go.seq ?_
   refine Go.reg ?_
   refine mv h rfl rfl fun h => ?_
   refine mv h rfl rfl fun h => ?_
   have g4 := (len_at 0 rfl h.mem)
   refine ga h (o_ln rfl (rd_at 0 rfl) t_v26) rfl fun h => ?_
   refine ga h (o_bin rfl rfl rfl) rfl fun h => ?_
   refine GoR.done ?_
   by_cases c2 : decide (s1 < (a1.length : Int)) = true
   ·have H := ifT c2 H
    refine g_t h rfl c2 ?_
    refine Go.skip ?_
    refine Go.seq ?_
    refine Go.block ?_
    refine Go.seq ?_
    replace h := h.wq [(0, v1), (1, v2), (5, .int .i64 s1)] [Val (Kd.sl KLease) v1 a1, Val (Kd.sl KLease) v2 a2] [0, 1]
    obtain ⟨o2, H, G2⟩ := bindE H
    refine g_cut (fun G => ∀ j1 (a : Act) (w : World), o2 = j1 → St Try.f11.ntmps F [(0, v1), (1, v2), (5, .int .i64 s1), (55, .bool j1)] [Val (Kd.sl KLease) v1 a1, Val (Kd.sl KLease) v2 a2] a w → G a w) 1 ?_ fun J1 => ?_
    ·intro j1 a w ho_ h
     rw [ho_] at G2
     have H := G2
     by_cases c5 : j1 = true
     ·have H := ifT c5 H
      refine g_t h rfl c5 ?_
      refine Go.seq ?_
      refine Go.reg ?_
      refine ga h (o_assign rfl) rfl fun h => ?_
      refine GoR.done ?_
      have e_ := som H; subst e_
      rw [← nx_out i1] at G1
      have H := G1
      rw [← som H]
      exact g_ret (vs := [.bool false]) h Try.func11 ⟨rfl, trivial⟩ ⟨(), rfl, (h.mem.pick [] (by decide) rfl)⟩
     ·have H := ifF c5 H
      refine g_f h rfl c5 ?_
      refine Go.skip ?_
      refine Go.inBlock ?_
      refine Go.reg ?_
      refine mv h rfl rfl fun h => ?_
      refine ga h (o_bin rfl rfl rfl) rfl fun h => ?_
      obtain ⟨y1, ey1, H⟩ := ltE H
      refine ga h (o_assign' rfl (congrArg (fun z => Value.int .i64 z) ey1)) rfl fun h => ?_
      refine GoR.done ?_
      have e_ := som H; subst e_
      exact Go.inLoop (nx_in i1 _ _ (ey1 ▸ (wrap_in _ _)) (h.wr [0, 1]))
    obtain ⟨x1, ex1, H⟩ := bindE H
    obtain ⟨x2, ex2, H⟩ := bindE H
    by_cases c3 : (!decide (x1.Ip = x2.Ip)) = true
    ·have H := ifT c3 H
     refine Go.draw (E := [(0, v1), (1, v2), (5, .int .i64 s1)]) [] (L := [Val (Kd.sl KLease) v1 a1, Val (Kd.sl KLease) v2 a2]) h rfl rfl 37 [cn (v1), cn (.int .i64 s1), ce [0, 1] (elemP v1 (s1.toNat * Kd.n KLease)), ce [0, 1, 2] (elemP v1 (s1.toNat * Kd.n KLease + 1)), cm [0, 1, 2, 3] [] [] (.int .u32 x1.Ip) fun u => [Ent.pur (InR .u32 x1.Ip)], cn (v2), cn (.int .i64 s1), ce [5, 6] (elemP v2 (s1.toNat * Kd.n KLease)), ce [5, 6, 7] (elemP v2 (s1.toNat * Kd.n KLease + 1)), cm [5, 6, 7, 8] [] [] (.int .u32 x2.Ip) fun u => [Ent.pur (InR .u32 x2.Ip)], ce [0, 1, 2, 3, 4, 5, 6, 7, 8, 9] (.bool (!decide (x1.Ip = x2.Ip))), ce [0, 1, 2, 3, 4, 5, 6, 7, 8, 9, 10] (.bool (!decide (x1.Ip = x2.Ip))), ⟨[11], [], [], true, .con undef, none, fun u => [], []⟩, ⟨[11], [], [], true, .con undef, none, fun u => [], []⟩, ⟨[11], [], [], true, .con undef, none, fun u => [], []⟩, ⟨[11], [], [], true, .con undef, none, fun u => [], []⟩, ⟨[11], [], [], true, .con undef, none, fun u => [], []⟩, ⟨[11], [], [], true, .con undef, none, fun u => [], []⟩, ⟨[11], [], [], true, .con undef, none, fun u => [], []⟩, ⟨[11], [], [], true, .con undef, none, fun u => [], []⟩, ⟨[11], [], [], true, .con undef, none, fun u => [], []⟩, ⟨[11], [], [], true, .con undef, none, fun u => [], []⟩, ⟨[11], [], [], true, .con undef, none, fun u => [], []⟩, ⟨[11], [], [], true, .con undef, none, fun u => [], []⟩, ⟨[11], [], [], true, .con undef, none, fun u => [], []⟩, ce [0, 1, 2, 3, 4, 5, 6, 7, 8, 9, 10, 11, 12, 13, 14, 15, 16, 17, 18, 19, 20, 21, 22, 23, 24] (.bool true), ce [0, 1, 2, 3, 4, 5, 6, 7, 8, 9, 10, 11, 12, 13, 14, 15, 16, 17, 18, 19, 20, 21, 22, 23, 24, 25] (.bool true), ⟨[26], [], [], true, .con undef, none, fun u => [], []⟩, ⟨[26], [], [], true, .con undef, none, fun u => [], []⟩, ⟨[26], [], [], true, .con undef, none, fun u => [], []⟩, ⟨[26], [], [], true, .con undef, none, fun u => [], []⟩, ⟨[26], [], [], true, .con undef, none, fun u => [], []⟩, ⟨[26], [], [], true, .con undef, none, fun u => [], []⟩, ⟨[26], [], [], true, .con undef, none, fun u => [], []⟩, ⟨[26], [], [], true, .con undef, none, fun u => [], []⟩, ⟨[26], [], [], true, .con undef, none, fun u => [], []⟩, ⟨[26], [], [], true, .con undef, none, fun u => [], []⟩] rfl t_mxo (by kernel_rfl) (by rfl) ?_ fun f1 _ _ h => ?_
     ·exact ox rfl (o_move rfl) (ox rfl (o_move rfl) (ox rfl (o_ix rfl rfl (rd_at 0 rfl) ex1 t_v26) (ox rfl (o_fae (k' := s1.toNat * Kd.n KLease + 1) rfl (rd_at 0 rfl) ex1 (by decide) t_f42_1 rfl rfl) (ox rfl (OpS.pur (fun F w m_ => (in1 (rd_sub sLease_Ip (rd_at 0 rfl) ex1 m_))) (o_lsx rfl (rd_at 0 rfl) ex1 sLease_Ip X_int t_y25 (by decide))) (ox rfl (o_move rfl) (ox rfl (o_move rfl) (ox rfl (o_ix rfl rfl (rd_at 1 rfl) ex2 t_v26) (ox rfl (o_fae (k' := s1.toNat * Kd.n KLease + 1) rfl (rd_at 1 rfl) ex2 (by decide) t_f42_1 rfl rfl) (ox rfl (OpS.pur (fun F w m_ => (in1 (rd_sub sLease_Ip (rd_at 1 rfl) ex2 m_))) (o_lsx rfl (rd_at 1 rfl) ex2 sLease_Ip X_int t_y25 (by decide))) (ox rfl (o_bin rfl rfl rfl) (ox rfl (o_move rfl) (oj rfl rfl (fun _ => rfl) (nb_t c3) (oj rfl rfl (fun _ => rfl) (nb_t c3) (oj rfl rfl (fun _ => rfl) (nb_t c3) (oj rfl rfl (fun _ => rfl) (nb_t c3) (oj rfl rfl (fun _ => rfl) (nb_t c3) (oj rfl rfl (fun _ => rfl) (nb_t c3) (oj rfl rfl (fun _ => rfl) (nb_t c3) (oj rfl rfl (fun _ => rfl) (nb_t c3) (oj rfl rfl (fun _ => rfl) (nb_t c3) (oj rfl rfl (fun _ => rfl) (nb_t c3) (oj rfl rfl (fun _ => rfl) (nb_t c3) (oj rfl rfl (fun _ => rfl) (nb_t c3) (oj rfl rfl (fun _ => rfl) (nb_t c3) (ox rfl (o_pickT rfl rfl c3) (ox rfl (o_move rfl) (oj rfl rfl (fun _ => rfl) (nb_t rfl) (oj rfl rfl (fun _ => rfl) (nb_t rfl) (oj rfl rfl (fun _ => rfl) (nb_t rfl) (oj rfl rfl (fun _ => rfl) (nb_t rfl) (oj rfl rfl (fun _ => rfl) (nb_t rfl) (oj rfl rfl (fun _ => rfl) (nb_t rfl) (oj rfl rfl (fun _ => rfl) (nb_t rfl) (oj rfl rfl (fun _ => rfl) (nb_t rfl) (oj rfl rfl (fun _ => rfl) (nb_t rfl) (oj rfl rfl (fun _ => rfl) (nb_t rfl) (obs_nil)))))))))))))))))))))))))))))))))))))
     replace h := h.wk (E' := [(0, v1), (1, v2), (5, .int .i64 s1), (43, .bool true)]) (L' := [Ent.pur (InR .u32 x1.Ip), Ent.pur (InR .u32 x2.Ip), Val (Kd.sl KLease) v1 a1, Val (Kd.sl KLease) v2 a2]) (by kernel_rfl) [0, 1, 2, 3] (by decide) (by kernel_rfl)
     refine gk h rfl rfl (nb_t rfl) rfl fun _ h => ?_
     refine ga h (o_pickT rfl rfl rfl) rfl fun h => ?_
     refine GoR.done ?_
     exact J1 true _ _ (som H).symm (h.wr [2, 3])
    ·have H := ifF c3 H
     obtain ⟨x3, ex3, H⟩ := bindE H
     obtain ⟨x4, ex4, H⟩ := bindE H
     by_cases c4 : (!decide (x3.Mac = x4.Mac)) = true
     ·have H := ifT c4 H
      refine Go.draw (E := [(0, v1), (1, v2), (5, .int .i64 s1)]) [] (L := [Val (Kd.sl KLease) v1 a1, Val (Kd.sl KLease) v2 a2]) h rfl rfl 37 [cn (v1), cn (.int .i64 s1), ce [0, 1] (elemP v1 (s1.toNat * Kd.n KLease)), ce [0, 1, 2] (elemP v1 (s1.toNat * Kd.n KLease + 1)), cm [0, 1, 2, 3] [] [] (.int .u32 x1.Ip) fun u => [Ent.pur (InR .u32 x1.Ip)], cn (v2), cn (.int .i64 s1), ce [5, 6] (elemP v2 (s1.toNat * Kd.n KLease)), ce [5, 6, 7] (elemP v2 (s1.toNat * Kd.n KLease + 1)), cm [5, 6, 7, 8] [] [] (.int .u32 x2.Ip) fun u => [Ent.pur (InR .u32 x2.Ip)], ce [0, 1, 2, 3, 4, 5, 6, 7, 8, 9] (.bool (!decide (x1.Ip = x2.Ip))), ce [0, 1, 2, 3, 4, 5, 6, 7, 8, 9, 10] (.bool (!decide (x1.Ip = x2.Ip))), ce [0, 1, 2, 3, 4, 5, 6, 7, 8, 9, 10, 11] (v1), ce [0, 1, 2, 3, 4, 5, 6, 7, 8, 9, 10, 11] (.int .i64 s1), ce [0, 1, 2, 3, 4, 5, 6, 7, 8, 9, 10, 11, 12, 13] (elemP v1 (s1.toNat * Kd.n KLease)), ce [0, 1, 2, 3, 4, 5, 6, 7, 8, 9, 10, 11, 12, 13, 14] (elemP v1 (s1.toNat * Kd.n KLease + 0)), cw [0, 1, 2, 3, 4, 5, 6, 7, 8, 9, 10, 11, 12, 13, 14, 15] [] [] fun u => [Val (Kd.sl (Kd.int .u8)) u x3.Mac], cm [0, 1, 2, 3, 4, 5, 6, 7, 8, 9, 10, 11, 12, 13, 14, 15, 16] [16] [] (.string (mkS x3.Mac)) fun u => [], ce [0, 1, 2, 3, 4, 5, 6, 7, 8, 9, 10, 11] (v2), ce [0, 1, 2, 3, 4, 5, 6, 7, 8, 9, 10, 11] (.int .i64 s1), ce [0, 1, 2, 3, 4, 5, 6, 7, 8, 9, 10, 11, 18, 19] (elemP v2 (s1.toNat * Kd.n KLease)), ce [0, 1, 2, 3, 4, 5, 6, 7, 8, 9, 10, 11, 18, 19, 20] (elemP v2 (s1.toNat * Kd.n KLease + 0)), cw [0, 1, 2, 3, 4, 5, 6, 7, 8, 9, 10, 11, 18, 19, 20, 21] [] [] fun u => [Val (Kd.sl (Kd.int .u8)) u x4.Mac], cm [0, 1, 2, 3, 4, 5, 6, 7, 8, 9, 10, 11, 18, 19, 20, 21, 22] [22] [] (.string (mkS x4.Mac)) fun u => [], cm [0, 1, 2, 3, 4, 5, 6, 7, 8, 9, 10, 11, 12, 13, 14, 15, 16, 17, 18, 19, 20, 21, 22, 23] [16, 22] [] (.bool (!decide (x3.Mac = x4.Mac))) fun u => [], ce [0, 1, 2, 3, 4, 5, 6, 7, 8, 9, 10, 11, 12, 13, 14, 15, 16, 17, 18, 19, 20, 21, 22, 23, 24] (.bool (!decide (x3.Mac = x4.Mac))), ce [0, 1, 2, 3, 4, 5, 6, 7, 8, 9, 10, 11, 12, 13, 14, 15, 16, 17, 18, 19, 20, 21, 22, 23, 24, 25] (.bool (!decide (x3.Mac = x4.Mac))), ⟨[26], [], [], true, .con undef, none, fun u => [], []⟩, ⟨[26], [], [], true, .con undef, none, fun u => [], []⟩, ⟨[26], [], [], true, .con undef, none, fun u => [], []⟩, ⟨[26], [], [], true, .con undef, none, fun u => [], []⟩, ⟨[26], [], [], true, .con undef, none, fun u => [], []⟩, ⟨[26], [], [], true, .con undef, none, fun u => [], []⟩, ⟨[26], [], [], true, .con undef, none, fun u => [], []⟩, ⟨[26], [], [], true, .con undef, none, fun u => [], []⟩, ⟨[26], [], [], true, .con undef, none, fun u => [], []⟩, ⟨[26], [], [], true, .con undef, none, fun u => [], []⟩] rfl t_mxo (by kernel_rfl) (by rfl) ?_ fun f1 _ _ h => ?_
      ·exact ox rfl (o_move rfl) (ox rfl (o_move rfl) (ox rfl (o_ix rfl rfl (rd_at 0 rfl) ex1 t_v26) (ox rfl (o_fae (k' := s1.toNat * Kd.n KLease + 1) rfl (rd_at 0 rfl) ex1 (by decide) t_f42_1 rfl rfl) (ox rfl (OpS.pur (fun F w m_ => (in1 (rd_sub sLease_Ip (rd_at 0 rfl) ex1 m_))) (o_lsx rfl (rd_at 0 rfl) ex1 sLease_Ip X_int t_y25 (by decide))) (ox rfl (o_move rfl) (ox rfl (o_move rfl) (ox rfl (o_ix rfl rfl (rd_at 1 rfl) ex2 t_v26) (ox rfl (o_fae (k' := s1.toNat * Kd.n KLease + 1) rfl (rd_at 1 rfl) ex2 (by decide) t_f42_1 rfl rfl) (ox rfl (OpS.pur (fun F w m_ => (in1 (rd_sub sLease_Ip (rd_at 1 rfl) ex2 m_))) (o_lsx rfl (rd_at 1 rfl) ex2 sLease_Ip X_int t_y25 (by decide))) (ox rfl (o_bin rfl rfl rfl) (ox rfl (o_move rfl) (og rfl rfl (fun _ => rfl) (nbF c3) (o_move rfl) (og rfl rfl (fun _ => rfl) (nbF c3) (o_move rfl) (og rfl rfl (fun _ => rfl) (nbF c3) (o_ix rfl rfl (rd_at 0 rfl) ex3 t_v26) (og rfl rfl (fun _ => rfl) (nbF c3) (o_fae (k' := s1.toNat * Kd.n KLease + 0) rfl (rd_at 0 rfl) ex3 (by decide) t_f42_0 rfl rfl) (obs_cons (ob_own rfl (gok_some rfl rfl rfl (fun _ => rfl) (nbF c3)) rfl fun f1 => (o_lsv rfl (rd_at 0 rfl) ex3 sLease_Mac t_y22 (by decide))) (og rfl rfl (fun _ => rfl) (nbF c3) (o_b2s rfl (rd_at 0 rfl) t_u22 t_u5 t_u9) (og rfl rfl (fun _ => rfl) (nbF c3) (o_move rfl) (og rfl rfl (fun _ => rfl) (nbF c3) (o_move rfl) (og rfl rfl (fun _ => rfl) (nbF c3) (o_ix rfl rfl (rd_at 1 rfl) ex4 t_v26) (og rfl rfl (fun _ => rfl) (nbF c3) (o_fae (k' := s1.toNat * Kd.n KLease + 0) rfl (rd_at 1 rfl) ex4 (by decide) t_f42_0 rfl rfl) (obs_cons (ob_own rfl (gok_some rfl rfl rfl (fun _ => rfl) (nbF c3)) rfl fun f1 => (o_lsv rfl (rd_at 1 rfl) ex4 sLease_Mac t_y22 (by decide))) (og rfl rfl (fun _ => rfl) (nbF c3) (o_b2s rfl (rd_at 0 rfl) t_u22 t_u5 t_u9) (og rfl rfl (fun _ => rfl) (nbF c3) (OpS.fact (p := Bs x3.Mac) (fun F w m_ => (rd_bs (rd_at 0 rfl) m_)) fun g5 => (OpS.fact (p := Bs x4.Mac) (fun F w m_ => (rd_bs (rd_at 1 rfl) m_)) fun g6 => (o_nes rfl rfl g5 g6))) (ox rfl (o_pickF rfl rfl c3) (ox rfl (o_move rfl) (oj rfl rfl (fun _ => rfl) (nb_t c4) (oj rfl rfl (fun _ => rfl) (nb_t c4) (oj rfl rfl (fun _ => rfl) (nb_t c4) (oj rfl rfl (fun _ => rfl) (nb_t c4) (oj rfl rfl (fun _ => rfl) (nb_t c4) (oj rfl rfl (fun _ => rfl) (nb_t c4) (oj rfl rfl (fun _ => rfl) (nb_t c4) (oj rfl rfl (fun _ => rfl) (nb_t c4) (oj rfl rfl (fun _ => rfl) (nb_t c4) (oj rfl rfl (fun _ => rfl) (nb_t c4) (obs_nil)))))))))))))))))))))))))))))))))))))
      replace h := h.wk (E' := [(0, v1), (1, v2), (5, .int .i64 s1), (43, .bool (!decide (x3.Mac = x4.Mac)))]) (L' := [Ent.pur (InR .u32 x1.Ip), Ent.pur (InR .u32 x2.Ip), Val (Kd.sl (Kd.int .u8)) (f1 16) x3.Mac, Val (Kd.sl (Kd.int .u8)) (f1 22) x4.Mac, Val (Kd.sl KLease) v1 a1, Val (Kd.sl KLease) v2 a2]) (by kernel_rfl) [0, 1, 2, 3, 4, 5] (by decide) (by kernel_rfl)
      refine gk h rfl rfl (nb_t c4) rfl fun _ h => ?_
      refine ga h (o_pickT rfl rfl c4) rfl fun h => ?_
      refine GoR.done ?_
      exact J1 true _ _ (som H).symm (h.wr [4, 5])
     ·have H := ifF c4 H
      obtain ⟨x5, ex5, H⟩ := bindE H
      obtain ⟨x6, ex6, H⟩ := bindE H
      refine Go.draw (E := [(0, v1), (1, v2), (5, .int .i64 s1)]) [] (L := [Val (Kd.sl KLease) v1 a1, Val (Kd.sl KLease) v2 a2]) h rfl rfl 37 [cn (v1), cn (.int .i64 s1), ce [0, 1] (elemP v1 (s1.toNat * Kd.n KLease)), ce [0, 1, 2] (elemP v1 (s1.toNat * Kd.n KLease + 1)), cm [0, 1, 2, 3] [] [] (.int .u32 x1.Ip) fun u => [Ent.pur (InR .u32 x1.Ip)], cn (v2), cn (.int .i64 s1), ce [5, 6] (elemP v2 (s1.toNat * Kd.n KLease)), ce [5, 6, 7] (elemP v2 (s1.toNat * Kd.n KLease + 1)), cm [5, 6, 7, 8] [] [] (.int .u32 x2.Ip) fun u => [Ent.pur (InR .u32 x2.Ip)], ce [0, 1, 2, 3, 4, 5, 6, 7, 8, 9] (.bool (!decide (x1.Ip = x2.Ip))), ce [0, 1, 2, 3, 4, 5, 6, 7, 8, 9, 10] (.bool (!decide (x1.Ip = x2.Ip))), ce [0, 1, 2, 3, 4, 5, 6, 7, 8, 9, 10, 11] (v1), ce [0, 1, 2, 3, 4, 5, 6, 7, 8, 9, 10, 11] (.int .i64 s1), ce [0, 1, 2, 3, 4, 5, 6, 7, 8, 9, 10, 11, 12, 13] (elemP v1 (s1.toNat * Kd.n KLease)), ce [0, 1, 2, 3, 4, 5, 6, 7, 8, 9, 10, 11, 12, 13, 14] (elemP v1 (s1.toNat * Kd.n KLease + 0)), cw [0, 1, 2, 3, 4, 5, 6, 7, 8, 9, 10, 11, 12, 13, 14, 15] [] [] fun u => [Val (Kd.sl (Kd.int .u8)) u x3.Mac], cm [0, 1, 2, 3, 4, 5, 6, 7, 8, 9, 10, 11, 12, 13, 14, 15, 16] [16] [] (.string (mkS x3.Mac)) fun u => [], ce [0, 1, 2, 3, 4, 5, 6, 7, 8, 9, 10, 11] (v2), ce [0, 1, 2, 3, 4, 5, 6, 7, 8, 9, 10, 11] (.int .i64 s1), ce [0, 1, 2, 3, 4, 5, 6, 7, 8, 9, 10, 11, 18, 19] (elemP v2 (s1.toNat * Kd.n KLease)), ce [0, 1, 2, 3, 4, 5, 6, 7, 8, 9, 10, 11, 18, 19, 20] (elemP v2 (s1.toNat * Kd.n KLease + 0)), cw [0, 1, 2, 3, 4, 5, 6, 7, 8, 9, 10, 11, 18, 19, 20, 21] [] [] fun u => [Val (Kd.sl (Kd.int .u8)) u x4.Mac], cm [0, 1, 2, 3, 4, 5, 6, 7, 8, 9, 10, 11, 18, 19, 20, 21, 22] [22] [] (.string (mkS x4.Mac)) fun u => [], cm [0, 1, 2, 3, 4, 5, 6, 7, 8, 9, 10, 11, 12, 13, 14, 15, 16, 17, 18, 19, 20, 21, 22, 23] [16, 22] [] (.bool (!decide (x3.Mac = x4.Mac))) fun u => [], ce [0, 1, 2, 3, 4, 5, 6, 7, 8, 9, 10, 11, 12, 13, 14, 15, 16, 17, 18, 19, 20, 21, 22, 23, 24] (.bool (!decide (x3.Mac = x4.Mac))), ce [0, 1, 2, 3, 4, 5, 6, 7, 8, 9, 10, 11, 12, 13, 14, 15, 16, 17, 18, 19, 20, 21, 22, 23, 24, 25] (.bool (!decide (x3.Mac = x4.Mac))), ce [0, 1, 2, 3, 4, 5, 6, 7, 8, 9, 10, 11, 12, 13, 14, 15, 16, 17, 18, 19, 20, 21, 22, 23, 24, 25, 26] (v1), ce [0, 1, 2, 3, 4, 5, 6, 7, 8, 9, 10, 11, 12, 13, 14, 15, 16, 17, 18, 19, 20, 21, 22, 23, 24, 25, 26] (.int .i64 s1), ce [0, 1, 2, 3, 4, 5, 6, 7, 8, 9, 10, 11, 12, 13, 14, 15, 16, 17, 18, 19, 20, 21, 22, 23, 24, 25, 26, 27, 28] (elemP v1 (s1.toNat * Kd.n KLease)), ce [0, 1, 2, 3, 4, 5, 6, 7, 8, 9, 10, 11, 12, 13, 14, 15, 16, 17, 18, 19, 20, 21, 22, 23, 24, 25, 26, 27, 28, 29] (elemP v1 (s1.toNat * Kd.n KLease + 2)), cm [0, 1, 2, 3, 4, 5, 6, 7, 8, 9, 10, 11, 12, 13, 14, 15, 16, 17, 18, 19, 20, 21, 22, 23, 24, 25, 26, 27, 28, 29, 30] [] [] (.int .i64 x5.Until) fun u => [Ent.pur (InR .i64 x5.Until)], ce [0, 1, 2, 3, 4, 5, 6, 7, 8, 9, 10, 11, 12, 13, 14, 15, 16, 17, 18, 19, 20, 21, 22, 23, 24, 25, 26] (v2), ce [0, 1, 2, 3, 4, 5, 6, 7, 8, 9, 10, 11, 12, 13, 14, 15, 16, 17, 18, 19, 20, 21, 22, 23, 24, 25, 26] (.int .i64 s1), ce [0, 1, 2, 3, 4, 5, 6, 7, 8, 9, 10, 11, 12, 13, 14, 15, 16, 17, 18, 19, 20, 21, 22, 23, 24, 25, 26, 32, 33] (elemP v2 (s1.toNat * Kd.n KLease)), ce [0, 1, 2, 3, 4, 5, 6, 7, 8, 9, 10, 11, 12, 13, 14, 15, 16, 17, 18, 19, 20, 21, 22, 23, 24, 25, 26, 32, 33, 34] (elemP v2 (s1.toNat * Kd.n KLease + 2)), cm [0, 1, 2, 3, 4, 5, 6, 7, 8, 9, 10, 11, 12, 13, 14, 15, 16, 17, 18, 19, 20, 21, 22, 23, 24, 25, 26, 32, 33, 34, 35] [] [] (.int .i64 x6.Until) fun u => [Ent.pur (InR .i64 x6.Until)]] rfl t_mxo (by kernel_rfl) (by rfl) ?_ fun f1 _ _ h => ?_
      ·exact ox rfl (o_move rfl) (ox rfl (o_move rfl) (ox rfl (o_ix rfl rfl (rd_at 0 rfl) ex1 t_v26) (ox rfl (o_fae (k' := s1.toNat * Kd.n KLease + 1) rfl (rd_at 0 rfl) ex1 (by decide) t_f42_1 rfl rfl) (ox rfl (OpS.pur (fun F w m_ => (in1 (rd_sub sLease_Ip (rd_at 0 rfl) ex1 m_))) (o_lsx rfl (rd_at 0 rfl) ex1 sLease_Ip X_int t_y25 (by decide))) (ox rfl (o_move rfl) (ox rfl (o_move rfl) (ox rfl (o_ix rfl rfl (rd_at 1 rfl) ex2 t_v26) (ox rfl (o_fae (k' := s1.toNat * Kd.n KLease + 1) rfl (rd_at 1 rfl) ex2 (by decide) t_f42_1 rfl rfl) (ox rfl (OpS.pur (fun F w m_ => (in1 (rd_sub sLease_Ip (rd_at 1 rfl) ex2 m_))) (o_lsx rfl (rd_at 1 rfl) ex2 sLease_Ip X_int t_y25 (by decide))) (ox rfl (o_bin rfl rfl rfl) (ox rfl (o_move rfl) (og rfl rfl (fun _ => rfl) (nbF c3) (o_move rfl) (og rfl rfl (fun _ => rfl) (nbF c3) (o_move rfl) (og rfl rfl (fun _ => rfl) (nbF c3) (o_ix rfl rfl (rd_at 0 rfl) ex3 t_v26) (og rfl rfl (fun _ => rfl) (nbF c3) (o_fae (k' := s1.toNat * Kd.n KLease + 0) rfl (rd_at 0 rfl) ex3 (by decide) t_f42_0 rfl rfl) (obs_cons (ob_own rfl (gok_some rfl rfl rfl (fun _ => rfl) (nbF c3)) rfl fun f1 => (o_lsv rfl (rd_at 0 rfl) ex3 sLease_Mac t_y22 (by decide))) (og rfl rfl (fun _ => rfl) (nbF c3) (o_b2s rfl (rd_at 0 rfl) t_u22 t_u5 t_u9) (og rfl rfl (fun _ => rfl) (nbF c3) (o_move rfl) (og rfl rfl (fun _ => rfl) (nbF c3) (o_move rfl) (og rfl rfl (fun _ => rfl) (nbF c3) (o_ix rfl rfl (rd_at 1 rfl) ex4 t_v26) (og rfl rfl (fun _ => rfl) (nbF c3) (o_fae (k' := s1.toNat * Kd.n KLease + 0) rfl (rd_at 1 rfl) ex4 (by decide) t_f42_0 rfl rfl) (obs_cons (ob_own rfl (gok_some rfl rfl rfl (fun _ => rfl) (nbF c3)) rfl fun f1 => (o_lsv rfl (rd_at 1 rfl) ex4 sLease_Mac t_y22 (by decide))) (og rfl rfl (fun _ => rfl) (nbF c3) (o_b2s rfl (rd_at 0 rfl) t_u22 t_u5 t_u9) (og rfl rfl (fun _ => rfl) (nbF c3) (OpS.fact (p := Bs x3.Mac) (fun F w m_ => (rd_bs (rd_at 0 rfl) m_)) fun g5 => (OpS.fact (p := Bs x4.Mac) (fun F w m_ => (rd_bs (rd_at 1 rfl) m_)) fun g6 => (o_nes rfl rfl g5 g6))) (ox rfl (o_pickF rfl rfl c3) (ox rfl (o_move rfl) (og rfl rfl (fun _ => rfl) (nbF c4) (o_move rfl) (og rfl rfl (fun _ => rfl) (nbF c4) (o_move rfl) (og rfl rfl (fun _ => rfl) (nbF c4) (o_ix rfl rfl (rd_at 0 rfl) ex5 t_v26) (og rfl rfl (fun _ => rfl) (nbF c4) (o_fae (k' := s1.toNat * Kd.n KLease + 2) rfl (rd_at 0 rfl) ex5 (by decide) t_f42_2 rfl rfl) (og rfl rfl (fun _ => rfl) (nbF c4) (OpS.pur (fun F w m_ => (in1 (rd_sub sLease_Until (rd_at 0 rfl) ex5 m_))) (o_lsx rfl (rd_at 0 rfl) ex5 sLease_Until X_int t_y3 (by decide))) (og rfl rfl (fun _ => rfl) (nbF c4) (o_move rfl) (og rfl rfl (fun _ => rfl) (nbF c4) (o_move rfl) (og rfl rfl (fun _ => rfl) (nbF c4) (o_ix rfl rfl (rd_at 1 rfl) ex6 t_v26) (og rfl rfl (fun _ => rfl) (nbF c4) (o_fae (k' := s1.toNat * Kd.n KLease + 2) rfl (rd_at 1 rfl) ex6 (by decide) t_f42_2 rfl rfl) (og rfl rfl (fun _ => rfl) (nbF c4) (OpS.pur (fun F w m_ => (in1 (rd_sub sLease_Until (rd_at 1 rfl) ex6 m_))) (o_lsx rfl (rd_at 1 rfl) ex6 sLease_Until X_int t_y3 (by decide))) (obs_nil)))))))))))))))))))))))))))))))))))))
      replace h := h.wk (E' := [(0, v1), (1, v2), (5, .int .i64 s1), (43, .bool (!decide (x3.Mac = x4.Mac))), (48, .int .i64 x5.Until), (53, .int .i64 x6.Until)]) (L' := [Ent.pur (InR .u32 x1.Ip), Ent.pur (InR .u32 x2.Ip), Val (Kd.sl (Kd.int .u8)) (f1 16) x3.Mac, Val (Kd.sl (Kd.int .u8)) (f1 22) x4.Mac, Ent.pur (InR .i64 x5.Until), Ent.pur (InR .i64 x6.Until), Val (Kd.sl KLease) v1 a1, Val (Kd.sl KLease) v2 a2]) (by kernel_rfl) [0, 1, 2, 3, 4, 5, 6, 7] (by decide) (by kernel_rfl)
      have g7 := (Mem.pur 4 rfl h.mem)
      have g8 := (Mem.pur 5 rfl h.mem)
      refine gg h rfl rfl (nbF c4) (o_bin rfl rfl rfl) rfl fun _ _ _ h => ?_
      refine ga h (o_pickF rfl rfl c4) rfl fun h => ?_
      refine GoR.done ?_
      exact J1 (!decide (x5.Until = x6.Until)) _ _ (som H).symm (h.wr [6, 7])
   ·have H := ifF c2 H
    refine g_f h rfl c2 ?_
    refine Go.exit rfl ?_
    have e_ := som H; subst e_
    exact J2 () _ _ (nx_out i1).symm (h.wr [])
  ·exact I_ _ _ (show InR .i64 0 by decide) (h.wr [0, 1])
def ref25_Same.g (k_ : Nat) (a1 : List TLease) (a2 : List TLease) : Option (Bool) :=
  (if (!decide ((a1.length : Int) = (a2.length : Int))) = true then some (false) else (loopK k_ (fun s1 => (if decide (s1 < (a1.length : Int)) = true then ((idx a1 s1).bind fun x1 => (idx a2 s1).bind fun x2 => (if (!decide (x1.Ip = x2.Ip)) = true then some (true) else (idx a1 s1).bind fun x3 => (idx a2 s1).bind fun x4 => (if (!decide (x3.Mac = x4.Mac)) = true then some (true) else (idx a1 s1).bind fun x5 => (idx a2 s1).bind fun x6 => some ((!decide (x5.Until = x6.Until)))))).bind (fun j1 => (if j1 = true then some (.inr (.inr (false))) else lt (IntKind.i64.wrap (s1 + 1)) fun y1 => some (.inl y1))) else some (.inr (.inl (()))))) 0).bind (Sum.elim (fun j2 => some (true)) (fun z_ => some (z_))))
theorem ref25_Same.le (k_ : Nat) (a1 : List TLease) (a2 : List TLease) : Le (ref25_Same.g k_ a1 a2) (ref25_Same.f a1 a2) := by
 unfold ref25_Same.g ref25_Same.f
 repeat' (first | with_reducible refine le_loop fun _ => ?_ | with_reducible refine le_bind ?_ fun _ => ?_ | with_reducible refine le_ite ?_ ?_ | with_reducible refine le_lt fun _ => ?_ | with_reducible refine le_elim (fun _ => ?_) (fun _ => ?_) _ | with_reducible exact le_refl _)
/-! drawbridge/drawbridgeref20.Same -/
noncomputable def ref20_Same.f (a1 : TDhcp) (a2 : TDhcp) : Option (Bool) :=
  ((if (!decide (a1.Op = a2.Op)) = true then some (true) else (if (!decide (a1.Xid = a2.Xid)) = true then some (true) else (if (!decide (a1.Ci = a2.Ci)) = true then some (true) else (if (!decide (a1.Yi = a2.Yi)) = true then some (true) else (if (!decide (a1.Mac = a2.Mac)) = true then some (true) else some ((!decide (a1.Type_ = a2.Type_))))))))).bind (fun j1 => (if j1 = true then some (false) else ((if decide (a1.Want = a2.Want) = true then (if decide (a1.Server = a2.Server) = true then (if decide (a1.Lease = a2.Lease) = true then (if decide (a1.Mask = a2.Mask) = true then (if decide (a1.Router = a2.Router) = true then lt (decide (a1.Dns = a2.Dns)) fun y1 => some (y1) else some (false)) else some (false)) else some (false)) else some (false)) else some (false))).bind (fun j2 => some (j2))))
set_option maxRecDepth 100000 in
set_option maxHeartbeats 4000000 in
theorem ref20_Same.spc (v1 : Value) (a1 : TDhcp) (v2 : Value) (a2 : TDhcp) (r : Bool) (H : ref20_Same.f a1 a2 = some r) : Spc Try.prog 17 [v1, v2] [Val KDhcp v1 a1, Val KDhcp v2 a2] [] (fun (s : Unit) => .bool r) (fun s => []) := by
 unfold ref20_Same.f at H
 refine Spc.go Try.func17 rfl (by kernel_rfl) rfl rfl (all_cons (Val.per PDhcp) (all_cons (Val.per PDhcp) all_nil)) fun F a w h => ?_
 refine Go.seq ?_
 refine Go.reg ?_
 refine gs h (o_box (K := KDhcp) rfl (pv_at PDhcp 0 rfl)) rfl fun b1 _ _ h => ?_
 refine gs h (o_box (K := KDhcp) rfl (pv_at PDhcp 2 rfl)) rfl fun b2 _ _ h => ?_
 refine ga h (o_assign rfl) rfl fun h => ?_
 refine GoR.done ?_
 refine Go.seq ?_
 refine Go.seq ?_
 obtain ⟨o1, H, G1⟩ := bindE H
 refine g_cut (fun G => ∀ j1 (a : Act) (w : World), o1 = j1 → St Try.f17.ntmps F [(2, pt b1), (3, pt b2), (46, .bool j1)] [Fld KDhcp b2 0 a2, Fld KDhcp b1 0 a1] a w → G a w) 1 ?_ fun J1 => ?_
 ·intro j1 a w ho_ h
  rw [ho_] at G1
  have H := G1
  by_cases c6 : j1 = true
  ·have H := ifT c6 H
   refine g_t h rfl c6 ?_
   refine Go.seq ?_
   refine Go.reg ?_
   refine ga h (o_assign rfl) rfl fun h => ?_
   refine GoR.done ?_
   rw [← som H]
   exact g_ret (vs := [.bool false]) h Try.func17 ⟨rfl, trivial⟩ ⟨(), rfl, (h.mem.pick [] (by decide) rfl)⟩
  ·have H := ifF c6 H
   refine g_f h rfl c6 ?_
   refine Go.skip ?_
   refine Go.seq ?_
   obtain ⟨o2, H, G2⟩ := bindE H
   refine g_cut (fun G => ∀ j2 (a : Act) (w : World), o2 = j2 → St Try.f17.ntmps F [(4, .bool j2)] [Fld KDhcp b2 0 a2, Fld KDhcp b1 0 a1] a w → G a w) 1 ?_ fun J2 => ?_
   ·intro j2 a w ho_ h
    rw [ho_] at G2
    have H := G2
    rw [← som H]
    exact g_ret (vs := [.bool j2]) h Try.func17 ⟨rfl, trivial⟩ ⟨(), rfl, (h.mem.pick [] (by decide) rfl)⟩
   refine Go.reg ?_
   refine ga h (o_fa rfl t_f28_6 rfl rfl) rfl fun h => ?_
   have g13 := (in2 (fd_sub sDhcp_Want 1 rfl h.mem))
   refine ga h (o_lfx 1 rfl rfl sDhcp_Want rfl X_int t_y25) rfl fun h => ?_
   refine ga h (o_fa rfl t_f28_6 rfl rfl) rfl fun h => ?_
   have g14 := (in2 (fd_sub sDhcp_Want 0 rfl h.mem))
   refine ga h (o_lfx 0 rfl rfl sDhcp_Want rfl X_int t_y25) rfl fun h => ?_
   refine ga h (o_bin rfl rfl rfl) rfl fun h => ?_
   refine mv h rfl rfl fun h => ?_
   by_cases c7 : decide (a1.Want = a2.Want) = true
   ·have H := ifT c7 H
    refine gg h rfl rfl c7 (o_fa rfl t_f28_7 rfl rfl) rfl fun _ _ _ h => ?_
    have g15 := (in2 (fd_sub sDhcp_Server 1 rfl h.mem))
    refine gg h rfl rfl c7 (o_lfx 1 rfl rfl sDhcp_Server rfl X_int t_y25) rfl fun _ _ _ h => ?_
    refine gg h rfl rfl c7 (o_fa rfl t_f28_7 rfl rfl) rfl fun _ _ _ h => ?_
    have g16 := (in2 (fd_sub sDhcp_Server 0 rfl h.mem))
    refine gg h rfl rfl c7 (o_lfx 0 rfl rfl sDhcp_Server rfl X_int t_y25) rfl fun _ _ _ h => ?_
    refine gg h rfl rfl c7 (o_bin rfl rfl rfl) rfl fun _ _ _ h => ?_
    refine ga h (o_pickT rfl rfl c7) rfl fun h => ?_
    refine mv h rfl rfl fun h => ?_
    by_cases c8 : decide (a1.Server = a2.Server) = true
    ·have H := ifT c8 H
     refine gg h rfl rfl c8 (o_fa rfl t_f28_8 rfl rfl) rfl fun _ _ _ h => ?_
     have g17 := (in2 (fd_sub sDhcp_Lease 1 rfl h.mem))
     refine gg h rfl rfl c8 (o_lfx 1 rfl rfl sDhcp_Lease rfl X_int t_y25) rfl fun _ _ _ h => ?_
     refine gg h rfl rfl c8 (o_fa rfl t_f28_8 rfl rfl) rfl fun _ _ _ h => ?_
     have g18 := (in2 (fd_sub sDhcp_Lease 0 rfl h.mem))
     refine gg h rfl rfl c8 (o_lfx 0 rfl rfl sDhcp_Lease rfl X_int t_y25) rfl fun _ _ _ h => ?_
     refine gg h rfl rfl c8 (o_bin rfl rfl rfl) rfl fun _ _ _ h => ?_
     refine ga h (o_pickT rfl rfl c8) rfl fun h => ?_
     refine mv h rfl rfl fun h => ?_
     by_cases c9 : decide (a1.Lease = a2.Lease) = true
     ·have H := ifT c9 H
      refine gg h rfl rfl c9 (o_fa rfl t_f28_9 rfl rfl) rfl fun _ _ _ h => ?_
      have g19 := (in2 (fd_sub sDhcp_Mask 1 rfl h.mem))
      refine gg h rfl rfl c9 (o_lfx 1 rfl rfl sDhcp_Mask rfl X_int t_y25) rfl fun _ _ _ h => ?_
      refine gg h rfl rfl c9 (o_fa rfl t_f28_9 rfl rfl) rfl fun _ _ _ h => ?_
      have g20 := (in2 (fd_sub sDhcp_Mask 0 rfl h.mem))
      refine gg h rfl rfl c9 (o_lfx 0 rfl rfl sDhcp_Mask rfl X_int t_y25) rfl fun _ _ _ h => ?_
      refine gg h rfl rfl c9 (o_bin rfl rfl rfl) rfl fun _ _ _ h => ?_
      refine ga h (o_pickT rfl rfl c9) rfl fun h => ?_
      refine mv h rfl rfl fun h => ?_
      by_cases c10 : decide (a1.Mask = a2.Mask) = true
      ·have H := ifT c10 H
       refine gg h rfl rfl c10 (o_fa rfl t_f28_10 rfl rfl) rfl fun _ _ _ h => ?_
       have g21 := (in2 (fd_sub sDhcp_Router 1 rfl h.mem))
       refine gg h rfl rfl c10 (o_lfx 1 rfl rfl sDhcp_Router rfl X_int t_y25) rfl fun _ _ _ h => ?_
       refine gg h rfl rfl c10 (o_fa rfl t_f28_10 rfl rfl) rfl fun _ _ _ h => ?_
       have g22 := (in2 (fd_sub sDhcp_Router 0 rfl h.mem))
       refine gg h rfl rfl c10 (o_lfx 0 rfl rfl sDhcp_Router rfl X_int t_y25) rfl fun _ _ _ h => ?_
       refine gg h rfl rfl c10 (o_bin rfl rfl rfl) rfl fun _ _ _ h => ?_
       refine ga h (o_pickT rfl rfl c10) rfl fun h => ?_
       refine mv h rfl rfl fun h => ?_
       by_cases c11 : decide (a1.Router = a2.Router) = true
       ·have H := ifT c11 H
        refine gg h rfl rfl c11 (o_fa rfl t_f28_11 rfl rfl) rfl fun _ _ _ h => ?_
        have g23 := (in2 (fd_sub sDhcp_Dns 1 rfl h.mem))
        refine gg h rfl rfl c11 (o_lfx 1 rfl rfl sDhcp_Dns rfl X_int t_y25) rfl fun _ _ _ h => ?_
        refine gg h rfl rfl c11 (o_fa rfl t_f28_11 rfl rfl) rfl fun _ _ _ h => ?_
        have g24 := (in2 (fd_sub sDhcp_Dns 0 rfl h.mem))
        refine gg h rfl rfl c11 (o_lfx 0 rfl rfl sDhcp_Dns rfl X_int t_y25) rfl fun _ _ _ h => ?_
        refine gg h rfl rfl c11 (o_bin rfl rfl rfl) rfl fun _ _ _ h => ?_
        refine ga h (o_pickT rfl rfl c11) rfl fun h => ?_
        obtain ⟨y1, ey1, H⟩ := ltE H
        refine ga h (o_assign' rfl (congrArg Value.bool ey1)) rfl fun h => ?_
        refine GoR.done ?_
        exact J2 y1 _ _ (som H).symm (h.wr [0, 1])
       ·have H := ifF c11 H
        iterate 5 (refine gk h rfl rfl (nb_f c11) rfl fun _ h => ?_)
        refine ga h (o_pickF rfl rfl c11) rfl fun h => ?_
        refine ga h (o_assign rfl) rfl fun h => ?_
        refine GoR.done ?_
        exact J2 false _ _ (som H).symm (h.wr [0, 1])
      ·have H := ifF c10 H
       iterate 5 (refine gk h rfl rfl (nb_f c10) rfl fun _ h => ?_)
       refine ga h (o_pickF rfl rfl c10) rfl fun h => ?_
       refine mv h rfl rfl fun h => ?_
       iterate 5 (refine gk h rfl rfl (nb_f Bool.false_ne_true) rfl fun _ h => ?_)
       refine ga h (o_pickF rfl rfl Bool.false_ne_true) rfl fun h => ?_
       refine ga h (o_assign rfl) rfl fun h => ?_
       refine GoR.done ?_
       exact J2 false _ _ (som H).symm (h.wr [0, 1])
     ·have H := ifF c9 H
      iterate 5 (refine gk h rfl rfl (nb_f c9) rfl fun _ h => ?_)
      refine ga h (o_pickF rfl rfl c9) rfl fun h => ?_
      refine mv h rfl rfl fun h => ?_
      iterate 5 (refine gk h rfl rfl (nb_f Bool.false_ne_true) rfl fun _ h => ?_)
      refine ga h (o_pickF rfl rfl Bool.false_ne_true) rfl fun h => ?_
      refine mv h rfl rfl fun h => ?_
      iterate 5 (refine gk h rfl rfl (nb_f Bool.false_ne_true) rfl fun _ h => ?_)
      refine ga h (o_pickF rfl rfl Bool.false_ne_true) rfl fun h => ?_
      refine ga h (o_assign rfl) rfl fun h => ?_
      refine GoR.done ?_
      exact J2 false _ _ (som H).symm (h.wr [0, 1])
    ·have H := ifF c8 H
     iterate 5 (refine gk h rfl rfl (nb_f c8) rfl fun _ h => ?_)
     refine ga h (o_pickF rfl rfl c8) rfl fun h => ?_
     refine mv h rfl rfl fun h => ?_
     iterate 5 (refine gk h rfl rfl (nb_f Bool.false_ne_true) rfl fun _ h => ?_)
     refine ga h (o_pickF rfl rfl Bool.false_ne_true) rfl fun h => ?_
     refine mv h rfl rfl fun h => ?_
     iterate 5 (refine gk h rfl rfl (nb_f Bool.false_ne_true) rfl fun _ h => ?_)
     refine ga h (o_pickF rfl rfl Bool.false_ne_true) rfl fun h => ?_
     refine mv h rfl rfl fun h => ?_
     iterate 5 (refine gk h rfl rfl (nb_f Bool.false_ne_true) rfl fun _ h => ?_)
     refine ga h (o_pickF rfl rfl Bool.false_ne_true) rfl fun h => ?_
     refine ga h (o_assign rfl) rfl fun h => ?_
     refine GoR.done ?_
     exact J2 false _ _ (som H).symm (h.wr [0, 1])
   ·have H := ifF c7 H
    iterate 5 (refine gk h rfl rfl (nb_f c7) rfl fun _ h => ?_)
    refine ga h (o_pickF rfl rfl c7) rfl fun h => ?_
    refine mv h rfl rfl fun h => ?_
    iterate 5 (refine gk h rfl rfl (nb_f Bool.false_ne_true) rfl fun _ h => ?_)
    refine ga h (o_pickF rfl rfl Bool.false_ne_true) rfl fun h => ?_
    refine mv h rfl rfl fun h => ?_
    iterate 5 (refine gk h rfl rfl (nb_f Bool.false_ne_true) rfl fun _ h => ?_)
    refine ga h (o_pickF rfl rfl Bool.false_ne_true) rfl fun h => ?_
    refine mv h rfl rfl fun h => ?_
    iterate 5 (refine gk h rfl rfl (nb_f Bool.false_ne_true) rfl fun _ h => ?_)
    refine ga h (o_pickF rfl rfl Bool.false_ne_true) rfl fun h => ?_
    refine mv h rfl rfl fun h => ?_
    iterate 5 (refine gk h rfl rfl (nb_f Bool.false_ne_true) rfl fun _ h => ?_)
    refine ga h (o_pickF rfl rfl Bool.false_ne_true) rfl fun h => ?_
    refine ga h (o_assign rfl) rfl fun h => ?_
    refine GoR.done ?_
    exact J2 false _ _ (som H).symm (h.wr [0, 1])
 refine Go.reg ?_
 refine ga h (o_fa rfl t_f28_0 rfl rfl) rfl fun h => ?_
 have g1 := (in2 (fd_sub sDhcp_Op 1 rfl h.mem))
 refine ga h (o_lfx 1 rfl rfl sDhcp_Op rfl X_int t_y3) rfl fun h => ?_
 refine ga h (o_fa rfl t_f28_0 rfl rfl) rfl fun h => ?_
 have g2 := (in2 (fd_sub sDhcp_Op 0 rfl h.mem))
 refine ga h (o_lfx 0 rfl rfl sDhcp_Op rfl X_int t_y3) rfl fun h => ?_
 refine ga h (o_bin rfl rfl rfl) rfl fun h => ?_
 refine mv h rfl rfl fun h => ?_
 by_cases c1 : (!decide (a1.Op = a2.Op)) = true
 ·have H := ifT c1 H
  iterate 5 (refine gk h rfl rfl (nb_t c1) rfl fun _ h => ?_)
  refine ga h (o_pickT rfl rfl c1) rfl fun h => ?_
  refine mv h rfl rfl fun h => ?_
  iterate 5 (refine gk h rfl rfl (nb_t rfl) rfl fun _ h => ?_)
  refine ga h (o_pickT rfl rfl rfl) rfl fun h => ?_
  refine mv h rfl rfl fun h => ?_
  iterate 5 (refine gk h rfl rfl (nb_t rfl) rfl fun _ h => ?_)
  refine ga h (o_pickT rfl rfl rfl) rfl fun h => ?_
  refine mv h rfl rfl fun h => ?_
  iterate 7 (refine gk h rfl rfl (nb_t rfl) rfl fun _ h => ?_)
  refine ga h (o_pickT rfl rfl rfl) rfl fun h => ?_
  refine mv h rfl rfl fun h => ?_
  iterate 5 (refine gk h rfl rfl (nb_t rfl) rfl fun _ h => ?_)
  refine ga h (o_pickT rfl rfl rfl) rfl fun h => ?_
  refine GoR.done ?_
  exact J1 true _ _ (som H).symm (h.wr [0, 1])
 ·have H := ifF c1 H
  refine gg h rfl rfl (nbF c1) (o_fa rfl t_f28_1 rfl rfl) rfl fun _ _ _ h => ?_
  have g3 := (in2 (fd_sub sDhcp_Xid 1 rfl h.mem))
  refine gg h rfl rfl (nbF c1) (o_lfx 1 rfl rfl sDhcp_Xid rfl X_int t_y25) rfl fun _ _ _ h => ?_
  refine gg h rfl rfl (nbF c1) (o_fa rfl t_f28_1 rfl rfl) rfl fun _ _ _ h => ?_
  have g4 := (in2 (fd_sub sDhcp_Xid 0 rfl h.mem))
  refine gg h rfl rfl (nbF c1) (o_lfx 0 rfl rfl sDhcp_Xid rfl X_int t_y25) rfl fun _ _ _ h => ?_
  refine gg h rfl rfl (nbF c1) (o_bin rfl rfl rfl) rfl fun _ _ _ h => ?_
  refine ga h (o_pickF rfl rfl c1) rfl fun h => ?_
  refine mv h rfl rfl fun h => ?_
  by_cases c2 : (!decide (a1.Xid = a2.Xid)) = true
  ·have H := ifT c2 H
   iterate 5 (refine gk h rfl rfl (nb_t c2) rfl fun _ h => ?_)
   refine ga h (o_pickT rfl rfl c2) rfl fun h => ?_
   refine mv h rfl rfl fun h => ?_
   iterate 5 (refine gk h rfl rfl (nb_t rfl) rfl fun _ h => ?_)
   refine ga h (o_pickT rfl rfl rfl) rfl fun h => ?_
   refine mv h rfl rfl fun h => ?_
   iterate 7 (refine gk h rfl rfl (nb_t rfl) rfl fun _ h => ?_)
   refine ga h (o_pickT rfl rfl rfl) rfl fun h => ?_
   refine mv h rfl rfl fun h => ?_
   iterate 5 (refine gk h rfl rfl (nb_t rfl) rfl fun _ h => ?_)
   refine ga h (o_pickT rfl rfl rfl) rfl fun h => ?_
   refine GoR.done ?_
   exact J1 true _ _ (som H).symm (h.wr [0, 1])
  ·have H := ifF c2 H
   refine gg h rfl rfl (nbF c2) (o_fa rfl t_f28_2 rfl rfl) rfl fun _ _ _ h => ?_
   have g5 := (in2 (fd_sub sDhcp_Ci 1 rfl h.mem))
   refine gg h rfl rfl (nbF c2) (o_lfx 1 rfl rfl sDhcp_Ci rfl X_int t_y25) rfl fun _ _ _ h => ?_
   refine gg h rfl rfl (nbF c2) (o_fa rfl t_f28_2 rfl rfl) rfl fun _ _ _ h => ?_
   have g6 := (in2 (fd_sub sDhcp_Ci 0 rfl h.mem))
   refine gg h rfl rfl (nbF c2) (o_lfx 0 rfl rfl sDhcp_Ci rfl X_int t_y25) rfl fun _ _ _ h => ?_
   refine gg h rfl rfl (nbF c2) (o_bin rfl rfl rfl) rfl fun _ _ _ h => ?_
   refine ga h (o_pickF rfl rfl c2) rfl fun h => ?_
   refine mv h rfl rfl fun h => ?_
   by_cases c3 : (!decide (a1.Ci = a2.Ci)) = true
   ·have H := ifT c3 H
    iterate 5 (refine gk h rfl rfl (nb_t c3) rfl fun _ h => ?_)
    refine ga h (o_pickT rfl rfl c3) rfl fun h => ?_
    refine mv h rfl rfl fun h => ?_
    iterate 7 (refine gk h rfl rfl (nb_t rfl) rfl fun _ h => ?_)
    refine ga h (o_pickT rfl rfl rfl) rfl fun h => ?_
    refine mv h rfl rfl fun h => ?_
    iterate 5 (refine gk h rfl rfl (nb_t rfl) rfl fun _ h => ?_)
    refine ga h (o_pickT rfl rfl rfl) rfl fun h => ?_
    refine GoR.done ?_
    exact J1 true _ _ (som H).symm (h.wr [0, 1])
   ·have H := ifF c3 H
    refine gg h rfl rfl (nbF c3) (o_fa rfl t_f28_3 rfl rfl) rfl fun _ _ _ h => ?_
    have g7 := (in2 (fd_sub sDhcp_Yi 1 rfl h.mem))
    refine gg h rfl rfl (nbF c3) (o_lfx 1 rfl rfl sDhcp_Yi rfl X_int t_y25) rfl fun _ _ _ h => ?_
    refine gg h rfl rfl (nbF c3) (o_fa rfl t_f28_3 rfl rfl) rfl fun _ _ _ h => ?_
    have g8 := (in2 (fd_sub sDhcp_Yi 0 rfl h.mem))
    refine gg h rfl rfl (nbF c3) (o_lfx 0 rfl rfl sDhcp_Yi rfl X_int t_y25) rfl fun _ _ _ h => ?_
    refine gg h rfl rfl (nbF c3) (o_bin rfl rfl rfl) rfl fun _ _ _ h => ?_
    refine ga h (o_pickF rfl rfl c3) rfl fun h => ?_
    refine mv h rfl rfl fun h => ?_
    by_cases c4 : (!decide (a1.Yi = a2.Yi)) = true
    ·have H := ifT c4 H
     iterate 7 (refine gk h rfl rfl (nb_t c4) rfl fun _ h => ?_)
     refine ga h (o_pickT rfl rfl c4) rfl fun h => ?_
     refine mv h rfl rfl fun h => ?_
     iterate 5 (refine gk h rfl rfl (nb_t rfl) rfl fun _ h => ?_)
     refine ga h (o_pickT rfl rfl rfl) rfl fun h => ?_
     refine GoR.done ?_
     exact J1 true _ _ (som H).symm (h.wr [0, 1])
    ·have H := ifF c4 H
     refine gg h rfl rfl (nbF c4) (o_fa rfl t_f28_4 rfl rfl) rfl fun _ _ _ h => ?_
     refine gg h rfl rfl (nbF c4) (o_lfv 1 rfl rfl sDhcp_Mac rfl Per_sl t_y22) rfl fun v3 _ _ h => ?_
     have g9 := (rd_bs (rd_at 0 rfl) h.mem)
     refine gg h rfl rfl (nbF c4) (o_b2s rfl (rd_at 0 rfl) t_u22 t_u5 t_u9) rfl fun _ _ _ h => ?_
     refine gg h rfl rfl (nbF c4) (o_fa rfl t_f28_4 rfl rfl) rfl fun _ _ _ h => ?_
     refine gg h rfl rfl (nbF c4) (o_lfv 1 rfl rfl sDhcp_Mac rfl Per_sl t_y22) rfl fun v4 _ _ h => ?_
     have g10 := (rd_bs (rd_at 0 rfl) h.mem)
     refine gg h rfl rfl (nbF c4) (o_b2s rfl (rd_at 0 rfl) t_u22 t_u5 t_u9) rfl fun _ _ _ h => ?_
     refine gg h rfl rfl (nbF c4) (o_nes rfl rfl g9 g10) rfl fun _ _ _ h => ?_
     refine ga h (o_pickF rfl rfl c4) rfl fun h => ?_
     refine mv h rfl rfl fun h => ?_
     by_cases c5 : (!decide (a1.Mac = a2.Mac)) = true
     ·have H := ifT c5 H
      iterate 5 (refine gk h rfl rfl (nb_t c5) rfl fun _ h => ?_)
      refine ga h (o_pickT rfl rfl c5) rfl fun h => ?_
      refine GoR.done ?_
      exact J1 true _ _ (som H).symm (h.wr [2, 3])
     ·have H := ifF c5 H
      refine gg h rfl rfl (nbF c5) (o_fa rfl t_f28_5 rfl rfl) rfl fun _ _ _ h => ?_
      have g11 := (in2 (fd_sub sDhcp_Type_ 3 rfl h.mem))
      refine gg h rfl rfl (nbF c5) (o_lfx 3 rfl rfl sDhcp_Type_ rfl X_int t_y3) rfl fun _ _ _ h => ?_
      refine gg h rfl rfl (nbF c5) (o_fa rfl t_f28_5 rfl rfl) rfl fun _ _ _ h => ?_
      have g12 := (in2 (fd_sub sDhcp_Type_ 2 rfl h.mem))
      refine gg h rfl rfl (nbF c5) (o_lfx 2 rfl rfl sDhcp_Type_ rfl X_int t_y3) rfl fun _ _ _ h => ?_
      refine gg h rfl rfl (nbF c5) (o_bin rfl rfl rfl) rfl fun _ _ _ h => ?_
      refine ga h (o_pickF rfl rfl c5) rfl fun h => ?_
      refine GoR.done ?_
      exact J1 (!decide (a1.Type_ = a2.Type_)) _ _ (som H).symm (h.wr [2, 3])
def ref20_Same.g (k_ : Nat) (a1 : TDhcp) (a2 : TDhcp) : Option (Bool) :=
  ((if (!decide (a1.Op = a2.Op)) = true then some (true) else (if (!decide (a1.Xid = a2.Xid)) = true then some (true) else (if (!decide (a1.Ci = a2.Ci)) = true then some (true) else (if (!decide (a1.Yi = a2.Yi)) = true then some (true) else (if (!decide (a1.Mac = a2.Mac)) = true then some (true) else some ((!decide (a1.Type_ = a2.Type_))))))))).bind (fun j1 => (if j1 = true then some (false) else ((if decide (a1.Want = a2.Want) = true then (if decide (a1.Server = a2.Server) = true then (if decide (a1.Lease = a2.Lease) = true then (if decide (a1.Mask = a2.Mask) = true then (if decide (a1.Router = a2.Router) = true then lt (decide (a1.Dns = a2.Dns)) fun y1 => some (y1) else some (false)) else some (false)) else some (false)) else some (false)) else some (false))).bind (fun j2 => some (j2))))
theorem ref20_Same.le (k_ : Nat) (a1 : TDhcp) (a2 : TDhcp) : Le (ref20_Same.g k_ a1 a2) (ref20_Same.f a1 a2) := by
 unfold ref20_Same.g ref20_Same.f
 repeat' (first | with_reducible refine le_loop fun _ => ?_ | with_reducible refine le_bind ?_ fun _ => ?_ | with_reducible refine le_ite ?_ ?_ | with_reducible refine le_lt fun _ => ?_ | with_reducible refine le_elim (fun _ => ?_) (fun _ => ?_) _ | with_reducible exact le_refl _)
end Go.Proofs.Ytmmaojclfggioaa.S
