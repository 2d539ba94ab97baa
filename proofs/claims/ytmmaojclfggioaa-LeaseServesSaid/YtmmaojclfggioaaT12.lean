/- Contracts, printed by a program of this session. -/
import Derived.Test.YtmmaojclfggioaaT9
import Derived.Test.YtmmaojclfggioaaT10
import Derived.Test.YtmmaojclfggioaaT11
namespace Go.Proofs.Ytmmaojclfggioaa.S
open Go Go.SL Go.RowKit
set_option linter.unusedVariables false
set_option linter.unusedSimpArgs false
/-! drawbridge/drawbridgeref25.without -/
noncomputable def ref25_without.f (a1 : List TLease) (a2 : List Int) (a3 : Int) : Option ((List TLease)) :=
  (loop (fun s1 => (if decide (s1.2 < (a1.length : Int)) = true then ((((idx a1 s1.2).bind fun x1 => (if (!decide (x1.Ip = a3)) = true then some (true) else (idx a1 s1.2).bind fun x2 => some ((!decide (x2.Mac = a2))))).bind (fun j1 => (if j1 = true then (idx a1 s1.2).bind fun x3 => (app s1.1 ([x3] : List TLease)).bind fun x4 => some (x4) else some (s1.1)))).bind (fun j2 => some (j2))).bind (fun j3 => lt (IntKind.i64.wrap (s1.2 + 1)) fun y1 => some (.inl (j3, y1))) else some (.inr (s1.1)))) (([] : List TLease), 0)).bind (fun j4 => some (j4))
set_option maxRecDepth 100000 in
set_option maxHeartbeats 4000000 in
theorem ref25_without.spc (v1 : Value) (a1 : List TLease) (v2 : Value) (a2 : List Int) (a3 : Int) (ha3 : InR .u32 a3) (r : (List TLease)) (H : ref25_without.f a1 a2 a3 = some r) : Spc Try.prog 36 [v1, v2, .int .u32 a3] [Val (Kd.sl KLease) v1 a1, Val (Kd.sl (Kd.int .u8)) v2 a2] [] (fun (s : Value) => s) (fun s => [Val (Kd.osl KLease) s r]) := by
 unfold ref25_without.f at H
 refine Spc.go Try.func36 rfl (by kernel_rfl) rfl rfl (all_cons (Val.per Per_sl) (all_cons (Val.per Per_sl) all_nil)) fun F a w h => ?_
 refine Go.seq ?_
 refine Go.reg ?_
 refine ga h (o_assign rfl) rfl fun h => ?_
 refine GoR.done ?_
 refine Go.seq ?_
 refine Go.reg ?_
 refine ga h (o_assign rfl) rfl fun h => ?_
 refine GoR.done ?_
 refine Go.seq ?_
 refine Go.seq ?_
 refine Go.reg ?_
 refine ga h (o_assign rfl) rfl fun h => ?_
 refine GoR.done ?_
 refine Go.block ?_
 obtain ⟨o1, hl, G1⟩ := bindE H
 refine g_cut (fun G => ∀ j4 (v10 : Value) (a : Act) (w : World), o1 = j4 → St Try.f36.ntmps F [(7, v10)] [Val (Kd.osl KLease) v10 j4] a w → G a w) 2 ?_ fun J4 => ?_
 ·intro j4 v10 a w ho_ h
  rw [ho_] at G1
  have H := G1
  refine Go.seq ?_
  refine Go.reg ?_
  refine mv h rfl rfl fun h => ?_
  refine ga h (o_assign rfl) rfl fun h => ?_
  refine GoR.done ?_
  rw [← som H]
  exact g_ret (vs := [v10]) h Try.func36 ⟨rfl, trivial⟩ ⟨v10, rfl, (h.mem.pick [0] (by decide) rfl)⟩
 refine g_loop (fun s1 G => ∀ (v3 : Value) (a : Act) (w : World), InR .i64 s1.2 → St Try.f36.ntmps F [(0, v1), (1, v2), (2, .int .u32 a3), (7, v3), (8, .int .i64 s1.2)] [Val (Kd.sl KLease) v1 a1, Val (Kd.sl (Kd.int .u8)) v2 a2, Val (Kd.osl KLease) v3 s1.1] a w → G a w) hl (fun s1 p1 H i1 => ?_) fun I_ => ?_
 ·intro v3 a w g1 h
  refine Go.seq ?_
  refine Go.seq ?_
  refine Go.reg ?_
  refine mv h rfl rfl fun h => ?_
  refine mv h rfl rfl fun h => ?_
  have g2 := (len_at 0 rfl h.mem)
  refine ga h (o_ln rfl (rd_at 0 rfl) t_v26) rfl fun h => ?_
  refine ga h (o_bin rfl rfl rfl) rfl fun h => ?_
  refine GoR.done ?_
  by_cases c1 : decide (s1.2 < (a1.length : Int)) = true
  ·have H := ifT c1 H
   refine g_t h rfl c1 ?_
   refine Go.skip ?_
   refine Go.seq ?_
   obtain ⟨o2, H, G2⟩ := bindE H
   refine g_cut (fun G => ∀ j3 (v9 : Value) (a : Act) (w : World), o2 = j3 → St Try.f36.ntmps F [(0, v1), (1, v2), (2, .int .u32 a3), (7, v9), (8, .int .i64 s1.2)] [Val (Kd.sl KLease) v1 a1, Val (Kd.sl (Kd.int .u8)) v2 a2, Val (Kd.osl KLease) v9 j3] a w → G a w) 1 ?_ fun J3 => ?_
   ·intro j3 v9 a w ho_ h
    rw [ho_] at G2
    have H := G2
    refine Go.reg ?_
    refine mv h rfl rfl fun h => ?_
    refine ga h (o_bin rfl rfl rfl) rfl fun h => ?_
    obtain ⟨y1, ey1, H⟩ := ltE H
    refine ga h (o_assign' rfl (congrArg (fun z => Value.int .i64 z) ey1)) rfl fun h => ?_
    refine GoR.done ?_
    have e_ := som H; subst e_
    exact Go.inLoop (nx_in i1 v9 _ _ (ey1 ▸ (wrap_in _ _)) (h.wr [0, 1, 2]))
   refine Go.block ?_
   obtain ⟨o3, H, G3⟩ := bindE H
   refine g_cut (fun G => ∀ j2 (v8 : Value) (a : Act) (w : World), o3 = j2 → St Try.f36.ntmps F [(0, v1), (1, v2), (2, .int .u32 a3), (7, v8), (8, .int .i64 s1.2)] [Val (Kd.sl KLease) v1 a1, Val (Kd.sl (Kd.int .u8)) v2 a2, Val (Kd.osl KLease) v8 j2] a w → G a w) 2 ?_ fun J2 => ?_
   ·intro j2 v8 a w ho_ h
    rw [ho_] at G3
    have H := G3
    exact J3 j2 v8 _ _ (som H).symm (h.wr [0, 1, 2])
   refine Go.seq ?_
   replace h := h.wq [(0, v1), (1, v2), (2, .int .u32 a3), (7, v3), (8, .int .i64 s1.2)] [Val (Kd.sl KLease) v1 a1, Val (Kd.sl (Kd.int .u8)) v2 a2, Val (Kd.osl KLease) v3 s1.1] [0, 1, 2]
   obtain ⟨o4, H, G4⟩ := bindE H
   refine g_cut (fun G => ∀ j1 (a : Act) (w : World), o4 = j1 → St Try.f36.ntmps F [(0, v1), (1, v2), (2, .int .u32 a3), (7, v3), (8, .int .i64 s1.2), (32, .bool j1)] [Val (Kd.sl KLease) v1 a1, Val (Kd.sl (Kd.int .u8)) v2 a2, Val (Kd.osl KLease) v3 s1.1] a w → G a w) 1 ?_ fun J1 => ?_
   ·intro j1 a w ho_ h
    rw [ho_] at G4
    have H := G4
    by_cases c3 : j1 = true
    ·have H := ifT c3 H
     refine g_t h rfl c3 ?_
     refine Go.reg ?_
     iterate 3 (refine ga h (o_move rfl) rfl fun h => ?_)
     obtain ⟨x3, ex3, H⟩ := bindE H
     refine ga h (o_ix rfl rfl (rd_at 0 rfl) ex3 t_v26) rfl fun h => ?_
     refine gs h (o_lev rfl (rd_at 0 rfl) ex3 t_y42 (by decide)) rfl fun v5 _ _ h => ?_
     refine gs h (o_bs (K := KLease) (vs := [v5]) (xs := ([x3] : List TLease)) rfl rfl (pvs_cons (pv_at PLease 0 rfl) pvs_nil) t_a26 (by decide) (by decide)) rfl fun v6 _ _ h => ?_
     obtain ⟨x4, ex4, H⟩ := bindE H
     refine gs h (o_app (K := KLease) 4 rfl rfl rfl (rd_own 0 rfl) ex4 t_a26 t_n26) rfl fun v7 _ _ h => ?_
     refine ga h (o_assign rfl) rfl fun h => ?_
     refine GoR.done ?_
     refine Go.inBlock ?_
     exact J2 x4 v7 _ _ (som H).symm (h.wr [2, 3, 4])
    ·have H := ifF c3 H
     refine g_f h rfl c3 ?_
     refine Go.skip ?_
     refine Go.inBlock ?_
     exact J2 s1.1 v3 _ _ (som H).symm (h.wr [0, 1, 2])
   obtain ⟨x1, ex1, H⟩ := bindE H
   by_cases c2 : (!decide (x1.Ip = a3)) = true
   ·have H := ifT c2 H
    refine Go.draw (E := [(0, v1), (1, v2), (2, .int .u32 a3), (7, v3), (8, .int .i64 s1.2)]) [] (L := [Val (Kd.sl KLease) v1 a1, Val (Kd.sl (Kd.int .u8)) v2 a2, Val (Kd.osl KLease) v3 s1.1]) h rfl rfl 16 [cn (v1), cn (.int .i64 s1.2), ce [0, 1] (elemP v1 (s1.2.toNat * Kd.n KLease)), ce [0, 1, 2] (elemP v1 (s1.2.toNat * Kd.n KLease + 1)), cm [0, 1, 2, 3] [] [] (.int .u32 x1.Ip) fun u => [Ent.pur (InR .u32 x1.Ip)], cn (.int .u32 a3), ce [0, 1, 2, 3, 4, 5] (.bool (!decide (x1.Ip = a3))), ce [0, 1, 2, 3, 4, 5, 6] (.bool (!decide (x1.Ip = a3))), ⟨[7], [], [], true, .con undef, none, fun u => [], []⟩, ⟨[7], [], [], true, .con undef, none, fun u => [], []⟩, ⟨[7], [], [], true, .con undef, none, fun u => [], []⟩, ⟨[7], [], [], true, .con undef, none, fun u => [], []⟩, ⟨[7], [], [], true, .con undef, none, fun u => [], []⟩, ⟨[7], [], [], true, .con undef, none, fun u => [], []⟩, ⟨[7], [], [], true, .con undef, none, fun u => [], []⟩, ⟨[7], [], [], true, .con undef, none, fun u => [], []⟩] rfl t_mxo (by kernel_rfl) (by rfl) ?_ fun f1 _ _ h => ?_
    ·exact ox rfl (o_move rfl) (ox rfl (o_move rfl) (ox rfl (o_ix rfl rfl (rd_at 0 rfl) ex1 t_v26) (ox rfl (o_fae (k' := s1.2.toNat * Kd.n KLease + 1) rfl (rd_at 0 rfl) ex1 (by decide) t_f42_1 rfl rfl) (ox rfl (OpS.pur (fun F w m_ => (in1 (rd_sub sLease_Ip (rd_at 0 rfl) ex1 m_))) (o_lsx rfl (rd_at 0 rfl) ex1 sLease_Ip X_int t_y25 (by decide))) (ox rfl (o_move rfl) (ox rfl (o_bin rfl rfl rfl) (ox rfl (o_move rfl) (oj rfl rfl (fun _ => rfl) (nb_t c2) (oj rfl rfl (fun _ => rfl) (nb_t c2) (oj rfl rfl (fun _ => rfl) (nb_t c2) (oj rfl rfl (fun _ => rfl) (nb_t c2) (oj rfl rfl (fun _ => rfl) (nb_t c2) (oj rfl rfl (fun _ => rfl) (nb_t c2) (oj rfl rfl (fun _ => rfl) (nb_t c2) (oj rfl rfl (fun _ => rfl) (nb_t c2) (obs_nil))))))))))))))))
    replace h := h.wk (E' := [(0, v1), (1, v2), (2, .int .u32 a3), (7, v3), (8, .int .i64 s1.2), (22, .bool (!decide (x1.Ip = a3)))]) (L' := [Ent.pur (InR .u32 x1.Ip), Val (Kd.sl KLease) v1 a1, Val (Kd.sl (Kd.int .u8)) v2 a2, Val (Kd.osl KLease) v3 s1.1]) (by kernel_rfl) [0, 1, 2, 3] (by decide) (by kernel_rfl)
    refine gk h rfl rfl (nb_t c2) rfl fun _ h => ?_
    refine ga h (o_pickT rfl rfl c2) rfl fun h => ?_
    refine GoR.done ?_
    exact J1 true _ _ (som H).symm (h.wr [1, 2, 3])
   ·have H := ifF c2 H
    obtain ⟨x2, ex2, H⟩ := bindE H
    refine Go.draw (E := [(0, v1), (1, v2), (2, .int .u32 a3), (7, v3), (8, .int .i64 s1.2)]) [] (L := [Val (Kd.sl KLease) v1 a1, Val (Kd.sl (Kd.int .u8)) v2 a2, Val (Kd.osl KLease) v3 s1.1]) h rfl rfl 16 [cn (v1), cn (.int .i64 s1.2), ce [0, 1] (elemP v1 (s1.2.toNat * Kd.n KLease)), ce [0, 1, 2] (elemP v1 (s1.2.toNat * Kd.n KLease + 1)), cm [0, 1, 2, 3] [] [] (.int .u32 x1.Ip) fun u => [Ent.pur (InR .u32 x1.Ip)], cn (.int .u32 a3), ce [0, 1, 2, 3, 4, 5] (.bool (!decide (x1.Ip = a3))), ce [0, 1, 2, 3, 4, 5, 6] (.bool (!decide (x1.Ip = a3))), ce [0, 1, 2, 3, 4, 5, 6, 7] (v1), ce [0, 1, 2, 3, 4, 5, 6, 7] (.int .i64 s1.2), ce [0, 1, 2, 3, 4, 5, 6, 7, 8, 9] (elemP v1 (s1.2.toNat * Kd.n KLease)), ce [0, 1, 2, 3, 4, 5, 6, 7, 8, 9, 10] (elemP v1 (s1.2.toNat * Kd.n KLease + 0)), cw [0, 1, 2, 3, 4, 5, 6, 7, 8, 9, 10, 11] [] [] fun u => [Val (Kd.sl (Kd.int .u8)) u x2.Mac], cm [0, 1, 2, 3, 4, 5, 6, 7, 8, 9, 10, 11, 12] [12] [] (.string (mkS x2.Mac)) fun u => [], ce [0, 1, 2, 3, 4, 5, 6, 7] (v2), ce [0, 1, 2, 3, 4, 5, 6, 7, 14] (.string (mkS a2))] rfl t_mxo (by kernel_rfl) (by rfl) ?_ fun f1 _ _ h => ?_
    ·exact ox rfl (o_move rfl) (ox rfl (o_move rfl) (ox rfl (o_ix rfl rfl (rd_at 0 rfl) ex1 t_v26) (ox rfl (o_fae (k' := s1.2.toNat * Kd.n KLease + 1) rfl (rd_at 0 rfl) ex1 (by decide) t_f42_1 rfl rfl) (ox rfl (OpS.pur (fun F w m_ => (in1 (rd_sub sLease_Ip (rd_at 0 rfl) ex1 m_))) (o_lsx rfl (rd_at 0 rfl) ex1 sLease_Ip X_int t_y25 (by decide))) (ox rfl (o_move rfl) (ox rfl (o_bin rfl rfl rfl) (ox rfl (o_move rfl) (og rfl rfl (fun _ => rfl) (nbF c2) (o_move rfl) (og rfl rfl (fun _ => rfl) (nbF c2) (o_move rfl) (og rfl rfl (fun _ => rfl) (nbF c2) (o_ix rfl rfl (rd_at 0 rfl) ex2 t_v26) (og rfl rfl (fun _ => rfl) (nbF c2) (o_fae (k' := s1.2.toNat * Kd.n KLease + 0) rfl (rd_at 0 rfl) ex2 (by decide) t_f42_0 rfl rfl) (obs_cons (ob_own rfl (gok_some rfl rfl rfl (fun _ => rfl) (nbF c2)) rfl fun f1 => (o_lsv rfl (rd_at 0 rfl) ex2 sLease_Mac t_y22 (by decide))) (og rfl rfl (fun _ => rfl) (nbF c2) (o_b2s rfl (rd_at 0 rfl) t_u22 t_u5 t_u9) (og rfl rfl (fun _ => rfl) (nbF c2) (o_move rfl) (og rfl rfl (fun _ => rfl) (nbF c2) (o_b2s rfl (rd_at 1 rfl) t_u22 t_u5 t_u9) (obs_nil))))))))))))))))
    replace h := h.wk (E' := [(0, v1), (1, v2), (2, .int .u32 a3), (7, v3), (8, .int .i64 s1.2), (22, .bool (!decide (x1.Ip = a3))), (28, .string (mkS x2.Mac)), (30, .string (mkS a2))]) (L' := [Ent.pur (InR .u32 x1.Ip), Val (Kd.sl (Kd.int .u8)) (f1 12) x2.Mac, Val (Kd.sl KLease) v1 a1, Val (Kd.sl (Kd.int .u8)) v2 a2, Val (Kd.osl KLease) v3 s1.1]) (by kernel_rfl) [0, 1, 2, 3, 4] (by decide) (by kernel_rfl)
    have g3 := (rd_bs (rd_at 1 rfl) h.mem)
    have g4 := (rd_bs (rd_at 3 rfl) h.mem)
    refine gg h rfl rfl (nbF c2) (o_nes rfl rfl g3 g4) rfl fun _ _ _ h => ?_
    refine ga h (o_pickF rfl rfl c2) rfl fun h => ?_
    refine GoR.done ?_
    exact J1 (!decide (x2.Mac = a2)) _ _ (som H).symm (h.wr [2, 3, 4])
  ·have H := ifF c1 H
   refine g_f h rfl c1 ?_
   refine Go.exit rfl ?_
   have e_ := som H; subst e_
   exact J4 s1.1 v3 _ _ (nx_out i1).symm (h.wr [2])
 ·replace h := h.mm fun m => m.nilo KLease
  exact I_ (.slice none 0 0) _ _ (show InR .i64 0 by decide) (h.wr [1, 2, 0])
def ref25_without.g (k_ : Nat) (a1 : List TLease) (a2 : List Int) (a3 : Int) : Option ((List TLease)) :=
  (loopK k_ (fun s1 => (if decide (s1.2 < (a1.length : Int)) = true then ((((idx a1 s1.2).bind fun x1 => (if (!decide (x1.Ip = a3)) = true then some (true) else (idx a1 s1.2).bind fun x2 => some ((!decide (x2.Mac = a2))))).bind (fun j1 => (if j1 = true then (idx a1 s1.2).bind fun x3 => (app s1.1 ([x3] : List TLease)).bind fun x4 => some (x4) else some (s1.1)))).bind (fun j2 => some (j2))).bind (fun j3 => lt (IntKind.i64.wrap (s1.2 + 1)) fun y1 => some (.inl (j3, y1))) else some (.inr (s1.1)))) (([] : List TLease), 0)).bind (fun j4 => some (j4))
theorem ref25_without.le (k_ : Nat) (a1 : List TLease) (a2 : List Int) (a3 : Int) : Le (ref25_without.g k_ a1 a2 a3) (ref25_without.f a1 a2 a3) := by
 unfold ref25_without.g ref25_without.f
 repeat' (first | with_reducible refine le_loop fun _ => ?_ | with_reducible refine le_bind ?_ fun _ => ?_ | with_reducible refine le_ite ?_ ?_ | with_reducible refine le_lt fun _ => ?_ | with_reducible refine le_elim (fun _ => ?_) (fun _ => ?_) _ | with_reducible exact le_refl _)
/-! drawbridge/drawbridgeref25.Serve -/
noncomputable def ref25_Serve.f (a1 : List TLease) (a2 : Int) (a3 : TDhcp) : Option ((List TLease) × TDhcp × Bool) :=
  (ref20_Put.f a3).bind fun r1 => ((ref25_Check.f a1).bind fun r2 => (if (!r2) = true then some (true) else (ref25_tick.f a2).bind fun r3 => (if (!r3) = true then some (true) else (if (!decide (a3.Op = 1)) = true then some (true) else some ((!decide (r1.2 = 0))))))).bind (fun j1 => (if j1 = true then some ((a1, (⟨0, 0, 0, 0, [], 0, 0, 0, 0, 0, 0, 0⟩ : TDhcp), false)) else lt (decide (a3.Type_ = 1)) fun y1 => (if y1 = true then (ref25_discover.f a1 a2 a3).bind fun r4 => some ((a1, r4.1, r4.2)) else lt (decide (a3.Type_ = 3)) fun y2 => (if y2 = true then ((if decide (a3.Want = 0) = true then some (a3.Ci) else some (a3.Want))).bind (fun j2 => ((if (!decide (a3.Server = 0)) = true then some ((!decide (a3.Server = 167772674))) else some (false))).bind (fun j3 => (if j3 = true then some ((a1, (⟨0, 0, 0, 0, [], 0, 0, 0, 0, 0, 0, 0⟩ : TDhcp), false)) else (ref25_free.f a1 a2 j2 a3.Mac).bind fun r5 => (if (!r5) = true then (ref25_answer.f a3 6).bind fun r6 => some ((a1, r6, true)) else (app ([] : List Int) a3.Mac).bind fun x1 => (ref25_with.f a1 (⟨x1, j2, IntKind.i64.wrap (a2 + 3600)⟩ : TLease)).bind fun r7 => (ref25_full.f a3 5 j2).bind fun r8 => some ((r7, r8, true)))))) else lt (decide (a3.Type_ = 7)) fun y3 => (if y3 = true then (ref25_without.f a1 a3.Mac a3.Ci).bind fun r9 => some ((r9, (⟨0, 0, 0, 0, [], 0, 0, 0, 0, 0, 0, 0⟩ : TDhcp), false)) else some ((a1, (⟨0, 0, 0, 0, [], 0, 0, 0, 0, 0, 0, 0⟩ : TDhcp), false)))))))
set_option maxRecDepth 100000 in
set_option maxHeartbeats 4000000 in
theorem ref25_Serve.spc (v1 : Value) (a1 : List TLease) (a2 : Int) (ha2 : InR .i64 a2) (v2 : Value) (a3 : TDhcp) (r : (List TLease) × TDhcp × Bool) (H : ref25_Serve.f a1 a2 a3 = some r) : Spc Try.prog 13 [v1, .int .i64 a2, v2] [Val (Kd.sl KLease) v1 a1, Val KDhcp v2 a3] [] (fun (s : Value × Value) => .tuple #[s.1, s.2, .bool r.2.2]) (fun s => [Val (Kd.sl KLease) s.1 r.1, Val KDhcp s.2 r.2.1]) := by
 unfold ref25_Serve.f at H
 refine Spc.go Try.func13 rfl (by kernel_rfl) rfl rfl (all_cons (Val.per Per_sl) (all_cons (Val.per PDhcp) all_nil)) fun F a w h => ?_
 refine Go.seq ?_
 refine Go.reg ?_
 refine gs h (o_box (K := KDhcp) rfl (pv_at PDhcp 1 rfl)) rfl fun b1 _ _ h => ?_
 refine ga h (o_assign rfl) rfl fun h => ?_
 refine gs h (o_alloc (K := KDhcp) (z := (.agg #[.int .i64 0, .int .u32 0, .int .u32 0, .int .u32 0, .slice none 0 0, .int .i64 0, .int .u32 0, .int .u32 0, .int .u32 0, .int .u32 0, .int .u32 0, .int .u32 0])) rfl ZDhcp) rfl fun b2 _ _ h => ?_
 refine ga h (o_assign rfl) rfl fun h => ?_
 refine GoR.done ?_
 refine Go.seq ?_
 refine Go.reg ?_
 refine gs h (o_ldv 1 rfl rfl PDhcp t_y28) rfl fun v3 _ _ h => ?_
 obtain ⟨r1, er1, H⟩ := bindE H
 refine gs h (o_call (ref20_Put.spc v3 a3 r1 er1) rfl [0] [] (by decide) rfl rfl) rfl fun v4 _ _ h => ?_
 have g1 := h.mem.pur 0 rfl
 refine mv h rfl rfl fun h => ?_
 refine ga h (o_extract rfl rfl) rfl fun h => ?_
 refine ga h (o_extract rfl rfl) rfl fun h => ?_
 refine ga h (o_assign rfl) rfl fun h => ?_
 refine ga h (o_assign rfl) rfl fun h => ?_
 refine GoR.done ?_
 refine Go.seq ?_
 refine Go.seq ?_
 obtain ⟨o1, H, G1⟩ := bindE H
 refine g_cut (fun G => ∀ j1 (a : Act) (w : World), o1 = j1 → St Try.f13.ntmps F [(0, v1), (1, .int .i64 a2), (5, pt b1), (7, pt b2), (36, .bool j1)] [Val (Kd.sl KLease) v1 a1, Fld KDhcp b2 0 zDhcp, Fld KDhcp b1 0 a3] a w → G a w) 1 ?_ fun J1 => ?_
 ·intro j1 a w ho_ h
  rw [ho_] at G1
  have H := G1
  by_cases c4 : j1 = true
  ·have H := ifT c4 H
   refine g_t h rfl c4 ?_
   refine Go.seq ?_
   refine Go.reg ?_
   refine mv h rfl rfl fun h => ?_
   refine gs h (o_build (K := KDhcp) (x := (⟨0, 0, 0, 0, [], 0, 0, 0, 0, 0, 0, 0⟩ : TDhcp)) (ps := []) rfl (zs := zsDhcp) rfl t_b28 rfl (show PB (Kd.pair (Kd.int .i64) (Kd.pair (Kd.int .u32) (Kd.pair (Kd.int .u32) (Kd.pair (Kd.int .u32) (Kd.pair (Kd.sl (Kd.int .u8)) (Kd.pair (Kd.int .i64) (Kd.pair (Kd.int .u32) (Kd.pair (Kd.int .u32) (Kd.pair (Kd.int .u32) (Kd.pair (Kd.int .u32) (Kd.pair (Kd.int .u32) (Kd.last (Kd.int .u32))))))))))))) (0, 0, 0, 0, [], 0, 0, 0, 0, 0, 0, 0) 0 zsDhcp _ _ from (pb_zero z_int (pb_zero z_int (pb_zero z_int (pb_zero z_int (pb_zero z_sl (pb_zero z_int (pb_zero z_int (pb_zero z_int (pb_zero z_int (pb_zero z_int (pb_zero z_int (pb_lastz z_int)))))))))))))) rfl fun v5 _ _ h => ?_
   refine ga h (o_assign rfl) rfl fun h => ?_
   refine gs0 h (o_st 2 rfl rfl rfl (pv_at PDhcp 0 rfl) rfl t_w28) fun _ _ _ h => ?_
   refine ga h (o_assign rfl) rfl fun h => ?_
   refine GoR.done ?_
   obtain ⟨v6, h, u1⟩ := h.peek 2 rfl PDhcp t_y28
   rw [← som H]
   exact g_ret (vs := [v1, v6, .bool false]) h Try.func13 ⟨rfl, ⟨⟨_, rfl, u1⟩, ⟨rfl, trivial⟩⟩⟩ ⟨(v1, v6), rfl, (h.mem.pick [2, 0] (by decide) rfl)⟩
  ·have H := ifF c4 H
   refine g_f h rfl c4 ?_
   refine Go.skip ?_
   refine Go.seq ?_
   refine Go.seq ?_
   refine Go.reg ?_
   refine ga h (o_fa rfl t_f28_5 rfl rfl) rfl fun h => ?_
   have g3 := (in2 (fd_sub sDhcp_Type_ 2 rfl h.mem))
   refine ga h (o_lfx 2 rfl rfl sDhcp_Type_ rfl X_int t_y3) rfl fun h => ?_
   refine GoR.done ?_
   refine Go.block ?_
   refine Go.seq ?_
   refine Go.reg ?_
   refine ga h (o_bin rfl rfl rfl) rfl fun h => ?_
   obtain ⟨y1, ey1, H⟩ := ltE H
   refine ga h (o_assign' rfl (congrArg Value.bool ey1)) rfl fun h => ?_
   refine GoR.done ?_
   by_cases c5 : y1 = true
   ·have H := ifT c5 H
    refine g_t h rfl c5 ?_
    refine Go.seq ?_
    refine Go.reg ?_
    refine mv h rfl rfl fun h => ?_
    refine mv h rfl rfl fun h => ?_
    refine gs h (o_ldv 2 rfl rfl PDhcp t_y28) rfl fun v7 _ _ h => ?_
    obtain ⟨r4, er4, H⟩ := bindE H
    refine gs h (o_call (ref25_discover.spc v1 a1 a2 ha2 v7 a3 r4 er4) rfl [1, 0] [] (by decide) rfl rfl) rfl fun v8 _ _ h => ?_
    refine mv h rfl rfl fun h => ?_
    refine ga h (o_extract rfl rfl) rfl fun h => ?_
    refine ga h (o_extract rfl rfl) rfl fun h => ?_
    refine gs h (o_alloc (K := KDhcp) (z := (.agg #[.int .i64 0, .int .u32 0, .int .u32 0, .int .u32 0, .slice none 0 0, .int .i64 0, .int .u32 0, .int .u32 0, .int .u32 0, .int .u32 0, .int .u32 0, .int .u32 0])) rfl ZDhcp) rfl fun b3 _ _ h => ?_
    refine gs0 h (o_st 0 rfl rfl rfl (pv_at PDhcp 1 rfl) rfl t_w28) fun _ _ _ h => ?_
    refine ga h (o_assign rfl) rfl fun h => ?_
    refine GoR.done ?_
    refine Go.seq ?_
    replace h := h.wq [(0, v1), (7, pt b2), (11, pt b3), (12, .bool r4.2)] [Fld KDhcp b2 0 zDhcp, Fld KDhcp b3 0 r4.1, Val KDhcp v8 r4.1, Val KDhcp v7 a3, Val (Kd.sl KLease) v1 a1, Fld KDhcp b1 0 a3] [4, 0, 1, 2, 3, 5]
    refine Go.draw (E := [(0, v1), (7, pt b2), (11, pt b3), (12, .bool r4.2)]) [] (L := [Fld KDhcp b3 0 r4.1, Val KDhcp v8 r4.1, Val KDhcp v7 a3, Val (Kd.sl KLease) v1 a1, Fld KDhcp b1 0 a3]) h rfl rfl 5 [cn (v1), cw [] [] [] fun u => [Val KDhcp u r4.1], cn (.bool r4.2), ce [0] (v1), cm [1] [5, 1] [5] (undef) fun u => [Fld KDhcp b2 0 r4.1], cm [] [] [] undef fun u => [Fld KDhcp b2 0 zDhcp]] rfl t_mxo (by kernel_rfl) (by rfl) ?_ fun f1 _ _ h => ?_
    ·exact ox rfl (o_move rfl) (oy rfl (o_ldv 0 rfl rfl PDhcp t_y28) (ox rfl (o_move rfl) (ox rfl (o_assign rfl) (ox rfl (o_st 0 rfl rfl rfl (pv_at PDhcp 1 rfl) rfl t_w28) (obs_nil)))))
    replace h := h.wk (E' := [(7, pt b2), (52, .bool r4.2), (6, v1)]) (L' := [Val KDhcp (f1 1) r4.1, Fld KDhcp b2 0 r4.1, Fld KDhcp b3 0 r4.1, Val KDhcp v8 r4.1, Val KDhcp v7 a3, Val (Kd.sl KLease) v1 a1, Fld KDhcp b1 0 a3]) (by kernel_rfl) [0, 1, 2, 3, 4, 5, 6] (by decide) (by kernel_rfl)
    refine ga h (o_assign rfl) rfl fun h => ?_
    refine GoR.done ?_
    obtain ⟨v10, h, u2⟩ := h.peek 1 rfl PDhcp t_y28
    rw [← som H]
    exact g_ret (vs := [v1, v10, .bool r4.2]) h Try.func13 ⟨rfl, ⟨⟨_, rfl, u2⟩, ⟨rfl, trivial⟩⟩⟩ ⟨(v1, v10), rfl, (h.mem.pick [6, 0] (by decide) rfl)⟩
   ·have H := ifF c5 H
    refine g_f h rfl c5 ?_
    refine Go.seq ?_
    refine Go.reg ?_
    refine ga h (o_bin rfl rfl rfl) rfl fun h => ?_
    obtain ⟨y2, ey2, H⟩ := ltE H
    refine ga h (o_assign' rfl (congrArg Value.bool ey2)) rfl fun h => ?_
    refine GoR.done ?_
    by_cases c6 : y2 = true
    ·have H := ifT c6 H
     refine g_t h rfl c6 ?_
     refine Go.seq ?_
     refine Go.reg ?_
     refine ga h (o_fa rfl t_f28_6 rfl rfl) rfl fun h => ?_
     have g4 := (in2 (fd_sub sDhcp_Want 2 rfl h.mem))
     refine ga h (o_lfx 2 rfl rfl sDhcp_Want rfl X_int t_y25) rfl fun h => ?_
     refine ga h (o_assign rfl) rfl fun h => ?_
     refine GoR.done ?_
     refine Go.seq ?_
     obtain ⟨o2, H, G2⟩ := bindE H
     refine g_cut (fun G => ∀ j2 (a : Act) (w : World), o2 = j2 → InR .u32 j2 → St Try.f13.ntmps F [(0, v1), (1, .int .i64 a2), (5, pt b1), (7, pt b2), (13, .int .u32 j2)] [Val (Kd.sl KLease) v1 a1, Fld KDhcp b2 0 zDhcp, Fld KDhcp b1 0 a3] a w → G a w) 1 ?_ fun J2 => ?_
     ·intro j2 a w ho_ g6 h
      rw [ho_] at G2
      have H := G2
      refine Go.seq ?_
      refine Go.seq ?_
      obtain ⟨o3, H, G3⟩ := bindE H
      refine g_cut (fun G => ∀ j3 (a : Act) (w : World), o3 = j3 → St Try.f13.ntmps F [(0, v1), (1, .int .i64 a2), (5, pt b1), (7, pt b2), (13, .int .u32 j2), (68, .bool j3)] [Val (Kd.sl KLease) v1 a1, Fld KDhcp b2 0 zDhcp, Fld KDhcp b1 0 a3] a w → G a w) 1 ?_ fun J3 => ?_
      ·intro j3 a w ho_ h
       rw [ho_] at G3
       have H := G3
       by_cases c9 : j3 = true
       ·have H := ifT c9 H
        refine g_t h rfl c9 ?_
        refine Go.seq ?_
        refine Go.reg ?_
        refine mv h rfl rfl fun h => ?_
        refine gs h (o_build (K := KDhcp) (x := (⟨0, 0, 0, 0, [], 0, 0, 0, 0, 0, 0, 0⟩ : TDhcp)) (ps := []) rfl (zs := zsDhcp) rfl t_b28 rfl (show PB (Kd.pair (Kd.int .i64) (Kd.pair (Kd.int .u32) (Kd.pair (Kd.int .u32) (Kd.pair (Kd.int .u32) (Kd.pair (Kd.sl (Kd.int .u8)) (Kd.pair (Kd.int .i64) (Kd.pair (Kd.int .u32) (Kd.pair (Kd.int .u32) (Kd.pair (Kd.int .u32) (Kd.pair (Kd.int .u32) (Kd.pair (Kd.int .u32) (Kd.last (Kd.int .u32))))))))))))) (0, 0, 0, 0, [], 0, 0, 0, 0, 0, 0, 0) 0 zsDhcp _ _ from (pb_zero z_int (pb_zero z_int (pb_zero z_int (pb_zero z_int (pb_zero z_sl (pb_zero z_int (pb_zero z_int (pb_zero z_int (pb_zero z_int (pb_zero z_int (pb_zero z_int (pb_lastz z_int)))))))))))))) rfl fun v11 _ _ h => ?_
        refine ga h (o_assign rfl) rfl fun h => ?_
        refine gs0 h (o_st 2 rfl rfl rfl (pv_at PDhcp 0 rfl) rfl t_w28) fun _ _ _ h => ?_
        refine ga h (o_assign rfl) rfl fun h => ?_
        refine GoR.done ?_
        obtain ⟨v12, h, u3⟩ := h.peek 2 rfl PDhcp t_y28
        rw [← som H]
        exact g_ret (vs := [v1, v12, .bool false]) h Try.func13 ⟨rfl, ⟨⟨_, rfl, u3⟩, ⟨rfl, trivial⟩⟩⟩ ⟨(v1, v12), rfl, (h.mem.pick [2, 0] (by decide) rfl)⟩
       ·have H := ifF c9 H
        refine g_f h rfl c9 ?_
        refine Go.skip ?_
        refine Go.seq ?_
        refine Go.seq ?_
        refine Go.reg ?_
        iterate 3 (refine ga h (o_move rfl) rfl fun h => ?_)
        refine ga h (o_fa rfl t_f28_4 rfl rfl) rfl fun h => ?_
        refine gs h (o_lfv 2 rfl rfl sDhcp_Mac rfl Per_sl t_y22) rfl fun v13 _ _ h => ?_
        obtain ⟨r5, er5, H⟩ := bindE H
        refine ga h (o_call (ref25_free.spc v1 a1 a2 ha2 j2 g6 v13 a3.Mac r5 er5) rfl [1, 0] [] (by decide) rfl rfl) rfl fun h => ?_
        refine ga h (o_not rfl) rfl fun h => ?_
        refine GoR.done ?_
        by_cases c10 : (!r5) = true
        ·have H := ifT c10 H
         refine g_t h rfl c10 ?_
         refine Go.seq ?_
         refine Go.reg ?_
         refine mv h rfl rfl fun h => ?_
         refine gs h (o_ldv 3 rfl rfl PDhcp t_y28) rfl fun v14 _ _ h => ?_
         obtain ⟨r6, er6, H⟩ := bindE H
         refine gs h (o_call (ref25_answer.spc v14 a3 6 (show InR .i64 6 by decide) r6 er6) rfl [0] [] (by decide) rfl rfl) rfl fun v15 _ _ h => ?_
         refine ga h (o_assign rfl) rfl fun h => ?_
         refine gs0 h (o_st 4 rfl rfl rfl (pv_at PDhcp 0 rfl) rfl t_w28) fun _ _ _ h => ?_
         refine ga h (o_assign rfl) rfl fun h => ?_
         refine GoR.done ?_
         obtain ⟨v16, h, u4⟩ := h.peek 4 rfl PDhcp t_y28
         rw [← som H]
         exact g_ret (vs := [v1, v16, .bool true]) h Try.func13 ⟨rfl, ⟨⟨_, rfl, u4⟩, ⟨rfl, trivial⟩⟩⟩ ⟨(v1, v16), rfl, (h.mem.pick [4, 0] (by decide) rfl)⟩
        ·have H := ifF c10 H
         refine g_f h rfl c10 ?_
         refine Go.skip ?_
         refine Go.seq ?_
         refine Go.reg ?_
         refine gs h (o_bs (K := (Kd.int .u8)) (vs := []) (xs := ([] : List Int)) rfl rfl pvs_nil t_a22 (by decide) (by decide)) rfl fun v17 _ _ h => ?_
         refine ga h (o_fa rfl t_f28_4 rfl rfl) rfl fun h => ?_
         refine gs h (o_lfv 4 rfl rfl sDhcp_Mac rfl Per_sl t_y22) rfl fun v18 _ _ h => ?_
         obtain ⟨x1, ex1, H⟩ := bindE H
         refine gs h (o_app (K := (Kd.int .u8)) 1 rfl rfl rfl (rd_at 0 rfl) ex1 t_a22 t_n22) rfl fun v19 _ _ h => ?_
         refine mv h rfl rfl fun h => ?_
         refine mv h rfl rfl fun h => ?_
         refine ga h (o_bin rfl rfl rfl) rfl fun h => ?_
         replace h := h.mm fun m => m.freeze 1 rfl
         refine gs h (o_build (K := KLease) (x := (⟨x1, j2, IntKind.i64.wrap (a2 + 3600)⟩ : TLease)) (ps := [(0, v19), (1, .int .u32 j2), (2, .int .i64 (IntKind.i64.wrap (a2 + 3600)))]) rfl (zs := zsLease) rfl t_b42 rfl (show PB (Kd.pair (Kd.sl (Kd.int .u8)) (Kd.pair (Kd.int .u32) (Kd.last (Kd.int .i64)))) (x1, j2, IntKind.i64.wrap (a2 + 3600)) 0 zsLease _ _ from (pb_part (pv_at Per_sl 1 rfl) rfl (pb_part (pv_int g6) rfl (pb_lastp (pv_int (wrap_in _ _)) rfl))))) rfl fun v20 _ _ h => ?_
         refine gs h (o_alloc (K := KLease) (z := (.agg #[.slice none 0 0, .int .u32 0, .int .i64 0])) rfl ZLease) rfl fun b4 _ _ h => ?_
         refine gs0 h (o_st 0 rfl rfl rfl (pv_at PLease 1 rfl) rfl t_w42) fun _ _ _ h => ?_
         refine GoR.done ?_
         refine Go.seq ?_
         replace h := h.wq [(0, v1), (5, pt b1), (7, pt b2), (13, .int .u32 j2), (14, pt b4)] [Fld KLease b4 0 (⟨x1, j2, IntKind.i64.wrap (a2 + 3600)⟩ : TLease), Val KLease v20 (⟨x1, j2, IntKind.i64.wrap (a2 + 3600)⟩ : TLease), Val (Kd.sl (Kd.int .u8)) v18 a3.Mac, Val (Kd.sl (Kd.int .u8)) v19 x1, Val (Kd.sl (Kd.int .u8)) v13 a3.Mac, Val (Kd.sl KLease) v1 a1, Fld KDhcp b2 0 zDhcp, Fld KDhcp b1 0 a3] [0, 1, 2, 3, 4, 5, 6, 7]
         obtain ⟨r7, er7, H⟩ := bindE H
         refine Go.draw (E := [(0, v1), (5, pt b1), (7, pt b2), (13, .int .u32 j2), (14, pt b4)]) [] (L := [Fld KLease b4 0 (⟨x1, j2, IntKind.i64.wrap (a2 + 3600)⟩ : TLease), Val KLease v20 (⟨x1, j2, IntKind.i64.wrap (a2 + 3600)⟩ : TLease), Val (Kd.sl (Kd.int .u8)) v18 a3.Mac, Val (Kd.sl (Kd.int .u8)) v19 x1, Val (Kd.sl (Kd.int .u8)) v13 a3.Mac, Val (Kd.sl KLease) v1 a1, Fld KDhcp b2 0 zDhcp, Fld KDhcp b1 0 a3]) h rfl rfl 5 [cn (v1), cw [] [] [] fun u => [Val KLease u (⟨x1, j2, IntKind.i64.wrap (a2 + 3600)⟩ : TLease)], cw [0, 1] [1] [] fun u => [Val (Kd.osl KLease) u r7], cw [] [] [] fun u => [Val KDhcp u a3], cn (.int .u32 j2)] rfl t_mxo (by kernel_rfl) (by rfl) ?_ fun f2 _ _ h => ?_
         ·exact ox rfl (o_move rfl) (oy rfl (o_ldv 0 rfl rfl PLease t_y42) (ow rfl rfl rfl (fun f2 => (o_call (ref25_with.spc v1 a1 (f2 1) (⟨x1, j2, IntKind.i64.wrap (a2 + 3600)⟩ : TLease) r7 er7) rfl [6, 0] [] (by decide) rfl rfl)) (oy rfl (o_ldv 7 rfl rfl PDhcp t_y28) (ox rfl (o_move rfl) (obs_nil)))))
         replace h := h.wk (E' := [(7, pt b2), (91, (f2 2)), (92, (f2 3)), (93, .int .u32 j2)]) (L' := [Val KLease (f2 1) (⟨x1, j2, IntKind.i64.wrap (a2 + 3600)⟩ : TLease), Val (Kd.osl KLease) (f2 2) r7, Val KDhcp (f2 3) a3, Fld KLease b4 0 (⟨x1, j2, IntKind.i64.wrap (a2 + 3600)⟩ : TLease), Val KLease v20 (⟨x1, j2, IntKind.i64.wrap (a2 + 3600)⟩ : TLease), Val (Kd.sl (Kd.int .u8)) v18 a3.Mac, Val (Kd.sl (Kd.int .u8)) v19 x1, Val (Kd.sl (Kd.int .u8)) v13 a3.Mac, Val (Kd.sl KLease) v1 a1, Fld KDhcp b2 0 zDhcp, Fld KDhcp b1 0 a3]) (by kernel_rfl) [0, 1, 2, 3, 4, 5, 6, 7, 8, 9, 10] (by decide) (by kernel_rfl)
         obtain ⟨r8, er8, H⟩ := bindE H
         refine gs h (o_call (ref25_full.spc (f2 3) a3 5 (show InR .i64 5 by decide) j2 g6 r8 er8) rfl [2] [] (by decide) rfl rfl) rfl fun v24 _ _ h => ?_
         refine ga h (o_assign rfl) rfl fun h => ?_
         refine gs0 h (o_st 10 rfl rfl rfl (pv_at PDhcp 0 rfl) rfl t_w28) fun _ _ _ h => ?_
         refine ga h (o_assign rfl) rfl fun h => ?_
         refine GoR.done ?_
         obtain ⟨v25, h, u5⟩ := h.peek 10 rfl PDhcp t_y28
         replace h := h.mm fun m => m.freeze 3 rfl
         rw [← som H]
         exact g_ret (vs := [(f2 2), v25, .bool true]) h Try.func13 ⟨rfl, ⟨⟨_, rfl, u5⟩, ⟨rfl, trivial⟩⟩⟩ ⟨((f2 2), v25), rfl, (h.mem.pick [3, 0] (by decide) rfl)⟩
      refine Go.reg ?_
      refine ga h (o_fa rfl t_f28_7 rfl rfl) rfl fun h => ?_
      have g7 := (in2 (fd_sub sDhcp_Server 2 rfl h.mem))
      refine ga h (o_lfx 2 rfl rfl sDhcp_Server rfl X_int t_y25) rfl fun h => ?_
      refine ga h (o_bin rfl rfl rfl) rfl fun h => ?_
      refine mv h rfl rfl fun h => ?_
      by_cases c8 : (!decide (a3.Server = 0)) = true
      ·have H := ifT c8 H
       refine gg h rfl rfl c8 (o_fa rfl t_f28_7 rfl rfl) rfl fun _ _ _ h => ?_
       have g8 := (in2 (fd_sub sDhcp_Server 2 rfl h.mem))
       refine gg h rfl rfl c8 (o_lfx 2 rfl rfl sDhcp_Server rfl X_int t_y25) rfl fun _ _ _ h => ?_
       refine gg h rfl rfl c8 (o_bin rfl rfl rfl) rfl fun _ _ _ h => ?_
       refine ga h (o_pickT rfl rfl c8) rfl fun h => ?_
       refine GoR.done ?_
       exact J3 (!decide (a3.Server = 167772674)) _ _ (som H).symm (h.wr [0, 1, 2])
      ·have H := ifF c8 H
       iterate 3 (refine gk h rfl rfl (nb_f c8) rfl fun _ h => ?_)
       refine ga h (o_pickF rfl rfl c8) rfl fun h => ?_
       refine GoR.done ?_
       exact J3 false _ _ (som H).symm (h.wr [0, 1, 2])
     refine Go.seq ?_
     refine Go.reg ?_
     refine mv h rfl rfl fun h => ?_
     refine ga h (o_bin rfl rfl rfl) rfl fun h => ?_
     refine GoR.done ?_
     by_cases c7 : decide (a3.Want = 0) = true
     ·have H := ifT c7 H
      refine g_t h rfl c7 ?_
      refine Go.reg ?_
      refine ga h (o_fa rfl t_f28_2 rfl rfl) rfl fun h => ?_
      have g5 := (in2 (fd_sub sDhcp_Ci 2 rfl h.mem))
      refine ga h (o_lfx 2 rfl rfl sDhcp_Ci rfl X_int t_y25) rfl fun h => ?_
      refine ga h (o_assign rfl) rfl fun h => ?_
      refine GoR.done ?_
      exact J2 a3.Ci _ _ (som H).symm g5 (h.wr [0, 1, 2])
     ·have H := ifF c7 H
      refine g_f h rfl c7 ?_
      refine Go.skip ?_
      exact J2 a3.Want _ _ (som H).symm g4 (h.wr [0, 1, 2])
    ·have H := ifF c6 H
     refine g_f h rfl c6 ?_
     refine Go.seq ?_
     refine Go.reg ?_
     refine ga h (o_bin rfl rfl rfl) rfl fun h => ?_
     obtain ⟨y3, ey3, H⟩ := ltE H
     refine ga h (o_assign' rfl (congrArg Value.bool ey3)) rfl fun h => ?_
     refine GoR.done ?_
     by_cases c11 : y3 = true
     ·have H := ifT c11 H
      refine g_t h rfl c11 ?_
      refine Go.seq ?_
      refine Go.reg ?_
      refine mv h rfl rfl fun h => ?_
      refine ga h (o_fa rfl t_f28_4 rfl rfl) rfl fun h => ?_
      refine gs h (o_lfv 2 rfl rfl sDhcp_Mac rfl Per_sl t_y22) rfl fun v26 _ _ h => ?_
      refine ga h (o_fa rfl t_f28_2 rfl rfl) rfl fun h => ?_
      have g9 := (in2 (fd_sub sDhcp_Ci 3 rfl h.mem))
      refine ga h (o_lfx 3 rfl rfl sDhcp_Ci rfl X_int t_y25) rfl fun h => ?_
      obtain ⟨r9, er9, H⟩ := bindE H
      refine gs h (o_call (ref25_without.spc v1 a1 v26 a3.Mac a3.Ci g9 r9 er9) rfl [1, 0] [] (by decide) rfl rfl) rfl fun v27 _ _ h => ?_
      refine gs h (o_build (K := KDhcp) (x := (⟨0, 0, 0, 0, [], 0, 0, 0, 0, 0, 0, 0⟩ : TDhcp)) (ps := []) rfl (zs := zsDhcp) rfl t_b28 rfl (show PB (Kd.pair (Kd.int .i64) (Kd.pair (Kd.int .u32) (Kd.pair (Kd.int .u32) (Kd.pair (Kd.int .u32) (Kd.pair (Kd.sl (Kd.int .u8)) (Kd.pair (Kd.int .i64) (Kd.pair (Kd.int .u32) (Kd.pair (Kd.int .u32) (Kd.pair (Kd.int .u32) (Kd.pair (Kd.int .u32) (Kd.pair (Kd.int .u32) (Kd.last (Kd.int .u32))))))))))))) (0, 0, 0, 0, [], 0, 0, 0, 0, 0, 0, 0) 0 zsDhcp _ _ from (pb_zero z_int (pb_zero z_int (pb_zero z_int (pb_zero z_int (pb_zero z_sl (pb_zero z_int (pb_zero z_int (pb_zero z_int (pb_zero z_int (pb_zero z_int (pb_zero z_int (pb_lastz z_int)))))))))))))) rfl fun v28 _ _ h => ?_
      refine ga h (o_assign rfl) rfl fun h => ?_
      refine gs0 h (o_st 4 rfl rfl rfl (pv_at PDhcp 0 rfl) rfl t_w28) fun _ _ _ h => ?_
      refine ga h (o_assign rfl) rfl fun h => ?_
      refine GoR.done ?_
      obtain ⟨v29, h, u6⟩ := h.peek 4 rfl PDhcp t_y28
      replace h := h.mm fun m => m.freeze 2 rfl
      rw [← som H]
      exact g_ret (vs := [v27, v29, .bool false]) h Try.func13 ⟨rfl, ⟨⟨_, rfl, u6⟩, ⟨rfl, trivial⟩⟩⟩ ⟨(v27, v29), rfl, (h.mem.pick [2, 0] (by decide) rfl)⟩
     ·have H := ifF c11 H
      refine g_f h rfl c11 ?_
      refine Go.skip ?_
      refine Go.inBlock ?_
      refine Go.seq ?_
      refine Go.reg ?_
      refine mv h rfl rfl fun h => ?_
      refine gs h (o_build (K := KDhcp) (x := (⟨0, 0, 0, 0, [], 0, 0, 0, 0, 0, 0, 0⟩ : TDhcp)) (ps := []) rfl (zs := zsDhcp) rfl t_b28 rfl (show PB (Kd.pair (Kd.int .i64) (Kd.pair (Kd.int .u32) (Kd.pair (Kd.int .u32) (Kd.pair (Kd.int .u32) (Kd.pair (Kd.sl (Kd.int .u8)) (Kd.pair (Kd.int .i64) (Kd.pair (Kd.int .u32) (Kd.pair (Kd.int .u32) (Kd.pair (Kd.int .u32) (Kd.pair (Kd.int .u32) (Kd.pair (Kd.int .u32) (Kd.last (Kd.int .u32))))))))))))) (0, 0, 0, 0, [], 0, 0, 0, 0, 0, 0, 0) 0 zsDhcp _ _ from (pb_zero z_int (pb_zero z_int (pb_zero z_int (pb_zero z_int (pb_zero z_sl (pb_zero z_int (pb_zero z_int (pb_zero z_int (pb_zero z_int (pb_zero z_int (pb_zero z_int (pb_lastz z_int)))))))))))))) rfl fun v30 _ _ h => ?_
      refine ga h (o_assign rfl) rfl fun h => ?_
      refine gs0 h (o_st 2 rfl rfl rfl (pv_at PDhcp 0 rfl) rfl t_w28) fun _ _ _ h => ?_
      refine ga h (o_assign rfl) rfl fun h => ?_
      refine GoR.done ?_
      obtain ⟨v31, h, u7⟩ := h.peek 2 rfl PDhcp t_y28
      rw [← som H]
      exact g_ret (vs := [v1, v31, .bool false]) h Try.func13 ⟨rfl, ⟨⟨_, rfl, u7⟩, ⟨rfl, trivial⟩⟩⟩ ⟨(v1, v31), rfl, (h.mem.pick [2, 0] (by decide) rfl)⟩
 refine Go.reg ?_
 refine mv h rfl rfl fun h => ?_
 obtain ⟨r2, er2, H⟩ := bindE H
 refine ga h (o_call (ref25_Check.spc v1 a1 r2 er2) rfl [5] [] (by decide) rfl rfl) rfl fun h => ?_
 refine ga h (o_not rfl) rfl fun h => ?_
 refine mv h rfl rfl fun h => ?_
 by_cases c1 : (!r2) = true
 ·have H := ifT c1 H
  iterate 3 (refine gk h rfl rfl (nb_t c1) rfl fun _ h => ?_)
  refine ga h (o_pickT rfl rfl c1) rfl fun h => ?_
  refine mv h rfl rfl fun h => ?_
  iterate 3 (refine gk h rfl rfl (nb_t rfl) rfl fun _ h => ?_)
  refine ga h (o_pickT rfl rfl rfl) rfl fun h => ?_
  refine mv h rfl rfl fun h => ?_
  refine gk h rfl rfl (nb_t rfl) rfl fun _ h => ?_
  refine gk h rfl rfl (nb_t rfl) rfl fun _ h => ?_
  refine ga h (o_pickT rfl rfl rfl) rfl fun h => ?_
  refine GoR.done ?_
  exact J1 true _ _ (som H).symm (h.wr [5, 3, 4])
 ·have H := ifF c1 H
  refine gg h rfl rfl (nbF c1) (o_move rfl) rfl fun _ _ _ h => ?_
  obtain ⟨r3, er3, H⟩ := bindE H
  refine gg h rfl rfl (nbF c1) (o_call (ref25_tick.spc a2 ha2 r3 er3) rfl [] [] (by decide) rfl rfl) rfl fun _ _ _ h => ?_
  refine gg h rfl rfl (nbF c1) (o_not rfl) rfl fun _ _ _ h => ?_
  refine ga h (o_pickF rfl rfl c1) rfl fun h => ?_
  refine mv h rfl rfl fun h => ?_
  by_cases c2 : (!r3) = true
  ·have H := ifT c2 H
   iterate 3 (refine gk h rfl rfl (nb_t c2) rfl fun _ h => ?_)
   refine ga h (o_pickT rfl rfl c2) rfl fun h => ?_
   refine mv h rfl rfl fun h => ?_
   refine gk h rfl rfl (nb_t rfl) rfl fun _ h => ?_
   refine gk h rfl rfl (nb_t rfl) rfl fun _ h => ?_
   refine ga h (o_pickT rfl rfl rfl) rfl fun h => ?_
   refine GoR.done ?_
   exact J1 true _ _ (som H).symm (h.wr [5, 3, 4])
  ·have H := ifF c2 H
   refine gg h rfl rfl (nbF c2) (o_fa rfl t_f28_0 rfl rfl) rfl fun _ _ _ h => ?_
   have g2 := (in2 (fd_sub sDhcp_Op 4 rfl h.mem))
   refine gg h rfl rfl (nbF c2) (o_lfx 4 rfl rfl sDhcp_Op rfl X_int t_y3) rfl fun _ _ _ h => ?_
   refine gg h rfl rfl (nbF c2) (o_bin rfl rfl rfl) rfl fun _ _ _ h => ?_
   refine ga h (o_pickF rfl rfl c2) rfl fun h => ?_
   refine mv h rfl rfl fun h => ?_
   by_cases c3 : (!decide (a3.Op = 1)) = true
   ·have H := ifT c3 H
    refine gk h rfl rfl (nb_t c3) rfl fun _ h => ?_
    refine gk h rfl rfl (nb_t c3) rfl fun _ h => ?_
    refine ga h (o_pickT rfl rfl c3) rfl fun h => ?_
    refine GoR.done ?_
    exact J1 true _ _ (som H).symm (h.wr [5, 3, 4])
   ·have H := ifF c3 H
    refine gg h rfl rfl (nbF c3) (o_move rfl) rfl fun _ _ _ h => ?_
    refine gg h rfl rfl (nbF c3) (o_bin rfl rfl rfl) rfl fun _ _ _ h => ?_
    refine ga h (o_pickF rfl rfl c3) rfl fun h => ?_
    refine GoR.done ?_
    exact J1 (!decide (r1.2 = 0)) _ _ (som H).symm (h.wr [5, 3, 4])
def ref25_Serve.g (k_ : Nat) (a1 : List TLease) (a2 : Int) (a3 : TDhcp) : Option ((List TLease) × TDhcp × Bool) :=
  (ref20_Put.g k_ a3).bind fun r1 => ((ref25_Check.g k_ a1).bind fun r2 => (if (!r2) = true then some (true) else (ref25_tick.g k_ a2).bind fun r3 => (if (!r3) = true then some (true) else (if (!decide (a3.Op = 1)) = true then some (true) else some ((!decide (r1.2 = 0))))))).bind (fun j1 => (if j1 = true then some ((a1, (⟨0, 0, 0, 0, [], 0, 0, 0, 0, 0, 0, 0⟩ : TDhcp), false)) else lt (decide (a3.Type_ = 1)) fun y1 => (if y1 = true then (ref25_discover.g k_ a1 a2 a3).bind fun r4 => some ((a1, r4.1, r4.2)) else lt (decide (a3.Type_ = 3)) fun y2 => (if y2 = true then ((if decide (a3.Want = 0) = true then some (a3.Ci) else some (a3.Want))).bind (fun j2 => ((if (!decide (a3.Server = 0)) = true then some ((!decide (a3.Server = 167772674))) else some (false))).bind (fun j3 => (if j3 = true then some ((a1, (⟨0, 0, 0, 0, [], 0, 0, 0, 0, 0, 0, 0⟩ : TDhcp), false)) else (ref25_free.g k_ a1 a2 j2 a3.Mac).bind fun r5 => (if (!r5) = true then (ref25_answer.g k_ a3 6).bind fun r6 => some ((a1, r6, true)) else (app ([] : List Int) a3.Mac).bind fun x1 => (ref25_with.g k_ a1 (⟨x1, j2, IntKind.i64.wrap (a2 + 3600)⟩ : TLease)).bind fun r7 => (ref25_full.g k_ a3 5 j2).bind fun r8 => some ((r7, r8, true)))))) else lt (decide (a3.Type_ = 7)) fun y3 => (if y3 = true then (ref25_without.g k_ a1 a3.Mac a3.Ci).bind fun r9 => some ((r9, (⟨0, 0, 0, 0, [], 0, 0, 0, 0, 0, 0, 0⟩ : TDhcp), false)) else some ((a1, (⟨0, 0, 0, 0, [], 0, 0, 0, 0, 0, 0, 0⟩ : TDhcp), false)))))))
theorem ref25_Serve.le (k_ : Nat) (a1 : List TLease) (a2 : Int) (a3 : TDhcp) : Le (ref25_Serve.g k_ a1 a2 a3) (ref25_Serve.f a1 a2 a3) := by
 unfold ref25_Serve.g ref25_Serve.f
 repeat' (first | with_reducible refine le_loop fun _ => ?_ | with_reducible refine le_bind ?_ fun _ => ?_ | with_reducible refine le_ite ?_ ?_ | with_reducible refine le_lt fun _ => ?_ | with_reducible refine le_elim (fun _ => ?_) (fun _ => ?_) _ | with_reducible apply ref20_Put.le | with_reducible apply ref25_Check.le | with_reducible apply ref25_answer.le | with_reducible apply ref25_discover.le | with_reducible apply ref25_free.le | with_reducible apply ref25_full.le | with_reducible apply ref25_tick.le | with_reducible apply ref25_with.le | with_reducible apply ref25_without.le | with_reducible exact le_refl _)
end Go.Proofs.Ytmmaojclfggioaa.S
