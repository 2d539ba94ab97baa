/- Contracts, printed by a program of this session. -/
import Derived.Test.YtmmaojclfggioaaT1
namespace Go.Proofs.Ytmmaojclfggioaa.S
open Go Go.SL Go.RowKit
set_option linter.unusedVariables false
set_option linter.unusedSimpArgs false
/-! drawbridge/lease.Check -/
noncomputable def lease_Check.f (a1 : List TLease) : Option (Bool) :=
  (if decide (8 < (a1.length : Int)) = true then some (false) else (loop (fun s1 => (if decide (s1.2.2 < (a1.length : Int)) = true then (idx a1 s1.2.2).bind fun x1 => ((lease_pool.f x1.Ip).bind fun r1 => (if (!r1) = true then some (true) else (if decide (x1.Ip ≤ s1.2.1) = true then some (true) else (if (!decide ((x1.Mac.length : Int) = 6)) = true then some (true) else (if (mget s1.1 x1.Mac).getD false = true then some (true) else (if decide (x1.Until < 0) = true then some (true) else some (decide (1099511627776 < x1.Until)))))))).bind (fun j1 => (if j1 = true then some (.inr (.inr (false))) else some (.inl ((mput s1.1 x1.Mac true), x1.Ip, IntKind.i64.wrap (s1.2.2 + 1))))) else some (.inr (.inl (()))))) (([] : List (List Int × Bool)), 0, 0)).bind (Sum.elim (fun j2 => some (true)) (fun z_ => some (z_))))
set_option maxRecDepth 100000 in
set_option maxHeartbeats 4000000 in
theorem lease_Check.spc (v1 : Value) (a1 : List TLease) (r : Bool) (H : lease_Check.f a1 = some r) : Spc Try.prog 10 [v1] [Val (Kd.sl KLease) v1 a1] [] (fun (s : Unit) => .bool r) (fun s => []) := by
 unfold lease_Check.f at H
 refine Spc.go Try.func10 rfl (by kernel_rfl) rfl rfl (all_cons (Val.per Per_sl) all_nil) fun F a w h => ?_
 refine Go.seq ?_
 refine Go.reg ?_
 refine ga h (o_assign rfl) rfl fun h => ?_
 refine GoR.done ?_
 refine Go.seq ?_
 refine Go.seq ?_
 refine Go.reg ?_
 refine mv h rfl rfl fun h => ?_
 have g1 := (len_at 0 rfl h.mem)
 refine ga h (o_ln rfl (rd_at 0 rfl) t_v26) rfl fun h => ?_
 refine ga h (o_bin rfl rfl rfl) rfl fun h => ?_
 refine GoR.done ?_
 by_cases c1 : decide (8 < (a1.length : Int)) = true
 ·have H := ifT c1 H
  refine g_t h rfl c1 ?_
  refine Go.seq ?_
  refine Go.reg ?_
  refine ga h (o_assign rfl) rfl fun h => ?_
  refine GoR.done ?_
  rw [← som H]
  exact g_ret (vs := [.bool false]) h Try.func10 ⟨rfl, trivial⟩ ⟨(), rfl, (h.mem.pick [] (by decide) rfl)⟩
 ·have H := ifF c1 H
  refine g_f h rfl c1 ?_
  refine Go.skip ?_
  refine Go.seq ?_
  refine Go.reg ?_
  refine gs h (o_mkmap Kd.str Kd.bool) rfl fun v2 _ _ h => ?_
  refine ga h (o_assign rfl) rfl fun h => ?_
  refine GoR.done ?_
  refine Go.seq ?_
  refine Go.reg ?_
  refine ga h (o_assign rfl) rfl fun h => ?_
  refine GoR.done ?_
  refine Go.seq ?_
  refine Go.seq ?_
  refine Go.reg ?_
  refine mv h rfl rfl fun h => ?_
  have g2 := (len_at 1 rfl h.mem)
  refine ga h (o_ln rfl (rd_at 1 rfl) t_v26) rfl fun h => ?_
  refine mv h rfl rfl fun h => ?_
  refine GoR.done ?_
  refine Go.block ?_
  obtain ⟨o1, hl, G1⟩ := bindE H
  refine g_cut (fun G => ∀ j2 (a : Act) (w : World), o1 = .inl (j2) → St Try.f10.ntmps F [] [] a w → G a w) 2 ?_ fun J2 => ?_
  ·intro j2 a w ho_ h
   rw [ho_] at G1
   have H := eInl G1
   refine Go.seq ?_
   refine Go.reg ?_
   refine ga h (o_assign rfl) rfl fun h => ?_
   refine GoR.done ?_
   rw [← som H]
   exact g_ret (vs := [.bool true]) h Try.func10 ⟨rfl, trivial⟩ ⟨(), rfl, (h.mem.pick [] (by decide) rfl)⟩
  refine g_loop (fun s1 G => ∀  (a : Act) (w : World), InR .u32 s1.2.1 → InR .i64 s1.2.2 → St Try.f10.ntmps F [(3, v2), (4, .int .u32 s1.2.1), (11, v1), (12, .int .i64 (a1.length : Int)), (13, .int .i64 s1.2.2)] [Val (Kd.mp Kd.str Kd.bool) v2 s1.1, Val (Kd.sl KLease) v1 a1] a w → G a w) hl (fun s1 p1 H i1 => ?_) fun I_ => ?_
  ·intro  a w g3 g4 h
   refine Go.seq ?_
   refine Go.reg ?_
   refine ga h (o_bin rfl rfl rfl) rfl fun h => ?_
   refine GoR.done ?_
   refine Go.seq ?_
   by_cases c2 : decide (s1.2.2 < (a1.length : Int)) = true
   ·have H := ifT c2 H
    refine g_t h rfl c2 ?_
    refine Go.skip ?_
    refine Go.seq ?_
    refine Go.block ?_
    refine Go.seq ?_
    refine Go.reg ?_
    obtain ⟨x1, ex1, H⟩ := bindE H
    refine ga h (o_ix rfl rfl (rd_at 1 rfl) ex1 t_v26) rfl fun h => ?_
    refine gs h (o_lev rfl (rd_at 1 rfl) ex1 t_y42 (by decide)) rfl fun v3 _ _ h => ?_
    refine gs h (o_alloc (K := KLease) (z := (.agg #[.slice none 0 0, .int .u32 0, .int .i64 0])) rfl ZLease) rfl fun b1 _ _ h => ?_
    refine gs0 h (o_st 0 rfl rfl rfl (pv_at PLease 1 rfl) rfl t_w42) fun _ _ _ h => ?_
    refine GoR.done ?_
    refine Go.seq ?_
    refine Go.seq ?_
    obtain ⟨o2, H, G2⟩ := bindE H
    refine g_cut (fun G => ∀ j1 (a : Act) (w : World), o2 = j1 → St Try.f10.ntmps F [(3, v2), (6, pt b1), (11, v1), (12, .int .i64 (a1.length : Int)), (13, .int .i64 s1.2.2), (49, .bool j1)] [Val (Kd.mp Kd.str Kd.bool) v2 s1.1, Val (Kd.sl KLease) v1 a1, Fld KLease b1 0 x1] a w → G a w) 1 ?_ fun J1 => ?_
    ·intro j1 a w ho_ h
     rw [ho_] at G2
     have H := G2
     by_cases c8 : j1 = true
     ·have H := ifT c8 H
      refine g_t h rfl c8 ?_
      refine Go.seq ?_
      refine Go.reg ?_
      refine ga h (o_assign rfl) rfl fun h => ?_
      refine GoR.done ?_
      have e_ := som H; subst e_
      rw [← nx_out i1] at G1
      have H := G1
      rw [← som H]
      exact g_ret (vs := [.bool false]) h Try.func10 ⟨rfl, trivial⟩ ⟨(), rfl, (h.mem.pick [] (by decide) rfl)⟩
     ·have H := ifF c8 H
      refine g_f h rfl c8 ?_
      refine Go.skip ?_
      replace h := h.wq [(3, v2), (6, pt b1), (11, v1), (12, .int .i64 (a1.length : Int)), (13, .int .i64 s1.2.2)] [Val (Kd.mp Kd.str Kd.bool) v2 s1.1, Val (Kd.sl KLease) v1 a1, Fld KLease b1 0 x1] [0, 1, 2]
      refine Go.draw (E := [(3, v2), (6, pt b1), (11, v1), (12, .int .i64 (a1.length : Int)), (13, .int .i64 s1.2.2)]) [] (L := [Val (Kd.sl KLease) v1 a1, Fld KLease b1 0 x1]) h rfl rfl 7 [cn (v2), cn (pt b1), cw [1] [] [] fun u => [Val (Kd.sl (Kd.int .u8)) u x1.Mac], cm [1, 2] [2] [] (.string (mkS x1.Mac)) fun u => [], cn (.pointer (some ⟨b1, 1, none⟩)), cm [4] [] [] (.int .u32 x1.Ip) fun u => [Ent.pur (InR .u32 x1.Ip)], cm [0, 1, 2, 3] [7, 2] [7] (undef) fun u => [Val (Kd.mp Kd.str Kd.bool) v2 (mput s1.1 x1.Mac true)], cm [] [] [] undef fun u => [Val (Kd.mp Kd.str Kd.bool) v2 s1.1]] rfl t_mxo (by kernel_rfl) (by rfl) ?_ fun f1 _ _ h => ?_
      ·exact ox rfl (o_move rfl) (ox rfl (o_fa rfl t_f42_0 rfl rfl) (oy rfl (o_lfv 1 rfl rfl sLease_Mac rfl Per_sl t_y22) (ox rfl (o_b2s rfl (rd_at 0 rfl) t_u22 t_u5 t_u9) (ox rfl (o_fa rfl t_f42_1 rfl rfl) (ox rfl (OpS.pur (fun F w m_ => (in2 (fd_sub sLease_Ip 1 rfl m_))) (o_lfx 1 rfl rfl sLease_Ip rfl X_int t_y25)) (ox rfl (OpS.fact (p := Bs x1.Mac) (fun F w m_ => (rd_bs (rd_at 1 rfl) m_)) fun g11 => (o_mput 0 rfl rfl rfl rfl (pv_str g11) pv_bool t_u55 t_mk9)) (obs_nil)))))))
      replace h := h.wk (E' := [(3, v2), (11, v1), (12, .int .i64 (a1.length : Int)), (13, .int .i64 s1.2.2), (55, .int .u32 x1.Ip)]) (L' := [Val (Kd.sl (Kd.int .u8)) (f1 2) x1.Mac, Ent.pur (InR .u32 x1.Ip), Val (Kd.mp Kd.str Kd.bool) v2 (mput s1.1 x1.Mac true), Val (Kd.sl KLease) v1 a1, Fld KLease b1 0 x1]) (by kernel_rfl) [0, 1, 2, 3, 4] (by decide) (by kernel_rfl)
      have g12 := (Mem.pur 1 rfl h.mem)
      refine ga h (o_assign rfl) rfl fun h => ?_
      refine GoR.done ?_
      refine Go.inBlock ?_
      refine Go.reg ?_
      refine ga h (o_bin rfl rfl rfl) rfl fun h => ?_
      refine mv h rfl rfl fun h => ?_
      refine GoR.done ?_
      have e_ := som H; subst e_
      exact Go.inLoop (nx_in i1 _ _ g12 (wrap_in _ _) (h.wr [2, 3]))
    refine Go.reg ?_
    refine ga h (o_fa rfl t_f42_1 rfl rfl) rfl fun h => ?_
    have g5 := (in2 (fd_sub sLease_Ip 0 rfl h.mem))
    refine ga h (o_lfx 0 rfl rfl sLease_Ip rfl X_int t_y25) rfl fun h => ?_
    obtain ⟨r1, er1, H⟩ := bindE H
    refine ga h (o_call (lease_pool.spc x1.Ip g5 r1 er1) rfl [] [] (by decide) rfl rfl) rfl fun h => ?_
    refine ga h (o_not rfl) rfl fun h => ?_
    refine mv h rfl rfl fun h => ?_
    by_cases c3 : (!r1) = true
    ·have H := ifT c3 H
     iterate 4 (refine gk h rfl rfl (nb_t c3) rfl fun _ h => ?_)
     refine ga h (o_pickT rfl rfl c3) rfl fun h => ?_
     refine mv h rfl rfl fun h => ?_
     iterate 4 (refine gk h rfl rfl (nb_t rfl) rfl fun _ h => ?_)
     refine ga h (o_pickT rfl rfl rfl) rfl fun h => ?_
     refine mv h rfl rfl fun h => ?_
     iterate 5 (refine gk h rfl rfl (nb_t rfl) rfl fun _ h => ?_)
     refine ga h (o_pickT rfl rfl rfl) rfl fun h => ?_
     refine mv h rfl rfl fun h => ?_
     iterate 3 (refine gk h rfl rfl (nb_t rfl) rfl fun _ h => ?_)
     refine ga h (o_pickT rfl rfl rfl) rfl fun h => ?_
     refine mv h rfl rfl fun h => ?_
     iterate 3 (refine gk h rfl rfl (nb_t rfl) rfl fun _ h => ?_)
     refine ga h (o_pickT rfl rfl rfl) rfl fun h => ?_
     refine GoR.done ?_
     exact J1 true _ _ (som H).symm (h.wr [2, 3, 0])
    ·have H := ifF c3 H
     refine gg h rfl rfl (nbF c3) (o_fa rfl t_f42_1 rfl rfl) rfl fun _ _ _ h => ?_
     have g6 := (in2 (fd_sub sLease_Ip 0 rfl h.mem))
     refine gg h rfl rfl (nbF c3) (o_lfx 0 rfl rfl sLease_Ip rfl X_int t_y25) rfl fun _ _ _ h => ?_
     refine gg h rfl rfl (nbF c3) (o_move rfl) rfl fun _ _ _ h => ?_
     refine gg h rfl rfl (nbF c3) (o_bin rfl rfl rfl) rfl fun _ _ _ h => ?_
     refine ga h (o_pickF rfl rfl c3) rfl fun h => ?_
     refine mv h rfl rfl fun h => ?_
     by_cases c4 : decide (x1.Ip ≤ s1.2.1) = true
     ·have H := ifT c4 H
      iterate 4 (refine gk h rfl rfl (nb_t c4) rfl fun _ h => ?_)
      refine ga h (o_pickT rfl rfl c4) rfl fun h => ?_
      refine mv h rfl rfl fun h => ?_
      iterate 5 (refine gk h rfl rfl (nb_t rfl) rfl fun _ h => ?_)
      refine ga h (o_pickT rfl rfl rfl) rfl fun h => ?_
      refine mv h rfl rfl fun h => ?_
      iterate 3 (refine gk h rfl rfl (nb_t rfl) rfl fun _ h => ?_)
      refine ga h (o_pickT rfl rfl rfl) rfl fun h => ?_
      refine mv h rfl rfl fun h => ?_
      iterate 3 (refine gk h rfl rfl (nb_t rfl) rfl fun _ h => ?_)
      refine ga h (o_pickT rfl rfl rfl) rfl fun h => ?_
      refine GoR.done ?_
      exact J1 true _ _ (som H).symm (h.wr [2, 3, 0])
     ·have H := ifF c4 H
      refine gg h rfl rfl (nbF c4) (o_fa rfl t_f42_0 rfl rfl) rfl fun _ _ _ h => ?_
      refine gg h rfl rfl (nbF c4) (o_lfv 0 rfl rfl sLease_Mac rfl Per_sl t_y22) rfl fun v4 _ _ h => ?_
      have g7 := (len_at 0 rfl h.mem)
      refine gg h rfl rfl (nbF c4) (o_ln rfl (rd_at 0 rfl) t_v22) rfl fun _ _ _ h => ?_
      refine gg h rfl rfl (nbF c4) (o_bin rfl rfl rfl) rfl fun _ _ _ h => ?_
      refine ga h (o_pickF rfl rfl c4) rfl fun h => ?_
      refine mv h rfl rfl fun h => ?_
      by_cases c5 : (!decide ((x1.Mac.length : Int) = 6)) = true
      ·have H := ifT c5 H
       iterate 5 (refine gk h rfl rfl (nb_t c5) rfl fun _ h => ?_)
       refine ga h (o_pickT rfl rfl c5) rfl fun h => ?_
       refine mv h rfl rfl fun h => ?_
       iterate 3 (refine gk h rfl rfl (nb_t rfl) rfl fun _ h => ?_)
       refine ga h (o_pickT rfl rfl rfl) rfl fun h => ?_
       refine mv h rfl rfl fun h => ?_
       iterate 3 (refine gk h rfl rfl (nb_t rfl) rfl fun _ h => ?_)
       refine ga h (o_pickT rfl rfl rfl) rfl fun h => ?_
       refine GoR.done ?_
       exact J1 true _ _ (som H).symm (h.wr [3, 4, 1])
      ·have H := ifF c5 H
       refine gg h rfl rfl (nbF c5) (o_move rfl) rfl fun _ _ _ h => ?_
       refine gg h rfl rfl (nbF c5) (o_fa rfl t_f42_0 rfl rfl) rfl fun _ _ _ h => ?_
       refine gg h rfl rfl (nbF c5) (o_lfv 1 rfl rfl sLease_Mac rfl Per_sl t_y22) rfl fun v5 _ _ h => ?_
       have g8 := (rd_bs (rd_at 0 rfl) h.mem)
       refine gg h rfl rfl (nbF c5) (o_b2s rfl (rd_at 0 rfl) t_u22 t_u5 t_u9) rfl fun _ _ _ h => ?_
       refine gg h rfl rfl (nbF c5) (o_mget (zv := .bool false) 4 rfl rfl rfl (pv_str g8) t_u55 t_mk9 t_zz4 (fun m => ⟨_, z_bool _, rfl⟩) X_bool) rfl fun _ _ _ h => ?_
       refine ga h (o_pickF rfl rfl c5) rfl fun h => ?_
       refine mv h rfl rfl fun h => ?_
       by_cases c6 : (mget s1.1 x1.Mac).getD false = true
       ·have H := ifT c6 H
        iterate 3 (refine gk h rfl rfl (nb_t c6) rfl fun _ h => ?_)
        refine ga h (o_pickT rfl rfl c6) rfl fun h => ?_
        refine mv h rfl rfl fun h => ?_
        iterate 3 (refine gk h rfl rfl (nb_t rfl) rfl fun _ h => ?_)
        refine ga h (o_pickT rfl rfl rfl) rfl fun h => ?_
        refine GoR.done ?_
        exact J1 true _ _ (som H).symm (h.wr [4, 5, 2])
       ·have H := ifF c6 H
        refine gg h rfl rfl (nbF c6) (o_fa rfl t_f42_2 rfl rfl) rfl fun _ _ _ h => ?_
        have g9 := (in2 (fd_sub sLease_Until 2 rfl h.mem))
        refine gg h rfl rfl (nbF c6) (o_lfx 2 rfl rfl sLease_Until rfl X_int t_y3) rfl fun _ _ _ h => ?_
        refine gg h rfl rfl (nbF c6) (o_bin rfl rfl rfl) rfl fun _ _ _ h => ?_
        refine ga h (o_pickF rfl rfl c6) rfl fun h => ?_
        refine mv h rfl rfl fun h => ?_
        by_cases c7 : decide (x1.Until < 0) = true
        ·have H := ifT c7 H
         iterate 3 (refine gk h rfl rfl (nb_t c7) rfl fun _ h => ?_)
         refine ga h (o_pickT rfl rfl c7) rfl fun h => ?_
         refine GoR.done ?_
         exact J1 true _ _ (som H).symm (h.wr [4, 5, 2])
        ·have H := ifF c7 H
         refine gg h rfl rfl (nbF c7) (o_fa rfl t_f42_2 rfl rfl) rfl fun _ _ _ h => ?_
         have g10 := (in2 (fd_sub sLease_Until 2 rfl h.mem))
         refine gg h rfl rfl (nbF c7) (o_lfx 2 rfl rfl sLease_Until rfl X_int t_y3) rfl fun _ _ _ h => ?_
         refine gg h rfl rfl (nbF c7) (o_bin rfl rfl rfl) rfl fun _ _ _ h => ?_
         refine ga h (o_pickF rfl rfl c7) rfl fun h => ?_
         refine GoR.done ?_
         exact J1 (decide (1099511627776 < x1.Until)) _ _ (som H).symm (h.wr [4, 5, 2])
   ·have H := ifF c2 H
    refine g_f h rfl c2 ?_
    refine Go.exit rfl ?_
    have e_ := som H; subst e_
    exact J2 () _ _ (nx_out i1).symm (h.wr [])
  ·exact I_ _ _ (show InR .u32 0 by decide) (show InR .i64 0 by decide) (h.wr [0, 1])
def lease_Check.g (k_ : Nat) (a1 : List TLease) : Option (Bool) :=
  (if decide (8 < (a1.length : Int)) = true then some (false) else (loopK k_ (fun s1 => (if decide (s1.2.2 < (a1.length : Int)) = true then (idx a1 s1.2.2).bind fun x1 => ((lease_pool.g k_ x1.Ip).bind fun r1 => (if (!r1) = true then some (true) else (if decide (x1.Ip ≤ s1.2.1) = true then some (true) else (if (!decide ((x1.Mac.length : Int) = 6)) = true then some (true) else (if (mget s1.1 x1.Mac).getD false = true then some (true) else (if decide (x1.Until < 0) = true then some (true) else some (decide (1099511627776 < x1.Until)))))))).bind (fun j1 => (if j1 = true then some (.inr (.inr (false))) else some (.inl ((mput s1.1 x1.Mac true), x1.Ip, IntKind.i64.wrap (s1.2.2 + 1))))) else some (.inr (.inl (()))))) (([] : List (List Int × Bool)), 0, 0)).bind (Sum.elim (fun j2 => some (true)) (fun z_ => some (z_))))
theorem lease_Check.le (k_ : Nat) (a1 : List TLease) : Le (lease_Check.g k_ a1) (lease_Check.f a1) := by
 unfold lease_Check.g lease_Check.f
 repeat' (first | with_reducible refine le_loop fun _ => ?_ | with_reducible refine le_bind ?_ fun _ => ?_ | with_reducible refine le_ite ?_ ?_ | with_reducible refine le_lt fun _ => ?_ | with_reducible refine le_elim (fun _ => ?_) (fun _ => ?_) _ | with_reducible apply lease_pool.le | with_reducible exact le_refl _)
/-! drawbridge/lease.tick -/
noncomputable def lease_tick.f (a1 : Int) : Option (Bool) :=
  ((if decide (0 ≤ a1) = true then lt (decide (a1 ≤ 1099511624176)) fun y1 => some (y1) else some (false))).bind (fun j1 => some (j1))
set_option maxRecDepth 100000 in
set_option maxHeartbeats 4000000 in
theorem lease_tick.spc (a1 : Int) (ha1 : InR .i64 a1) (r : Bool) (H : lease_tick.f a1 = some r) : Spc Try.prog 20 [.int .i64 a1] [] [] (fun (s : Unit) => .bool r) (fun s => []) := by
 unfold lease_tick.f at H
 refine Spc.go Try.func20 rfl (by kernel_rfl) rfl rfl all_nil fun F a w h => ?_
 refine Go.seq ?_
 refine Go.reg ?_
 refine ga h (o_assign rfl) rfl fun h => ?_
 refine GoR.done ?_
 refine Go.seq ?_
 obtain ⟨o1, H, G1⟩ := bindE H
 refine g_cut (fun G => ∀ j1 (a : Act) (w : World), o1 = j1 → St Try.f20.ntmps F [(2, .bool j1)] [] a w → G a w) 1 ?_ fun J1 => ?_
 ·intro j1 a w ho_ h
  rw [ho_] at G1
  have H := G1
  rw [← som H]
  exact g_ret (vs := [.bool j1]) h Try.func20 ⟨rfl, trivial⟩ ⟨(), rfl, (h.mem.pick [] (by decide) rfl)⟩
 refine Go.reg ?_
 refine mv h rfl rfl fun h => ?_
 refine ga h (o_bin rfl rfl rfl) rfl fun h => ?_
 refine mv h rfl rfl fun h => ?_
 by_cases c1 : decide (0 ≤ a1) = true
 ·have H := ifT c1 H
  refine gg h rfl rfl c1 (o_move rfl) rfl fun _ _ _ h => ?_
  refine gg h rfl rfl c1 (o_bin rfl rfl rfl) rfl fun _ _ _ h => ?_
  refine ga h (o_pickT rfl rfl c1) rfl fun h => ?_
  obtain ⟨y1, ey1, H⟩ := ltE H
  refine ga h (o_assign' rfl (congrArg Value.bool ey1)) rfl fun h => ?_
  refine GoR.done ?_
  exact J1 y1 _ _ (som H).symm (h.wr [])
 ·have H := ifF c1 H
  refine gk h rfl rfl (nb_f c1) rfl fun _ h => ?_
  refine gk h rfl rfl (nb_f c1) rfl fun _ h => ?_
  refine ga h (o_pickF rfl rfl c1) rfl fun h => ?_
  refine ga h (o_assign rfl) rfl fun h => ?_
  refine GoR.done ?_
  exact J1 false _ _ (som H).symm (h.wr [])
def lease_tick.g (k_ : Nat) (a1 : Int) : Option (Bool) :=
  ((if decide (0 ≤ a1) = true then lt (decide (a1 ≤ 1099511624176)) fun y1 => some (y1) else some (false))).bind (fun j1 => some (j1))
theorem lease_tick.le (k_ : Nat) (a1 : Int) : Le (lease_tick.g k_ a1) (lease_tick.f a1) := by
 unfold lease_tick.g lease_tick.f
 repeat' (first | with_reducible refine le_loop fun _ => ?_ | with_reducible refine le_bind ?_ fun _ => ?_ | with_reducible refine le_ite ?_ ?_ | with_reducible refine le_lt fun _ => ?_ | with_reducible refine le_elim (fun _ => ?_) (fun _ => ?_) _ | with_reducible exact le_refl _)
/-! (*drawbridge/lease.server).other -/
noncomputable def lease_server_other.f (a1 : Tserver) : Option (TDhcp × Bool × Tserver) :=
  some (((⟨0, 0, 0, 0, [], 0, 0, 0, 0, 0, 0, 0⟩ : TDhcp), false, a1))
set_option maxRecDepth 100000 in
set_option maxHeartbeats 4000000 in
theorem lease_server_other.spc (b1 : Nat) (a1 : Tserver) (r : TDhcp × Bool × Tserver) (H : lease_server_other.f a1 = some r) : Spc Try.prog 21 [pt b1] [] [Fld Kserver b1 0 a1] (fun (s : Value) => .tuple #[s, .bool r.2.1]) (fun s => [Val KDhcp s r.1, Fld Kserver b1 0 r.2.2]) := by
 unfold lease_server_other.f at H
 refine Spc.go Try.func21 rfl (by kernel_rfl) rfl rfl all_nil fun F a w h => ?_
 refine Go.seq ?_
 refine Go.reg ?_
 refine gs h (o_alloc (K := KDhcp) (z := (.agg #[.int .i64 0, .int .u32 0, .int .u32 0, .int .u32 0, .slice none 0 0, .int .i64 0, .int .u32 0, .int .u32 0, .int .u32 0, .int .u32 0, .int .u32 0, .int .u32 0])) rfl ZDhcp) rfl fun b2 _ _ h => ?_
 refine ga h (o_assign rfl) rfl fun h => ?_
 refine GoR.done ?_
 refine Go.seq ?_
 refine Go.reg ?_
 refine gs h (o_build (K := KDhcp) (x := (⟨0, 0, 0, 0, [], 0, 0, 0, 0, 0, 0, 0⟩ : TDhcp)) (ps := []) rfl (zs := zsDhcp) rfl t_b28 rfl (show PB (Kd.pair (Kd.int .i64) (Kd.pair (Kd.int .u32) (Kd.pair (Kd.int .u32) (Kd.pair (Kd.int .u32) (Kd.pair (Kd.sl (Kd.int .u8)) (Kd.pair (Kd.int .i64) (Kd.pair (Kd.int .u32) (Kd.pair (Kd.int .u32) (Kd.pair (Kd.int .u32) (Kd.pair (Kd.int .u32) (Kd.pair (Kd.int .u32) (Kd.last (Kd.int .u32))))))))))))) (0, 0, 0, 0, [], 0, 0, 0, 0, 0, 0, 0) 0 zsDhcp _ _ from (pb_zero z_int (pb_zero z_int (pb_zero z_int (pb_zero z_int (pb_zero z_sl (pb_zero z_int (pb_zero z_int (pb_zero z_int (pb_zero z_int (pb_zero z_int (pb_zero z_int (pb_lastz z_int)))))))))))))) rfl fun v1 _ _ h => ?_
 refine gs0 h (o_st 1 rfl rfl rfl (pv_at PDhcp 0 rfl) rfl t_w28) fun _ _ _ h => ?_
 refine ga h (o_assign rfl) rfl fun h => ?_
 refine GoR.done ?_
 obtain ⟨v2, h, u1⟩ := h.peek 1 rfl PDhcp t_y28
 rw [← som H]
 exact g_ret (vs := [v2, .bool false]) h Try.func21 ⟨⟨_, rfl, u1⟩, ⟨rfl, trivial⟩⟩ ⟨v2, rfl, (h.mem.pick [0, 3] (by decide) rfl)⟩
def lease_server_other.g (k_ : Nat) (a1 : Tserver) : Option (TDhcp × Bool × Tserver) :=
  some (((⟨0, 0, 0, 0, [], 0, 0, 0, 0, 0, 0, 0⟩ : TDhcp), false, a1))
theorem lease_server_other.le (k_ : Nat) (a1 : Tserver) : Le (lease_server_other.g k_ a1) (lease_server_other.f a1) := by
 unfold lease_server_other.g lease_server_other.f
 repeat' (first | with_reducible refine le_loop fun _ => ?_ | with_reducible refine le_bind ?_ fun _ => ?_ | with_reducible refine le_ite ?_ ?_ | with_reducible refine le_lt fun _ => ?_ | with_reducible refine le_elim (fun _ => ?_) (fun _ => ?_) _ | with_reducible exact le_refl _)
/-! bytes.Equal -/
noncomputable def bytes_Equal.f (a1 : List Int) (a2 : List Int) : Option (Bool) :=
  lt (decide (a1 = a2)) fun y1 => some (y1)
set_option maxRecDepth 100000 in
set_option maxHeartbeats 4000000 in
theorem bytes_Equal.spc (v1 : Value) (a1 : List Int) (v2 : Value) (a2 : List Int) (r : Bool) (H : bytes_Equal.f a1 a2 = some r) : Spc Try.prog 38 [v1, v2] [Val (Kd.sl (Kd.int .u8)) v1 a1, Val (Kd.sl (Kd.int .u8)) v2 a2] [] (fun (s : Unit) => .bool r) (fun s => []) := by
 unfold bytes_Equal.f at H
 refine Spc.go Try.func38 rfl (by kernel_rfl) rfl rfl (all_cons (Val.per Per_sl) (all_cons (Val.per Per_sl) all_nil)) fun F a w h => ?_
 refine Go.seq ?_
 refine Go.reg ?_
 refine ga h (o_assign rfl) rfl fun h => ?_
 refine GoR.done ?_
 refine Go.seq ?_
 refine Go.reg ?_
 refine mv h rfl rfl fun h => ?_
 have g1 := (rd_bs (rd_at 0 rfl) h.mem)
 refine ga h (o_b2s rfl (rd_at 0 rfl) t_u22 t_u5 t_u9) rfl fun h => ?_
 refine mv h rfl rfl fun h => ?_
 have g2 := (rd_bs (rd_at 1 rfl) h.mem)
 refine ga h (o_b2s rfl (rd_at 1 rfl) t_u22 t_u5 t_u9) rfl fun h => ?_
 refine ga h (o_eqs rfl rfl g1 g2) rfl fun h => ?_
 obtain ⟨y1, ey1, H⟩ := ltE H
 refine ga h (o_assign' rfl (congrArg Value.bool ey1)) rfl fun h => ?_
 refine GoR.done ?_
 rw [← som H]
 exact g_ret (vs := [.bool y1]) h Try.func38 ⟨rfl, trivial⟩ ⟨(), rfl, (h.mem.pick [] (by decide) rfl)⟩
def bytes_Equal.g (k_ : Nat) (a1 : List Int) (a2 : List Int) : Option (Bool) :=
  lt (decide (a1 = a2)) fun y1 => some (y1)
theorem bytes_Equal.le (k_ : Nat) (a1 : List Int) (a2 : List Int) : Le (bytes_Equal.g k_ a1 a2) (bytes_Equal.f a1 a2) := by
 unfold bytes_Equal.g bytes_Equal.f
 repeat' (first | with_reducible refine le_loop fun _ => ?_ | with_reducible refine le_bind ?_ fun _ => ?_ | with_reducible refine le_ite ?_ ?_ | with_reducible refine le_lt fun _ => ?_ | with_reducible refine le_elim (fun _ => ?_) (fun _ => ?_) _ | with_reducible exact le_refl _)
/-! drawbridge/lease.Find$1 -/
noncomputable def lease_Find_1.f (a1 : TLease) (a2 : List Int) : Option (Bool) :=
  (bytes_Equal.f a1.Mac a2).bind fun r1 => some (r1)
set_option maxRecDepth 100000 in
set_option maxHeartbeats 4000000 in
theorem lease_Find_1.spc (v1 : Value) (a1 : TLease) (b1 : Nat) (a2 : List Int) (r : Bool) (H : lease_Find_1.f a1 a2 = some r) : Spc Try.prog 37 [v1, pt b1] [Val KLease v1 a1, Pfl (Kd.sl (Kd.int .u8)) b1 0 a2] [] (fun (s : Unit) => .bool r) (fun s => []) := by
 unfold lease_Find_1.f at H
 refine Spc.go Try.func37 rfl (by kernel_rfl) rfl rfl (all_cons (Val.per PLease) (all_cons Per_pfl all_nil)) fun F a w h => ?_
 refine Go.seq ?_
 refine Go.reg ?_
 refine gs h (o_box (K := KLease) rfl (pv_at PLease 0 rfl)) rfl fun b2 _ _ h => ?_
 refine ga h (o_assign rfl) rfl fun h => ?_
 refine GoR.done ?_
 refine Go.seq ?_
 refine Go.reg ?_
 refine ga h (o_fa rfl t_f42_0 rfl rfl) rfl fun h => ?_
 refine gs h (o_lfv 0 rfl rfl sLease_Mac rfl Per_sl t_y22) rfl fun v2 _ _ h => ?_
 refine gs h (p_ldv 3 rfl rfl t_y22) rfl fun v3 _ _ h => ?_
 obtain ⟨r1, er1, H⟩ := bindE H
 refine ga h (o_call (bytes_Equal.spc v2 a1.Mac v3 a2 r1 er1) rfl [1, 0] [] (by decide) rfl rfl) rfl fun h => ?_
 refine ga h (o_assign rfl) rfl fun h => ?_
 refine GoR.done ?_
 rw [← som H]
 exact g_ret (vs := [.bool r1]) h Try.func37 ⟨rfl, trivial⟩ ⟨(), rfl, (h.mem.pick [] (by decide) rfl)⟩
def lease_Find_1.g (k_ : Nat) (a1 : TLease) (a2 : List Int) : Option (Bool) :=
  (bytes_Equal.g k_ a1.Mac a2).bind fun r1 => some (r1)
theorem lease_Find_1.le (k_ : Nat) (a1 : TLease) (a2 : List Int) : Le (lease_Find_1.g k_ a1 a2) (lease_Find_1.f a1 a2) := by
 unfold lease_Find_1.g lease_Find_1.f
 repeat' (first | with_reducible refine le_loop fun _ => ?_ | with_reducible refine le_bind ?_ fun _ => ?_ | with_reducible refine le_ite ?_ ?_ | with_reducible refine le_lt fun _ => ?_ | with_reducible refine le_elim (fun _ => ?_) (fun _ => ?_) _ | with_reducible apply bytes_Equal.le | with_reducible exact le_refl _)
/-! drawbridge/lease.held$1 -/
noncomputable def lease_held_1_at_lease_Find_1.f (a1 : TLease) (a2 : Int) (a3 : List Int) : Option (Bool) :=
  ((if decide (a2 < a1.Until) = true then (lease_Find_1.f a1 a3).bind fun r1 => some (r1) else some (false))).bind (fun j1 => some (j1))
set_option maxRecDepth 100000 in
set_option maxHeartbeats 4000000 in
theorem lease_held_1_at_lease_Find_1.spc (v1 : Value) (a1 : TLease) (b1 : Nat) (a2 : Int) (b2 : Nat) (b3 : Nat) (a3 : List Int) (r : Bool) (H : lease_held_1_at_lease_Find_1.f a1 a2 a3 = some r) : Spc Try.prog 57 [v1, pt b1, pt b2] [Val KLease v1 a1, Pfl (Kd.int .i64) b1 0 a2, Pfl (Kd.sl (Kd.int .u8)) b3 0 a3, Pfl (Kd.eq (.func (.func 37) #[] #[pt b3])) b2 0 ()] [] (fun (s : Unit) => .bool r) (fun s => []) := by
 unfold lease_held_1_at_lease_Find_1.f at H
 refine Spc.go Try.func57 rfl (by kernel_rfl) rfl rfl (all_cons (Val.per PLease) (all_cons Per_pfl (all_cons Per_pfl (all_cons Per_pfl all_nil)))) fun F a w h => ?_
 refine Go.seq ?_
 refine Go.reg ?_
 refine gs h (o_box (K := KLease) rfl (pv_at PLease 0 rfl)) rfl fun b4 _ _ h => ?_
 refine ga h (o_assign rfl) rfl fun h => ?_
 refine GoR.done ?_
 refine Go.seq ?_
 obtain ⟨o1, H, G1⟩ := bindE H
 refine g_cut (fun G => ∀ j1 (a : Act) (w : World), o1 = j1 → St Try.f57.ntmps F [(4, .bool j1)] [Fld KLease b4 0 a1, Pfl (Kd.int .i64) b1 0 a2, Pfl (Kd.sl (Kd.int .u8)) b3 0 a3, Pfl (Kd.eq (.func (.func 37) #[] #[pt b3])) b2 0 ()] a w → G a w) 1 ?_ fun J1 => ?_
 ·intro j1 a w ho_ h
  rw [ho_] at G1
  have H := G1
  rw [← som H]
  exact g_ret (vs := [.bool j1]) h Try.func57 ⟨rfl, trivial⟩ ⟨(), rfl, (h.mem.pick [] (by decide) rfl)⟩
 refine Go.reg ?_
 refine ga h (o_fa rfl t_f42_2 rfl rfl) rfl fun h => ?_
 have g1 := (in2 (fd_sub sLease_Until 0 rfl h.mem))
 refine ga h (o_lfx 0 rfl rfl sLease_Until rfl X_int t_y3) rfl fun h => ?_
 have g2 := (in2 (pf_sub sub_self 2 rfl h.mem))
 refine ga h (p_lfx 2 rfl rfl sub_self rfl X_int t_y3) rfl fun h => ?_
 refine ga h (o_bin rfl rfl rfl) rfl fun h => ?_
 refine mv h rfl rfl fun h => ?_
 by_cases c1 : decide (a2 < a1.Until) = true
 ·have H := ifT c1 H
  refine gg h rfl rfl c1 (p_lfx (K := (Kd.eq (.func (.func 37) #[] #[pt b3]))) (A := (Kd.eq (.func (.func 37) #[] #[pt b3]))) (pr := fun x => x) (off := 0) 4 rfl rfl sub_self rfl X_eq t_y59) rfl fun _ _ _ h => ?_
  refine gg h rfl rfl c1 (o_ldv 0 rfl rfl PLease t_y42) rfl fun v2 _ _ h => ?_
  obtain ⟨r1, er1, H⟩ := bindE H
  refine gg h rfl rfl c1 (o_callv (vs := [v2]) (caps := [pt b3]) rfl rfl (lease_Find_1.spc v2 a1 b3 a3 r1 er1) [0, 4] [] (by decide) rfl rfl) rfl fun _ _ _ h => ?_
  refine ga h (o_pickT rfl rfl c1) rfl fun h => ?_
  refine ga h (o_assign rfl) rfl fun h => ?_
  refine GoR.done ?_
  exact J1 r1 _ _ (som H).symm (h.wr [1, 3, 4, 5])
 ·have H := ifF c1 H
  iterate 3 (refine gk h rfl rfl (nb_f c1) rfl fun _ h => ?_)
  refine ga h (o_pickF rfl rfl c1) rfl fun h => ?_
  refine ga h (o_assign rfl) rfl fun h => ?_
  refine GoR.done ?_
  exact J1 false _ _ (som H).symm (h.wr [0, 2, 3, 4])
def lease_held_1_at_lease_Find_1.g (k_ : Nat) (a1 : TLease) (a2 : Int) (a3 : List Int) : Option (Bool) :=
  ((if decide (a2 < a1.Until) = true then (lease_Find_1.g k_ a1 a3).bind fun r1 => some (r1) else some (false))).bind (fun j1 => some (j1))
theorem lease_held_1_at_lease_Find_1.le (k_ : Nat) (a1 : TLease) (a2 : Int) (a3 : List Int) : Le (lease_held_1_at_lease_Find_1.g k_ a1 a2 a3) (lease_held_1_at_lease_Find_1.f a1 a2 a3) := by
 unfold lease_held_1_at_lease_Find_1.g lease_held_1_at_lease_Find_1.f
 repeat' (first | with_reducible refine le_loop fun _ => ?_ | with_reducible refine le_bind ?_ fun _ => ?_ | with_reducible refine le_ite ?_ ?_ | with_reducible refine le_lt fun _ => ?_ | with_reducible refine le_elim (fun _ => ?_) (fun _ => ?_) _ | with_reducible apply lease_Find_1.le | with_reducible exact le_refl _)
/-! slices.IndexFunc[[]drawbridge/api.Lease,drawbridge/api.Lease] -/
noncomputable def slices_IndexFunc_s_api_Lease_api_Lease_at_lease_held_1_of_lease_Find_1.f (a1 : List TLease) (a2 : Int) (a3 : List Int) : Option (Int) :=
  (loop (fun s1 => (if decide (s1 < (a1.length : Int)) = true then (idx a1 s1).bind fun x1 => (lease_held_1_at_lease_Find_1.f x1 a2 a3).bind fun r1 => (if r1 = true then some (.inr (.inr (s1))) else some (.inl (IntKind.i64.wrap (s1 + 1)))) else some (.inr (.inl (()))))) 0).bind (Sum.elim (fun j1 => some ((-1))) (fun z_ => some (z_)))
set_option maxRecDepth 100000 in
set_option maxHeartbeats 4000000 in
theorem slices_IndexFunc_s_api_Lease_api_Lease_at_lease_held_1_of_lease_Find_1.spc (v1 : Value) (a1 : List TLease) (b1 : Nat) (a2 : Int) (b2 : Nat) (b3 : Nat) (a3 : List Int) (r : Int) (H : slices_IndexFunc_s_api_Lease_api_Lease_at_lease_held_1_of_lease_Find_1.f a1 a2 a3 = some r) : Spc Try.prog 63 [v1, .func (.func 57) #[] #[pt b1, pt b2]] [Val (Kd.sl KLease) v1 a1, Pfl (Kd.int .i64) b1 0 a2, Pfl (Kd.sl (Kd.int .u8)) b3 0 a3, Pfl (Kd.eq (.func (.func 37) #[] #[pt b3])) b2 0 ()] [] (fun (s : Unit) => .int .i64 r) (fun s => [Ent.pur (InR .i64 r)]) := by
 unfold slices_IndexFunc_s_api_Lease_api_Lease_at_lease_held_1_of_lease_Find_1.f at H
 refine Spc.go Try.func63 rfl (by kernel_rfl) rfl rfl (all_cons (Val.per Per_sl) (all_cons Per_pfl (all_cons Per_pfl (all_cons Per_pfl all_nil)))) fun F a w h => ?_
 refine Go.seq ?_
 refine Go.reg ?_
 refine ga h (o_assign rfl) rfl fun h => ?_
 refine GoR.done ?_
 refine Go.seq ?_
 refine Go.seq ?_
 refine Go.reg ?_
 refine mv h rfl rfl fun h => ?_
 have g1 := (len_at 0 rfl h.mem)
 refine ga h (o_ln rfl (rd_at 0 rfl) t_v26) rfl fun h => ?_
 refine mv h rfl rfl fun h => ?_
 refine GoR.done ?_
 refine Go.block ?_
 obtain ⟨o1, hl, G1⟩ := bindE H
 refine g_cut (fun G => ∀ j1 (a : Act) (w : World), o1 = .inl (j1) → St Try.f63.ntmps F [] [Pfl (Kd.int .i64) b1 0 a2, Pfl (Kd.sl (Kd.int .u8)) b3 0 a3, Pfl (Kd.eq (.func (.func 37) #[] #[pt b3])) b2 0 ()] a w → G a w) 2 ?_ fun J1 => ?_
 ·intro j1 a w ho_ h
  rw [ho_] at G1
  have H := eInl G1
  refine Go.seq ?_
  refine Go.reg ?_
  refine ga h (o_assign rfl) rfl fun h => ?_
  refine GoR.done ?_
  rw [← som H]
  exact g_ret (vs := [.int .i64 (-1)]) h Try.func63 ⟨rfl, trivial⟩ ⟨(), rfl, ((h.mem.pick [] (by decide) rfl).addpur (show InR .i64 (-1) by decide))⟩
 refine g_loop (fun s1 G => ∀  (a : Act) (w : World), InR .i64 s1 → St Try.f63.ntmps F [(0, v1), (1, .func (.func 57) #[] #[pt b1, pt b2]), (7, .int .i64 (a1.length : Int)), (8, .int .i64 s1)] [Val (Kd.sl KLease) v1 a1, Pfl (Kd.int .i64) b1 0 a2, Pfl (Kd.sl (Kd.int .u8)) b3 0 a3, Pfl (Kd.eq (.func (.func 37) #[] #[pt b3])) b2 0 ()] a w → G a w) hl (fun s1 p1 H i1 => ?_) fun I_ => ?_
 ·intro  a w g2 h
  refine Go.seq ?_
  refine Go.reg ?_
  refine ga h (o_bin rfl rfl rfl) rfl fun h => ?_
  refine GoR.done ?_
  refine Go.seq ?_
  by_cases c1 : decide (s1 < (a1.length : Int)) = true
  ·have H := ifT c1 H
   refine g_t h rfl c1 ?_
   refine Go.skip ?_
   refine Go.seq ?_
   refine Go.block ?_
   refine Go.seq ?_
   refine Go.reg ?_
   refine mv h rfl rfl fun h => ?_
   refine ga h (o_assign rfl) rfl fun h => ?_
   refine GoR.done ?_
   refine Go.seq ?_
   refine Go.reg ?_
   iterate 3 (refine ga h (o_move rfl) rfl fun h => ?_)
   obtain ⟨x1, ex1, H⟩ := bindE H
   refine ga h (o_ix rfl rfl (rd_at 0 rfl) ex1 t_v26) rfl fun h => ?_
   refine gs h (o_lev rfl (rd_at 0 rfl) ex1 t_y42 (by decide)) rfl fun v2 _ _ h => ?_
   obtain ⟨r1, er1, H⟩ := bindE H
   refine ga h (o_callv (vs := [v2]) (caps := [pt b1, pt b2]) rfl rfl (lease_held_1_at_lease_Find_1.spc v2 x1 b1 a2 b2 b3 a3 r1 er1) [0, 2, 3, 4] [] (by decide) rfl rfl) rfl fun h => ?_
   refine GoR.done ?_
   by_cases c2 : r1 = true
   ·have H := ifT c2 H
    refine g_t h rfl c2 ?_
    refine Go.seq ?_
    refine Go.reg ?_
    refine mv h rfl rfl fun h => ?_
    refine ga h (o_assign rfl) rfl fun h => ?_
    refine GoR.done ?_
    have e_ := som H; subst e_
    rw [← nx_out i1] at G1
    have H := G1
    rw [← som H]
    exact g_ret (vs := [.int .i64 s1]) h Try.func63 ⟨rfl, trivial⟩ ⟨(), rfl, ((h.mem.pick [] (by decide) rfl).addpur g2)⟩
   ·have H := ifF c2 H
    refine g_f h rfl c2 ?_
    refine Go.skip ?_
    refine Go.inBlock ?_
    refine Go.reg ?_
    refine ga h (o_bin rfl rfl rfl) rfl fun h => ?_
    refine mv h rfl rfl fun h => ?_
    refine GoR.done ?_
    have e_ := som H; subst e_
    exact Go.inLoop (nx_in i1 _ _ (wrap_in _ _) (h.wr [1, 2, 3, 4]))
  ·have H := ifF c1 H
   refine g_f h rfl c1 ?_
   refine Go.exit rfl ?_
   have e_ := som H; subst e_
   exact J1 () _ _ (nx_out i1).symm (h.wr [1, 2, 3])
 ·exact I_ _ _ (show InR .i64 0 by decide) (h.wr [0, 1, 2, 3])
def slices_IndexFunc_s_api_Lease_api_Lease_at_lease_held_1_of_lease_Find_1.g (k_ : Nat) (a1 : List TLease) (a2 : Int) (a3 : List Int) : Option (Int) :=
  (loopK k_ (fun s1 => (if decide (s1 < (a1.length : Int)) = true then (idx a1 s1).bind fun x1 => (lease_held_1_at_lease_Find_1.g k_ x1 a2 a3).bind fun r1 => (if r1 = true then some (.inr (.inr (s1))) else some (.inl (IntKind.i64.wrap (s1 + 1)))) else some (.inr (.inl (()))))) 0).bind (Sum.elim (fun j1 => some ((-1))) (fun z_ => some (z_)))
theorem slices_IndexFunc_s_api_Lease_api_Lease_at_lease_held_1_of_lease_Find_1.le (k_ : Nat) (a1 : List TLease) (a2 : Int) (a3 : List Int) : Le (slices_IndexFunc_s_api_Lease_api_Lease_at_lease_held_1_of_lease_Find_1.g k_ a1 a2 a3) (slices_IndexFunc_s_api_Lease_api_Lease_at_lease_held_1_of_lease_Find_1.f a1 a2 a3) := by
 unfold slices_IndexFunc_s_api_Lease_api_Lease_at_lease_held_1_of_lease_Find_1.g slices_IndexFunc_s_api_Lease_api_Lease_at_lease_held_1_of_lease_Find_1.f
 repeat' (first | with_reducible refine le_loop fun _ => ?_ | with_reducible refine le_bind ?_ fun _ => ?_ | with_reducible refine le_ite ?_ ?_ | with_reducible refine le_lt fun _ => ?_ | with_reducible refine le_elim (fun _ => ?_) (fun _ => ?_) _ | with_reducible apply lease_held_1_at_lease_Find_1.le | with_reducible exact le_refl _)
/-! drawbridge/lease.first[drawbridge/api.Lease] -/
noncomputable def lease_first_api_Lease_at_lease_held_1_of_lease_Find_1.f (a1 : List TLease) (a2 : Int) (a3 : List Int) : Option (TLease × Bool) :=
  (slices_IndexFunc_s_api_Lease_api_Lease_at_lease_held_1_of_lease_Find_1.f a1 a2 a3).bind fun r1 => (if decide (r1 < 0) = true then some ((zLease, false)) else (idx a1 r1).bind fun x1 => some ((x1, true)))
set_option maxRecDepth 100000 in
set_option maxHeartbeats 4000000 in
theorem lease_first_api_Lease_at_lease_held_1_of_lease_Find_1.spc (v1 : Value) (a1 : List TLease) (b1 : Nat) (a2 : Int) (b2 : Nat) (b3 : Nat) (a3 : List Int) (r : TLease × Bool) (H : lease_first_api_Lease_at_lease_held_1_of_lease_Find_1.f a1 a2 a3 = some r) : Spc Try.prog 56 [v1, .func (.func 57) #[] #[pt b1, pt b2]] [Val (Kd.sl KLease) v1 a1, Pfl (Kd.int .i64) b1 0 a2, Pfl (Kd.sl (Kd.int .u8)) b3 0 a3, Pfl (Kd.eq (.func (.func 37) #[] #[pt b3])) b2 0 ()] [] (fun (s : Value) => .tuple #[s, .bool r.2]) (fun s => [Val KLease s r.1]) := by
 unfold lease_first_api_Lease_at_lease_held_1_of_lease_Find_1.f at H
 refine Spc.go Try.func56 rfl (by kernel_rfl) rfl rfl (all_cons (Val.per Per_sl) (all_cons Per_pfl (all_cons Per_pfl (all_cons Per_pfl all_nil)))) fun F a w h => ?_
 refine Go.seq ?_
 refine Go.reg ?_
 refine gs h (o_alloc (K := KLease) (z := (.agg #[.slice none 0 0, .int .u32 0, .int .i64 0])) rfl ZLease) rfl fun b4 _ _ h => ?_
 refine ga h (o_assign rfl) rfl fun h => ?_
 refine GoR.done ?_
 refine Go.seq ?_
 refine Go.reg ?_
 refine mv h rfl rfl fun h => ?_
 refine mv h rfl rfl fun h => ?_
 obtain ⟨r1, er1, H⟩ := bindE H
 refine ga h (o_call (slices_IndexFunc_s_api_Lease_api_Lease_at_lease_held_1_of_lease_Find_1.spc v1 a1 b1 a2 b2 b3 a3 r1 er1) rfl [1, 2, 3, 4] [] (by decide) rfl rfl) rfl fun h => ?_
 have g1 := h.mem.pur 0 rfl
 refine ga h (o_assign rfl) rfl fun h => ?_
 refine GoR.done ?_
 refine Go.seq ?_
 refine Go.seq ?_
 refine Go.reg ?_
 refine mv h rfl rfl fun h => ?_
 refine ga h (o_bin rfl rfl rfl) rfl fun h => ?_
 refine GoR.done ?_
 by_cases c1 : decide (r1 < 0) = true
 ·have H := ifT c1 H
  refine g_t h rfl c1 ?_
  refine Go.seq ?_
  refine Go.reg ?_
  refine gs h (o_alloc (K := KLease) (z := (.agg #[.slice none 0 0, .int .u32 0, .int .i64 0])) rfl ZLease) rfl fun b5 _ _ h => ?_
  refine GoR.done ?_
  refine Go.seq ?_
  refine Go.reg ?_
  refine gs h (o_ldv 0 rfl rfl PLease t_y42) rfl fun v2 _ _ h => ?_
  refine gs0 h (o_st 3 rfl rfl rfl (pv_at PLease 0 rfl) rfl t_w42) fun _ _ _ h => ?_
  refine ga h (o_assign rfl) rfl fun h => ?_
  refine GoR.done ?_
  obtain ⟨v3, h, u1⟩ := h.peek 3 rfl PLease t_y42
  rw [← som H]
  exact g_ret (vs := [v3, .bool false]) h Try.func56 ⟨⟨_, rfl, u1⟩, ⟨rfl, trivial⟩⟩ ⟨v3, rfl, (h.mem.pick [0] (by decide) rfl)⟩
 ·have H := ifF c1 H
  refine g_f h rfl c1 ?_
  refine Go.skip ?_
  refine Go.seq ?_
  refine Go.reg ?_
  refine mv h rfl rfl fun h => ?_
  refine mv h rfl rfl fun h => ?_
  obtain ⟨x1, ex1, H⟩ := bindE H
  refine ga h (o_ix rfl rfl (rd_at 2 rfl) ex1 t_v26) rfl fun h => ?_
  refine gs h (o_lev rfl (rd_at 2 rfl) ex1 t_y42 (by decide)) rfl fun v4 _ _ h => ?_
  refine gs0 h (o_st 2 rfl rfl rfl (pv_at PLease 0 rfl) rfl t_w42) fun _ _ _ h => ?_
  refine ga h (o_assign rfl) rfl fun h => ?_
  refine GoR.done ?_
  obtain ⟨v5, h, u2⟩ := h.peek 2 rfl PLease t_y42
  rw [← som H]
  exact g_ret (vs := [v5, .bool true]) h Try.func56 ⟨⟨_, rfl, u2⟩, ⟨rfl, trivial⟩⟩ ⟨v5, rfl, (h.mem.pick [0] (by decide) rfl)⟩
def lease_first_api_Lease_at_lease_held_1_of_lease_Find_1.g (k_ : Nat) (a1 : List TLease) (a2 : Int) (a3 : List Int) : Option (TLease × Bool) :=
  (slices_IndexFunc_s_api_Lease_api_Lease_at_lease_held_1_of_lease_Find_1.g k_ a1 a2 a3).bind fun r1 => (if decide (r1 < 0) = true then some ((zLease, false)) else (idx a1 r1).bind fun x1 => some ((x1, true)))
theorem lease_first_api_Lease_at_lease_held_1_of_lease_Find_1.le (k_ : Nat) (a1 : List TLease) (a2 : Int) (a3 : List Int) : Le (lease_first_api_Lease_at_lease_held_1_of_lease_Find_1.g k_ a1 a2 a3) (lease_first_api_Lease_at_lease_held_1_of_lease_Find_1.f a1 a2 a3) := by
 unfold lease_first_api_Lease_at_lease_held_1_of_lease_Find_1.g lease_first_api_Lease_at_lease_held_1_of_lease_Find_1.f
 repeat' (first | with_reducible refine le_loop fun _ => ?_ | with_reducible refine le_bind ?_ fun _ => ?_ | with_reducible refine le_ite ?_ ?_ | with_reducible refine le_lt fun _ => ?_ | with_reducible refine le_elim (fun _ => ?_) (fun _ => ?_) _ | with_reducible apply slices_IndexFunc_s_api_Lease_api_Lease_at_lease_held_1_of_lease_Find_1.le | with_reducible exact le_refl _)
/-! drawbridge/lease.held -/
noncomputable def lease_held_at_lease_Find_1.f (a1 : List TLease) (a2 : Int) (a3 : List Int) : Option (TLease × Bool) :=
  ((lease_Check.f a1).bind fun r1 => (if (!r1) = true then some (true) else (lease_tick.f a2).bind fun r2 => some ((!r2)))).bind (fun j1 => (if j1 = true then some (((⟨[], 0, 0⟩ : TLease), false)) else (lease_first_api_Lease_at_lease_held_1_of_lease_Find_1.f a1 a2 a3).bind fun r3 => some ((r3.1, r3.2))))
set_option maxRecDepth 100000 in
set_option maxHeartbeats 4000000 in
theorem lease_held_at_lease_Find_1.spc (v1 : Value) (a1 : List TLease) (a2 : Int) (ha2 : InR .i64 a2) (b1 : Nat) (a3 : List Int) (r : TLease × Bool) (H : lease_held_at_lease_Find_1.f a1 a2 a3 = some r) : Spc Try.prog 26 [v1, .int .i64 a2, .func (.func 37) #[] #[pt b1]] [Val (Kd.sl KLease) v1 a1, Pfl (Kd.sl (Kd.int .u8)) b1 0 a3] [] (fun (s : Value) => .tuple #[s, .bool r.2]) (fun s => [Val KLease s r.1]) := by
 unfold lease_held_at_lease_Find_1.f at H
 refine Spc.go Try.func26 rfl (by kernel_rfl) rfl rfl (all_cons (Val.per Per_sl) (all_cons Per_pfl all_nil)) fun F a w h => ?_
 refine Go.seq ?_
 refine Go.reg ?_
 refine gs h (o_box (K := (Kd.int .i64)) rfl (pv_int ha2)) rfl fun b2 _ _ h => ?_
 refine gs h (o_box (K := (Kd.eq (.func (.func 37) #[] #[pt b1]))) rfl (pv_eq rfl)) rfl fun b3 _ _ h => ?_
 refine gs h (o_alloc (K := KLease) (z := (.agg #[.slice none 0 0, .int .u32 0, .int .i64 0])) rfl ZLease) rfl fun b4 _ _ h => ?_
 refine ga h (o_assign rfl) rfl fun h => ?_
 refine GoR.done ?_
 refine Go.seq ?_
 refine Go.seq ?_
 obtain ⟨o1, H, G1⟩ := bindE H
 refine g_cut (fun G => ∀ j1 (a : Act) (w : World), o1 = j1 → St Try.f26.ntmps F [(0, v1), (4, pt b2), (5, pt b3), (6, pt b4), (15, .bool j1)] [Val (Kd.sl KLease) v1 a1, Fld KLease b4 0 zLease, Fld (Kd.eq (.func (.func 37) #[] #[pt b1])) b3 0 (), Fld (Kd.int .i64) b2 0 a2, Pfl (Kd.sl (Kd.int .u8)) b1 0 a3] a w → G a w) 1 ?_ fun J1 => ?_
 ·intro j1 a w ho_ h
  rw [ho_] at G1
  have H := G1
  by_cases c2 : j1 = true
  ·have H := ifT c2 H
   refine g_t h rfl c2 ?_
   refine Go.seq ?_
   refine Go.reg ?_
   refine gs h (o_build (K := KLease) (x := (⟨[], 0, 0⟩ : TLease)) (ps := []) rfl (zs := zsLease) rfl t_b42 rfl (show PB (Kd.pair (Kd.sl (Kd.int .u8)) (Kd.pair (Kd.int .u32) (Kd.last (Kd.int .i64)))) ([], 0, 0) 0 zsLease _ _ from (pb_zero z_sl (pb_zero z_int (pb_lastz z_int))))) rfl fun v2 _ _ h => ?_
   refine gs0 h (o_st 2 rfl rfl rfl (pv_at PLease 0 rfl) rfl t_w42) fun _ _ _ h => ?_
   refine ga h (o_assign rfl) rfl fun h => ?_
   refine GoR.done ?_
   obtain ⟨v3, h, u1⟩ := h.peek 2 rfl PLease t_y42
   rw [← som H]
   exact g_ret (vs := [v3, .bool false]) h Try.func26 ⟨⟨_, rfl, u1⟩, ⟨rfl, trivial⟩⟩ ⟨v3, rfl, (h.mem.pick [0] (by decide) rfl)⟩
  ·have H := ifF c2 H
   refine g_f h rfl c2 ?_
   refine Go.skip ?_
   refine Go.seq ?_
   refine Go.reg ?_
   refine mv h rfl rfl fun h => ?_
   refine ga h (o_makeFunc (vs := [pt b2, pt b3]) rfl) rfl fun h => ?_
   replace h := h.mm fun m => m.frz Per_int 3 rfl
   replace h := h.mm fun m => m.frz Per_eq 2 rfl
   obtain ⟨r3, er3, H⟩ := bindE H
   refine gs h (o_call (lease_first_api_Lease_at_lease_held_1_of_lease_Find_1.spc v1 a1 b2 a2 b3 b1 a3 r3 er3) rfl [0, 3, 4, 2] [] (by decide) rfl rfl) rfl fun v4 _ _ h => ?_
   refine ga h (o_extract rfl rfl) rfl fun h => ?_
   refine ga h (o_extract rfl rfl) rfl fun h => ?_
   refine gs0 h (o_st 2 rfl rfl rfl (pv_at PLease 0 rfl) rfl t_w42) fun _ _ _ h => ?_
   refine ga h (o_assign rfl) rfl fun h => ?_
   refine GoR.done ?_
   obtain ⟨v5, h, u2⟩ := h.peek 2 rfl PLease t_y42
   rw [← som H]
   exact g_ret (vs := [v5, .bool r3.2]) h Try.func26 ⟨⟨_, rfl, u2⟩, ⟨rfl, trivial⟩⟩ ⟨v5, rfl, (h.mem.pick [0] (by decide) rfl)⟩
 refine Go.reg ?_
 refine mv h rfl rfl fun h => ?_
 obtain ⟨r1, er1, H⟩ := bindE H
 refine ga h (o_call (lease_Check.spc v1 a1 r1 er1) rfl [3] [] (by decide) rfl rfl) rfl fun h => ?_
 refine ga h (o_not rfl) rfl fun h => ?_
 refine mv h rfl rfl fun h => ?_
 by_cases c1 : (!r1) = true
 ·have H := ifT c1 H
  iterate 3 (refine gk h rfl rfl (nb_t c1) rfl fun _ h => ?_)
  refine ga h (o_pickT rfl rfl c1) rfl fun h => ?_
  refine GoR.done ?_
  exact J1 true _ _ (som H).symm (h.wr [3, 0, 1, 2, 4])
 ·have H := ifF c1 H
  have g1 := (fd_in 2 rfl h.mem)
  refine gg h rfl rfl (nbF c1) (o_ldx 2 rfl rfl X_int t_y3) rfl fun _ _ _ h => ?_
  obtain ⟨r2, er2, H⟩ := bindE H
  refine gg h rfl rfl (nbF c1) (o_call (lease_tick.spc a2 g1 r2 er2) rfl [] [] (by decide) rfl rfl) rfl fun _ _ _ h => ?_
  refine gg h rfl rfl (nbF c1) (o_not rfl) rfl fun _ _ _ h => ?_
  refine ga h (o_pickF rfl rfl c1) rfl fun h => ?_
  refine GoR.done ?_
  exact J1 (!r2) _ _ (som H).symm (h.wr [3, 0, 1, 2, 4])
def lease_held_at_lease_Find_1.g (k_ : Nat) (a1 : List TLease) (a2 : Int) (a3 : List Int) : Option (TLease × Bool) :=
  ((lease_Check.g k_ a1).bind fun r1 => (if (!r1) = true then some (true) else (lease_tick.g k_ a2).bind fun r2 => some ((!r2)))).bind (fun j1 => (if j1 = true then some (((⟨[], 0, 0⟩ : TLease), false)) else (lease_first_api_Lease_at_lease_held_1_of_lease_Find_1.g k_ a1 a2 a3).bind fun r3 => some ((r3.1, r3.2))))
theorem lease_held_at_lease_Find_1.le (k_ : Nat) (a1 : List TLease) (a2 : Int) (a3 : List Int) : Le (lease_held_at_lease_Find_1.g k_ a1 a2 a3) (lease_held_at_lease_Find_1.f a1 a2 a3) := by
 unfold lease_held_at_lease_Find_1.g lease_held_at_lease_Find_1.f
 repeat' (first | with_reducible refine le_loop fun _ => ?_ | with_reducible refine le_bind ?_ fun _ => ?_ | with_reducible refine le_ite ?_ ?_ | with_reducible refine le_lt fun _ => ?_ | with_reducible refine le_elim (fun _ => ?_) (fun _ => ?_) _ | with_reducible apply lease_Check.le | with_reducible apply lease_first_api_Lease_at_lease_held_1_of_lease_Find_1.le | with_reducible apply lease_tick.le | with_reducible exact le_refl _)
/-! drawbridge/lease.Find -/
noncomputable def lease_Find.f (a1 : List TLease) (a2 : Int) (a3 : List Int) : Option (Int × Bool) :=
  (lease_held_at_lease_Find_1.f a1 a2 a3).bind fun r1 => some ((r1.1.Ip, r1.2))
set_option maxRecDepth 100000 in
set_option maxHeartbeats 4000000 in
theorem lease_Find.spc (v1 : Value) (a1 : List TLease) (a2 : Int) (ha2 : InR .i64 a2) (v2 : Value) (a3 : List Int) (r : Int × Bool) (H : lease_Find.f a1 a2 a3 = some r) : Spc Try.prog 14 [v1, .int .i64 a2, v2] [Val (Kd.sl KLease) v1 a1, Val (Kd.sl (Kd.int .u8)) v2 a3] [] (fun (s : Unit) => .tuple #[.int .u32 r.1, .bool r.2]) (fun s => [Ent.pur (InR .u32 r.1)]) := by
 unfold lease_Find.f at H
 refine Spc.go Try.func14 rfl (by kernel_rfl) rfl rfl (all_cons (Val.per Per_sl) (all_cons (Val.per Per_sl) all_nil)) fun F a w h => ?_
 refine Go.seq ?_
 refine Go.reg ?_
 refine gs h (o_box (K := (Kd.sl (Kd.int .u8))) rfl (pv_at Per_sl 1 rfl)) rfl fun b1 _ _ h => ?_
 refine ga h (o_assign rfl) rfl fun h => ?_
 refine ga h (o_assign rfl) rfl fun h => ?_
 refine GoR.done ?_
 refine Go.seq ?_
 refine Go.reg ?_
 refine mv h rfl rfl fun h => ?_
 refine mv h rfl rfl fun h => ?_
 refine ga h (o_makeFunc (vs := [pt b1]) rfl) rfl fun h => ?_
 replace h := h.mm fun m => m.frz Per_sl 0 rfl
 obtain ⟨r1, er1, H⟩ := bindE H
 refine gs h (o_call (lease_held_at_lease_Find_1.spc v1 a1 a2 ha2 b1 a3 r1 er1) rfl [1, 0] [] (by decide) rfl rfl) rfl fun v3 _ _ h => ?_
 refine mv h rfl rfl fun h => ?_
 refine ga h (o_extract rfl rfl) rfl fun h => ?_
 refine ga h (o_extract rfl rfl) rfl fun h => ?_
 refine gs h (o_alloc (K := KLease) (z := (.agg #[.slice none 0 0, .int .u32 0, .int .i64 0])) rfl ZLease) rfl fun b2 _ _ h => ?_
 refine gs0 h (o_st 0 rfl rfl rfl (pv_at PLease 1 rfl) rfl t_w42) fun _ _ _ h => ?_
 refine ga h (o_assign rfl) rfl fun h => ?_
 refine GoR.done ?_
 refine Go.seq ?_
 refine Go.reg ?_
 refine ga h (o_fa rfl t_f42_1 rfl rfl) rfl fun h => ?_
 have g1 := (in2 (fd_sub sLease_Ip 0 rfl h.mem))
 refine ga h (o_lfx 0 rfl rfl sLease_Ip rfl X_int t_y25) rfl fun h => ?_
 refine mv h rfl rfl fun h => ?_
 refine ga h (o_assign rfl) rfl fun h => ?_
 refine ga h (o_assign rfl) rfl fun h => ?_
 refine GoR.done ?_
 rw [← som H]
 exact g_ret (vs := [.int .u32 r1.1.Ip, .bool r1.2]) h Try.func14 ⟨rfl, ⟨rfl, trivial⟩⟩ ⟨(), rfl, ((h.mem.pick [] (by decide) rfl).addpur g1)⟩
def lease_Find.g (k_ : Nat) (a1 : List TLease) (a2 : Int) (a3 : List Int) : Option (Int × Bool) :=
  (lease_held_at_lease_Find_1.g k_ a1 a2 a3).bind fun r1 => some ((r1.1.Ip, r1.2))
theorem lease_Find.le (k_ : Nat) (a1 : List TLease) (a2 : Int) (a3 : List Int) : Le (lease_Find.g k_ a1 a2 a3) (lease_Find.f a1 a2 a3) := by
 unfold lease_Find.g lease_Find.f
 repeat' (first | with_reducible refine le_loop fun _ => ?_ | with_reducible refine le_bind ?_ fun _ => ?_ | with_reducible refine le_ite ?_ ?_ | with_reducible refine le_lt fun _ => ?_ | with_reducible refine le_elim (fun _ => ?_) (fun _ => ?_) _ | with_reducible apply lease_held_at_lease_Find_1.le | with_reducible exact le_refl _)
/-! drawbridge/lease.Owner$1 -/
noncomputable def lease_Owner_1.f (a1 : TLease) (a2 : Int) : Option (Bool) :=
  lt (decide (a1.Ip = a2)) fun y1 => some (y1)
set_option maxRecDepth 100000 in
set_option maxHeartbeats 4000000 in
theorem lease_Owner_1.spc (v1 : Value) (a1 : TLease) (b1 : Nat) (a2 : Int) (r : Bool) (H : lease_Owner_1.f a1 a2 = some r) : Spc Try.prog 27 [v1, pt b1] [Val KLease v1 a1, Pfl (Kd.int .u32) b1 0 a2] [] (fun (s : Unit) => .bool r) (fun s => []) := by
 unfold lease_Owner_1.f at H
 refine Spc.go Try.func27 rfl (by kernel_rfl) rfl rfl (all_cons (Val.per PLease) (all_cons Per_pfl all_nil)) fun F a w h => ?_
 refine Go.seq ?_
 refine Go.reg ?_
 refine gs h (o_box (K := KLease) rfl (pv_at PLease 0 rfl)) rfl fun b2 _ _ h => ?_
 refine ga h (o_assign rfl) rfl fun h => ?_
 refine GoR.done ?_
 refine Go.seq ?_
 refine Go.reg ?_
 refine ga h (o_fa rfl t_f42_1 rfl rfl) rfl fun h => ?_
 have g1 := (in2 (fd_sub sLease_Ip 0 rfl h.mem))
 refine ga h (o_lfx 0 rfl rfl sLease_Ip rfl X_int t_y25) rfl fun h => ?_
 have g2 := (in2 (pf_sub sub_self 2 rfl h.mem))
 refine ga h (p_lfx 2 rfl rfl sub_self rfl X_int t_y25) rfl fun h => ?_
 refine ga h (o_bin rfl rfl rfl) rfl fun h => ?_
 obtain ⟨y1, ey1, H⟩ := ltE H
 refine ga h (o_assign' rfl (congrArg Value.bool ey1)) rfl fun h => ?_
 refine GoR.done ?_
 rw [← som H]
 exact g_ret (vs := [.bool y1]) h Try.func27 ⟨rfl, trivial⟩ ⟨(), rfl, (h.mem.pick [] (by decide) rfl)⟩
def lease_Owner_1.g (k_ : Nat) (a1 : TLease) (a2 : Int) : Option (Bool) :=
  lt (decide (a1.Ip = a2)) fun y1 => some (y1)
theorem lease_Owner_1.le (k_ : Nat) (a1 : TLease) (a2 : Int) : Le (lease_Owner_1.g k_ a1 a2) (lease_Owner_1.f a1 a2) := by
 unfold lease_Owner_1.g lease_Owner_1.f
 repeat' (first | with_reducible refine le_loop fun _ => ?_ | with_reducible refine le_bind ?_ fun _ => ?_ | with_reducible refine le_ite ?_ ?_ | with_reducible refine le_lt fun _ => ?_ | with_reducible refine le_elim (fun _ => ?_) (fun _ => ?_) _ | with_reducible exact le_refl _)
/-! slices.Clone[[]byte,byte] -/
noncomputable def slices_Clone_s_byte_byte.f (a1 : List Int) : Option ((List Int)) :=
  (app ([] : List Int) a1).bind fun x1 => some (x1)
set_option maxRecDepth 100000 in
set_option maxHeartbeats 4000000 in
theorem slices_Clone_s_byte_byte.spc (v1 : Value) (a1 : List Int) (r : (List Int)) (H : slices_Clone_s_byte_byte.f a1 = some r) : Spc Try.prog 28 [v1] [Val (Kd.sl (Kd.int .u8)) v1 a1] [] (fun (s : Value) => s) (fun s => [Val (Kd.osl (Kd.int .u8)) s r]) := by
 unfold slices_Clone_s_byte_byte.f at H
 refine Spc.go Try.func28 rfl (by kernel_rfl) rfl rfl (all_cons (Val.per Per_sl) all_nil) fun F a w h => ?_
 refine Go.seq ?_
 refine Go.reg ?_
 refine ga h (o_assign rfl) rfl fun h => ?_
 refine GoR.done ?_
 refine Go.seq ?_
 refine Go.seq ?_
 refine Go.reg ?_
 refine mv h rfl rfl fun h => ?_
 refine gs h (o_eqn rfl rfl (rd_at 0 rfl) t_v22) rfl fun t1 _ _ h => ?_
 refine GoR.done ?_
 by_cases c1 : t1 = true
 ·have q_ := h.mem.pur 0 rfl c1
  have H : (some ([])) = some r := by rw [q_] at H; simpa [app, app1] using H
  refine g_t h rfl c1 ?_
  refine Go.seq ?_
  refine Go.reg ?_
  refine ga h (o_assign rfl) rfl fun h => ?_
  refine GoR.done ?_
  replace h := h.mm fun m => m.nilo (Kd.int .u8)
  rw [← som H]
  exact g_ret (vs := [.slice none 0 0]) h Try.func28 ⟨rfl, trivial⟩ ⟨.slice none 0 0, rfl, (h.mem.pick [0] (by decide) rfl)⟩
 ·refine g_f h rfl c1 ?_
  refine Go.skip ?_
  refine Go.seq ?_
  refine Go.reg ?_
  refine gs h (o_bs (K := (Kd.int .u8)) (vs := []) (xs := ([] : List Int)) rfl rfl pvs_nil t_a22 (by decide) (by decide)) rfl fun v2 _ _ h => ?_
  refine mv h rfl rfl fun h => ?_
  obtain ⟨x1, ex1, H⟩ := bindE H
  refine gs h (o_app (K := (Kd.int .u8)) 0 rfl rfl rfl (rd_at 2 rfl) ex1 t_a22 t_n22) rfl fun v3 _ _ h => ?_
  refine ga h (o_assign rfl) rfl fun h => ?_
  refine GoR.done ?_
  rw [← som H]
  exact g_ret (vs := [v3]) h Try.func28 ⟨rfl, trivial⟩ ⟨v3, rfl, (h.mem.pick [0] (by decide) rfl)⟩
def slices_Clone_s_byte_byte.g (k_ : Nat) (a1 : List Int) : Option ((List Int)) :=
  (app ([] : List Int) a1).bind fun x1 => some (x1)
theorem slices_Clone_s_byte_byte.le (k_ : Nat) (a1 : List Int) : Le (slices_Clone_s_byte_byte.g k_ a1) (slices_Clone_s_byte_byte.f a1) := by
 unfold slices_Clone_s_byte_byte.g slices_Clone_s_byte_byte.f
 repeat' (first | with_reducible refine le_loop fun _ => ?_ | with_reducible refine le_bind ?_ fun _ => ?_ | with_reducible refine le_ite ?_ ?_ | with_reducible refine le_lt fun _ => ?_ | with_reducible refine le_elim (fun _ => ?_) (fun _ => ?_) _ | with_reducible exact le_refl _)
/-! drawbridge/lease.held$1 -/
noncomputable def lease_held_1_at_lease_Owner_1.f (a1 : TLease) (a2 : Int) (a3 : Int) : Option (Bool) :=
  ((if decide (a2 < a1.Until) = true then (lease_Owner_1.f a1 a3).bind fun r1 => some (r1) else some (false))).bind (fun j1 => some (j1))
set_option maxRecDepth 100000 in
set_option maxHeartbeats 4000000 in
theorem lease_held_1_at_lease_Owner_1.spc (v1 : Value) (a1 : TLease) (b1 : Nat) (a2 : Int) (b2 : Nat) (b3 : Nat) (a3 : Int) (r : Bool) (H : lease_held_1_at_lease_Owner_1.f a1 a2 a3 = some r) : Spc Try.prog 57 [v1, pt b1, pt b2] [Val KLease v1 a1, Pfl (Kd.int .i64) b1 0 a2, Pfl (Kd.int .u32) b3 0 a3, Pfl (Kd.eq (.func (.func 27) #[] #[pt b3])) b2 0 ()] [] (fun (s : Unit) => .bool r) (fun s => []) := by
 unfold lease_held_1_at_lease_Owner_1.f at H
 refine Spc.go Try.func57 rfl (by kernel_rfl) rfl rfl (all_cons (Val.per PLease) (all_cons Per_pfl (all_cons Per_pfl (all_cons Per_pfl all_nil)))) fun F a w h => ?_
 refine Go.seq ?_
 refine Go.reg ?_
 refine gs h (o_box (K := KLease) rfl (pv_at PLease 0 rfl)) rfl fun b4 _ _ h => ?_
 refine ga h (o_assign rfl) rfl fun h => ?_
 refine GoR.done ?_
 refine Go.seq ?_
 obtain ⟨o1, H, G1⟩ := bindE H
 refine g_cut (fun G => ∀ j1 (a : Act) (w : World), o1 = j1 → St Try.f57.ntmps F [(4, .bool j1)] [Fld KLease b4 0 a1, Pfl (Kd.int .i64) b1 0 a2, Pfl (Kd.int .u32) b3 0 a3, Pfl (Kd.eq (.func (.func 27) #[] #[pt b3])) b2 0 ()] a w → G a w) 1 ?_ fun J1 => ?_
 ·intro j1 a w ho_ h
  rw [ho_] at G1
  have H := G1
  rw [← som H]
  exact g_ret (vs := [.bool j1]) h Try.func57 ⟨rfl, trivial⟩ ⟨(), rfl, (h.mem.pick [] (by decide) rfl)⟩
 refine Go.reg ?_
 refine ga h (o_fa rfl t_f42_2 rfl rfl) rfl fun h => ?_
 have g1 := (in2 (fd_sub sLease_Until 0 rfl h.mem))
 refine ga h (o_lfx 0 rfl rfl sLease_Until rfl X_int t_y3) rfl fun h => ?_
 have g2 := (in2 (pf_sub sub_self 2 rfl h.mem))
 refine ga h (p_lfx 2 rfl rfl sub_self rfl X_int t_y3) rfl fun h => ?_
 refine ga h (o_bin rfl rfl rfl) rfl fun h => ?_
 refine mv h rfl rfl fun h => ?_
 by_cases c1 : decide (a2 < a1.Until) = true
 ·have H := ifT c1 H
  refine gg h rfl rfl c1 (p_lfx (K := (Kd.eq (.func (.func 27) #[] #[pt b3]))) (A := (Kd.eq (.func (.func 27) #[] #[pt b3]))) (pr := fun x => x) (off := 0) 4 rfl rfl sub_self rfl X_eq t_y59) rfl fun _ _ _ h => ?_
  refine gg h rfl rfl c1 (o_ldv 0 rfl rfl PLease t_y42) rfl fun v2 _ _ h => ?_
  obtain ⟨r1, er1, H⟩ := bindE H
  refine gg h rfl rfl c1 (o_callv (vs := [v2]) (caps := [pt b3]) rfl rfl (lease_Owner_1.spc v2 a1 b3 a3 r1 er1) [0, 4] [] (by decide) rfl rfl) rfl fun _ _ _ h => ?_
  refine ga h (o_pickT rfl rfl c1) rfl fun h => ?_
  refine ga h (o_assign rfl) rfl fun h => ?_
  refine GoR.done ?_
  exact J1 r1 _ _ (som H).symm (h.wr [1, 3, 4, 5])
 ·have H := ifF c1 H
  iterate 3 (refine gk h rfl rfl (nb_f c1) rfl fun _ h => ?_)
  refine ga h (o_pickF rfl rfl c1) rfl fun h => ?_
  refine ga h (o_assign rfl) rfl fun h => ?_
  refine GoR.done ?_
  exact J1 false _ _ (som H).symm (h.wr [0, 2, 3, 4])
def lease_held_1_at_lease_Owner_1.g (k_ : Nat) (a1 : TLease) (a2 : Int) (a3 : Int) : Option (Bool) :=
  ((if decide (a2 < a1.Until) = true then (lease_Owner_1.g k_ a1 a3).bind fun r1 => some (r1) else some (false))).bind (fun j1 => some (j1))
theorem lease_held_1_at_lease_Owner_1.le (k_ : Nat) (a1 : TLease) (a2 : Int) (a3 : Int) : Le (lease_held_1_at_lease_Owner_1.g k_ a1 a2 a3) (lease_held_1_at_lease_Owner_1.f a1 a2 a3) := by
 unfold lease_held_1_at_lease_Owner_1.g lease_held_1_at_lease_Owner_1.f
 repeat' (first | with_reducible refine le_loop fun _ => ?_ | with_reducible refine le_bind ?_ fun _ => ?_ | with_reducible refine le_ite ?_ ?_ | with_reducible refine le_lt fun _ => ?_ | with_reducible refine le_elim (fun _ => ?_) (fun _ => ?_) _ | with_reducible apply lease_Owner_1.le | with_reducible exact le_refl _)
end Go.Proofs.Ytmmaojclfggioaa.S
