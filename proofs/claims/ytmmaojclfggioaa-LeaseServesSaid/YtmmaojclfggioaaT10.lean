/- Contracts, printed by a program of this session. -/
import Derived.Test.YtmmaojclfggioaaT9
namespace Go.Proofs.Ytmmaojclfggioaa.S
open Go Go.SL Go.RowKit
set_option linter.unusedVariables false
set_option linter.unusedSimpArgs false
/-! drawbridge/drawbridgeref25.Check -/
noncomputable def ref25_Check.f (a1 : List TLease) : Option (Bool) :=
  (if decide (8 < (a1.length : Int)) = true then some (false) else (loop (fun s1 => (if decide (s1 < (a1.length : Int)) = true then (idx a1 s1).bind fun x1 => ((ref25_pool.f x1.Ip).bind fun r1 => (if (!r1) = true then some (true) else (if (!decide ((x1.Mac.length : Int) = 6)) = true then some (true) else (if decide (x1.Until < 0) = true then some (true) else (if decide (1099511627776 < x1.Until) = true then some (true) else (if decide (0 < s1) = true then (idx a1 (IntKind.i64.wrap (s1 - 1))).bind fun x2 => some (decide (x1.Ip ≤ x2.Ip)) else some (false))))))).bind (fun j1 => (if j1 = true then some (.inr (.inr (false))) else (loop (fun s2 => (if decide (s2 < s1) = true then (idx a1 s2).bind fun x3 => (if decide (x3.Mac = x1.Mac) = true then some (.inr (.inr (false))) else lt (IntKind.i64.wrap (s2 + 1)) fun y1 => some (.inl y1)) else some (.inr (.inl (()))))) 0).bind (Sum.elim (fun j2 => lt (IntKind.i64.wrap (s1 + 1)) fun y2 => some (.inl y2)) (fun z_ => some (.inr (.inr (z_))))))) else some (.inr (.inl (()))))) 0).bind (Sum.elim (fun j3 => some (true)) (fun z_ => some (z_))))
set_option maxRecDepth 100000 in
set_option maxHeartbeats 4000000 in
theorem ref25_Check.spc (v1 : Value) (a1 : List TLease) (r : Bool) (H : ref25_Check.f a1 = some r) : Spc Try.prog 18 [v1] [Val (Kd.sl KLease) v1 a1] [] (fun (s : Unit) => .bool r) (fun s => []) := by
 unfold ref25_Check.f at H
 refine Spc.go Try.func18 rfl (by kernel_rfl) rfl rfl (all_cons (Val.per Per_sl) all_nil) fun F a w h => ?_
 refine Go.seq ?_
 refine Go.reg ?_
 refine ga h (o_assign rfl) rfl fun h => ?_
 refine GoR.done ?_
 refine Go.seq ?_
 refine Go.seq ?_
 refine Go.reg ?_
 refine mv h rfl rfl fun h => ?_
 have g1 := (len_at 0 rfl h.mem)
 refine ga h (o_ln rfl (rd_at 0 rfl) t_v26) rfl fun h => ?_
 refine ga h (o_bin rfl rfl rfl) rfl fun h => ?_
 refine GoR.done ?_
 by_cases c1 : decide (8 < (a1.length : Int)) = true
 ·have H := ifT c1 H
  refine g_t h rfl c1 ?_
  refine Go.seq ?_
  refine Go.reg ?_
  refine ga h (o_assign rfl) rfl fun h => ?_
  refine GoR.done ?_
  rw [← som H]
  exact g_ret (vs := [.bool false]) h Try.func18 ⟨rfl, trivial⟩ ⟨(), rfl, (h.mem.pick [] (by decide) rfl)⟩
 ·have H := ifF c1 H
  refine g_f h rfl c1 ?_
  refine Go.skip ?_
  refine Go.seq ?_
  refine Go.seq ?_
  refine Go.reg ?_
  refine ga h (o_assign rfl) rfl fun h => ?_
  refine GoR.done ?_
  refine Go.block ?_
  obtain ⟨o1, hl, G1⟩ := bindE H
  refine g_cut (fun G => ∀ j3 (a : Act) (w : World), o1 = .inl (j3) → St Try.f18.ntmps F [] [] a w → G a w) 2 ?_ fun J3 => ?_
  ·intro j3 a w ho_ h
   rw [ho_] at G1
   have H := eInl G1
   refine Go.seq ?_
   refine Go.reg ?_
   refine ga h (o_assign rfl) rfl fun h => ?_
   refine GoR.done ?_
   rw [← som H]
   exact g_ret (vs := [.bool true]) h Try.func18 ⟨rfl, trivial⟩ ⟨(), rfl, (h.mem.pick [] (by decide) rfl)⟩
  refine g_loop (fun s1 G => ∀  (a : Act) (w : World), InR .i64 s1 → St Try.f18.ntmps F [(0, v1), (3, .int .i64 s1)] [Val (Kd.sl KLease) v1 a1] a w → G a w) hl (fun s1 p1 H i1 => ?_) fun I_ => ?_
  ·intro  a w g2 h
   refine Go.seq ?_
   refine Go.seq ?_
   refine Go.reg ?_
   refine mv h rfl rfl fun h => ?_
   refine mv h rfl rfl fun h => ?_
   have g3 := (len_at 0 rfl h.mem)
   refine ga h (o_ln rfl (rd_at 0 rfl) t_v26) rfl fun h => ?_
   refine ga h (o_bin rfl rfl rfl) rfl fun h => ?_
   refine GoR.done ?_
   by_cases c2 : decide (s1 < (a1.length : Int)) = true
   ·have H := ifT c2 H
    refine g_t h rfl c2 ?_
    refine Go.skip ?_
    refine Go.seq ?_
    refine Go.block ?_
    refine Go.seq ?_
    refine Go.reg ?_
    refine mv h rfl rfl fun h => ?_
    refine mv h rfl rfl fun h => ?_
    obtain ⟨x1, ex1, H⟩ := bindE H
    refine ga h (o_ix rfl rfl (rd_at 0 rfl) ex1 t_v26) rfl fun h => ?_
    refine gs h (o_lev rfl (rd_at 0 rfl) ex1 t_y42 (by decide)) rfl fun v2 _ _ h => ?_
    refine gs h (o_alloc (K := KLease) (z := (.agg #[.slice none 0 0, .int .u32 0, .int .i64 0])) rfl ZLease) rfl fun b1 _ _ h => ?_
    refine gs0 h (o_st 0 rfl rfl rfl (pv_at PLease 1 rfl) rfl t_w42) fun _ _ _ h => ?_
    refine GoR.done ?_
    refine Go.seq ?_
    refine Go.seq ?_
    replace h := h.wq [(0, v1), (3, .int .i64 s1), (4, pt b1)] [Fld KLease b1 0 x1, Val KLease v2 x1, Val (Kd.sl KLease) v1 a1] [0, 1, 2]
    obtain ⟨o2, H, G2⟩ := bindE H
    refine g_cut (fun G => ∀ j1 (a : Act) (w : World), o2 = j1 → St Try.f18.ntmps F [(0, v1), (3, .int .i64 s1), (4, pt b1), (53, .bool j1)] [Val (Kd.sl KLease) v1 a1, Fld KLease b1 0 x1] a w → G a w) 1 ?_ fun J1 => ?_
    ·intro j1 a w ho_ h
     rw [ho_] at G2
     have H := G2
     by_cases c8 : j1 = true
     ·have H := ifT c8 H
      refine g_t h rfl c8 ?_
      refine Go.seq ?_
      refine Go.reg ?_
      refine ga h (o_assign rfl) rfl fun h => ?_
      refine GoR.done ?_
      have e_ := som H; subst e_
      rw [← nx_out i1] at G1
      have H := G1
      rw [← som H]
      exact g_ret (vs := [.bool false]) h Try.func18 ⟨rfl, trivial⟩ ⟨(), rfl, (h.mem.pick [] (by decide) rfl)⟩
     ·have H := ifF c8 H
      refine g_f h rfl c8 ?_
      refine Go.skip ?_
      refine Go.seq ?_
      refine Go.reg ?_
      refine ga h (o_assign rfl) rfl fun h => ?_
      refine GoR.done ?_
      refine Go.block ?_
      obtain ⟨o3, hl, G3⟩ := bindE H
      refine g_cut (fun G => ∀ j2 (a : Act) (w : World), o3 = .inl (j2) → St Try.f18.ntmps F [(0, v1), (3, .int .i64 s1)] [Val (Kd.sl KLease) v1 a1, Fld KLease b1 0 x1] a w → G a w) 3 ?_ fun J2 => ?_
      ·intro j2 a w ho_ h
       rw [ho_] at G3
       have H := eInl G3
       refine Go.reg ?_
       refine mv h rfl rfl fun h => ?_
       refine ga h (o_bin rfl rfl rfl) rfl fun h => ?_
       obtain ⟨y2, ey2, H⟩ := ltE H
       refine ga h (o_assign' rfl (congrArg (fun z => Value.int .i64 z) ey2)) rfl fun h => ?_
       refine GoR.done ?_
       have e_ := som H; subst e_
       exact Go.inLoop (nx_in i1 _ _ (ey2 ▸ (wrap_in _ _)) (h.wr [0]))
      refine g_loop (fun s2 G => ∀  (a : Act) (w : World), InR .i64 s2 → St Try.f18.ntmps F [(0, v1), (3, .int .i64 s1), (4, pt b1), (5, .int .i64 s2)] [Val (Kd.sl KLease) v1 a1, Fld KLease b1 0 x1] a w → G a w) hl (fun s2 p2 H i2 => ?_) fun I_ => ?_
      ·intro  a w g7 h
       refine Go.seq ?_
       refine Go.seq ?_
       refine Go.reg ?_
       refine mv h rfl rfl fun h => ?_
       refine mv h rfl rfl fun h => ?_
       refine ga h (o_bin rfl rfl rfl) rfl fun h => ?_
       refine GoR.done ?_
       by_cases c9 : decide (s2 < s1) = true
       ·have H := ifT c9 H
        refine g_t h rfl c9 ?_
        refine Go.skip ?_
        refine Go.seq ?_
        refine Go.block ?_
        refine Go.seq ?_
        replace h := h.wq [(0, v1), (3, .int .i64 s1), (4, pt b1), (5, .int .i64 s2)] [Val (Kd.sl KLease) v1 a1, Fld KLease b1 0 x1] [0, 1]
        obtain ⟨x3, ex3, H⟩ := bindE H
        refine Go.draw (E := [(0, v1), (3, .int .i64 s1), (4, pt b1), (5, .int .i64 s2)]) [] (L := [Val (Kd.sl KLease) v1 a1, Fld KLease b1 0 x1]) h rfl rfl 9 [cn (v1), cn (.int .i64 s2), ce [0, 1] (elemP v1 (s2.toNat * Kd.n KLease)), ce [0, 1, 2] (elemP v1 (s2.toNat * Kd.n KLease + 0)), cw [0, 1, 2, 3] [] [] fun u => [Val (Kd.sl (Kd.int .u8)) u x3.Mac], cm [0, 1, 2, 3, 4] [4] [] (.string (mkS x3.Mac)) fun u => [], cn (pt b1), cw [6] [] [] fun u => [Val (Kd.sl (Kd.int .u8)) u x1.Mac], cm [6, 7] [7] [] (.string (mkS x1.Mac)) fun u => []] rfl t_mxo (by kernel_rfl) (by rfl) ?_ fun f2 _ _ h => ?_
        ·exact ox rfl (o_move rfl) (ox rfl (o_move rfl) (ox rfl (o_ix rfl rfl (rd_at 0 rfl) ex3 t_v26) (ox rfl (o_fae (k' := s2.toNat * Kd.n KLease + 0) rfl (rd_at 0 rfl) ex3 (by decide) t_f42_0 rfl rfl) (oy rfl (o_lsv rfl (rd_at 0 rfl) ex3 sLease_Mac t_y22 (by decide)) (ox rfl (o_b2s rfl (rd_at 0 rfl) t_u22 t_u5 t_u9) (ox rfl (o_fa rfl t_f42_0 rfl rfl) (oy rfl (o_lfv 1 rfl rfl sLease_Mac rfl Per_sl t_y22) (ox rfl (o_b2s rfl (rd_at 0 rfl) t_u22 t_u5 t_u9) (obs_nil)))))))))
        replace h := h.wk (E' := [(0, v1), (3, .int .i64 s1), (4, pt b1), (5, .int .i64 s2), (64, .string (mkS x3.Mac)), (67, .string (mkS x1.Mac))]) (L' := [Val (Kd.sl (Kd.int .u8)) (f2 4) x3.Mac, Val (Kd.sl (Kd.int .u8)) (f2 7) x1.Mac, Val (Kd.sl KLease) v1 a1, Fld KLease b1 0 x1]) (by kernel_rfl) [0, 1, 2, 3] (by decide) (by kernel_rfl)
        have g8 := (rd_bs (rd_at 0 rfl) h.mem)
        have g9 := (rd_bs (rd_at 1 rfl) h.mem)
        refine ga h (o_eqs rfl rfl g8 g9) rfl fun h => ?_
        refine GoR.done ?_
        by_cases c10 : decide (x3.Mac = x1.Mac) = true
        ·have H := ifT c10 H
         refine g_t h rfl c10 ?_
         refine Go.seq ?_
         refine Go.reg ?_
         refine ga h (o_assign rfl) rfl fun h => ?_
         refine GoR.done ?_
         have e_ := som H; subst e_
         rw [← nx_out i2] at G3
         have H := G3
         have e_ := som H; subst e_
         rw [← nx_out i1] at G1
         have H := G1
         rw [← som H]
         exact g_ret (vs := [.bool false]) h Try.func18 ⟨rfl, trivial⟩ ⟨(), rfl, (h.mem.pick [] (by decide) rfl)⟩
        ·have H := ifF c10 H
         refine g_f h rfl c10 ?_
         refine Go.skip ?_
         refine Go.inBlock ?_
         refine Go.reg ?_
         refine mv h rfl rfl fun h => ?_
         refine ga h (o_bin rfl rfl rfl) rfl fun h => ?_
         obtain ⟨y1, ey1, H⟩ := ltE H
         refine ga h (o_assign' rfl (congrArg (fun z => Value.int .i64 z) ey1)) rfl fun h => ?_
         refine GoR.done ?_
         have e_ := som H; subst e_
         exact Go.inLoop (nx_in i2 _ _ (ey1 ▸ (wrap_in _ _)) (h.wr [2, 3]))
       ·have H := ifF c9 H
        refine g_f h rfl c9 ?_
        refine Go.exit rfl ?_
        refine Go.inBlock ?_
        have e_ := som H; subst e_
        exact J2 () _ _ (nx_out i2).symm (h.wr [0, 1])
      ·exact I_ _ _ (show InR .i64 0 by decide) (h.wr [0, 1])
    obtain ⟨r1, er1, H⟩ := bindE H
    by_cases c3 : (!r1) = true
    ·have H := ifT c3 H
     refine Go.draw (E := [(0, v1), (3, .int .i64 s1), (4, pt b1)]) [] (L := [Fld KLease b1 0 x1, Val KLease v2 x1, Val (Kd.sl KLease) v1 a1]) h rfl rfl 32 [cn (.pointer (some ⟨b1, 1, none⟩)), cm [0] [] [] (.int .u32 x1.Ip) fun u => [Ent.pur (InR .u32 x1.Ip)], cm [0, 1] [1] [] (.bool r1) fun u => [], ce [0, 1, 2] (.bool (!r1)), ce [0, 1, 2, 3] (.bool (!r1)), ⟨[4], [], [], true, .con undef, none, fun u => [], []⟩, ⟨[4], [], [], true, .con undef, none, fun u => [], []⟩, ⟨[4], [], [], true, .con undef, none, fun u => [], []⟩, ⟨[4], [], [], true, .con undef, none, fun u => [], []⟩, ce [0, 1, 2, 3, 4, 5, 6, 7, 8] (.bool true), ce [0, 1, 2, 3, 4, 5, 6, 7, 8, 9] (.bool true), ⟨[10], [], [], true, .con undef, none, fun u => [], []⟩, ⟨[10], [], [], true, .con undef, none, fun u => [], []⟩, ⟨[10], [], [], true, .con undef, none, fun u => [], []⟩, ce [0, 1, 2, 3, 4, 5, 6, 7, 8, 9, 10, 11, 12, 13] (.bool true), ce [0, 1, 2, 3, 4, 5, 6, 7, 8, 9, 10, 11, 12, 13, 14] (.bool true), ⟨[15], [], [], true, .con undef, none, fun u => [], []⟩, ⟨[15], [], [], true, .con undef, none, fun u => [], []⟩, ⟨[15], [], [], true, .con undef, none, fun u => [], []⟩, ce [0, 1, 2, 3, 4, 5, 6, 7, 8, 9, 10, 11, 12, 13, 14, 15, 16, 17, 18] (.bool true), ce [0, 1, 2, 3, 4, 5, 6, 7, 8, 9, 10, 11, 12, 13, 14, 15, 16, 17, 18, 19] (.bool true), ⟨[20], [], [], true, .con undef, none, fun u => [], []⟩, ⟨[20], [], [], true, .con undef, none, fun u => [], []⟩, ⟨[20], [], [], true, .con undef, none, fun u => [], []⟩, ⟨[23], [], [], true, .con undef, none, fun u => [], []⟩, ⟨[23], [], [], true, .con undef, none, fun u => [], []⟩, ⟨[23], [], [], true, .con undef, none, fun u => [], []⟩, ⟨[23], [], [], true, .con undef, none, fun u => [], []⟩, ⟨[23], [], [], true, .con undef, none, fun u => [], []⟩, ⟨[23], [], [], true, .con undef, none, fun u => [], []⟩, ⟨[23], [], [], true, .con undef, none, fun u => [], []⟩, ⟨[23], [], [], true, .con undef, none, fun u => [], []⟩] rfl t_mxo (by kernel_rfl) (by rfl) ?_ fun f1 _ _ h => ?_
     ·exact ox rfl (o_fa rfl t_f42_1 rfl rfl) (ox rfl (OpS.pur (fun F w m_ => (in2 (fd_sub sLease_Ip 0 rfl m_))) (o_lfx 0 rfl rfl sLease_Ip rfl X_int t_y25)) (ox rfl (OpS.fact (p := InR .u32 x1.Ip) (fun F w m_ => (Mem.pur 0 rfl m_)) fun g4 => (o_call (ref25_pool.spc x1.Ip g4 r1 er1) rfl [] [] (by decide) rfl rfl)) (ox rfl (o_not rfl) (ox rfl (o_move rfl) (oj rfl rfl (fun _ => rfl) (nb_t c3) (oj rfl rfl (fun _ => rfl) (nb_t c3) (oj rfl rfl (fun _ => rfl) (nb_t c3) (oj rfl rfl (fun _ => rfl) (nb_t c3) (ox rfl (o_pickT rfl rfl c3) (ox rfl (o_move rfl) (oj rfl rfl (fun _ => rfl) (nb_t rfl) (oj rfl rfl (fun _ => rfl) (nb_t rfl) (oj rfl rfl (fun _ => rfl) (nb_t rfl) (ox rfl (o_pickT rfl rfl rfl) (ox rfl (o_move rfl) (oj rfl rfl (fun _ => rfl) (nb_t rfl) (oj rfl rfl (fun _ => rfl) (nb_t rfl) (oj rfl rfl (fun _ => rfl) (nb_t rfl) (ox rfl (o_pickT rfl rfl rfl) (ox rfl (o_move rfl) (oj rfl rfl (fun _ => rfl) (nb_t rfl) (oj rfl rfl (fun _ => rfl) (nb_t rfl) (oj rfl rfl (fun _ => rfl) (nb_t rfl) (oj rfl rfl (fun _ => rfl) rfl (oj rfl rfl (fun _ => rfl) rfl (oj rfl rfl (fun _ => rfl) rfl (oj rfl rfl (fun _ => rfl) rfl (oj rfl rfl (fun _ => rfl) rfl (oj rfl rfl (fun _ => rfl) rfl (oj rfl rfl (fun _ => rfl) rfl (oj rfl rfl (fun _ => rfl) rfl (obs_nil))))))))))))))))))))))))))))))))
     replace h := h.wk (E' := [(0, v1), (3, .int .i64 s1), (4, pt b1), (39, .bool true), (42, undef)]) (L' := [Ent.pur (InR .u32 x1.Ip), Fld KLease b1 0 x1, Val KLease v2 x1, Val (Kd.sl KLease) v1 a1]) (by kernel_rfl) [0, 1, 2, 3] (by decide) (by kernel_rfl)
     refine gk h rfl rfl rfl rfl fun _ h => ?_
     refine gk h rfl rfl (nb_t rfl) rfl fun _ h => ?_
     refine ga h (o_pickT rfl rfl rfl) rfl fun h => ?_
     refine GoR.done ?_
     exact J1 true _ _ (som H).symm (h.wr [3, 1])
    ·have H := ifF c3 H
     by_cases c4 : (!decide ((x1.Mac.length : Int) = 6)) = true
     ·have H := ifT c4 H
      refine Go.draw (E := [(0, v1), (3, .int .i64 s1), (4, pt b1)]) [] (L := [Fld KLease b1 0 x1, Val KLease v2 x1, Val (Kd.sl KLease) v1 a1]) h rfl rfl 32 [cn (.pointer (some ⟨b1, 1, none⟩)), cm [0] [] [] (.int .u32 x1.Ip) fun u => [Ent.pur (InR .u32 x1.Ip)], cm [0, 1] [1] [] (.bool r1) fun u => [], ce [0, 1, 2] (.bool (!r1)), ce [0, 1, 2, 3] (.bool (!r1)), ce [0, 1, 2, 3, 4] (pt b1), cw [0, 1, 2, 3, 4, 5] [] [] fun u => [Val (Kd.sl (Kd.int .u8)) u x1.Mac], cm [0, 1, 2, 3, 4, 5, 6] [6] [] (.int .i64 (x1.Mac.length : Int)) fun u => [], ce [0, 1, 2, 3, 4, 5, 6, 7] (.bool (!decide ((x1.Mac.length : Int) = 6))), ce [0, 1, 2, 3, 4, 5, 6, 7, 8] (.bool (!decide ((x1.Mac.length : Int) = 6))), ce [0, 1, 2, 3, 4, 5, 6, 7, 8, 9] (.bool (!decide ((x1.Mac.length : Int) = 6))), ⟨[10], [], [], true, .con undef, none, fun u => [], []⟩, ⟨[10], [], [], true, .con undef, none, fun u => [], []⟩, ⟨[10], [], [], true, .con undef, none, fun u => [], []⟩, ce [0, 1, 2, 3, 4, 5, 6, 7, 8, 9, 10, 11, 12, 13] (.bool true), ce [0, 1, 2, 3, 4, 5, 6, 7, 8, 9, 10, 11, 12, 13, 14] (.bool true), ⟨[15], [], [], true, .con undef, none, fun u => [], []⟩, ⟨[15], [], [], true, .con undef, none, fun u => [], []⟩, ⟨[15], [], [], true, .con undef, none, fun u => [], []⟩, ce [0, 1, 2, 3, 4, 5, 6, 7, 8, 9, 10, 11, 12, 13, 14, 15, 16, 17, 18] (.bool true), ce [0, 1, 2, 3, 4, 5, 6, 7, 8, 9, 10, 11, 12, 13, 14, 15, 16, 17, 18, 19] (.bool true), ⟨[20], [], [], true, .con undef, none, fun u => [], []⟩, ⟨[20], [], [], true, .con undef, none, fun u => [], []⟩, ⟨[20], [], [], true, .con undef, none, fun u => [], []⟩, ⟨[23], [], [], true, .con undef, none, fun u => [], []⟩, ⟨[23], [], [], true, .con undef, none, fun u => [], []⟩, ⟨[23], [], [], true, .con undef, none, fun u => [], []⟩, ⟨[23], [], [], true, .con undef, none, fun u => [], []⟩, ⟨[23], [], [], true, .con undef, none, fun u => [], []⟩, ⟨[23], [], [], true, .con undef, none, fun u => [], []⟩, ⟨[23], [], [], true, .con undef, none, fun u => [], []⟩, ⟨[23], [], [], true, .con undef, none, fun u => [], []⟩] rfl t_mxo (by kernel_rfl) (by rfl) ?_ fun f1 _ _ h => ?_
      ·exact ox rfl (o_fa rfl t_f42_1 rfl rfl) (ox rfl (OpS.pur (fun F w m_ => (in2 (fd_sub sLease_Ip 0 rfl m_))) (o_lfx 0 rfl rfl sLease_Ip rfl X_int t_y25)) (ox rfl (OpS.fact (p := InR .u32 x1.Ip) (fun F w m_ => (Mem.pur 0 rfl m_)) fun g4 => (o_call (ref25_pool.spc x1.Ip g4 r1 er1) rfl [] [] (by decide) rfl rfl)) (ox rfl (o_not rfl) (ox rfl (o_move rfl) (og rfl rfl (fun _ => rfl) (nbF c3) (o_fa rfl t_f42_0 rfl rfl) (obs_cons (ob_own rfl (gok_some rfl rfl rfl (fun _ => rfl) (nbF c3)) rfl fun f1 => (o_lfv 0 rfl rfl sLease_Mac rfl Per_sl t_y22)) (og rfl rfl (fun _ => rfl) (nbF c3) (o_ln rfl (rd_at 0 rfl) t_v22) (og rfl rfl (fun _ => rfl) (nbF c3) (o_bin rfl rfl rfl) (ox rfl (o_pickF rfl rfl c3) (ox rfl (o_move rfl) (oj rfl rfl (fun _ => rfl) (nb_t c4) (oj rfl rfl (fun _ => rfl) (nb_t c4) (oj rfl rfl (fun _ => rfl) (nb_t c4) (ox rfl (o_pickT rfl rfl c4) (ox rfl (o_move rfl) (oj rfl rfl (fun _ => rfl) (nb_t rfl) (oj rfl rfl (fun _ => rfl) (nb_t rfl) (oj rfl rfl (fun _ => rfl) (nb_t rfl) (ox rfl (o_pickT rfl rfl rfl) (ox rfl (o_move rfl) (oj rfl rfl (fun _ => rfl) (nb_t rfl) (oj rfl rfl (fun _ => rfl) (nb_t rfl) (oj rfl rfl (fun _ => rfl) (nb_t rfl) (oj rfl rfl (fun _ => rfl) rfl (oj rfl rfl (fun _ => rfl) rfl (oj rfl rfl (fun _ => rfl) rfl (oj rfl rfl (fun _ => rfl) rfl (oj rfl rfl (fun _ => rfl) rfl (oj rfl rfl (fun _ => rfl) rfl (oj rfl rfl (fun _ => rfl) rfl (oj rfl rfl (fun _ => rfl) rfl (obs_nil))))))))))))))))))))))))))))))))
      replace h := h.wk (E' := [(0, v1), (3, .int .i64 s1), (4, pt b1), (39, .bool true), (42, undef)]) (L' := [Ent.pur (InR .u32 x1.Ip), Val (Kd.sl (Kd.int .u8)) (f1 6) x1.Mac, Fld KLease b1 0 x1, Val KLease v2 x1, Val (Kd.sl KLease) v1 a1]) (by kernel_rfl) [0, 1, 2, 3, 4] (by decide) (by kernel_rfl)
      refine gk h rfl rfl rfl rfl fun _ h => ?_
      refine gk h rfl rfl (nb_t rfl) rfl fun _ h => ?_
      refine ga h (o_pickT rfl rfl rfl) rfl fun h => ?_
      refine GoR.done ?_
      exact J1 true _ _ (som H).symm (h.wr [4, 2])
     ·have H := ifF c4 H
      by_cases c5 : decide (x1.Until < 0) = true
      ·have H := ifT c5 H
       refine Go.draw (E := [(0, v1), (3, .int .i64 s1), (4, pt b1)]) [] (L := [Fld KLease b1 0 x1, Val KLease v2 x1, Val (Kd.sl KLease) v1 a1]) h rfl rfl 32 [cn (.pointer (some ⟨b1, 1, none⟩)), cm [0] [] [] (.int .u32 x1.Ip) fun u => [Ent.pur (InR .u32 x1.Ip)], cm [0, 1] [1] [] (.bool r1) fun u => [], ce [0, 1, 2] (.bool (!r1)), ce [0, 1, 2, 3] (.bool (!r1)), ce [0, 1, 2, 3, 4] (pt b1), cw [0, 1, 2, 3, 4, 5] [] [] fun u => [Val (Kd.sl (Kd.int .u8)) u x1.Mac], cm [0, 1, 2, 3, 4, 5, 6] [6] [] (.int .i64 (x1.Mac.length : Int)) fun u => [], ce [0, 1, 2, 3, 4, 5, 6, 7] (.bool (!decide ((x1.Mac.length : Int) = 6))), ce [0, 1, 2, 3, 4, 5, 6, 7, 8] (.bool (!decide ((x1.Mac.length : Int) = 6))), ce [0, 1, 2, 3, 4, 5, 6, 7, 8, 9] (.bool (!decide ((x1.Mac.length : Int) = 6))), ce [0, 1, 2, 3, 4, 5, 6, 7, 8, 9, 10] (.pointer (some ⟨b1, 2, none⟩)), cm [0, 1, 2, 3, 4, 5, 6, 7, 8, 9, 10, 11] [] [] (.int .i64 x1.Until) fun u => [Ent.pur (InR .i64 x1.Until)], ce [0, 1, 2, 3, 4, 5, 6, 7, 8, 9, 10, 11, 12] (.bool (decide (x1.Until < 0))), ce [0, 1, 2, 3, 4, 5, 6, 7, 8, 9, 10, 11, 12, 13] (.bool (decide (x1.Until < 0))), ce [0, 1, 2, 3, 4, 5, 6, 7, 8, 9, 10, 11, 12, 13, 14] (.bool (decide (x1.Until < 0))), ⟨[15], [], [], true, .con undef, none, fun u => [], []⟩, ⟨[15], [], [], true, .con undef, none, fun u => [], []⟩, ⟨[15], [], [], true, .con undef, none, fun u => [], []⟩, ce [0, 1, 2, 3, 4, 5, 6, 7, 8, 9, 10, 11, 12, 13, 14, 15, 16, 17, 18] (.bool true), ce [0, 1, 2, 3, 4, 5, 6, 7, 8, 9, 10, 11, 12, 13, 14, 15, 16, 17, 18, 19] (.bool true), ⟨[20], [], [], true, .con undef, none, fun u => [], []⟩, ⟨[20], [], [], true, .con undef, none, fun u => [], []⟩, ⟨[20], [], [], true, .con undef, none, fun u => [], []⟩, ⟨[23], [], [], true, .con undef, none, fun u => [], []⟩, ⟨[23], [], [], true, .con undef, none, fun u => [], []⟩, ⟨[23], [], [], true, .con undef, none, fun u => [], []⟩, ⟨[23], [], [], true, .con undef, none, fun u => [], []⟩, ⟨[23], [], [], true, .con undef, none, fun u => [], []⟩, ⟨[23], [], [], true, .con undef, none, fun u => [], []⟩, ⟨[23], [], [], true, .con undef, none, fun u => [], []⟩, ⟨[23], [], [], true, .con undef, none, fun u => [], []⟩] rfl t_mxo (by kernel_rfl) (by rfl) ?_ fun f1 _ _ h => ?_
       ·exact ox rfl (o_fa rfl t_f42_1 rfl rfl) (ox rfl (OpS.pur (fun F w m_ => (in2 (fd_sub sLease_Ip 0 rfl m_))) (o_lfx 0 rfl rfl sLease_Ip rfl X_int t_y25)) (ox rfl (OpS.fact (p := InR .u32 x1.Ip) (fun F w m_ => (Mem.pur 0 rfl m_)) fun g4 => (o_call (ref25_pool.spc x1.Ip g4 r1 er1) rfl [] [] (by decide) rfl rfl)) (ox rfl (o_not rfl) (ox rfl (o_move rfl) (og rfl rfl (fun _ => rfl) (nbF c3) (o_fa rfl t_f42_0 rfl rfl) (obs_cons (ob_own rfl (gok_some rfl rfl rfl (fun _ => rfl) (nbF c3)) rfl fun f1 => (o_lfv 0 rfl rfl sLease_Mac rfl Per_sl t_y22)) (og rfl rfl (fun _ => rfl) (nbF c3) (o_ln rfl (rd_at 0 rfl) t_v22) (og rfl rfl (fun _ => rfl) (nbF c3) (o_bin rfl rfl rfl) (ox rfl (o_pickF rfl rfl c3) (ox rfl (o_move rfl) (og rfl rfl (fun _ => rfl) (nbF c4) (o_fa rfl t_f42_2 rfl rfl) (og rfl rfl (fun _ => rfl) (nbF c4) (OpS.pur (fun F w m_ => (in2 (fd_sub sLease_Until 0 rfl m_))) (o_lfx 0 rfl rfl sLease_Until rfl X_int t_y3)) (og rfl rfl (fun _ => rfl) (nbF c4) (o_bin rfl rfl rfl) (ox rfl (o_pickF rfl rfl c4) (ox rfl (o_move rfl) (oj rfl rfl (fun _ => rfl) (nb_t c5) (oj rfl rfl (fun _ => rfl) (nb_t c5) (oj rfl rfl (fun _ => rfl) (nb_t c5) (ox rfl (o_pickT rfl rfl c5) (ox rfl (o_move rfl) (oj rfl rfl (fun _ => rfl) (nb_t rfl) (oj rfl rfl (fun _ => rfl) (nb_t rfl) (oj rfl rfl (fun _ => rfl) (nb_t rfl) (oj rfl rfl (fun _ => rfl) rfl (oj rfl rfl (fun _ => rfl) rfl (oj rfl rfl (fun _ => rfl) rfl (oj rfl rfl (fun _ => rfl) rfl (oj rfl rfl (fun _ => rfl) rfl (oj rfl rfl (fun _ => rfl) rfl (oj rfl rfl (fun _ => rfl) rfl (oj rfl rfl (fun _ => rfl) rfl (obs_nil))))))))))))))))))))))))))))))))
       replace h := h.wk (E' := [(0, v1), (3, .int .i64 s1), (4, pt b1), (39, .bool true), (42, undef)]) (L' := [Ent.pur (InR .u32 x1.Ip), Val (Kd.sl (Kd.int .u8)) (f1 6) x1.Mac, Ent.pur (InR .i64 x1.Until), Fld KLease b1 0 x1, Val KLease v2 x1, Val (Kd.sl KLease) v1 a1]) (by kernel_rfl) [0, 1, 2, 3, 4, 5] (by decide) (by kernel_rfl)
       refine gk h rfl rfl rfl rfl fun _ h => ?_
       refine gk h rfl rfl (nb_t rfl) rfl fun _ h => ?_
       refine ga h (o_pickT rfl rfl rfl) rfl fun h => ?_
       refine GoR.done ?_
       exact J1 true _ _ (som H).symm (h.wr [5, 3])
      ·have H := ifF c5 H
       by_cases c6 : decide (1099511627776 < x1.Until) = true
       ·have H := ifT c6 H
        refine Go.draw (E := [(0, v1), (3, .int .i64 s1), (4, pt b1)]) [] (L := [Fld KLease b1 0 x1, Val KLease v2 x1, Val (Kd.sl KLease) v1 a1]) h rfl rfl 32 [cn (.pointer (some ⟨b1, 1, none⟩)), cm [0] [] [] (.int .u32 x1.Ip) fun u => [Ent.pur (InR .u32 x1.Ip)], cm [0, 1] [1] [] (.bool r1) fun u => [], ce [0, 1, 2] (.bool (!r1)), ce [0, 1, 2, 3] (.bool (!r1)), ce [0, 1, 2, 3, 4] (pt b1), cw [0, 1, 2, 3, 4, 5] [] [] fun u => [Val (Kd.sl (Kd.int .u8)) u x1.Mac], cm [0, 1, 2, 3, 4, 5, 6] [6] [] (.int .i64 (x1.Mac.length : Int)) fun u => [], ce [0, 1, 2, 3, 4, 5, 6, 7] (.bool (!decide ((x1.Mac.length : Int) = 6))), ce [0, 1, 2, 3, 4, 5, 6, 7, 8] (.bool (!decide ((x1.Mac.length : Int) = 6))), ce [0, 1, 2, 3, 4, 5, 6, 7, 8, 9] (.bool (!decide ((x1.Mac.length : Int) = 6))), ce [0, 1, 2, 3, 4, 5, 6, 7, 8, 9, 10] (.pointer (some ⟨b1, 2, none⟩)), cm [0, 1, 2, 3, 4, 5, 6, 7, 8, 9, 10, 11] [] [] (.int .i64 x1.Until) fun u => [Ent.pur (InR .i64 x1.Until)], ce [0, 1, 2, 3, 4, 5, 6, 7, 8, 9, 10, 11, 12] (.bool (decide (x1.Until < 0))), ce [0, 1, 2, 3, 4, 5, 6, 7, 8, 9, 10, 11, 12, 13] (.bool (decide (x1.Until < 0))), ce [0, 1, 2, 3, 4, 5, 6, 7, 8, 9, 10, 11, 12, 13, 14] (.bool (decide (x1.Until < 0))), ce [0, 1, 2, 3, 4, 5, 6, 7, 8, 9, 10, 11, 12, 13, 14, 15] (.pointer (some ⟨b1, 2, none⟩)), cm [0, 1, 2, 3, 4, 5, 6, 7, 8, 9, 10, 11, 12, 13, 14, 15, 16] [] [] (.int .i64 x1.Until) fun u => [Ent.pur (InR .i64 x1.Until)], ce [0, 1, 2, 3, 4, 5, 6, 7, 8, 9, 10, 11, 12, 13, 14, 15, 16, 17] (.bool (decide (1099511627776 < x1.Until))), ce [0, 1, 2, 3, 4, 5, 6, 7, 8, 9, 10, 11, 12, 13, 14, 15, 16, 17, 18] (.bool (decide (1099511627776 < x1.Until))), ce [0, 1, 2, 3, 4, 5, 6, 7, 8, 9, 10, 11, 12, 13, 14, 15, 16, 17, 18, 19] (.bool (decide (1099511627776 < x1.Until))), ⟨[20], [], [], true, .con undef, none, fun u => [], []⟩, ⟨[20], [], [], true, .con undef, none, fun u => [], []⟩, ⟨[20], [], [], true, .con undef, none, fun u => [], []⟩, ⟨[23], [], [], true, .con undef, none, fun u => [], []⟩, ⟨[23], [], [], true, .con undef, none, fun u => [], []⟩, ⟨[23], [], [], true, .con undef, none, fun u => [], []⟩, ⟨[23], [], [], true, .con undef, none, fun u => [], []⟩, ⟨[23], [], [], true, .con undef, none, fun u => [], []⟩, ⟨[23], [], [], true, .con undef, none, fun u => [], []⟩, ⟨[23], [], [], true, .con undef, none, fun u => [], []⟩, ⟨[23], [], [], true, .con undef, none, fun u => [], []⟩] rfl t_mxo (by kernel_rfl) (by rfl) ?_ fun f1 _ _ h => ?_
        ·exact ox rfl (o_fa rfl t_f42_1 rfl rfl) (ox rfl (OpS.pur (fun F w m_ => (in2 (fd_sub sLease_Ip 0 rfl m_))) (o_lfx 0 rfl rfl sLease_Ip rfl X_int t_y25)) (ox rfl (OpS.fact (p := InR .u32 x1.Ip) (fun F w m_ => (Mem.pur 0 rfl m_)) fun g4 => (o_call (ref25_pool.spc x1.Ip g4 r1 er1) rfl [] [] (by decide) rfl rfl)) (ox rfl (o_not rfl) (ox rfl (o_move rfl) (og rfl rfl (fun _ => rfl) (nbF c3) (o_fa rfl t_f42_0 rfl rfl) (obs_cons (ob_own rfl (gok_some rfl rfl rfl (fun _ => rfl) (nbF c3)) rfl fun f1 => (o_lfv 0 rfl rfl sLease_Mac rfl Per_sl t_y22)) (og rfl rfl (fun _ => rfl) (nbF c3) (o_ln rfl (rd_at 0 rfl) t_v22) (og rfl rfl (fun _ => rfl) (nbF c3) (o_bin rfl rfl rfl) (ox rfl (o_pickF rfl rfl c3) (ox rfl (o_move rfl) (og rfl rfl (fun _ => rfl) (nbF c4) (o_fa rfl t_f42_2 rfl rfl) (og rfl rfl (fun _ => rfl) (nbF c4) (OpS.pur (fun F w m_ => (in2 (fd_sub sLease_Until 0 rfl m_))) (o_lfx 0 rfl rfl sLease_Until rfl X_int t_y3)) (og rfl rfl (fun _ => rfl) (nbF c4) (o_bin rfl rfl rfl) (ox rfl (o_pickF rfl rfl c4) (ox rfl (o_move rfl) (og rfl rfl (fun _ => rfl) (nbF c5) (o_fa rfl t_f42_2 rfl rfl) (og rfl rfl (fun _ => rfl) (nbF c5) (OpS.pur (fun F w m_ => (in2 (fd_sub sLease_Until 0 rfl m_))) (o_lfx 0 rfl rfl sLease_Until rfl X_int t_y3)) (og rfl rfl (fun _ => rfl) (nbF c5) (o_bin rfl rfl rfl) (ox rfl (o_pickF rfl rfl c5) (ox rfl (o_move rfl) (oj rfl rfl (fun _ => rfl) (nb_t c6) (oj rfl rfl (fun _ => rfl) (nb_t c6) (oj rfl rfl (fun _ => rfl) (nb_t c6) (oj rfl rfl (fun _ => rfl) rfl (oj rfl rfl (fun _ => rfl) rfl (oj rfl rfl (fun _ => rfl) rfl (oj rfl rfl (fun _ => rfl) rfl (oj rfl rfl (fun _ => rfl) rfl (oj rfl rfl (fun _ => rfl) rfl (oj rfl rfl (fun _ => rfl) rfl (oj rfl rfl (fun _ => rfl) rfl (obs_nil))))))))))))))))))))))))))))))))
        replace h := h.wk (E' := [(0, v1), (3, .int .i64 s1), (4, pt b1), (39, .bool (decide (1099511627776 < x1.Until))), (42, undef)]) (L' := [Ent.pur (InR .u32 x1.Ip), Val (Kd.sl (Kd.int .u8)) (f1 6) x1.Mac, Ent.pur (InR .i64 x1.Until), Ent.pur (InR .i64 x1.Until), Fld KLease b1 0 x1, Val KLease v2 x1, Val (Kd.sl KLease) v1 a1]) (by kernel_rfl) [0, 1, 2, 3, 4, 5, 6] (by decide) (by kernel_rfl)
        refine gk h rfl rfl rfl rfl fun _ h => ?_
        refine gk h rfl rfl (nb_t c6) rfl fun _ h => ?_
        refine ga h (o_pickT rfl rfl c6) rfl fun h => ?_
        refine GoR.done ?_
        exact J1 true _ _ (som H).symm (h.wr [6, 4])
       ·have H := ifF c6 H
        by_cases c7 : decide (0 < s1) = true
        ·have H := ifT c7 H
         obtain ⟨x2, ex2, H⟩ := bindE H
         refine Go.draw (E := [(0, v1), (3, .int .i64 s1), (4, pt b1)]) [] (L := [Fld KLease b1 0 x1, Val KLease v2 x1, Val (Kd.sl KLease) v1 a1]) h rfl rfl 32 [cn (.pointer (some ⟨b1, 1, none⟩)), cm [0] [] [] (.int .u32 x1.Ip) fun u => [Ent.pur (InR .u32 x1.Ip)], cm [0, 1] [1] [] (.bool r1) fun u => [], ce [0, 1, 2] (.bool (!r1)), ce [0, 1, 2, 3] (.bool (!r1)), ce [0, 1, 2, 3, 4] (pt b1), cw [0, 1, 2, 3, 4, 5] [] [] fun u => [Val (Kd.sl (Kd.int .u8)) u x1.Mac], cm [0, 1, 2, 3, 4, 5, 6] [6] [] (.int .i64 (x1.Mac.length : Int)) fun u => [], ce [0, 1, 2, 3, 4, 5, 6, 7] (.bool (!decide ((x1.Mac.length : Int) = 6))), ce [0, 1, 2, 3, 4, 5, 6, 7, 8] (.bool (!decide ((x1.Mac.length : Int) = 6))), ce [0, 1, 2, 3, 4, 5, 6, 7, 8, 9] (.bool (!decide ((x1.Mac.length : Int) = 6))), ce [0, 1, 2, 3, 4, 5, 6, 7, 8, 9, 10] (.pointer (some ⟨b1, 2, none⟩)), cm [0, 1, 2, 3, 4, 5, 6, 7, 8, 9, 10, 11] [] [] (.int .i64 x1.Until) fun u => [Ent.pur (InR .i64 x1.Until)], ce [0, 1, 2, 3, 4, 5, 6, 7, 8, 9, 10, 11, 12] (.bool (decide (x1.Until < 0))), ce [0, 1, 2, 3, 4, 5, 6, 7, 8, 9, 10, 11, 12, 13] (.bool (decide (x1.Until < 0))), ce [0, 1, 2, 3, 4, 5, 6, 7, 8, 9, 10, 11, 12, 13, 14] (.bool (decide (x1.Until < 0))), ce [0, 1, 2, 3, 4, 5, 6, 7, 8, 9, 10, 11, 12, 13, 14, 15] (.pointer (some ⟨b1, 2, none⟩)), cm [0, 1, 2, 3, 4, 5, 6, 7, 8, 9, 10, 11, 12, 13, 14, 15, 16] [] [] (.int .i64 x1.Until) fun u => [Ent.pur (InR .i64 x1.Until)], ce [0, 1, 2, 3, 4, 5, 6, 7, 8, 9, 10, 11, 12, 13, 14, 15, 16, 17] (.bool (decide (1099511627776 < x1.Until))), ce [0, 1, 2, 3, 4, 5, 6, 7, 8, 9, 10, 11, 12, 13, 14, 15, 16, 17, 18] (.bool (decide (1099511627776 < x1.Until))), ce [0, 1, 2, 3, 4, 5, 6, 7, 8, 9, 10, 11, 12, 13, 14, 15, 16, 17, 18, 19] (.bool (decide (1099511627776 < x1.Until))), ce [0, 1, 2, 3, 4, 5, 6, 7, 8, 9, 10, 11, 12, 13, 14, 15, 16, 17, 18, 19, 20] (.int .i64 s1), ce [0, 1, 2, 3, 4, 5, 6, 7, 8, 9, 10, 11, 12, 13, 14, 15, 16, 17, 18, 19, 20, 21] (.bool (decide (0 < s1))), ce [0, 1, 2, 3, 4, 5, 6, 7, 8, 9, 10, 11, 12, 13, 14, 15, 16, 17, 18, 19, 20, 21, 22] (.bool (decide (0 < s1))), ce [0, 1, 2, 3, 4, 5, 6, 7, 8, 9, 10, 11, 12, 13, 14, 15, 16, 17, 18, 19, 20, 21, 22, 23] (.pointer (some ⟨b1, 1, none⟩)), cm [0, 1, 2, 3, 4, 5, 6, 7, 8, 9, 10, 11, 12, 13, 14, 15, 16, 17, 18, 19, 20, 21, 22, 23, 24] [] [] (.int .u32 x1.Ip) fun u => [Ent.pur (InR .u32 x1.Ip)], ce [0, 1, 2, 3, 4, 5, 6, 7, 8, 9, 10, 11, 12, 13, 14, 15, 16, 17, 18, 19, 20, 21, 22, 23] (v1), ce [0, 1, 2, 3, 4, 5, 6, 7, 8, 9, 10, 11, 12, 13, 14, 15, 16, 17, 18, 19, 20, 21, 22, 23] (.int .i64 s1), ce [0, 1, 2, 3, 4, 5, 6, 7, 8, 9, 10, 11, 12, 13, 14, 15, 16, 17, 18, 19, 20, 21, 22, 23, 27] (.int .i64 (IntKind.i64.wrap (s1 - 1))), ce [0, 1, 2, 3, 4, 5, 6, 7, 8, 9, 10, 11, 12, 13, 14, 15, 16, 17, 18, 19, 20, 21, 22, 23, 26, 27, 28] (elemP v1 ((IntKind.i64.wrap (s1 - 1)).toNat * Kd.n KLease)), ce [0, 1, 2, 3, 4, 5, 6, 7, 8, 9, 10, 11, 12, 13, 14, 15, 16, 17, 18, 19, 20, 21, 22, 23, 26, 27, 28, 29] (elemP v1 ((IntKind.i64.wrap (s1 - 1)).toNat * Kd.n KLease + 1)), cm [0, 1, 2, 3, 4, 5, 6, 7, 8, 9, 10, 11, 12, 13, 14, 15, 16, 17, 18, 19, 20, 21, 22, 23, 26, 27, 28, 29, 30] [] [] (.int .u32 x2.Ip) fun u => [Ent.pur (InR .u32 x2.Ip)]] rfl t_mxo (by kernel_rfl) (by rfl) ?_ fun f1 _ _ h => ?_
         ·exact ox rfl (o_fa rfl t_f42_1 rfl rfl) (ox rfl (OpS.pur (fun F w m_ => (in2 (fd_sub sLease_Ip 0 rfl m_))) (o_lfx 0 rfl rfl sLease_Ip rfl X_int t_y25)) (ox rfl (OpS.fact (p := InR .u32 x1.Ip) (fun F w m_ => (Mem.pur 0 rfl m_)) fun g4 => (o_call (ref25_pool.spc x1.Ip g4 r1 er1) rfl [] [] (by decide) rfl rfl)) (ox rfl (o_not rfl) (ox rfl (o_move rfl) (og rfl rfl (fun _ => rfl) (nbF c3) (o_fa rfl t_f42_0 rfl rfl) (obs_cons (ob_own rfl (gok_some rfl rfl rfl (fun _ => rfl) (nbF c3)) rfl fun f1 => (o_lfv 0 rfl rfl sLease_Mac rfl Per_sl t_y22)) (og rfl rfl (fun _ => rfl) (nbF c3) (o_ln rfl (rd_at 0 rfl) t_v22) (og rfl rfl (fun _ => rfl) (nbF c3) (o_bin rfl rfl rfl) (ox rfl (o_pickF rfl rfl c3) (ox rfl (o_move rfl) (og rfl rfl (fun _ => rfl) (nbF c4) (o_fa rfl t_f42_2 rfl rfl) (og rfl rfl (fun _ => rfl) (nbF c4) (OpS.pur (fun F w m_ => (in2 (fd_sub sLease_Until 0 rfl m_))) (o_lfx 0 rfl rfl sLease_Until rfl X_int t_y3)) (og rfl rfl (fun _ => rfl) (nbF c4) (o_bin rfl rfl rfl) (ox rfl (o_pickF rfl rfl c4) (ox rfl (o_move rfl) (og rfl rfl (fun _ => rfl) (nbF c5) (o_fa rfl t_f42_2 rfl rfl) (og rfl rfl (fun _ => rfl) (nbF c5) (OpS.pur (fun F w m_ => (in2 (fd_sub sLease_Until 0 rfl m_))) (o_lfx 0 rfl rfl sLease_Until rfl X_int t_y3)) (og rfl rfl (fun _ => rfl) (nbF c5) (o_bin rfl rfl rfl) (ox rfl (o_pickF rfl rfl c5) (ox rfl (o_move rfl) (og rfl rfl (fun _ => rfl) (nbF c6) (o_move rfl) (og rfl rfl (fun _ => rfl) (nbF c6) (o_bin rfl rfl rfl) (og rfl rfl (fun _ => rfl) (nbF c6) (o_move rfl) (og rfl rfl (fun _ => rfl) c7 (o_fa rfl t_f42_1 rfl rfl) (og rfl rfl (fun _ => rfl) c7 (OpS.pur (fun F w m_ => (in2 (fd_sub sLease_Ip 0 rfl m_))) (o_lfx 0 rfl rfl sLease_Ip rfl X_int t_y25)) (og rfl rfl (fun _ => rfl) c7 (o_move rfl) (og rfl rfl (fun _ => rfl) c7 (o_move rfl) (og rfl rfl (fun _ => rfl) c7 (o_bin rfl rfl rfl) (og rfl rfl (fun _ => rfl) c7 (o_ix rfl rfl (rd_at 2 rfl) ex2 t_v26) (og rfl rfl (fun _ => rfl) c7 (o_fae (k' := (IntKind.i64.wrap (s1 - 1)).toNat * Kd.n KLease + 1) rfl (rd_at 2 rfl) ex2 (by decide) t_f42_1 rfl rfl) (og rfl rfl (fun _ => rfl) c7 (OpS.pur (fun F w m_ => (in1 (rd_sub sLease_Ip (rd_at 2 rfl) ex2 m_))) (o_lsx rfl (rd_at 2 rfl) ex2 sLease_Ip X_int t_y25 (by decide))) (obs_nil))))))))))))))))))))))))))))))))
         replace h := h.wk (E' := [(0, v1), (3, .int .i64 s1), (4, pt b1), (39, .bool (decide (1099511627776 < x1.Until))), (42, .bool (decide (0 < s1))), (44, .int .u32 x1.Ip), (50, .int .u32 x2.Ip)]) (L' := [Ent.pur (InR .u32 x1.Ip), Val (Kd.sl (Kd.int .u8)) (f1 6) x1.Mac, Ent.pur (InR .i64 x1.Until), Ent.pur (InR .i64 x1.Until), Ent.pur (InR .u32 x1.Ip), Ent.pur (InR .u32 x2.Ip), Fld KLease b1 0 x1, Val KLease v2 x1, Val (Kd.sl KLease) v1 a1]) (by kernel_rfl) [0, 1, 2, 3, 4, 5, 6, 7, 8] (by decide) (by kernel_rfl)
         have g5 := (Mem.pur 4 rfl h.mem)
         have g6 := (Mem.pur 5 rfl h.mem)
         refine gg h rfl rfl c7 (o_bin rfl rfl rfl) rfl fun _ _ _ h => ?_
         refine gg h rfl rfl (nbF c6) (o_pickT rfl rfl c7) rfl fun _ _ _ h => ?_
         refine ga h (o_pickF rfl rfl c6) rfl fun h => ?_
         refine GoR.done ?_
         exact J1 (decide (x1.Ip ≤ x2.Ip)) _ _ (som H).symm (h.wr [8, 6])
        ·have H := ifF c7 H
         refine Go.draw (E := [(0, v1), (3, .int .i64 s1), (4, pt b1)]) [] (L := [Fld KLease b1 0 x1, Val KLease v2 x1, Val (Kd.sl KLease) v1 a1]) h rfl rfl 32 [cn (.pointer (some ⟨b1, 1, none⟩)), cm [0] [] [] (.int .u32 x1.Ip) fun u => [Ent.pur (InR .u32 x1.Ip)], cm [0, 1] [1] [] (.bool r1) fun u => [], ce [0, 1, 2] (.bool (!r1)), ce [0, 1, 2, 3] (.bool (!r1)), ce [0, 1, 2, 3, 4] (pt b1), cw [0, 1, 2, 3, 4, 5] [] [] fun u => [Val (Kd.sl (Kd.int .u8)) u x1.Mac], cm [0, 1, 2, 3, 4, 5, 6] [6] [] (.int .i64 (x1.Mac.length : Int)) fun u => [], ce [0, 1, 2, 3, 4, 5, 6, 7] (.bool (!decide ((x1.Mac.length : Int) = 6))), ce [0, 1, 2, 3, 4, 5, 6, 7, 8] (.bool (!decide ((x1.Mac.length : Int) = 6))), ce [0, 1, 2, 3, 4, 5, 6, 7, 8, 9] (.bool (!decide ((x1.Mac.length : Int) = 6))), ce [0, 1, 2, 3, 4, 5, 6, 7, 8, 9, 10] (.pointer (some ⟨b1, 2, none⟩)), cm [0, 1, 2, 3, 4, 5, 6, 7, 8, 9, 10, 11] [] [] (.int .i64 x1.Until) fun u => [Ent.pur (InR .i64 x1.Until)], ce [0, 1, 2, 3, 4, 5, 6, 7, 8, 9, 10, 11, 12] (.bool (decide (x1.Until < 0))), ce [0, 1, 2, 3, 4, 5, 6, 7, 8, 9, 10, 11, 12, 13] (.bool (decide (x1.Until < 0))), ce [0, 1, 2, 3, 4, 5, 6, 7, 8, 9, 10, 11, 12, 13, 14] (.bool (decide (x1.Until < 0))), ce [0, 1, 2, 3, 4, 5, 6, 7, 8, 9, 10, 11, 12, 13, 14, 15] (.pointer (some ⟨b1, 2, none⟩)), cm [0, 1, 2, 3, 4, 5, 6, 7, 8, 9, 10, 11, 12, 13, 14, 15, 16] [] [] (.int .i64 x1.Until) fun u => [Ent.pur (InR .i64 x1.Until)], ce [0, 1, 2, 3, 4, 5, 6, 7, 8, 9, 10, 11, 12, 13, 14, 15, 16, 17] (.bool (decide (1099511627776 < x1.Until))), ce [0, 1, 2, 3, 4, 5, 6, 7, 8, 9, 10, 11, 12, 13, 14, 15, 16, 17, 18] (.bool (decide (1099511627776 < x1.Until))), ce [0, 1, 2, 3, 4, 5, 6, 7, 8, 9, 10, 11, 12, 13, 14, 15, 16, 17, 18, 19] (.bool (decide (1099511627776 < x1.Until))), ce [0, 1, 2, 3, 4, 5, 6, 7, 8, 9, 10, 11, 12, 13, 14, 15, 16, 17, 18, 19, 20] (.int .i64 s1), ce [0, 1, 2, 3, 4, 5, 6, 7, 8, 9, 10, 11, 12, 13, 14, 15, 16, 17, 18, 19, 20, 21] (.bool (decide (0 < s1))), ce [0, 1, 2, 3, 4, 5, 6, 7, 8, 9, 10, 11, 12, 13, 14, 15, 16, 17, 18, 19, 20, 21, 22] (.bool (decide (0 < s1))), ⟨[23], [], [], true, .con undef, none, fun u => [], []⟩, ⟨[23], [], [], true, .con undef, none, fun u => [], []⟩, ⟨[23], [], [], true, .con undef, none, fun u => [], []⟩, ⟨[23], [], [], true, .con undef, none, fun u => [], []⟩, ⟨[23], [], [], true, .con undef, none, fun u => [], []⟩, ⟨[23], [], [], true, .con undef, none, fun u => [], []⟩, ⟨[23], [], [], true, .con undef, none, fun u => [], []⟩, ⟨[23], [], [], true, .con undef, none, fun u => [], []⟩] rfl t_mxo (by kernel_rfl) (by rfl) ?_ fun f1 _ _ h => ?_
         ·exact ox rfl (o_fa rfl t_f42_1 rfl rfl) (ox rfl (OpS.pur (fun F w m_ => (in2 (fd_sub sLease_Ip 0 rfl m_))) (o_lfx 0 rfl rfl sLease_Ip rfl X_int t_y25)) (ox rfl (OpS.fact (p := InR .u32 x1.Ip) (fun F w m_ => (Mem.pur 0 rfl m_)) fun g4 => (o_call (ref25_pool.spc x1.Ip g4 r1 er1) rfl [] [] (by decide) rfl rfl)) (ox rfl (o_not rfl) (ox rfl (o_move rfl) (og rfl rfl (fun _ => rfl) (nbF c3) (o_fa rfl t_f42_0 rfl rfl) (obs_cons (ob_own rfl (gok_some rfl rfl rfl (fun _ => rfl) (nbF c3)) rfl fun f1 => (o_lfv 0 rfl rfl sLease_Mac rfl Per_sl t_y22)) (og rfl rfl (fun _ => rfl) (nbF c3) (o_ln rfl (rd_at 0 rfl) t_v22) (og rfl rfl (fun _ => rfl) (nbF c3) (o_bin rfl rfl rfl) (ox rfl (o_pickF rfl rfl c3) (ox rfl (o_move rfl) (og rfl rfl (fun _ => rfl) (nbF c4) (o_fa rfl t_f42_2 rfl rfl) (og rfl rfl (fun _ => rfl) (nbF c4) (OpS.pur (fun F w m_ => (in2 (fd_sub sLease_Until 0 rfl m_))) (o_lfx 0 rfl rfl sLease_Until rfl X_int t_y3)) (og rfl rfl (fun _ => rfl) (nbF c4) (o_bin rfl rfl rfl) (ox rfl (o_pickF rfl rfl c4) (ox rfl (o_move rfl) (og rfl rfl (fun _ => rfl) (nbF c5) (o_fa rfl t_f42_2 rfl rfl) (og rfl rfl (fun _ => rfl) (nbF c5) (OpS.pur (fun F w m_ => (in2 (fd_sub sLease_Until 0 rfl m_))) (o_lfx 0 rfl rfl sLease_Until rfl X_int t_y3)) (og rfl rfl (fun _ => rfl) (nbF c5) (o_bin rfl rfl rfl) (ox rfl (o_pickF rfl rfl c5) (ox rfl (o_move rfl) (og rfl rfl (fun _ => rfl) (nbF c6) (o_move rfl) (og rfl rfl (fun _ => rfl) (nbF c6) (o_bin rfl rfl rfl) (og rfl rfl (fun _ => rfl) (nbF c6) (o_move rfl) (oj rfl rfl (fun _ => rfl) (nb_f c7) (oj rfl rfl (fun _ => rfl) (nb_f c7) (oj rfl rfl (fun _ => rfl) (nb_f c7) (oj rfl rfl (fun _ => rfl) (nb_f c7) (oj rfl rfl (fun _ => rfl) (nb_f c7) (oj rfl rfl (fun _ => rfl) (nb_f c7) (oj rfl rfl (fun _ => rfl) (nb_f c7) (oj rfl rfl (fun _ => rfl) (nb_f c7) (obs_nil))))))))))))))))))))))))))))))))
         replace h := h.wk (E' := [(0, v1), (3, .int .i64 s1), (4, pt b1), (39, .bool (decide (1099511627776 < x1.Until))), (42, .bool (decide (0 < s1)))]) (L' := [Ent.pur (InR .u32 x1.Ip), Val (Kd.sl (Kd.int .u8)) (f1 6) x1.Mac, Ent.pur (InR .i64 x1.Until), Ent.pur (InR .i64 x1.Until), Fld KLease b1 0 x1, Val KLease v2 x1, Val (Kd.sl KLease) v1 a1]) (by kernel_rfl) [0, 1, 2, 3, 4, 5, 6] (by decide) (by kernel_rfl)
         refine gk h rfl rfl (nb_f c7) rfl fun _ h => ?_
         refine gg h rfl rfl (nbF c6) (o_pickF rfl rfl c7) rfl fun _ _ _ h => ?_
         refine ga h (o_pickF rfl rfl c6) rfl fun h => ?_
         refine GoR.done ?_
         exact J1 false _ _ (som H).symm (h.wr [6, 4])
   ·have H := ifF c2 H
    refine g_f h rfl c2 ?_
    refine Go.exit rfl ?_
    have e_ := som H; subst e_
    exact J3 () _ _ (nx_out i1).symm (h.wr [])
  ·exact I_ _ _ (show InR .i64 0 by decide) (h.wr [0])
def ref25_Check.g (k_ : Nat) (a1 : List TLease) : Option (Bool) :=
  (if decide (8 < (a1.length : Int)) = true then some (false) else (loopK k_ (fun s1 => (if decide (s1 < (a1.length : Int)) = true then (idx a1 s1).bind fun x1 => ((ref25_pool.g k_ x1.Ip).bind fun r1 => (if (!r1) = true then some (true) else (if (!decide ((x1.Mac.length : Int) = 6)) = true then some (true) else (if decide (x1.Until < 0) = true then some (true) else (if decide (1099511627776 < x1.Until) = true then some (true) else (if decide (0 < s1) = true then (idx a1 (IntKind.i64.wrap (s1 - 1))).bind fun x2 => some (decide (x1.Ip ≤ x2.Ip)) else some (false))))))).bind (fun j1 => (if j1 = true then some (.inr (.inr (false))) else (loopK k_ (fun s2 => (if decide (s2 < s1) = true then (idx a1 s2).bind fun x3 => (if decide (x3.Mac = x1.Mac) = true then some (.inr (.inr (false))) else lt (IntKind.i64.wrap (s2 + 1)) fun y1 => some (.inl y1)) else some (.inr (.inl (()))))) 0).bind (Sum.elim (fun j2 => lt (IntKind.i64.wrap (s1 + 1)) fun y2 => some (.inl y2)) (fun z_ => some (.inr (.inr (z_))))))) else some (.inr (.inl (()))))) 0).bind (Sum.elim (fun j3 => some (true)) (fun z_ => some (z_))))
theorem ref25_Check.le (k_ : Nat) (a1 : List TLease) : Le (ref25_Check.g k_ a1) (ref25_Check.f a1) := by
 unfold ref25_Check.g ref25_Check.f
 repeat' (first | with_reducible refine le_loop fun _ => ?_ | with_reducible refine le_bind ?_ fun _ => ?_ | with_reducible refine le_ite ?_ ?_ | with_reducible refine le_lt fun _ => ?_ | with_reducible refine le_elim (fun _ => ?_) (fun _ => ?_) _ | with_reducible apply ref25_pool.le | with_reducible exact le_refl _)
/-! drawbridge/drawbridgeref25.tick -/
noncomputable def ref25_tick.f (a1 : Int) : Option (Bool) :=
  ((if decide (0 ≤ a1) = true then lt (decide (a1 ≤ 1099511624176)) fun y1 => some (y1) else some (false))).bind (fun j1 => some (j1))
set_option maxRecDepth 100000 in
set_option maxHeartbeats 4000000 in
theorem ref25_tick.spc (a1 : Int) (ha1 : InR .i64 a1) (r : Bool) (H : ref25_tick.f a1 = some r) : Spc Try.prog 30 [.int .i64 a1] [] [] (fun (s : Unit) => .bool r) (fun s => []) := by
 unfold ref25_tick.f at H
 refine Spc.go Try.func30 rfl (by kernel_rfl) rfl rfl all_nil fun F a w h => ?_
 refine Go.seq ?_
 refine Go.reg ?_
 refine ga h (o_assign rfl) rfl fun h => ?_
 refine GoR.done ?_
 refine Go.seq ?_
 obtain ⟨o1, H, G1⟩ := bindE H
 refine g_cut (fun G => ∀ j1 (a : Act) (w : World), o1 = j1 → St Try.f30.ntmps F [(2, .bool j1)] [] a w → G a w) 1 ?_ fun J1 => ?_
 ·intro j1 a w ho_ h
  rw [ho_] at G1
  have H := G1
  rw [← som H]
  exact g_ret (vs := [.bool j1]) h Try.func30 ⟨rfl, trivial⟩ ⟨(), rfl, (h.mem.pick [] (by decide) rfl)⟩
 refine Go.reg ?_
 refine mv h rfl rfl fun h => ?_
 refine ga h (o_bin rfl rfl rfl) rfl fun h => ?_
 refine mv h rfl rfl fun h => ?_
 by_cases c1 : decide (0 ≤ a1) = true
 ·have H := ifT c1 H
  refine gg h rfl rfl c1 (o_move rfl) rfl fun _ _ _ h => ?_
  refine gg h rfl rfl c1 (o_bin rfl rfl rfl) rfl fun _ _ _ h => ?_
  refine ga h (o_pickT rfl rfl c1) rfl fun h => ?_
  obtain ⟨y1, ey1, H⟩ := ltE H
  refine ga h (o_assign' rfl (congrArg Value.bool ey1)) rfl fun h => ?_
  refine GoR.done ?_
  exact J1 y1 _ _ (som H).symm (h.wr [])
 ·have H := ifF c1 H
  refine gk h rfl rfl (nb_f c1) rfl fun _ h => ?_
  refine gk h rfl rfl (nb_f c1) rfl fun _ h => ?_
  refine ga h (o_pickF rfl rfl c1) rfl fun h => ?_
  refine ga h (o_assign rfl) rfl fun h => ?_
  refine GoR.done ?_
  exact J1 false _ _ (som H).symm (h.wr [])
def ref25_tick.g (k_ : Nat) (a1 : Int) : Option (Bool) :=
  ((if decide (0 ≤ a1) = true then lt (decide (a1 ≤ 1099511624176)) fun y1 => some (y1) else some (false))).bind (fun j1 => some (j1))
theorem ref25_tick.le (k_ : Nat) (a1 : Int) : Le (ref25_tick.g k_ a1) (ref25_tick.f a1) := by
 unfold ref25_tick.g ref25_tick.f
 repeat' (first | with_reducible refine le_loop fun _ => ?_ | with_reducible refine le_bind ?_ fun _ => ?_ | with_reducible refine le_ite ?_ ?_ | with_reducible refine le_lt fun _ => ?_ | with_reducible refine le_elim (fun _ => ?_) (fun _ => ?_) _ | with_reducible exact le_refl _)
/-! drawbridge/drawbridgeref25.Find -/
noncomputable def ref25_Find.f (a1 : List TLease) (a2 : Int) (a3 : List Int) : Option (Int × Bool) :=
  (loop (fun s1 => ((if decide (s1 < (a1.length : Int)) = true then (ref25_Check.f a1).bind fun r1 => (if r1 = true then (ref25_tick.f a2).bind fun r2 => some (r2) else some (false)) else some (false))).bind (fun j1 => (if j1 = true then ((idx a1 s1).bind fun x1 => (if decide (a2 < x1.Until) = true then (idx a1 s1).bind fun x2 => some (decide (x2.Mac = a3)) else some (false))).bind (fun j2 => (if j2 = true then (idx a1 s1).bind fun x3 => some (.inr (.inr ((x3.Ip, true)))) else lt (IntKind.i64.wrap (s1 + 1)) fun y1 => some (.inl y1))) else some (.inr (.inl (())))))) 0).bind (Sum.elim (fun j3 => some ((0, false))) (fun z_ => some (z_)))
set_option maxRecDepth 100000 in
set_option maxHeartbeats 4000000 in
theorem ref25_Find.spc (v1 : Value) (a1 : List TLease) (a2 : Int) (ha2 : InR .i64 a2) (v2 : Value) (a3 : List Int) (r : Int × Bool) (H : ref25_Find.f a1 a2 a3 = some r) : Spc Try.prog 15 [v1, .int .i64 a2, v2] [Val (Kd.sl KLease) v1 a1, Val (Kd.sl (Kd.int .u8)) v2 a3] [] (fun (s : Unit) => .tuple #[.int .u32 r.1, .bool r.2]) (fun s => [Ent.pur (InR .u32 r.1)]) := by
 unfold ref25_Find.f at H
 refine Spc.go Try.func15 rfl (by kernel_rfl) rfl rfl (all_cons (Val.per Per_sl) (all_cons (Val.per Per_sl) all_nil)) fun F a w h => ?_
 refine Go.seq ?_
 refine Go.reg ?_
 refine ga h (o_assign rfl) rfl fun h => ?_
 refine ga h (o_assign rfl) rfl fun h => ?_
 refine GoR.done ?_
 refine Go.seq ?_
 refine Go.seq ?_
 refine Go.reg ?_
 refine ga h (o_assign rfl) rfl fun h => ?_
 refine GoR.done ?_
 refine Go.block ?_
 obtain ⟨o1, hl, G1⟩ := bindE H
 refine g_cut (fun G => ∀ j3 (a : Act) (w : World), o1 = .inl (j3) → St Try.f15.ntmps F [] [] a w → G a w) 2 ?_ fun J3 => ?_
 ·intro j3 a w ho_ h
  rw [ho_] at G1
  have H := eInl G1
  refine Go.seq ?_
  refine Go.reg ?_
  refine ga h (o_assign rfl) rfl fun h => ?_
  refine ga h (o_assign rfl) rfl fun h => ?_
  refine GoR.done ?_
  rw [← som H]
  exact g_ret (vs := [.int .u32 0, .bool false]) h Try.func15 ⟨rfl, ⟨rfl, trivial⟩⟩ ⟨(), rfl, ((h.mem.pick [] (by decide) rfl).addpur (show InR .u32 0 by decide))⟩
 refine g_loop (fun s1 G => ∀  (a : Act) (w : World), InR .i64 s1 → St Try.f15.ntmps F [(0, v1), (1, .int .i64 a2), (2, v2), (8, .int .i64 s1)] [Val (Kd.sl KLease) v1 a1, Val (Kd.sl (Kd.int .u8)) v2 a3] a w → G a w) hl (fun s1 p1 H i1 => ?_) fun I_ => ?_
 ·intro  a w g1 h
  refine Go.seq ?_
  refine Go.seq ?_
  obtain ⟨o2, H, G2⟩ := bindE H
  refine g_cut (fun G => ∀ j1 (a : Act) (w : World), o2 = j1 → St Try.f15.ntmps F [(0, v1), (1, .int .i64 a2), (2, v2), (8, .int .i64 s1), (20, .bool j1)] [Val (Kd.sl KLease) v1 a1, Val (Kd.sl (Kd.int .u8)) v2 a3] a w → G a w) 1 ?_ fun J1 => ?_
  ·intro j1 a w ho_ h
   rw [ho_] at G2
   have H := G2
   by_cases c3 : j1 = true
   ·have H := ifT c3 H
    refine g_t h rfl c3 ?_
    refine Go.skip ?_
    refine Go.seq ?_
    refine Go.block ?_
    refine Go.seq ?_
    replace h := h.wq [(0, v1), (1, .int .i64 a2), (2, v2), (8, .int .i64 s1)] [Val (Kd.sl KLease) v1 a1, Val (Kd.sl (Kd.int .u8)) v2 a3] [0, 1]
    obtain ⟨o3, H, G3⟩ := bindE H
    refine g_cut (fun G => ∀ j2 (a : Act) (w : World), o3 = j2 → St Try.f15.ntmps F [(0, v1), (1, .int .i64 a2), (2, v2), (8, .int .i64 s1), (40, .bool j2)] [Val (Kd.sl KLease) v1 a1, Val (Kd.sl (Kd.int .u8)) v2 a3] a w → G a w) 1 ?_ fun J2 => ?_
    ·intro j2 a w ho_ h
     rw [ho_] at G3
     have H := G3
     by_cases c5 : j2 = true
     ·have H := ifT c5 H
      refine g_t h rfl c5 ?_
      refine Go.seq ?_
      refine Go.reg ?_
      refine mv h rfl rfl fun h => ?_
      refine mv h rfl rfl fun h => ?_
      obtain ⟨x3, ex3, H⟩ := bindE H
      refine ga h (o_ix rfl rfl (rd_at 0 rfl) ex3 t_v26) rfl fun h => ?_
      refine ga h (o_fae (k' := s1.toNat * Kd.n KLease + 1) rfl (rd_at 0 rfl) ex3 (by decide) t_f42_1 rfl rfl) rfl fun h => ?_
      have g5 := (in1 (rd_sub sLease_Ip (rd_at 0 rfl) ex3 h.mem))
      refine ga h (o_lsx rfl (rd_at 0 rfl) ex3 sLease_Ip X_int t_y25 (by decide)) rfl fun h => ?_
      refine ga h (o_assign rfl) rfl fun h => ?_
      refine ga h (o_assign rfl) rfl fun h => ?_
      refine GoR.done ?_
      have e_ := som H; subst e_
      rw [← nx_out i1] at G1
      have H := G1
      rw [← som H]
      exact g_ret (vs := [.int .u32 x3.Ip, .bool true]) h Try.func15 ⟨rfl, ⟨rfl, trivial⟩⟩ ⟨(), rfl, ((h.mem.pick [] (by decide) rfl).addpur g5)⟩
     ·have H := ifF c5 H
      refine g_f h rfl c5 ?_
      refine Go.skip ?_
      refine Go.inBlock ?_
      refine Go.reg ?_
      refine mv h rfl rfl fun h => ?_
      refine ga h (o_bin rfl rfl rfl) rfl fun h => ?_
      obtain ⟨y1, ey1, H⟩ := ltE H
      refine ga h (o_assign' rfl (congrArg (fun z => Value.int .i64 z) ey1)) rfl fun h => ?_
      refine GoR.done ?_
      have e_ := som H; subst e_
      exact Go.inLoop (nx_in i1 _ _ (ey1 ▸ (wrap_in _ _)) (h.wr [0, 1]))
    obtain ⟨x1, ex1, H⟩ := bindE H
    by_cases c4 : decide (a2 < x1.Until) = true
    ·have H := ifT c4 H
     obtain ⟨x2, ex2, H⟩ := bindE H
     refine Go.draw (E := [(0, v1), (1, .int .i64 a2), (2, v2), (8, .int .i64 s1)]) [] (L := [Val (Kd.sl KLease) v1 a1, Val (Kd.sl (Kd.int .u8)) v2 a3]) h rfl rfl 16 [cn (v1), cn (.int .i64 s1), ce [0, 1] (elemP v1 (s1.toNat * Kd.n KLease)), ce [0, 1, 2] (elemP v1 (s1.toNat * Kd.n KLease + 2)), cm [0, 1, 2, 3] [] [] (.int .i64 x1.Until) fun u => [Ent.pur (InR .i64 x1.Until)], cn (.int .i64 a2), ce [0, 1, 2, 3, 4, 5] (.bool (decide (a2 < x1.Until))), ce [0, 1, 2, 3, 4, 5, 6] (.bool (decide (a2 < x1.Until))), ce [0, 1, 2, 3, 4, 5, 6, 7] (v1), ce [0, 1, 2, 3, 4, 5, 6, 7] (.int .i64 s1), ce [0, 1, 2, 3, 4, 5, 6, 7, 8, 9] (elemP v1 (s1.toNat * Kd.n KLease)), ce [0, 1, 2, 3, 4, 5, 6, 7, 8, 9, 10] (elemP v1 (s1.toNat * Kd.n KLease + 0)), cw [0, 1, 2, 3, 4, 5, 6, 7, 8, 9, 10, 11] [] [] fun u => [Val (Kd.sl (Kd.int .u8)) u x2.Mac], cm [0, 1, 2, 3, 4, 5, 6, 7, 8, 9, 10, 11, 12] [12] [] (.string (mkS x2.Mac)) fun u => [], ce [0, 1, 2, 3, 4, 5, 6, 7] (v2), ce [0, 1, 2, 3, 4, 5, 6, 7, 14] (.string (mkS a3))] rfl t_mxo (by kernel_rfl) (by rfl) ?_ fun f1 _ _ h => ?_
     ·exact ox rfl (o_move rfl) (ox rfl (o_move rfl) (ox rfl (o_ix rfl rfl (rd_at 0 rfl) ex1 t_v26) (ox rfl (o_fae (k' := s1.toNat * Kd.n KLease + 2) rfl (rd_at 0 rfl) ex1 (by decide) t_f42_2 rfl rfl) (ox rfl (OpS.pur (fun F w m_ => (in1 (rd_sub sLease_Until (rd_at 0 rfl) ex1 m_))) (o_lsx rfl (rd_at 0 rfl) ex1 sLease_Until X_int t_y3 (by decide))) (ox rfl (o_move rfl) (ox rfl (o_bin rfl rfl rfl) (ox rfl (o_move rfl) (og rfl rfl (fun _ => rfl) c4 (o_move rfl) (og rfl rfl (fun _ => rfl) c4 (o_move rfl) (og rfl rfl (fun _ => rfl) c4 (o_ix rfl rfl (rd_at 0 rfl) ex2 t_v26) (og rfl rfl (fun _ => rfl) c4 (o_fae (k' := s1.toNat * Kd.n KLease + 0) rfl (rd_at 0 rfl) ex2 (by decide) t_f42_0 rfl rfl) (obs_cons (ob_own rfl (gok_some rfl rfl rfl (fun _ => rfl) c4) rfl fun f1 => (o_lsv rfl (rd_at 0 rfl) ex2 sLease_Mac t_y22 (by decide))) (og rfl rfl (fun _ => rfl) c4 (o_b2s rfl (rd_at 0 rfl) t_u22 t_u5 t_u9) (og rfl rfl (fun _ => rfl) c4 (o_move rfl) (og rfl rfl (fun _ => rfl) c4 (o_b2s rfl (rd_at 1 rfl) t_u22 t_u5 t_u9) (obs_nil))))))))))))))))
     replace h := h.wk (E' := [(0, v1), (1, .int .i64 a2), (2, v2), (8, .int .i64 s1), (30, .bool (decide (a2 < x1.Until))), (36, .string (mkS x2.Mac)), (38, .string (mkS a3))]) (L' := [Ent.pur (InR .i64 x1.Until), Val (Kd.sl (Kd.int .u8)) (f1 12) x2.Mac, Val (Kd.sl KLease) v1 a1, Val (Kd.sl (Kd.int .u8)) v2 a3]) (by kernel_rfl) [0, 1, 2, 3] (by decide) (by kernel_rfl)
     have g3 := (rd_bs (rd_at 1 rfl) h.mem)
     have g4 := (rd_bs (rd_at 3 rfl) h.mem)
     refine gg h rfl rfl c4 (o_eqs rfl rfl g3 g4) rfl fun _ _ _ h => ?_
     refine ga h (o_pickT rfl rfl c4) rfl fun h => ?_
     refine GoR.done ?_
     exact J2 (decide (x2.Mac = a3)) _ _ (som H).symm (h.wr [2, 3])
    ·have H := ifF c4 H
     refine Go.draw (E := [(0, v1), (1, .int .i64 a2), (2, v2), (8, .int .i64 s1)]) [] (L := [Val (Kd.sl KLease) v1 a1, Val (Kd.sl (Kd.int .u8)) v2 a3]) h rfl rfl 16 [cn (v1), cn (.int .i64 s1), ce [0, 1] (elemP v1 (s1.toNat * Kd.n KLease)), ce [0, 1, 2] (elemP v1 (s1.toNat * Kd.n KLease + 2)), cm [0, 1, 2, 3] [] [] (.int .i64 x1.Until) fun u => [Ent.pur (InR .i64 x1.Until)], cn (.int .i64 a2), ce [0, 1, 2, 3, 4, 5] (.bool (decide (a2 < x1.Until))), ce [0, 1, 2, 3, 4, 5, 6] (.bool (decide (a2 < x1.Until))), ⟨[7], [], [], true, .con undef, none, fun u => [], []⟩, ⟨[7], [], [], true, .con undef, none, fun u => [], []⟩, ⟨[7], [], [], true, .con undef, none, fun u => [], []⟩, ⟨[7], [], [], true, .con undef, none, fun u => [], []⟩, ⟨[7], [], [], true, .con undef, none, fun u => [], []⟩, ⟨[7], [], [], true, .con undef, none, fun u => [], []⟩, ⟨[7], [], [], true, .con undef, none, fun u => [], []⟩, ⟨[7], [], [], true, .con undef, none, fun u => [], []⟩] rfl t_mxo (by kernel_rfl) (by rfl) ?_ fun f1 _ _ h => ?_
     ·exact ox rfl (o_move rfl) (ox rfl (o_move rfl) (ox rfl (o_ix rfl rfl (rd_at 0 rfl) ex1 t_v26) (ox rfl (o_fae (k' := s1.toNat * Kd.n KLease + 2) rfl (rd_at 0 rfl) ex1 (by decide) t_f42_2 rfl rfl) (ox rfl (OpS.pur (fun F w m_ => (in1 (rd_sub sLease_Until (rd_at 0 rfl) ex1 m_))) (o_lsx rfl (rd_at 0 rfl) ex1 sLease_Until X_int t_y3 (by decide))) (ox rfl (o_move rfl) (ox rfl (o_bin rfl rfl rfl) (ox rfl (o_move rfl) (oj rfl rfl (fun _ => rfl) (nb_f c4) (oj rfl rfl (fun _ => rfl) (nb_f c4) (oj rfl rfl (fun _ => rfl) (nb_f c4) (oj rfl rfl (fun _ => rfl) (nb_f c4) (oj rfl rfl (fun _ => rfl) (nb_f c4) (oj rfl rfl (fun _ => rfl) (nb_f c4) (oj rfl rfl (fun _ => rfl) (nb_f c4) (oj rfl rfl (fun _ => rfl) (nb_f c4) (obs_nil))))))))))))))))
     replace h := h.wk (E' := [(0, v1), (1, .int .i64 a2), (2, v2), (8, .int .i64 s1), (30, .bool (decide (a2 < x1.Until)))]) (L' := [Ent.pur (InR .i64 x1.Until), Val (Kd.sl KLease) v1 a1, Val (Kd.sl (Kd.int .u8)) v2 a3]) (by kernel_rfl) [0, 1, 2] (by decide) (by kernel_rfl)
     refine gk h rfl rfl (nb_f c4) rfl fun _ h => ?_
     refine ga h (o_pickF rfl rfl c4) rfl fun h => ?_
     refine GoR.done ?_
     exact J2 false _ _ (som H).symm (h.wr [1, 2])
   ·have H := ifF c3 H
    refine g_f h rfl c3 ?_
    refine Go.exit rfl ?_
    have e_ := som H; subst e_
    exact J3 () _ _ (nx_out i1).symm (h.wr [])
  refine Go.reg ?_
  refine mv h rfl rfl fun h => ?_
  refine mv h rfl rfl fun h => ?_
  have g2 := (len_at 0 rfl h.mem)
  refine ga h (o_ln rfl (rd_at 0 rfl) t_v26) rfl fun h => ?_
  refine ga h (o_bin rfl rfl rfl) rfl fun h => ?_
  refine mv h rfl rfl fun h => ?_
  by_cases c1 : decide (s1 < (a1.length : Int)) = true
  ·have H := ifT c1 H
   refine gg h rfl rfl c1 (o_move rfl) rfl fun _ _ _ h => ?_
   obtain ⟨r1, er1, H⟩ := bindE H
   refine gg h rfl rfl c1 (o_call (ref25_Check.spc v1 a1 r1 er1) rfl [0] [] (by decide) rfl rfl) rfl fun _ _ _ h => ?_
   refine ga h (o_pickT rfl rfl c1) rfl fun h => ?_
   refine mv h rfl rfl fun h => ?_
   by_cases c2 : r1 = true
   ·have H := ifT c2 H
    refine gg h rfl rfl c2 (o_move rfl) rfl fun _ _ _ h => ?_
    obtain ⟨r2, er2, H⟩ := bindE H
    refine gg h rfl rfl c2 (o_call (ref25_tick.spc a2 ha2 r2 er2) rfl [] [] (by decide) rfl rfl) rfl fun _ _ _ h => ?_
    refine ga h (o_pickT rfl rfl c2) rfl fun h => ?_
    refine GoR.done ?_
    exact J1 r2 _ _ (som H).symm (h.wr [0, 1])
   ·have H := ifF c2 H
    refine gk h rfl rfl (nb_f c2) rfl fun _ h => ?_
    refine gk h rfl rfl (nb_f c2) rfl fun _ h => ?_
    refine ga h (o_pickF rfl rfl c2) rfl fun h => ?_
    refine GoR.done ?_
    exact J1 false _ _ (som H).symm (h.wr [0, 1])
  ·have H := ifF c1 H
   refine gk h rfl rfl (nb_f c1) rfl fun _ h => ?_
   refine gk h rfl rfl (nb_f c1) rfl fun _ h => ?_
   refine ga h (o_pickF rfl rfl c1) rfl fun h => ?_
   refine mv h rfl rfl fun h => ?_
   refine gk h rfl rfl (nb_f Bool.false_ne_true) rfl fun _ h => ?_
   refine gk h rfl rfl (nb_f Bool.false_ne_true) rfl fun _ h => ?_
   refine ga h (o_pickF rfl rfl Bool.false_ne_true) rfl fun h => ?_
   refine GoR.done ?_
   exact J1 false _ _ (som H).symm (h.wr [0, 1])
 ·exact I_ _ _ (show InR .i64 0 by decide) (h.wr [0, 1])
def ref25_Find.g (k_ : Nat) (a1 : List TLease) (a2 : Int) (a3 : List Int) : Option (Int × Bool) :=
  (loopK k_ (fun s1 => ((if decide (s1 < (a1.length : Int)) = true then (ref25_Check.g k_ a1).bind fun r1 => (if r1 = true then (ref25_tick.g k_ a2).bind fun r2 => some (r2) else some (false)) else some (false))).bind (fun j1 => (if j1 = true then ((idx a1 s1).bind fun x1 => (if decide (a2 < x1.Until) = true then (idx a1 s1).bind fun x2 => some (decide (x2.Mac = a3)) else some (false))).bind (fun j2 => (if j2 = true then (idx a1 s1).bind fun x3 => some (.inr (.inr ((x3.Ip, true)))) else lt (IntKind.i64.wrap (s1 + 1)) fun y1 => some (.inl y1))) else some (.inr (.inl (())))))) 0).bind (Sum.elim (fun j3 => some ((0, false))) (fun z_ => some (z_)))
theorem ref25_Find.le (k_ : Nat) (a1 : List TLease) (a2 : Int) (a3 : List Int) : Le (ref25_Find.g k_ a1 a2 a3) (ref25_Find.f a1 a2 a3) := by
 unfold ref25_Find.g ref25_Find.f
 repeat' (first | with_reducible refine le_loop fun _ => ?_ | with_reducible refine le_bind ?_ fun _ => ?_ | with_reducible refine le_ite ?_ ?_ | with_reducible refine le_lt fun _ => ?_ | with_reducible refine le_elim (fun _ => ?_) (fun _ => ?_) _ | with_reducible apply ref25_Check.le | with_reducible apply ref25_tick.le | with_reducible exact le_refl _)
end Go.Proofs.Ytmmaojclfggioaa.S
