/- Contracts, printed by a program of this session. -/
import Derived.Test.YtaiadolmjmacfaaDoorT1
namespace Go.Proofs.YtaiadolmjmacfaaDoor.S
open Go Go.SL Go.RowKit
set_option linter.unusedVariables false
set_option linter.unusedSimpArgs false
/-! drawbridge/sum.Sum -/
noncomputable def sum_Sum.f (a1 : List Int) : Option (Int) :=
  (loop (fun s1 => (if decide (s1.2 < (IntKind.i64.wrap (Int.tdiv (IntKind.i64.wrap ((a1.length : Int) + 1)) 2))) = true then (cut a1 (IntKind.i64.wrap (2 * s1.2)) (a1.length : Int)).bind fun x1 => lt (ovr (List.replicate 2 0 : List Int) 0 ((List.replicate 2 0 : List Int).length : Int) x1) fun y1 => (idx y1 0).bind fun x2 => (idx y1 1).bind fun x3 => lt (IntKind.i64.wrap (s1.1 + (bits .or .i64 (ishl .i64 x2 8) x3))) fun y2 => some (.inl (y2, IntKind.i64.wrap (s1.2 + 1))) else some (.inr (s1.1)))) (0, 0)).bind (fun j1 => (loop (fun s2 => (if decide (0 < (ishr .i64 s2 16)) = true then lt (IntKind.i64.wrap ((bits .and .i64 s2 65535) + (ishr .i64 s2 16))) fun y3 => some (.inl y3) else some (.inr (s2)))) j1).bind (fun j2 => lt (bits .xor .i64 j2 65535) fun y4 => some (y4)))
set_option maxRecDepth 100000 in
set_option maxHeartbeats 4000000 in
theorem sum_Sum.spc (v1 : Value) (a1 : List Int) (r : Int) (H : sum_Sum.f a1 = some r) : Spc Tryd.prog 38 [v1] [Val (Kd.sl (Kd.int .u8)) v1 a1] [] (fun (s : Unit) => .int .i64 r) (fun s => [Ent.pur (InR .i64 r)]) := by
 unfold sum_Sum.f at H
 refine Spc.go Tryd.func38 rfl (by kernel_rfl) rfl rfl (all_cons (Val.per Per_sl) all_nil) fun F a w h => ?_
 refine Go.seq ?_
 refine Go.reg ?_
 refine gs h (o_assign rfl) rfl fun _ _ _ h => ?_
 refine GoR.done ?_
 refine Go.seq ?_
 refine Go.reg ?_
 refine gs h (o_assign rfl) rfl fun _ _ _ h => ?_
 refine GoR.done ?_
 refine Go.seq ?_
 refine Go.seq ?_
 refine Go.reg ?_
 refine gs h (o_move rfl) rfl fun _ _ _ h => ?_
 have g1 := (len_at 0 rfl h.mem)
 refine gs h (o_ln rfl (rd_at 0 rfl) t_v23) rfl fun _ _ _ h => ?_
 refine gs h (o_bin rfl rfl rfl) rfl fun _ _ _ h => ?_
 refine gs h (o_quo rfl rfl (show (2 : Int) ≠ 0 by decide)) rfl fun _ _ _ h => ?_
 refine gs h (o_move rfl) rfl fun _ _ _ h => ?_
 refine GoR.done ?_
 refine Go.block ?_
 obtain ⟨o1, hl, G1⟩ := bindE H
 refine g_cut (fun G => ∀ j1 (a : Act) (w : World), o1 = j1 → InR .i64 j1 → St Tryd.f38.ntmps F [(3, .int .i64 j1)] [] a w → G a w) 2 ?_ fun J1 => ?_
 ·intro j1 a w ho_ g6 h
  rw [ho_] at G1
  have H := G1
  refine Go.seq ?_
  refine Go.block ?_
  obtain ⟨o2, hl, G2⟩ := bindE H
  refine g_cut (fun G => ∀ j2 (a : Act) (w : World), o2 = j2 → InR .i64 j2 → St Tryd.f38.ntmps F [(3, .int .i64 j2)] [] a w → G a w) 2 ?_ fun J2 => ?_
  ·intro j2 a w ho_ g8 h
   rw [ho_] at G2
   have H := G2
   refine Go.seq ?_
   refine Go.reg ?_
   refine gs h (o_move rfl) rfl fun _ _ _ h => ?_
   refine gs h (o_bin rfl rfl rfl) rfl fun _ _ _ h => ?_
   obtain ⟨y4, ey4, H⟩ := ltE H
   refine gs h (o_assign' rfl (congrArg (fun z => Value.int .i64 z) ey4)) rfl fun _ _ _ h => ?_
   refine GoR.done ?_
   rw [← som H]
   exact g_ret (vs := [.int .i64 y4]) h Tryd.func38 ⟨rfl, trivial⟩ ⟨(), rfl, ((h.mem.pick [] (by decide) rfl).addpur (ey4 ▸ (wrap_in _ _)))⟩
  refine g_loop (fun s2 G => ∀  (a : Act) (w : World), InR .i64 s2 → St Tryd.f38.ntmps F [(3, .int .i64 s2)] [] a w → G a w) hl (fun s2 p2 H i2 => ?_) fun I_ => ?_
  ·intro  a w g7 h
   refine Go.seq ?_
   refine Go.seq ?_
   refine Go.reg ?_
   refine gs h (o_move rfl) rfl fun _ _ _ h => ?_
   refine gs h (o_shr rfl rfl (show (0 : Int) ≤ 16 by decide)) rfl fun _ _ _ h => ?_
   refine gs h (o_bin rfl rfl rfl) rfl fun _ _ _ h => ?_
   refine GoR.done ?_
   by_cases c2 : decide (0 < (ishr .i64 s2 16)) = true
   ·have H := ifT c2 H
    refine g_t h rfl c2 ?_
    refine Go.skip ?_
    refine Go.block ?_
    refine Go.reg ?_
    refine gs h (o_move rfl) rfl fun _ _ _ h => ?_
    refine gs h (o_bin rfl rfl rfl) rfl fun _ _ _ h => ?_
    refine gs h (o_move rfl) rfl fun _ _ _ h => ?_
    refine gs h (o_shr rfl rfl (show (0 : Int) ≤ 16 by decide)) rfl fun _ _ _ h => ?_
    refine gs h (o_bin rfl rfl rfl) rfl fun _ _ _ h => ?_
    obtain ⟨y3, ey3, H⟩ := ltE H
    refine gs h (o_assign' rfl (congrArg (fun z => Value.int .i64 z) ey3)) rfl fun _ _ _ h => ?_
    refine GoR.done ?_
    refine Go.inBlock ?_
    have e_ := som H; subst e_
    exact Go.inLoop (nx_in i2 _ _ (ey3 ▸ (wrap_in _ _)) (h.wk (by rfl) [] (by decide) (by rfl)))
   ·have H := ifF c2 H
    refine g_f h rfl c2 ?_
    refine Go.exit rfl ?_
    have e_ := som H; subst e_
    exact J2 s2 _ _ (nx_out i2).symm g7 (h.wk (by rfl) [] (by decide) (by rfl))
  ·exact I_ _ _ g6 (h.wk (by rfl) [] (by decide) (by rfl))
 refine g_loop (fun s1 G => ∀  (a : Act) (w : World), InR .i64 s1.1 → InR .i64 s1.2 → St Tryd.f38.ntmps F [(0, v1), (3, .int .i64 s1.1), (9, .int .i64 (IntKind.i64.wrap (Int.tdiv (IntKind.i64.wrap ((a1.length : Int) + 1)) 2))), (10, .int .i64 s1.2)] [Val (Kd.sl (Kd.int .u8)) v1 a1] a w → G a w) hl (fun s1 p1 H i1 => ?_) fun I_ => ?_
 ·intro  a w g2 g3 h
  refine Go.seq ?_
  refine Go.reg ?_
  refine gs h (o_bin rfl rfl rfl) rfl fun _ _ _ h => ?_
  refine GoR.done ?_
  refine Go.seq ?_
  by_cases c1 : decide (s1.2 < (IntKind.i64.wrap (Int.tdiv (IntKind.i64.wrap ((a1.length : Int) + 1)) 2))) = true
  ·have H := ifT c1 H
   refine g_t h rfl c1 ?_
   refine Go.skip ?_
   refine Go.seq ?_
   refine Go.block ?_
   refine Go.seq ?_
   refine Go.reg ?_
   refine gs h (o_move rfl) rfl fun _ _ _ h => ?_
   refine gs h (o_assign rfl) rfl fun _ _ _ h => ?_
   refine GoR.done ?_
   refine Go.seq ?_
   refine Go.reg ?_
   refine gs h (o_bz (K := (Kd.arr (Kd.int .u8) 2)) t_zc80 t_r80 rfl (z_arr z_int)) rfl fun v2 _ _ h => ?_
   refine gs h (o_alloc (K := (Kd.arr (Kd.int .u8) 2)) (z := (.agg #[.int .u8 0, .int .u8 0])) rfl (z_arr z_int)) rfl fun b1 _ _ h => ?_
   refine gs0 h (o_st 0 rfl rfl rfl (pv_at Per_arr 1 rfl) rfl t_w80) fun _ _ _ h => ?_
   refine GoR.done ?_
   refine Go.seq ?_
   replace h := h.wk (E' := [(0, v1), (3, .int .i64 s1.1), (9, .int .i64 (IntKind.i64.wrap (Int.tdiv (IntKind.i64.wrap ((a1.length : Int) + 1)) 2))), (10, .int .i64 s1.2), (4, .int .i64 s1.2), (5, .pointer (some ⟨b1, 0, none⟩))]) (L' := [Fld (Kd.arr (Kd.int .u8) 2) b1 0 (List.replicate 2 0 : List Int), Val (Kd.arr (Kd.int .u8) 2) v2 (List.replicate 2 0 : List Int), Val (Kd.sl (Kd.int .u8)) v1 a1]) (by rfl) [0, 1, 2] (by decide) (by rfl)
   obtain ⟨x1, ex1, H⟩ := bindE H
   refine Go.draw (E := [(0, v1), (3, .int .i64 s1.1), (9, .int .i64 (IntKind.i64.wrap (Int.tdiv (IntKind.i64.wrap ((a1.length : Int) + 1)) 2))), (10, .int .i64 s1.2), (4, .int .i64 s1.2), (5, .pointer (some ⟨b1, 0, none⟩))]) [] (L := [Val (Kd.arr (Kd.int .u8) 2) v2 (List.replicate 2 0 : List Int), Val (Kd.sl (Kd.int .u8)) v1 a1]) h rfl rfl 5 [⟨[], [5], [5], false, .con (.slice (some ⟨b1, 0, none⟩) 2 2), none, fun u => [Val (Kd.osl (Kd.int .u8)) (.slice (some ⟨b1, 0, none⟩) 2 2) (List.replicate 2 0 : List Int)], []⟩, ⟨[], [], [], false, .con (v1), none, fun u => [], []⟩, ⟨[], [], [], false, .con (.int .i64 s1.2), none, fun u => [], []⟩, ⟨[2], [], [], false, .con (.int .i64 (IntKind.i64.wrap (2 * s1.2))), none, fun u => [], []⟩, ⟨[1, 2, 3], [], [], false, .own, none, fun u => [Val (Kd.sl (Kd.int .u8)) u x1], []⟩, ⟨[], [], [], false, .con undef, none, fun u => [Fld (Kd.arr (Kd.int .u8) 2) b1 0 (List.replicate 2 0 : List Int)], []⟩] rfl t_mxo (by kernel_rfl) (by rfl) ?_ fun f1 _ _ h => ?_
   ·exact obs_cons (ob_con rfl (gok_none rfl) rfl fun f1 => (OpS.pm (fun _ _ m => m.arr_o 0 rfl (by decide)) (o_slar (K := (Kd.int .u8)) rfl t_r80))) (obs_cons (ob_con rfl (gok_none rfl) rfl fun f1 => (o_move rfl)) (obs_cons (ob_con rfl (gok_none rfl) rfl fun f1 => (o_move rfl)) (obs_cons (ob_con rfl (gok_none rfl) rfl fun f1 => (o_bin rfl rfl rfl)) (obs_cons (ob_own rfl (gok_none rfl) rfl fun f1 => (o_cutl rfl (pv_at Per_sl 1 rfl) rfl ex1 t_v23)) (obs_nil)))))
   replace h := h.wk (E' := [(0, v1), (3, .int .i64 s1.1), (9, .int .i64 (IntKind.i64.wrap (Int.tdiv (IntKind.i64.wrap ((a1.length : Int) + 1)) 2))), (10, .int .i64 s1.2), (5, .pointer (some ⟨b1, 0, none⟩)), (14, .slice (some ⟨b1, 0, none⟩) 2 2), (18, (f1 4))]) (L' := [Val (Kd.osl (Kd.int .u8)) (.slice (some ⟨b1, 0, none⟩) 2 2) (List.replicate 2 0 : List Int), Val (Kd.sl (Kd.int .u8)) (f1 4) x1, Val (Kd.arr (Kd.int .u8) 2) v2 (List.replicate 2 0 : List Int), Val (Kd.sl (Kd.int .u8)) v1 a1]) (by kernel_rfl) [0, 1, 2, 3] (by decide) (by kernel_rfl)
   obtain ⟨y1, ey1, H⟩ := ltE H
   refine gs h (o_cpf 0 rfl rfl rfl (rd_at 1 rfl) t_a23) rfl fun _ _ _ h => ?_
   rw [ey1] at h
   refine GoR.done ?_
   refine Go.reg ?_
   refine gs h (o_move rfl) rfl fun _ _ _ h => ?_
   replace h := h.mm fun m => m.o_arr 0 rfl
   obtain ⟨x2, ex2, H⟩ := bindE H
   refine gs h (o_ixf (K := (Kd.int .u8)) 0 rfl rfl rfl ex2 t_r80) rfl fun _ _ _ h => ?_
   have g4 := (fd_ari 0 rfl ex2 h.mem)
   refine gs h (o_lar (K := (Kd.int .u8)) 0 rfl rfl ex2 X_int t_y5) rfl fun _ _ _ h => ?_
   refine gs h (o_convw rfl t_q5 t_u3 g4 rfl) rfl fun _ _ _ h => ?_
   refine gs h (o_shl rfl rfl (show (0 : Int) ≤ 8 by decide)) rfl fun _ _ _ h => ?_
   obtain ⟨x3, ex3, H⟩ := bindE H
   refine gs h (o_ixf (K := (Kd.int .u8)) 0 rfl rfl rfl ex3 t_r80) rfl fun _ _ _ h => ?_
   have g5 := (fd_ari 0 rfl ex3 h.mem)
   refine gs h (o_lar (K := (Kd.int .u8)) 0 rfl rfl ex3 X_int t_y5) rfl fun _ _ _ h => ?_
   refine gs h (o_convw rfl t_q5 t_u3 g5 rfl) rfl fun _ _ _ h => ?_
   refine gs h (o_bin rfl rfl rfl) rfl fun _ _ _ h => ?_
   refine gs h (o_bin rfl rfl rfl) rfl fun _ _ _ h => ?_
   obtain ⟨y2, ey2, H⟩ := ltE H
   refine gs h (o_assign' rfl (congrArg (fun z => Value.int .i64 z) ey2)) rfl fun _ _ _ h => ?_
   refine GoR.done ?_
   refine Go.inBlock ?_
   refine Go.reg ?_
   refine gs h (o_bin rfl rfl rfl) rfl fun _ _ _ h => ?_
   refine gs h (o_move rfl) rfl fun _ _ _ h => ?_
   refine GoR.done ?_
   have e_ := som H; subst e_
   exact Go.inLoop (nx_in i1 _ _ (ey2 ▸ (wrap_in _ _)) (wrap_in _ _) (h.wk (by rfl) [3] (by decide) (by rfl)))
  ·have H := ifF c1 H
   refine g_f h rfl c1 ?_
   refine Go.exit rfl ?_
   have e_ := som H; subst e_
   exact J1 s1.1 _ _ (nx_out i1).symm g2 (h.wk (by rfl) [] (by decide) (by rfl))
 ·exact I_ _ _ (show InR .i64 0 by decide) (show InR .i64 0 by decide) (h.wk (by rfl) [0] (by decide) (by rfl))
def sum_Sum.g (k_ : Nat) (a1 : List Int) : Option (Int) :=
  (loopK k_ (fun s1 => (if decide (s1.2 < (IntKind.i64.wrap (Int.tdiv (IntKind.i64.wrap ((a1.length : Int) + 1)) 2))) = true then (cut a1 (IntKind.i64.wrap (2 * s1.2)) (a1.length : Int)).bind fun x1 => lt (ovr (List.replicate 2 0 : List Int) 0 ((List.replicate 2 0 : List Int).length : Int) x1) fun y1 => (idx y1 0).bind fun x2 => (idx y1 1).bind fun x3 => lt (IntKind.i64.wrap (s1.1 + (bits .or .i64 (ishl .i64 x2 8) x3))) fun y2 => some (.inl (y2, IntKind.i64.wrap (s1.2 + 1))) else some (.inr (s1.1)))) (0, 0)).bind (fun j1 => (loopK k_ (fun s2 => (if decide (0 < (ishr .i64 s2 16)) = true then lt (IntKind.i64.wrap ((bits .and .i64 s2 65535) + (ishr .i64 s2 16))) fun y3 => some (.inl y3) else some (.inr (s2)))) j1).bind (fun j2 => lt (bits .xor .i64 j2 65535) fun y4 => some (y4)))
theorem sum_Sum.le (k_ : Nat) (a1 : List Int) : Le (sum_Sum.g k_ a1) (sum_Sum.f a1) := by
 unfold sum_Sum.g sum_Sum.f
 repeat' (first | with_reducible refine le_loop fun _ => ?_ | with_reducible refine le_bind ?_ fun _ => ?_ | with_reducible refine le_ite ?_ ?_ | with_reducible refine le_lt fun _ => ?_ | with_reducible refine le_elim (fun _ => ?_) (fun _ => ?_) _ | with_reducible exact le_refl _)
/-! drawbridge/sum.Patch -/
noncomputable def sum_Patch.f (a1 : List Int) (a2 : Int) : Option ((List Int)) :=
  (slices_Clone_s_byte_byte.f a1).bind fun r1 => ((if decide (a2 < 0) = true then some (true) else (if decide ((bits .and .i64 a2 1) = 1) = true then some (true) else some (decide ((IntKind.i64.wrap ((a1.length : Int) - 2)) < a2))))).bind (fun j1 => (if j1 = true then some (r1) else if inB r1 a2 (IntKind.i64.wrap (a2 + 2)) then (lt (Go.splice r1 a2.toNat (List.replicate ((IntKind.i64.wrap (a2 + 2)).toNat - a2.toNat) 0)) fun y1 => if inB y1 a2 (y1.length : Int) then ((sum_Sum.f y1).bind fun r2 => (bits_Put.f (IntKind.u64.wrap r2) 2 true).bind fun r3 => lt (ovr y1 a2 (y1.length : Int) r3) fun y2 => some (y2)) else none) else none))
set_option maxRecDepth 100000 in
set_option maxHeartbeats 4000000 in
theorem sum_Patch.spc (v1 : Value) (a1 : List Int) (a2 : Int) (ha2 : InR .i64 a2) (r : (List Int)) (H : sum_Patch.f a1 a2 = some r) : Spc Tryd.prog 22 [v1, .int .i64 a2] [Val (Kd.sl (Kd.int .u8)) v1 a1] [] (fun (s : Value) => s) (fun s => [Val (Kd.osl (Kd.int .u8)) s r]) := by
 unfold sum_Patch.f at H
 refine Spc.go Tryd.func22 rfl (by kernel_rfl) rfl rfl (all_cons (Val.per Per_sl) all_nil) fun F a w h => ?_
 refine Go.seq ?_
 refine Go.reg ?_
 refine gs h (o_assign rfl) rfl fun _ _ _ h => ?_
 refine GoR.done ?_
 refine Go.seq ?_
 refine Go.reg ?_
 refine gs h (o_move rfl) rfl fun _ _ _ h => ?_
 obtain ⟨r1, er1, H⟩ := bindE H
 refine gs h (o_call (slices_Clone_s_byte_byte.spc v1 a1 r1 er1) rfl [0] [] (by decide) rfl rfl) rfl fun v2 _ _ h => ?_
 refine gs h (o_assign rfl) rfl fun _ _ _ h => ?_
 refine GoR.done ?_
 refine Go.seq ?_
 refine Go.seq ?_
 obtain ⟨o1, H, G1⟩ := bindE H
 refine g_cut (fun G => ∀ j1 (a : Act) (w : World), o1 = j1 → St Tryd.f22.ntmps F [(1, .int .i64 a2), (5, v2), (21, .bool j1)] [Val (Kd.osl (Kd.int .u8)) v2 r1] a w → G a w) 1 ?_ fun J1 => ?_
 ·intro j1 a w ho_ h
  rw [ho_] at G1
  have H := G1
  by_cases c3 : j1 = true
  ·have H := ifT c3 H
   refine g_t h rfl c3 ?_
   refine Go.seq ?_
   refine Go.reg ?_
   refine gs h (o_move rfl) rfl fun _ _ _ h => ?_
   refine gs h (o_assign rfl) rfl fun _ _ _ h => ?_
   refine GoR.done ?_
   rw [← som H]
   exact g_ret (vs := [v2]) h Tryd.func22 ⟨rfl, trivial⟩ ⟨v2, rfl, (h.mem.pick [0] (by decide) rfl)⟩
  ·have H := ifF c3 H
   refine g_f h rfl c3 ?_
   refine Go.skip ?_
   refine Go.seq ?_
   refine Go.reg ?_
   iterate 3 (refine gs h (o_move rfl) rfl fun _ _ _ h => ?_)
   refine gs h (o_bin rfl rfl rfl) rfl fun _ _ _ h => ?_
   obtain ⟨q1, H⟩ := ifS H
   refine gs h (o_own 0 rfl rfl rfl rfl q1 t_v23) rfl fun _ _ _ h => ?_
   obtain ⟨y1, ey1, H⟩ := ltE H
   refine gs0 h (o_clr (z := 0) 0 rfl rfl q1 t_a23 (by decide) (fun e he => ⟨[.int .u8 0], by cases he; exact t_zc5, z_int⟩)) fun _ _ _ h => ?_
   rw [ey1] at h
   refine GoR.done ?_
   refine Go.seq ?_
   replace h := h.mm fun m => m.isl 0 rfl
   replace h := h.wk (E' := [(1, .int .i64 a2), (5, v2)]) (L' := [Ent.pur (IsSl v2 y1.length), Val (Kd.osl (Kd.int .u8)) v2 y1]) (by rfl) [0, 1] (by decide) (by rfl)
   obtain ⟨q3, H⟩ := ifS H
   obtain ⟨r2, er2, H⟩ := bindE H
   obtain ⟨r3, er3, H⟩ := bindE H
   refine Go.draw (E := [(1, .int .i64 a2), (5, v2)]) [] (L := [Ent.pur (IsSl v2 y1.length), Val (Kd.osl (Kd.int .u8)) v2 y1]) h rfl rfl 7 [⟨[], [], [], false, .con (v2), none, fun u => [], []⟩, ⟨[], [], [], false, .con (.int .i64 a2), none, fun u => [], []⟩, ⟨[0, 1], [], [], false, .con (subV v2 a2.toNat (y1.length : Int).toNat (Kd.n (Kd.int .u8))), none, fun u => [], []⟩, ⟨[], [], [], false, .con (v2), none, fun u => [], []⟩, ⟨[3], [], [], false, .con (.int .i64 r2), none, fun u => [Ent.pur (InR .i64 r2)], []⟩, ⟨[3, 4], [], [], false, .con (.int .u64 (IntKind.u64.wrap r2)), none, fun u => [], []⟩, ⟨[3, 4, 5], [], [], false, .own, none, fun u => [Val (Kd.osl (Kd.int .u8)) u r3], []⟩] rfl t_mxo (by kernel_rfl) (by rfl) ?_ fun f2 _ _ h => ?_
   ·exact obs_cons (ob_con rfl (gok_none rfl) rfl fun f2 => (o_move rfl)) (obs_cons (ob_con rfl (gok_none rfl) rfl fun f2 => (o_move rfl)) (obs_cons (ob_con rfl (gok_none rfl) rfl fun f2 => (OpS.fact (fun F w m_ => (Mem.pur 0 rfl m_)) fun g2 => (o_ownlp (n := 1) g2 rfl rfl q3 t_v23))) (obs_cons (ob_con rfl (gok_none rfl) rfl fun f2 => (o_move rfl)) (obs_cons (ob_con rfl (gok_none rfl) rfl fun f2 => (OpS.lend (Lp := [Val (Kd.sl (Kd.int .u8)) v2 y1]) (lent_cons (lent_own 1 rfl) lent_nil) (o_call (sum_Sum.spc v2 y1 r2 er2) rfl [0] [] (by decide) rfl rfl) (fun _ => (clo_cons cl_pur clo_nil)))) (obs_cons (ob_con rfl (gok_none rfl) rfl fun f2 => (o_conv rfl t_q3 t_u49)) (obs_cons (ob_own rfl (gok_none rfl) rfl fun f2 => (o_call (bits_Put.spc (IntKind.u64.wrap r2) (wrap_in _ _) 2 (show InR .i64 2 by decide) true r3 er3) rfl [] [] (by decide) rfl rfl)) (obs_nil)))))))
   replace h := h.wk (E' := [(5, v2), (30, subV v2 a2.toNat (y1.length : Int).toNat (Kd.n (Kd.int .u8))), (34, (f2 6))]) (L' := [Ent.pur (InR .i64 r2), Val (Kd.osl (Kd.int .u8)) (f2 6) r3, Ent.pur (IsSl v2 y1.length), Val (Kd.osl (Kd.int .u8)) v2 y1]) (by kernel_rfl) [0, 1, 2, 3] (by decide) (by kernel_rfl)
   obtain ⟨y2, ey2, H⟩ := ltE H
   refine gs h (o_cp 3 rfl rfl rfl (rd_own 1 rfl) q3 t_a23) rfl fun _ _ _ h => ?_
   rw [ey2] at h
   refine GoR.done ?_
   refine Go.seq ?_
   refine Go.reg ?_
   refine gs h (o_move rfl) rfl fun _ _ _ h => ?_
   refine gs h (o_assign rfl) rfl fun _ _ _ h => ?_
   refine GoR.done ?_
   rw [← som H]
   exact g_ret (vs := [v2]) h Tryd.func22 ⟨rfl, trivial⟩ ⟨v2, rfl, (h.mem.pick [3] (by decide) rfl)⟩
 refine Go.reg ?_
 refine gs h (o_move rfl) rfl fun _ _ _ h => ?_
 refine gs h (o_bin rfl rfl rfl) rfl fun _ _ _ h => ?_
 refine gs h (o_move rfl) rfl fun _ _ _ h => ?_
 by_cases c1 : decide (a2 < 0) = true
 ·have H := ifT c1 H
  iterate 3 (refine gk h rfl rfl (nb_t c1) rfl fun _ h => ?_)
  refine gs h (o_pickT rfl rfl c1) rfl fun _ _ _ h => ?_
  refine gs h (o_move rfl) rfl fun _ _ _ h => ?_
  iterate 5 (refine gk h rfl rfl (nb_t rfl) rfl fun _ h => ?_)
  refine gs h (o_pickT rfl rfl rfl) rfl fun _ _ _ h => ?_
  refine GoR.done ?_
  exact J1 true _ _ (som H).symm (h.wk (by rfl) [0] (by decide) (by rfl))
 ·have H := ifF c1 H
  refine gg h rfl rfl (nbF c1) (o_move rfl) rfl fun _ _ _ h => ?_
  refine gg h rfl rfl (nbF c1) (o_bin rfl rfl rfl) rfl fun _ _ _ h => ?_
  refine gg h rfl rfl (nbF c1) (o_bin rfl rfl rfl) rfl fun _ _ _ h => ?_
  refine gs h (o_pickF rfl rfl c1) rfl fun _ _ _ h => ?_
  refine gs h (o_move rfl) rfl fun _ _ _ h => ?_
  by_cases c2 : decide ((bits .and .i64 a2 1) = 1) = true
  ·have H := ifT c2 H
   iterate 5 (refine gk h rfl rfl (nb_t c2) rfl fun _ h => ?_)
   refine gs h (o_pickT rfl rfl c2) rfl fun _ _ _ h => ?_
   refine GoR.done ?_
   exact J1 true _ _ (som H).symm (h.wk (by rfl) [0] (by decide) (by rfl))
  ·have H := ifF c2 H
   refine gg h rfl rfl (nbF c2) (o_move rfl) rfl fun _ _ _ h => ?_
   refine gg h rfl rfl (nbF c2) (o_move rfl) rfl fun _ _ _ h => ?_
   have g1 := (len_at 1 rfl h.mem)
   refine gg h rfl rfl (nbF c2) (o_ln rfl (rd_at 1 rfl) t_v23) rfl fun _ _ _ h => ?_
   refine gg h rfl rfl (nbF c2) (o_bin rfl rfl rfl) rfl fun _ _ _ h => ?_
   refine gg h rfl rfl (nbF c2) (o_bin rfl rfl rfl) rfl fun _ _ _ h => ?_
   refine gs h (o_pickF rfl rfl c2) rfl fun _ _ _ h => ?_
   refine GoR.done ?_
   exact J1 (decide ((IntKind.i64.wrap ((a1.length : Int) - 2)) < a2)) _ _ (som H).symm (h.wk (by rfl) [0] (by decide) (by rfl))
def sum_Patch.g (k_ : Nat) (a1 : List Int) (a2 : Int) : Option ((List Int)) :=
  (slices_Clone_s_byte_byte.g k_ a1).bind fun r1 => ((if decide (a2 < 0) = true then some (true) else (if decide ((bits .and .i64 a2 1) = 1) = true then some (true) else some (decide ((IntKind.i64.wrap ((a1.length : Int) - 2)) < a2))))).bind (fun j1 => (if j1 = true then some (r1) else if inB r1 a2 (IntKind.i64.wrap (a2 + 2)) then (lt (Go.splice r1 a2.toNat (List.replicate ((IntKind.i64.wrap (a2 + 2)).toNat - a2.toNat) 0)) fun y1 => if inB y1 a2 (y1.length : Int) then ((sum_Sum.g k_ y1).bind fun r2 => (bits_Put.g k_ (IntKind.u64.wrap r2) 2 true).bind fun r3 => lt (ovr y1 a2 (y1.length : Int) r3) fun y2 => some (y2)) else none) else none))
theorem sum_Patch.le (k_ : Nat) (a1 : List Int) (a2 : Int) : Le (sum_Patch.g k_ a1 a2) (sum_Patch.f a1 a2) := by
 unfold sum_Patch.g sum_Patch.f
 repeat' (first | with_reducible refine le_loop fun _ => ?_ | with_reducible refine le_bind ?_ fun _ => ?_ | with_reducible refine le_ite ?_ ?_ | with_reducible refine le_lt fun _ => ?_ | with_reducible refine le_elim (fun _ => ?_) (fun _ => ?_) _ | with_reducible apply bits_Put.le | with_reducible apply slices_Clone_s_byte_byte.le | with_reducible apply sum_Sum.le | with_reducible exact le_refl _)
/-! drawbridge/ip.Put -/
noncomputable def ip_Put.f (a1 : TIp) : Option ((List Int) × Int) :=
  (ip_right.f a1).bind fun r1 => (if (!r1) = true then some (([], 2)) else lt (IntKind.i64.wrap (20 + (a1.Options.length : Int))) fun y1 => (ip_Put_1.f (bits .or .i64 64 (IntKind.i64.wrap (Int.tdiv y1 4))) 1).bind fun r2 => (ip_Put_1.f a1.Tos 1).bind fun r3 => (ip_Put_1.f (IntKind.i64.wrap (y1 + (a1.Data.length : Int))) 2).bind fun r4 => (ip_Put_1.f a1.Id 2).bind fun r5 => (ip_Put_1.f (bits .or .i64 (ishl .i64 a1.Flags 13) a1.Off) 2).bind fun r6 => (ip_Put_1.f a1.Ttl 1).bind fun r7 => (ip_Put_1.f a1.Proto 1).bind fun r8 => (ip_Put_1.f 0 2).bind fun r9 => (ip_Put_1.f a1.Src 4).bind fun r10 => (ip_Put_1.f a1.Dst 4).bind fun r11 => (slices_Concat_s_byte_byte.f ([r2, r3, r4, r5, r6, r7, r8, r9, r10, r11, a1.Options] : List (List Int))).bind fun r12 => (sum_Patch.f r12 10).bind fun r13 => (app r13 a1.Data).bind fun x1 => some ((x1, 0)))
set_option maxRecDepth 100000 in
set_option maxHeartbeats 4000000 in
theorem ip_Put.spc (v1 : Value) (a1 : TIp) (r : (List Int) × Int) (H : ip_Put.f a1 = some r) : Spc Tryd.prog 8 [v1] [Val KIp v1 a1] [] (fun (s : Value) => .tuple #[s, .int .i64 r.2]) (fun s => [Ent.pur (InR .i64 r.2), Val (Kd.osl (Kd.int .u8)) s r.1]) := by
 unfold ip_Put.f at H
 refine Spc.go Tryd.func8 rfl (by kernel_rfl) rfl rfl (all_cons (Val.per PIp) all_nil) fun F a w h => ?_
 refine Go.seq ?_
 refine Go.reg ?_
 refine gs h (o_box (K := KIp) rfl (pv_at PIp 0 rfl)) rfl fun b1 _ _ h => ?_
 refine gs h (o_assign rfl) rfl fun _ _ _ h => ?_
 refine gs h (o_assign rfl) rfl fun _ _ _ h => ?_
 refine GoR.done ?_
 refine Go.seq ?_
 refine Go.seq ?_
 refine Go.reg ?_
 refine gs h (o_ldv 0 rfl rfl PIp t_y25) rfl fun v2 _ _ h => ?_
 obtain ⟨r1, er1, H⟩ := bindE H
 refine gs h (o_call (ip_right.spc v2 a1 r1 er1) rfl [0] [] (by decide) rfl rfl) rfl fun _ _ _ h => ?_
 refine gs h (o_not rfl) rfl fun _ _ _ h => ?_
 refine GoR.done ?_
 by_cases c1 : (!r1) = true
 ·have H := ifT c1 H
  refine g_t h rfl c1 ?_
  refine Go.seq ?_
  refine Go.reg ?_
  refine gs h (o_assign rfl) rfl fun _ _ _ h => ?_
  refine gs h (o_assign rfl) rfl fun _ _ _ h => ?_
  refine GoR.done ?_
  replace h := h.mm fun m => m.nilo (Kd.int .u8)
  rw [← som H]
  exact g_ret (vs := [.slice none 0 0, .int .i64 2]) h Tryd.func8 ⟨rfl, ⟨rfl, trivial⟩⟩ ⟨.slice none 0 0, rfl, ((h.mem.pick [0] (by decide) rfl).addpur (show InR .i64 2 by decide))⟩
 ·have H := ifF c1 H
  refine g_f h rfl c1 ?_
  refine Go.skip ?_
  refine Go.seq ?_
  refine Go.reg ?_
  refine gs h (o_fa rfl t_f25_8 rfl rfl) rfl fun _ _ _ h => ?_
  refine gs h (o_lfv 1 rfl rfl sIp_Options rfl Per_sl t_y23) rfl fun v3 _ _ h => ?_
  have g1 := (len_at 0 rfl h.mem)
  refine gs h (o_ln rfl (rd_at 0 rfl) t_v23) rfl fun _ _ _ h => ?_
  refine gs h (o_bin rfl rfl rfl) rfl fun _ _ _ h => ?_
  obtain ⟨y1, ey1, H⟩ := ltE H
  refine gs h (o_assign' rfl (congrArg (fun z => Value.int .i64 z) ey1)) rfl fun _ _ _ h => ?_
  refine GoR.done ?_
  refine Go.seq ?_
  refine Go.reg ?_
  refine gs h (o_assign rfl) rfl fun _ _ _ h => ?_
  refine GoR.done ?_
  refine Go.seq ?_
  replace h := h.wk (E' := [(1, .pointer (some ⟨b1, 0, none⟩)), (2, .slice none 0 0), (3, .int .i64 0), (4, .int .i64 y1), (5, .func (.func 19) #[] #[])]) (L' := [Val (Kd.sl (Kd.int .u8)) v3 a1.Options, Val KIp v2 a1, Fld KIp b1 0 a1, Val KIp v1 a1]) (by rfl) [0, 1, 2, 3] (by decide) (by rfl)
  obtain ⟨r2, er2, H⟩ := bindE H
  obtain ⟨r3, er3, H⟩ := bindE H
  obtain ⟨r4, er4, H⟩ := bindE H
  obtain ⟨r5, er5, H⟩ := bindE H
  obtain ⟨r6, er6, H⟩ := bindE H
  obtain ⟨r7, er7, H⟩ := bindE H
  obtain ⟨r8, er8, H⟩ := bindE H
  obtain ⟨r9, er9, H⟩ := bindE H
  obtain ⟨r10, er10, H⟩ := bindE H
  obtain ⟨r11, er11, H⟩ := bindE H
  refine Go.draw (E := [(1, .pointer (some ⟨b1, 0, none⟩)), (2, .slice none 0 0), (3, .int .i64 0), (4, .int .i64 y1), (5, .func (.func 19) #[] #[])]) [] (L := [Val (Kd.sl (Kd.int .u8)) v3 a1.Options, Val KIp v2 a1, Fld KIp b1 0 a1, Val KIp v1 a1]) h rfl rfl 50 [⟨[], [], [], false, .con (.func (.func 19) #[] #[]), none, fun u => [], []⟩, ⟨[], [], [], false, .con (.int .i64 y1), none, fun u => [], []⟩, ⟨[1], [], [], false, .con (.int .i64 (IntKind.i64.wrap (Int.tdiv y1 4))), none, fun u => [], []⟩, ⟨[1, 2], [], [], false, .con (.int .i64 (bits .or .i64 64 (IntKind.i64.wrap (Int.tdiv y1 4)))), none, fun u => [], []⟩, ⟨[0, 1, 2, 3], [], [], false, .own, none, fun u => [Val (Kd.osl (Kd.int .u8)) u r2], []⟩, ⟨[], [], [], false, .con (.func (.func 19) #[] #[]), none, fun u => [], []⟩, ⟨[], [], [], false, .con (.pointer (some ⟨b1, 0, none⟩)), none, fun u => [], []⟩, ⟨[6], [], [], false, .con (.int .i64 a1.Tos), none, fun u => [Ent.pur (InR .i64 a1.Tos)], []⟩, ⟨[5, 6, 7], [7], [], false, .own, none, fun u => [Val (Kd.osl (Kd.int .u8)) u r3], []⟩, ⟨[], [], [], false, .con (.func (.func 19) #[] #[]), none, fun u => [], []⟩, ⟨[], [], [], false, .con (.int .i64 y1), none, fun u => [], []⟩, ⟨[], [], [], false, .con (.pointer (some ⟨b1, 9, none⟩)), none, fun u => [], []⟩, ⟨[11], [], [], false, .own, none, fun u => [Val (Kd.sl (Kd.int .u8)) u a1.Data], []⟩, ⟨[11, 12], [12], [], false, .con (.int .i64 (a1.Data.length : Int)), none, fun u => [], []⟩, ⟨[10, 11, 12, 13], [], [], false, .con (.int .i64 (IntKind.i64.wrap (y1 + (a1.Data.length : Int)))), none, fun u => [], []⟩, ⟨[9, 10, 11, 12, 13, 14], [], [], false, .own, none, fun u => [Val (Kd.osl (Kd.int .u8)) u r4], []⟩, ⟨[], [], [], false, .con (.func (.func 19) #[] #[]), none, fun u => [], []⟩, ⟨[], [], [], false, .con (.pointer (some ⟨b1, 1, none⟩)), none, fun u => [], []⟩, ⟨[17], [], [], false, .con (.int .i64 a1.Id), none, fun u => [Ent.pur (InR .i64 a1.Id)], []⟩, ⟨[16, 17, 18], [18], [], false, .own, none, fun u => [Val (Kd.osl (Kd.int .u8)) u r5], []⟩, ⟨[], [], [], false, .con (.func (.func 19) #[] #[]), none, fun u => [], []⟩, ⟨[], [], [], false, .con (.pointer (some ⟨b1, 2, none⟩)), none, fun u => [], []⟩, ⟨[21], [], [], false, .con (.int .i64 a1.Flags), none, fun u => [Ent.pur (InR .i64 a1.Flags)], []⟩, ⟨[21, 22], [], [], false, .con (.int .i64 (ishl .i64 a1.Flags 13)), none, fun u => [], []⟩, ⟨[], [], [], false, .con (.pointer (some ⟨b1, 3, none⟩)), none, fun u => [], []⟩, ⟨[24], [], [], false, .con (.int .i64 a1.Off), none, fun u => [Ent.pur (InR .i64 a1.Off)], []⟩, ⟨[21, 22, 23, 24, 25], [], [], false, .con (.int .i64 (bits .or .i64 (ishl .i64 a1.Flags 13) a1.Off)), none, fun u => [], []⟩, ⟨[20, 21, 22, 23, 24, 25, 26], [], [], false, .own, none, fun u => [Val (Kd.osl (Kd.int .u8)) u r6], []⟩, ⟨[], [], [], false, .con (.func (.func 19) #[] #[]), none, fun u => [], []⟩, ⟨[], [], [], false, .con (.pointer (some ⟨b1, 4, none⟩)), none, fun u => [], []⟩, ⟨[29], [], [], false, .con (.int .i64 a1.Ttl), none, fun u => [Ent.pur (InR .i64 a1.Ttl)], []⟩, ⟨[28, 29, 30], [30], [], false, .own, none, fun u => [Val (Kd.osl (Kd.int .u8)) u r7], []⟩, ⟨[], [], [], false, .con (.func (.func 19) #[] #[]), none, fun u => [], []⟩, ⟨[], [], [], false, .con (.pointer (some ⟨b1, 5, none⟩)), none, fun u => [], []⟩, ⟨[33], [], [], false, .con (.int .i64 a1.Proto), none, fun u => [Ent.pur (InR .i64 a1.Proto)], []⟩, ⟨[32, 33, 34], [34], [], false, .own, none, fun u => [Val (Kd.osl (Kd.int .u8)) u r8], []⟩, ⟨[], [], [], false, .con (.func (.func 19) #[] #[]), none, fun u => [], []⟩, ⟨[36], [], [], false, .own, none, fun u => [Val (Kd.osl (Kd.int .u8)) u r9], []⟩, ⟨[], [], [], false, .con (.func (.func 19) #[] #[]), none, fun u => [], []⟩, ⟨[], [], [], false, .con (.pointer (some ⟨b1, 6, none⟩)), none, fun u => [], []⟩, ⟨[39], [], [], false, .con (.int .u32 a1.Src), none, fun u => [Ent.pur (InR .u32 a1.Src)], []⟩, ⟨[39, 40], [40], [], false, .con (.int .i64 a1.Src), none, fun u => [], []⟩, ⟨[38, 39, 40, 41], [40], [], false, .own, none, fun u => [Val (Kd.osl (Kd.int .u8)) u r10], []⟩, ⟨[], [], [], false, .con (.func (.func 19) #[] #[]), none, fun u => [], []⟩, ⟨[], [], [], false, .con (.pointer (some ⟨b1, 7, none⟩)), none, fun u => [], []⟩, ⟨[44], [], [], false, .con (.int .u32 a1.Dst), none, fun u => [Ent.pur (InR .u32 a1.Dst)], []⟩, ⟨[44, 45], [45], [], false, .con (.int .i64 a1.Dst), none, fun u => [], []⟩, ⟨[43, 44, 45, 46], [45], [], false, .own, none, fun u => [Val (Kd.osl (Kd.int .u8)) u r11], []⟩, ⟨[], [], [], false, .con (.pointer (some ⟨b1, 8, none⟩)), none, fun u => [], []⟩, ⟨[48], [], [], false, .own, none, fun u => [Val (Kd.sl (Kd.int .u8)) u a1.Options], []⟩] rfl t_mxo (by kernel_rfl) (by rfl) ?_ fun f1 _ _ h => ?_
  ·exact obs_cons (ob_con rfl (gok_none rfl) rfl fun f1 => (o_move rfl)) (obs_cons (ob_con rfl (gok_none rfl) rfl fun f1 => (o_move rfl)) (obs_cons (ob_con rfl (gok_none rfl) rfl fun f1 => (o_quo rfl rfl (show (4 : Int) ≠ 0 by decide))) (obs_cons (ob_con rfl (gok_none rfl) rfl fun f1 => (o_bin rfl rfl rfl)) (obs_cons (ob_own rfl (gok_none rfl) rfl fun f1 => (o_callv (vs := [.int .i64 (bits .or .i64 64 (IntKind.i64.wrap (Int.tdiv y1 4))), .int .i64 1]) (caps := []) rfl rfl (ip_Put_1.spc (bits .or .i64 64 (IntKind.i64.wrap (Int.tdiv y1 4))) (wrap_in _ _) 1 (show InR .i64 1 by decide) r2 er2) [] [] (by decide) rfl rfl)) (obs_cons (ob_con rfl (gok_none rfl) rfl fun f1 => (o_move rfl)) (obs_cons (ob_con rfl (gok_none rfl) rfl fun f1 => (o_fa rfl t_f25_0 rfl rfl)) (obs_cons (ob_con rfl (gok_none rfl) rfl fun f1 => (OpS.pur (fun F w m_ => (in2 (fd_sub sIp_Tos 2 rfl m_))) (o_lfx 2 rfl rfl sIp_Tos rfl X_int t_y3))) (obs_cons (ob_own rfl (gok_none rfl) rfl fun f1 => (OpS.fact (p := InR .i64 a1.Tos) (fun F w m_ => (Mem.pur 0 rfl m_)) fun g2 => (o_callv (vs := [.int .i64 a1.Tos, .int .i64 1]) (caps := []) rfl rfl (ip_Put_1.spc a1.Tos g2 1 (show InR .i64 1 by decide) r3 er3) [] [] (by decide) rfl rfl))) (obs_cons (ob_con rfl (gok_none rfl) rfl fun f1 => (o_move rfl)) (obs_cons (ob_con rfl (gok_none rfl) rfl fun f1 => (o_move rfl)) (obs_cons (ob_con rfl (gok_none rfl) rfl fun f1 => (o_fa rfl t_f25_9 rfl rfl)) (obs_cons (ob_own rfl (gok_none rfl) rfl fun f1 => (o_lfv 2 rfl rfl sIp_Data rfl Per_sl t_y23)) (obs_cons (ob_con rfl (gok_none rfl) rfl fun f1 => (o_ln rfl (rd_at 0 rfl) t_v23)) (obs_cons (ob_con rfl (gok_none rfl) rfl fun f1 => (o_bin rfl rfl rfl)) (obs_cons (ob_own rfl (gok_none rfl) rfl fun f1 => (o_callv (vs := [.int .i64 (IntKind.i64.wrap (y1 + (a1.Data.length : Int))), .int .i64 2]) (caps := []) rfl rfl (ip_Put_1.spc (IntKind.i64.wrap (y1 + (a1.Data.length : Int))) (wrap_in _ _) 2 (show InR .i64 2 by decide) r4 er4) [] [] (by decide) rfl rfl)) (obs_cons (ob_con rfl (gok_none rfl) rfl fun f1 => (o_move rfl)) (obs_cons (ob_con rfl (gok_none rfl) rfl fun f1 => (o_fa rfl t_f25_1 rfl rfl)) (obs_cons (ob_con rfl (gok_none rfl) rfl fun f1 => (OpS.pur (fun F w m_ => (in2 (fd_sub sIp_Id 2 rfl m_))) (o_lfx 2 rfl rfl sIp_Id rfl X_int t_y3))) (obs_cons (ob_own rfl (gok_none rfl) rfl fun f1 => (OpS.fact (p := InR .i64 a1.Id) (fun F w m_ => (Mem.pur 0 rfl m_)) fun g3 => (o_callv (vs := [.int .i64 a1.Id, .int .i64 2]) (caps := []) rfl rfl (ip_Put_1.spc a1.Id g3 2 (show InR .i64 2 by decide) r5 er5) [] [] (by decide) rfl rfl))) (obs_cons (ob_con rfl (gok_none rfl) rfl fun f1 => (o_move rfl)) (obs_cons (ob_con rfl (gok_none rfl) rfl fun f1 => (o_fa rfl t_f25_2 rfl rfl)) (obs_cons (ob_con rfl (gok_none rfl) rfl fun f1 => (OpS.pur (fun F w m_ => (in2 (fd_sub sIp_Flags 2 rfl m_))) (o_lfx 2 rfl rfl sIp_Flags rfl X_int t_y3))) (obs_cons (ob_con rfl (gok_none rfl) rfl fun f1 => (o_shl rfl rfl (show (0 : Int) ≤ 13 by decide))) (obs_cons (ob_con rfl (gok_none rfl) rfl fun f1 => (o_fa rfl t_f25_3 rfl rfl)) (obs_cons (ob_con rfl (gok_none rfl) rfl fun f1 => (OpS.pur (fun F w m_ => (in2 (fd_sub sIp_Off 2 rfl m_))) (o_lfx 2 rfl rfl sIp_Off rfl X_int t_y3))) (obs_cons (ob_con rfl (gok_none rfl) rfl fun f1 => (o_bin rfl rfl rfl)) (obs_cons (ob_own rfl (gok_none rfl) rfl fun f1 => (o_callv (vs := [.int .i64 (bits .or .i64 (ishl .i64 a1.Flags 13) a1.Off), .int .i64 2]) (caps := []) rfl rfl (ip_Put_1.spc (bits .or .i64 (ishl .i64 a1.Flags 13) a1.Off) (wrap_in _ _) 2 (show InR .i64 2 by decide) r6 er6) [] [] (by decide) rfl rfl)) (obs_cons (ob_con rfl (gok_none rfl) rfl fun f1 => (o_move rfl)) (obs_cons (ob_con rfl (gok_none rfl) rfl fun f1 => (o_fa rfl t_f25_4 rfl rfl)) (obs_cons (ob_con rfl (gok_none rfl) rfl fun f1 => (OpS.pur (fun F w m_ => (in2 (fd_sub sIp_Ttl 2 rfl m_))) (o_lfx 2 rfl rfl sIp_Ttl rfl X_int t_y3))) (obs_cons (ob_own rfl (gok_none rfl) rfl fun f1 => (OpS.fact (p := InR .i64 a1.Ttl) (fun F w m_ => (Mem.pur 0 rfl m_)) fun g4 => (o_callv (vs := [.int .i64 a1.Ttl, .int .i64 1]) (caps := []) rfl rfl (ip_Put_1.spc a1.Ttl g4 1 (show InR .i64 1 by decide) r7 er7) [] [] (by decide) rfl rfl))) (obs_cons (ob_con rfl (gok_none rfl) rfl fun f1 => (o_move rfl)) (obs_cons (ob_con rfl (gok_none rfl) rfl fun f1 => (o_fa rfl t_f25_5 rfl rfl)) (obs_cons (ob_con rfl (gok_none rfl) rfl fun f1 => (OpS.pur (fun F w m_ => (in2 (fd_sub sIp_Proto 2 rfl m_))) (o_lfx 2 rfl rfl sIp_Proto rfl X_int t_y3))) (obs_cons (ob_own rfl (gok_none rfl) rfl fun f1 => (OpS.fact (p := InR .i64 a1.Proto) (fun F w m_ => (Mem.pur 0 rfl m_)) fun g5 => (o_callv (vs := [.int .i64 a1.Proto, .int .i64 1]) (caps := []) rfl rfl (ip_Put_1.spc a1.Proto g5 1 (show InR .i64 1 by decide) r8 er8) [] [] (by decide) rfl rfl))) (obs_cons (ob_con rfl (gok_none rfl) rfl fun f1 => (o_move rfl)) (obs_cons (ob_own rfl (gok_none rfl) rfl fun f1 => (o_callv (vs := [.int .i64 0, .int .i64 2]) (caps := []) rfl rfl (ip_Put_1.spc 0 (show InR .i64 0 by decide) 2 (show InR .i64 2 by decide) r9 er9) [] [] (by decide) rfl rfl)) (obs_cons (ob_con rfl (gok_none rfl) rfl fun f1 => (o_move rfl)) (obs_cons (ob_con rfl (gok_none rfl) rfl fun f1 => (o_fa rfl t_f25_6 rfl rfl)) (obs_cons (ob_con rfl (gok_none rfl) rfl fun f1 => (OpS.pur (fun F w m_ => (in2 (fd_sub sIp_Src 2 rfl m_))) (o_lfx 2 rfl rfl sIp_Src rfl X_int t_y22))) (obs_cons (ob_con rfl (gok_none rfl) rfl fun f1 => (OpS.fact (p := InR .u32 a1.Src) (fun F w m_ => (Mem.pur 0 rfl m_)) fun g6 => (o_convw rfl t_q22 t_u3 g6 rfl))) (obs_cons (ob_own rfl (gok_none rfl) rfl fun f1 => (OpS.fact (p := InR .i64 a1.Src) (fun F w m_ => (inr_wid (k := .u32) (k' := .i64) (Mem.pur 0 rfl m_) rfl)) fun g7 => (o_callv (vs := [.int .i64 a1.Src, .int .i64 4]) (caps := []) rfl rfl (ip_Put_1.spc a1.Src g7 4 (show InR .i64 4 by decide) r10 er10) [] [] (by decide) rfl rfl))) (obs_cons (ob_con rfl (gok_none rfl) rfl fun f1 => (o_move rfl)) (obs_cons (ob_con rfl (gok_none rfl) rfl fun f1 => (o_fa rfl t_f25_7 rfl rfl)) (obs_cons (ob_con rfl (gok_none rfl) rfl fun f1 => (OpS.pur (fun F w m_ => (in2 (fd_sub sIp_Dst 2 rfl m_))) (o_lfx 2 rfl rfl sIp_Dst rfl X_int t_y22))) (obs_cons (ob_con rfl (gok_none rfl) rfl fun f1 => (OpS.fact (p := InR .u32 a1.Dst) (fun F w m_ => (Mem.pur 0 rfl m_)) fun g8 => (o_convw rfl t_q22 t_u3 g8 rfl))) (obs_cons (ob_own rfl (gok_none rfl) rfl fun f1 => (OpS.fact (p := InR .i64 a1.Dst) (fun F w m_ => (inr_wid (k := .u32) (k' := .i64) (Mem.pur 0 rfl m_) rfl)) fun g9 => (o_callv (vs := [.int .i64 a1.Dst, .int .i64 4]) (caps := []) rfl rfl (ip_Put_1.spc a1.Dst g9 4 (show InR .i64 4 by decide) r11 er11) [] [] (by decide) rfl rfl))) (obs_cons (ob_con rfl (gok_none rfl) rfl fun f1 => (o_fa rfl t_f25_8 rfl rfl)) (obs_cons (ob_own rfl (gok_none rfl) rfl fun f1 => (o_lfv 2 rfl rfl sIp_Options rfl Per_sl t_y23)) (obs_nil))))))))))))))))))))))))))))))))))))))))))))))))))
  replace h := h.wk (E' := [(1, .pointer (some ⟨b1, 0, none⟩)), (2, .slice none 0 0), (3, .int .i64 0), (18, (f1 4)), (22, (f1 8)), (29, (f1 15)), (33, (f1 19)), (41, (f1 27)), (45, (f1 31)), (49, (f1 35)), (51, (f1 37)), (56, (f1 42)), (61, (f1 47)), (63, (f1 49))]) (L' := [Val (Kd.osl (Kd.int .u8)) (f1 4) r2, Ent.pur (InR .i64 a1.Tos), Val (Kd.osl (Kd.int .u8)) (f1 8) r3, Val (Kd.sl (Kd.int .u8)) (f1 12) a1.Data, Val (Kd.osl (Kd.int .u8)) (f1 15) r4, Ent.pur (InR .i64 a1.Id), Val (Kd.osl (Kd.int .u8)) (f1 19) r5, Ent.pur (InR .i64 a1.Flags), Ent.pur (InR .i64 a1.Off), Val (Kd.osl (Kd.int .u8)) (f1 27) r6, Ent.pur (InR .i64 a1.Ttl), Val (Kd.osl (Kd.int .u8)) (f1 31) r7, Ent.pur (InR .i64 a1.Proto), Val (Kd.osl (Kd.int .u8)) (f1 35) r8, Val (Kd.osl (Kd.int .u8)) (f1 37) r9, Ent.pur (InR .u32 a1.Src), Val (Kd.osl (Kd.int .u8)) (f1 42) r10, Ent.pur (InR .u32 a1.Dst), Val (Kd.osl (Kd.int .u8)) (f1 47) r11, Val (Kd.sl (Kd.int .u8)) (f1 49) a1.Options, Val (Kd.sl (Kd.int .u8)) v3 a1.Options, Val KIp v2 a1, Fld KIp b1 0 a1, Val KIp v1 a1]) (by kernel_rfl) [0, 1, 2, 3, 4, 5, 6, 7, 8, 9, 10, 11, 12, 13, 14, 15, 16, 17, 18, 19, 20, 21, 22, 23] (by decide) (by kernel_rfl)
  replace h := h.mm fun m => m.freeze 0 rfl
  replace h := h.mm fun m => m.freeze 2 rfl
  replace h := h.mm fun m => m.freeze 4 rfl
  replace h := h.mm fun m => m.freeze 6 rfl
  replace h := h.mm fun m => m.freeze 9 rfl
  replace h := h.mm fun m => m.freeze 11 rfl
  replace h := h.mm fun m => m.freeze 13 rfl
  replace h := h.mm fun m => m.freeze 14 rfl
  replace h := h.mm fun m => m.freeze 16 rfl
  replace h := h.mm fun m => m.freeze 18 rfl
  refine gs h (o_bs (K := (Kd.sl (Kd.int .u8))) (vs := [(f1 4), (f1 8), (f1 15), (f1 19), (f1 27), (f1 31), (f1 35), (f1 37), (f1 42), (f1 47), (f1 49)]) (xs := ([r2, r3, r4, r5, r6, r7, r8, r9, r10, r11, a1.Options] : List (List Int))) rfl rfl (pvs_cons (pv_at Per_sl 0 rfl) (pvs_cons (pv_at Per_sl 2 rfl) (pvs_cons (pv_at Per_sl 4 rfl) (pvs_cons (pv_at Per_sl 6 rfl) (pvs_cons (pv_at Per_sl 9 rfl) (pvs_cons (pv_at Per_sl 11 rfl) (pvs_cons (pv_at Per_sl 13 rfl) (pvs_cons (pv_at Per_sl 14 rfl) (pvs_cons (pv_at Per_sl 16 rfl) (pvs_cons (pv_at Per_sl 18 rfl) (pvs_cons (pv_at Per_sl 19 rfl) pvs_nil))))))))))) t_a69 (by decide) (by decide)) rfl fun v16 _ _ h => ?_
  replace h := h.mm fun m => m.freeze 0 rfl
  obtain ⟨r12, er12, H⟩ := bindE H
  refine gs h (o_call (slices_Concat_s_byte_byte.spc v16 ([r2, r3, r4, r5, r6, r7, r8, r9, r10, r11, a1.Options] : List (List Int)) r12 er12) rfl [0] [] (by decide) rfl rfl) rfl fun v17 _ _ h => ?_
  refine gs h (o_assign rfl) rfl fun _ _ _ h => ?_
  refine GoR.done ?_
  refine Go.seq ?_
  replace h := h.mm fun m => m.freeze 0 rfl
  replace h := h.wk (E' := [(1, .pointer (some ⟨b1, 0, none⟩)), (2, .slice none 0 0), (3, .int .i64 0), (6, v17)]) (L' := [Val (Kd.sl (Kd.int .u8)) v17 r12, Val (Kd.sl (Kd.sl (Kd.int .u8))) v16 ([r2, r3, r4, r5, r6, r7, r8, r9, r10, r11, a1.Options] : List (List Int)), Val (Kd.sl (Kd.int .u8)) (f1 4) r2, Ent.pur (InR .i64 a1.Tos), Val (Kd.sl (Kd.int .u8)) (f1 8) r3, Val (Kd.sl (Kd.int .u8)) (f1 12) a1.Data, Val (Kd.sl (Kd.int .u8)) (f1 15) r4, Ent.pur (InR .i64 a1.Id), Val (Kd.sl (Kd.int .u8)) (f1 19) r5, Ent.pur (InR .i64 a1.Flags), Ent.pur (InR .i64 a1.Off), Val (Kd.sl (Kd.int .u8)) (f1 27) r6, Ent.pur (InR .i64 a1.Ttl), Val (Kd.sl (Kd.int .u8)) (f1 31) r7, Ent.pur (InR .i64 a1.Proto), Val (Kd.sl (Kd.int .u8)) (f1 35) r8, Val (Kd.sl (Kd.int .u8)) (f1 37) r9, Ent.pur (InR .u32 a1.Src), Val (Kd.sl (Kd.int .u8)) (f1 42) r10, Ent.pur (InR .u32 a1.Dst), Val (Kd.sl (Kd.int .u8)) (f1 47) r11, Val (Kd.sl (Kd.int .u8)) (f1 49) a1.Options, Val (Kd.sl (Kd.int .u8)) v3 a1.Options, Val KIp v2 a1, Fld KIp b1 0 a1, Val KIp v1 a1]) (by rfl) [0, 1, 2, 3, 4, 5, 6, 7, 8, 9, 10, 11, 12, 13, 14, 15, 16, 17, 18, 19, 20, 21, 22, 23, 24, 25] (by decide) (by rfl)
  obtain ⟨r13, er13, H⟩ := bindE H
  refine Go.draw (E := [(1, .pointer (some ⟨b1, 0, none⟩)), (2, .slice none 0 0), (3, .int .i64 0), (6, v17)]) [] (L := [Val (Kd.sl (Kd.int .u8)) v17 r12, Val (Kd.sl (Kd.sl (Kd.int .u8))) v16 ([r2, r3, r4, r5, r6, r7, r8, r9, r10, r11, a1.Options] : List (List Int)), Val (Kd.sl (Kd.int .u8)) (f1 4) r2, Ent.pur (InR .i64 a1.Tos), Val (Kd.sl (Kd.int .u8)) (f1 8) r3, Val (Kd.sl (Kd.int .u8)) (f1 12) a1.Data, Val (Kd.sl (Kd.int .u8)) (f1 15) r4, Ent.pur (InR .i64 a1.Id), Val (Kd.sl (Kd.int .u8)) (f1 19) r5, Ent.pur (InR .i64 a1.Flags), Ent.pur (InR .i64 a1.Off), Val (Kd.sl (Kd.int .u8)) (f1 27) r6, Ent.pur (InR .i64 a1.Ttl), Val (Kd.sl (Kd.int .u8)) (f1 31) r7, Ent.pur (InR .i64 a1.Proto), Val (Kd.sl (Kd.int .u8)) (f1 35) r8, Val (Kd.sl (Kd.int .u8)) (f1 37) r9, Ent.pur (InR .u32 a1.Src), Val (Kd.sl (Kd.int .u8)) (f1 42) r10, Ent.pur (InR .u32 a1.Dst), Val (Kd.sl (Kd.int .u8)) (f1 47) r11, Val (Kd.sl (Kd.int .u8)) (f1 49) a1.Options, Val (Kd.sl (Kd.int .u8)) v3 a1.Options, Val KIp v2 a1, Fld KIp b1 0 a1, Val KIp v1 a1]) h rfl rfl 4 [⟨[], [], [], false, .con (v17), none, fun u => [], []⟩, ⟨[0], [], [], false, .own, none, fun u => [Val (Kd.osl (Kd.int .u8)) u r13], []⟩, ⟨[], [], [], false, .con (.pointer (some ⟨b1, 9, none⟩)), none, fun u => [], []⟩, ⟨[2], [], [], false, .own, none, fun u => [Val (Kd.sl (Kd.int .u8)) u a1.Data], []⟩] rfl t_mxo (by kernel_rfl) (by rfl) ?_ fun f3 _ _ h => ?_
  ·exact obs_cons (ob_con rfl (gok_none rfl) rfl fun f3 => (o_move rfl)) (obs_cons (ob_own rfl (gok_none rfl) rfl fun f3 => (o_call (sum_Patch.spc v17 r12 10 (show InR .i64 10 by decide) r13 er13) rfl [0] [] (by decide) rfl rfl)) (obs_cons (ob_con rfl (gok_none rfl) rfl fun f3 => (o_fa rfl t_f25_9 rfl rfl)) (obs_cons (ob_own rfl (gok_none rfl) rfl fun f3 => (o_lfv 24 rfl rfl sIp_Data rfl Per_sl t_y23)) (obs_nil))))
  replace h := h.wk (E' := [(2, .slice none 0 0), (3, .int .i64 0), (67, (f3 1)), (69, (f3 3))]) (L' := [Val (Kd.osl (Kd.int .u8)) (f3 1) r13, Val (Kd.sl (Kd.int .u8)) (f3 3) a1.Data, Val (Kd.sl (Kd.int .u8)) v17 r12, Val (Kd.sl (Kd.sl (Kd.int .u8))) v16 ([r2, r3, r4, r5, r6, r7, r8, r9, r10, r11, a1.Options] : List (List Int)), Val (Kd.sl (Kd.int .u8)) (f1 4) r2, Ent.pur (InR .i64 a1.Tos), Val (Kd.sl (Kd.int .u8)) (f1 8) r3, Val (Kd.sl (Kd.int .u8)) (f1 12) a1.Data, Val (Kd.sl (Kd.int .u8)) (f1 15) r4, Ent.pur (InR .i64 a1.Id), Val (Kd.sl (Kd.int .u8)) (f1 19) r5, Ent.pur (InR .i64 a1.Flags), Ent.pur (InR .i64 a1.Off), Val (Kd.sl (Kd.int .u8)) (f1 27) r6, Ent.pur (InR .i64 a1.Ttl), Val (Kd.sl (Kd.int .u8)) (f1 31) r7, Ent.pur (InR .i64 a1.Proto), Val (Kd.sl (Kd.int .u8)) (f1 35) r8, Val (Kd.sl (Kd.int .u8)) (f1 37) r9, Ent.pur (InR .u32 a1.Src), Val (Kd.sl (Kd.int .u8)) (f1 42) r10, Ent.pur (InR .u32 a1.Dst), Val (Kd.sl (Kd.int .u8)) (f1 47) r11, Val (Kd.sl (Kd.int .u8)) (f1 49) a1.Options, Val (Kd.sl (Kd.int .u8)) v3 a1.Options, Val KIp v2 a1, Fld KIp b1 0 a1, Val KIp v1 a1]) (by kernel_rfl) [0, 1, 2, 3, 4, 5, 6, 7, 8, 9, 10, 11, 12, 13, 14, 15, 16, 17, 18, 19, 20, 21, 22, 23, 24, 25, 26, 27] (by decide) (by kernel_rfl)
  obtain ⟨x1, ex1, H⟩ := bindE H
  refine gs h (o_app (K := (Kd.int .u8)) 0 rfl rfl rfl (rd_at 1 rfl) ex1 t_a23 t_n23) rfl fun v20 _ _ h => ?_
  refine gs h (o_assign rfl) rfl fun _ _ _ h => ?_
  refine gs h (o_assign rfl) rfl fun _ _ _ h => ?_
  refine GoR.done ?_
  rw [← som H]
  exact g_ret (vs := [v20, .int .i64 0]) h Tryd.func8 ⟨rfl, ⟨rfl, trivial⟩⟩ ⟨v20, rfl, ((h.mem.pick [0] (by decide) rfl).addpur (show InR .i64 0 by decide))⟩
def ip_Put.g (k_ : Nat) (a1 : TIp) : Option ((List Int) × Int) :=
  (ip_right.g k_ a1).bind fun r1 => (if (!r1) = true then some (([], 2)) else lt (IntKind.i64.wrap (20 + (a1.Options.length : Int))) fun y1 => (ip_Put_1.g k_ (bits .or .i64 64 (IntKind.i64.wrap (Int.tdiv y1 4))) 1).bind fun r2 => (ip_Put_1.g k_ a1.Tos 1).bind fun r3 => (ip_Put_1.g k_ (IntKind.i64.wrap (y1 + (a1.Data.length : Int))) 2).bind fun r4 => (ip_Put_1.g k_ a1.Id 2).bind fun r5 => (ip_Put_1.g k_ (bits .or .i64 (ishl .i64 a1.Flags 13) a1.Off) 2).bind fun r6 => (ip_Put_1.g k_ a1.Ttl 1).bind fun r7 => (ip_Put_1.g k_ a1.Proto 1).bind fun r8 => (ip_Put_1.g k_ 0 2).bind fun r9 => (ip_Put_1.g k_ a1.Src 4).bind fun r10 => (ip_Put_1.g k_ a1.Dst 4).bind fun r11 => (slices_Concat_s_byte_byte.g k_ ([r2, r3, r4, r5, r6, r7, r8, r9, r10, r11, a1.Options] : List (List Int))).bind fun r12 => (sum_Patch.g k_ r12 10).bind fun r13 => (app r13 a1.Data).bind fun x1 => some ((x1, 0)))
theorem ip_Put.le (k_ : Nat) (a1 : TIp) : Le (ip_Put.g k_ a1) (ip_Put.f a1) := by
 unfold ip_Put.g ip_Put.f
 repeat' (first | with_reducible refine le_loop fun _ => ?_ | with_reducible refine le_bind ?_ fun _ => ?_ | with_reducible refine le_ite ?_ ?_ | with_reducible refine le_lt fun _ => ?_ | with_reducible refine le_elim (fun _ => ?_) (fun _ => ?_) _ | with_reducible apply ip_Put_1.le | with_reducible apply ip_right.le | with_reducible apply slices_Concat_s_byte_byte.le | with_reducible apply sum_Patch.le | with_reducible exact le_refl _)
/-! drawbridge/ip.no -/
noncomputable def ip_no.f (a1 : Int) : Option ((Option Tfault)) :=
  some ((some (⟨a1⟩ : Tfault)))
set_option maxRecDepth 100000 in
set_option maxHeartbeats 4000000 in
theorem ip_no.spc (a1 : Int) (ha1 : InR .i64 a1) (r : (Option Tfault)) (H : ip_no.f a1 = some r) : Spc Tryd.prog 40 [.int .i64 a1] [] [] (fun (s : Value) => s) (fun s => [Val (Kd.erp 74 Kfault) s r]) := by
 unfold ip_no.f at H
 refine Spc.go Tryd.func40 rfl (by kernel_rfl) rfl rfl all_nil fun F a w h => ?_
 refine Go.seq ?_
 refine Go.reg ?_
 refine gs h (o_assign rfl) rfl fun _ _ _ h => ?_
 refine GoR.done ?_
 refine Go.seq ?_
 refine Go.reg ?_
 refine gs h (o_move rfl) rfl fun _ _ _ h => ?_
 refine gs h (o_build (K := Kfault) (x := (⟨a1⟩ : Tfault)) (ps := [(0, .int .i64 a1)]) rfl (zs := zsfault) rfl t_b78 rfl (show PB (Kd.last (Kd.int .i64)) a1 0 zsfault _ _ from (pb_lastp (pv_int ha1) rfl))) rfl fun v1 _ _ h => ?_
 refine gs h (o_box (K := Kfault) rfl (pv_at Pfault 0 rfl)) rfl fun b1 _ _ h => ?_
 replace h := h.mm fun m => m.frz Pfault 0 rfl
 refine gs h (o_ifc rfl (by kernel_rfl)) rfl fun _ _ _ h => ?_
 refine gs h (o_assign rfl) rfl fun _ _ _ h => ?_
 refine GoR.done ?_
 replace h := h.mm fun m => (pv_ers 0 rfl (T := 74)).ent m
 rw [← som H]
 exact g_ret (vs := [.iface 74 (.pointer (some ⟨b1, 0, none⟩))]) h Tryd.func40 ⟨rfl, trivial⟩ ⟨.iface 74 (.pointer (some ⟨b1, 0, none⟩)), rfl, (h.mem.pick [0] (by decide) rfl)⟩
def ip_no.g (k_ : Nat) (a1 : Int) : Option ((Option Tfault)) :=
  some ((some (⟨a1⟩ : Tfault)))
theorem ip_no.le (k_ : Nat) (a1 : Int) : Le (ip_no.g k_ a1) (ip_no.f a1) := by
 unfold ip_no.g ip_no.f
 repeat' (first | with_reducible refine le_loop fun _ => ?_ | with_reducible refine le_bind ?_ fun _ => ?_ | with_reducible refine le_ite ?_ ?_ | with_reducible refine le_lt fun _ => ?_ | with_reducible refine le_elim (fun _ => ?_) (fun _ => ?_) _ | with_reducible exact le_refl _)
/-! drawbridge/sum.Right -/
noncomputable def sum_Right.f (a1 : List Int) : Option (Bool) :=
  (sum_Sum.f a1).bind fun r1 => lt (decide (r1 = 0)) fun y1 => some (y1)
set_option maxRecDepth 100000 in
set_option maxHeartbeats 4000000 in
theorem sum_Right.spc (v1 : Value) (a1 : List Int) (r : Bool) (H : sum_Right.f a1 = some r) : Spc Tryd.prog 32 [v1] [Val (Kd.sl (Kd.int .u8)) v1 a1] [] (fun (s : Unit) => .bool r) (fun s => []) := by
 unfold sum_Right.f at H
 refine Spc.go Tryd.func32 rfl (by kernel_rfl) rfl rfl (all_cons (Val.per Per_sl) all_nil) fun F a w h => ?_
 refine Go.seq ?_
 refine Go.reg ?_
 refine gs h (o_assign rfl) rfl fun _ _ _ h => ?_
 refine GoR.done ?_
 refine Go.seq ?_
 refine Go.reg ?_
 refine gs h (o_move rfl) rfl fun _ _ _ h => ?_
 obtain ⟨r1, er1, H⟩ := bindE H
 refine gs h (o_call (sum_Sum.spc v1 a1 r1 er1) rfl [0] [] (by decide) rfl rfl) rfl fun _ _ _ h => ?_
 have g1 := h.mem.pur 0 rfl
 refine gs h (o_bin rfl rfl rfl) rfl fun _ _ _ h => ?_
 obtain ⟨y1, ey1, H⟩ := ltE H
 refine gs h (o_assign' rfl (congrArg Value.bool ey1)) rfl fun _ _ _ h => ?_
 refine GoR.done ?_
 rw [← som H]
 exact g_ret (vs := [.bool y1]) h Tryd.func32 ⟨rfl, trivial⟩ ⟨(), rfl, (h.mem.pick [] (by decide) rfl)⟩
def sum_Right.g (k_ : Nat) (a1 : List Int) : Option (Bool) :=
  (sum_Sum.g k_ a1).bind fun r1 => lt (decide (r1 = 0)) fun y1 => some (y1)
theorem sum_Right.le (k_ : Nat) (a1 : List Int) : Le (sum_Right.g k_ a1) (sum_Right.f a1) := by
 unfold sum_Right.g sum_Right.f
 repeat' (first | with_reducible refine le_loop fun _ => ?_ | with_reducible refine le_bind ?_ fun _ => ?_ | with_reducible refine le_ite ?_ ?_ | with_reducible refine le_lt fun _ => ?_ | with_reducible refine le_elim (fun _ => ?_) (fun _ => ?_) _ | with_reducible apply sum_Sum.le | with_reducible exact le_refl _)
/-! drawbridge/bits.Get -/
noncomputable def bits_Get.f (a1 : List Int) (a2 : Bool) : Option (Int) :=
  lt (min (a1.length : Int) 8) fun y1 => (loop (fun s1 => (if decide (s1.2 < y1) = true then ((if a2 = true then lt (IntKind.i64.wrap ((IntKind.i64.wrap (y1 - 1)) - s1.2)) fun y2 => some (y2) else some (s1.2))).bind (fun j1 => (idx a1 j1).bind fun x1 => if 0 ≤ (IntKind.i64.wrap (8 * s1.2)) then (lt (bits .or .u64 s1.1 (ishl .u64 x1 (IntKind.i64.wrap (8 * s1.2)))) fun y3 => some (.inl (y3, IntKind.i64.wrap (s1.2 + 1)))) else none) else some (.inr (s1.1)))) (0, 0)).bind (fun j2 => some (j2))
set_option maxRecDepth 100000 in
set_option maxHeartbeats 4000000 in
theorem bits_Get.spc (v1 : Value) (a1 : List Int) (a2 : Bool) (r : Int) (H : bits_Get.f a1 a2 = some r) : Spc Tryd.prog 42 [v1, .bool a2] [Val (Kd.sl (Kd.int .u8)) v1 a1] [] (fun (s : Unit) => .int .u64 r) (fun s => [Ent.pur (InR .u64 r)]) := by
 unfold bits_Get.f at H
 refine Spc.go Tryd.func42 rfl (by kernel_rfl) rfl rfl (all_cons (Val.per Per_sl) all_nil) fun F a w h => ?_
 refine Go.seq ?_
 refine Go.reg ?_
 refine gs h (o_assign rfl) rfl fun _ _ _ h => ?_
 refine GoR.done ?_
 refine Go.seq ?_
 refine Go.reg ?_
 refine gs h (o_assign rfl) rfl fun _ _ _ h => ?_
 refine GoR.done ?_
 refine Go.seq ?_
 refine Go.reg ?_
 refine gs h (o_move rfl) rfl fun _ _ _ h => ?_
 have g1 := (len_at 0 rfl h.mem)
 refine gs h (o_ln rfl (rd_at 0 rfl) t_v23) rfl fun _ _ _ h => ?_
 refine gs h (o_min rfl rfl) rfl fun _ _ _ h => ?_
 obtain ⟨y1, ey1, H⟩ := ltE H
 refine gs h (o_assign' rfl (congrArg (fun z => Value.int .i64 z) ey1)) rfl fun _ _ _ h => ?_
 refine GoR.done ?_
 refine Go.seq ?_
 refine Go.seq ?_
 refine Go.reg ?_
 refine gs h (o_move rfl) rfl fun _ _ _ h => ?_
 refine gs h (o_move rfl) rfl fun _ _ _ h => ?_
 refine GoR.done ?_
 refine Go.block ?_
 obtain ⟨o1, hl, G1⟩ := bindE H
 refine g_cut (fun G => ∀ j2 (a : Act) (w : World), o1 = j2 → InR .u64 j2 → St Tryd.f42.ntmps F [(5, .int .u64 j2)] [] a w → G a w) 2 ?_ fun J2 => ?_
 ·intro j2 a w ho_ g6 h
  rw [ho_] at G1
  have H := G1
  refine Go.seq ?_
  refine Go.reg ?_
  refine gs h (o_move rfl) rfl fun _ _ _ h => ?_
  refine gs h (o_assign rfl) rfl fun _ _ _ h => ?_
  refine GoR.done ?_
  rw [← som H]
  exact g_ret (vs := [.int .u64 j2]) h Tryd.func42 ⟨rfl, trivial⟩ ⟨(), rfl, ((h.mem.pick [] (by decide) rfl).addpur g6)⟩
 refine g_loop (fun s1 G => ∀  (a : Act) (w : World), InR .u64 s1.1 → InR .i64 s1.2 → St Tryd.f42.ntmps F [(0, v1), (1, .bool a2), (5, .int .u64 s1.1), (6, .int .i64 y1), (12, .int .i64 y1), (13, .int .i64 s1.2)] [Val (Kd.sl (Kd.int .u8)) v1 a1] a w → G a w) hl (fun s1 p1 H i1 => ?_) fun I_ => ?_
 ·intro  a w g2 g3 h
  refine Go.seq ?_
  refine Go.reg ?_
  refine gs h (o_bin rfl rfl rfl) rfl fun _ _ _ h => ?_
  refine GoR.done ?_
  refine Go.seq ?_
  by_cases c1 : decide (s1.2 < y1) = true
  ·have H := ifT c1 H
   refine g_t h rfl c1 ?_
   refine Go.skip ?_
   refine Go.seq ?_
   refine Go.block ?_
   refine Go.seq ?_
   refine Go.reg ?_
   refine gs h (o_move rfl) rfl fun _ _ _ h => ?_
   refine gs h (o_assign rfl) rfl fun _ _ _ h => ?_
   refine GoR.done ?_
   refine Go.seq ?_
   refine Go.reg ?_
   refine gs h (o_move rfl) rfl fun _ _ _ h => ?_
   refine gs h (o_assign rfl) rfl fun _ _ _ h => ?_
   refine GoR.done ?_
   refine Go.seq ?_
   obtain ⟨o2, H, G2⟩ := bindE H
   refine g_cut (fun G => ∀ j1 (a : Act) (w : World), o2 = j1 → InR .i64 j1 → St Tryd.f42.ntmps F [(0, v1), (1, .bool a2), (5, .int .u64 s1.1), (6, .int .i64 y1), (7, .int .i64 s1.2), (8, .int .i64 j1), (12, .int .i64 y1), (13, .int .i64 s1.2)] [Val (Kd.sl (Kd.int .u8)) v1 a1] a w → G a w) 1 ?_ fun J1 => ?_
   ·intro j1 a w ho_ g4 h
    rw [ho_] at G2
    have H := G2
    refine Go.reg ?_
    iterate 3 (refine gs h (o_move rfl) rfl fun _ _ _ h => ?_)
    obtain ⟨x1, ex1, H⟩ := bindE H
    refine gs h (o_ix rfl rfl (rd_at 0 rfl) ex1 t_v23) rfl fun _ _ _ h => ?_
    have g5 := (rd_inr (rd_at 0 rfl) ex1 h.mem)
    refine gs h (o_lex rfl (rd_at 0 rfl) ex1 X_int t_y5 (by decide)) rfl fun _ _ _ h => ?_
    refine gs h (o_convw rfl t_q5 t_u49 g5 rfl) rfl fun _ _ _ h => ?_
    refine gs h (o_move rfl) rfl fun _ _ _ h => ?_
    refine gs h (o_bin rfl rfl rfl) rfl fun _ _ _ h => ?_
    obtain ⟨q1, H⟩ := ifS H
    refine gs h (o_shl rfl rfl q1) rfl fun _ _ _ h => ?_
    refine gs h (o_bin rfl rfl rfl) rfl fun _ _ _ h => ?_
    obtain ⟨y3, ey3, H⟩ := ltE H
    refine gs h (o_assign' rfl (congrArg (fun z => Value.int .u64 z) ey3)) rfl fun _ _ _ h => ?_
    refine GoR.done ?_
    refine Go.inBlock ?_
    refine Go.reg ?_
    refine gs h (o_bin rfl rfl rfl) rfl fun _ _ _ h => ?_
    refine gs h (o_move rfl) rfl fun _ _ _ h => ?_
    refine GoR.done ?_
    have e_ := som H; subst e_
    exact Go.inLoop (nx_in i1 _ _ (ey3 ▸ (wrap_in _ _)) (wrap_in _ _) (h.wk (by rfl) [0] (by decide) (by rfl)))
   refine Go.seq ?_
   refine Go.reg ?_
   refine gs h (o_move rfl) rfl fun _ _ _ h => ?_
   refine GoR.done ?_
   by_cases c2 : a2 = true
   ·have H := ifT c2 H
    refine g_t h rfl c2 ?_
    refine Go.reg ?_
    refine gs h (o_move rfl) rfl fun _ _ _ h => ?_
    refine gs h (o_bin rfl rfl rfl) rfl fun _ _ _ h => ?_
    refine gs h (o_move rfl) rfl fun _ _ _ h => ?_
    refine gs h (o_bin rfl rfl rfl) rfl fun _ _ _ h => ?_
    obtain ⟨y2, ey2, H⟩ := ltE H
    refine gs h (o_assign' rfl (congrArg (fun z => Value.int .i64 z) ey2)) rfl fun _ _ _ h => ?_
    refine GoR.done ?_
    exact J1 y2 _ _ (som H).symm (ey2 ▸ (wrap_in _ _)) (h.wk (by rfl) [0] (by decide) (by rfl))
   ·have H := ifF c2 H
    refine g_f h rfl c2 ?_
    refine Go.skip ?_
    exact J1 s1.2 _ _ (som H).symm g3 (h.wk (by rfl) [0] (by decide) (by rfl))
  ·have H := ifF c1 H
   refine g_f h rfl c1 ?_
   refine Go.exit rfl ?_
   have e_ := som H; subst e_
   exact J2 s1.1 _ _ (nx_out i1).symm g2 (h.wk (by rfl) [] (by decide) (by rfl))
 ·exact I_ _ _ (show InR .u64 0 by decide) (show InR .i64 0 by decide) (h.wk (by rfl) [0] (by decide) (by rfl))
def bits_Get.g (k_ : Nat) (a1 : List Int) (a2 : Bool) : Option (Int) :=
  lt (min (a1.length : Int) 8) fun y1 => (loopK k_ (fun s1 => (if decide (s1.2 < y1) = true then ((if a2 = true then lt (IntKind.i64.wrap ((IntKind.i64.wrap (y1 - 1)) - s1.2)) fun y2 => some (y2) else some (s1.2))).bind (fun j1 => (idx a1 j1).bind fun x1 => if 0 ≤ (IntKind.i64.wrap (8 * s1.2)) then (lt (bits .or .u64 s1.1 (ishl .u64 x1 (IntKind.i64.wrap (8 * s1.2)))) fun y3 => some (.inl (y3, IntKind.i64.wrap (s1.2 + 1)))) else none) else some (.inr (s1.1)))) (0, 0)).bind (fun j2 => some (j2))
theorem bits_Get.le (k_ : Nat) (a1 : List Int) (a2 : Bool) : Le (bits_Get.g k_ a1 a2) (bits_Get.f a1 a2) := by
 unfold bits_Get.g bits_Get.f
 repeat' (first | with_reducible refine le_loop fun _ => ?_ | with_reducible refine le_bind ?_ fun _ => ?_ | with_reducible refine le_ite ?_ ?_ | with_reducible refine le_lt fun _ => ?_ | with_reducible refine le_elim (fun _ => ?_) (fun _ => ?_) _ | with_reducible exact le_refl _)
/-! drawbridge/ip.get$1 -/
noncomputable def ip_get_1.f (a1 : Int) (a2 : Int) (a3 : List Int) : Option (Int) :=
  (cut a3 a1 (IntKind.i64.wrap (a1 + a2))).bind fun x1 => (bits_Get.f x1 true).bind fun r1 => lt (IntKind.i64.wrap r1) fun y1 => some (y1)
set_option maxRecDepth 100000 in
set_option maxHeartbeats 4000000 in
theorem ip_get_1.spc (a1 : Int) (ha1 : InR .i64 a1) (a2 : Int) (ha2 : InR .i64 a2) (b1 : Nat) (a3 : List Int) (r : Int) (H : ip_get_1.f a1 a2 a3 = some r) : Spc Tryd.prog 41 [.int .i64 a1, .int .i64 a2, .pointer (some ⟨b1, 0, none⟩)] [Pfl (Kd.sl (Kd.int .u8)) b1 0 a3] [] (fun (s : Unit) => .int .i64 r) (fun s => [Ent.pur (InR .i64 r)]) := by
 unfold ip_get_1.f at H
 refine Spc.go Tryd.func41 rfl (by kernel_rfl) rfl rfl (all_cons Per_pfl all_nil) fun F a w h => ?_
 refine Go.seq ?_
 refine Go.reg ?_
 refine gs h (o_assign rfl) rfl fun _ _ _ h => ?_
 refine GoR.done ?_
 refine Go.seq ?_
 refine Go.reg ?_
 refine gs h (p_lfv 0 rfl rfl sub_self rfl t_y23) rfl fun v1 _ _ h => ?_
 iterate 3 (refine gs h (o_move rfl) rfl fun _ _ _ h => ?_)
 refine gs h (o_bin rfl rfl rfl) rfl fun _ _ _ h => ?_
 obtain ⟨x1, ex1, H⟩ := bindE H
 refine gs h (o_cut rfl (pv_at Per_sl 0 rfl) rfl rfl ex1 t_v23) rfl fun v2 _ _ h => ?_
 obtain ⟨r1, er1, H⟩ := bindE H
 refine gs h (o_call (bits_Get.spc v2 x1 true r1 er1) rfl [0] [] (by decide) rfl rfl) rfl fun _ _ _ h => ?_
 have g1 := h.mem.pur 0 rfl
 refine gs h (o_conv rfl t_q49 t_u3) rfl fun _ _ _ h => ?_
 obtain ⟨y1, ey1, H⟩ := ltE H
 refine gs h (o_assign' rfl (congrArg (fun z => Value.int .i64 z) ey1)) rfl fun _ _ _ h => ?_
 refine GoR.done ?_
 rw [← som H]
 exact g_ret (vs := [.int .i64 y1]) h Tryd.func41 ⟨rfl, trivial⟩ ⟨(), rfl, ((h.mem.pick [] (by decide) rfl).addpur (ey1 ▸ (wrap_in _ _)))⟩
def ip_get_1.g (k_ : Nat) (a1 : Int) (a2 : Int) (a3 : List Int) : Option (Int) :=
  (cut a3 a1 (IntKind.i64.wrap (a1 + a2))).bind fun x1 => (bits_Get.g k_ x1 true).bind fun r1 => lt (IntKind.i64.wrap r1) fun y1 => some (y1)
theorem ip_get_1.le (k_ : Nat) (a1 : Int) (a2 : Int) (a3 : List Int) : Le (ip_get_1.g k_ a1 a2 a3) (ip_get_1.f a1 a2 a3) := by
 unfold ip_get_1.g ip_get_1.f
 repeat' (first | with_reducible refine le_loop fun _ => ?_ | with_reducible refine le_bind ?_ fun _ => ?_ | with_reducible refine le_ite ?_ ?_ | with_reducible refine le_lt fun _ => ?_ | with_reducible refine le_elim (fun _ => ?_) (fun _ => ?_) _ | with_reducible apply bits_Get.le | with_reducible exact le_refl _)
end Go.Proofs.YtaiadolmjmacfaaDoor.S
