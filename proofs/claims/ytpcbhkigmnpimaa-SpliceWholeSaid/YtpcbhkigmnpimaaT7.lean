/- Contracts, printed by a program of this session. -/
import Derived.Test.YtpcbhkigmnpimaaT3
import Derived.Test.YtpcbhkigmnpimaaT5
import Derived.Test.YtpcbhkigmnpimaaT6
namespace Go.Proofs.Ytpcbhkigmnpimaa.S
open Go Go.SL Go.RowKit
set_option linter.unusedVariables false
set_option linter.unusedSimpArgs false
/-! drawbridge/seg.covered -/
noncomputable def seg_covered.f (a1 : List Int) (a2 : Int) (a3 : Int) : Option ((List Int)) :=
  (sum_Pseudo.f a2 a3 6 (a1.length : Int)).bind fun r1 => (app r1 a1).bind fun x1 => some (x1)
set_option maxRecDepth 100000 in
set_option maxHeartbeats 4000000 in
theorem seg_covered.spc (v1 : Value) (a1 : List Int) (a2 : Int) (ha2 : InR .u32 a2) (a3 : Int) (ha3 : InR .u32 a3) (r : (List Int)) (H : seg_covered.f a1 a2 a3 = some r) : Spc Try.prog 48 [v1, .int .u32 a2, .int .u32 a3] [Val (Kd.sl (Kd.int .u8)) v1 a1] [] (fun (s : Value) => s) (fun s => [Val (Kd.osl (Kd.int .u8)) s r]) := by
 unfold seg_covered.f at H
 refine Spc.go Try.func48 rfl (by kernel_rfl) rfl rfl (all_cons (Val.per Per_sl) all_nil) fun F a w h => ?_
 refine Go.seq ?_
 refine Go.reg ?_
 refine ga h (o_assign rfl) rfl fun h => ?_
 refine GoR.done ?_
 refine Go.seq ?_
 refine Go.reg ?_
 iterate 3 (refine ga h (o_move rfl) rfl fun h => ?_)
 have g1 := (len_at 0 rfl h.mem)
 refine ga h (o_ln rfl (rd_at 0 rfl) t_v23) rfl fun h => ?_
 obtain ⟨r1, er1, H⟩ := bindE H
 refine gs h (o_call (sum_Pseudo.spc a2 ha2 a3 ha3 6 (show InR .i64 6 by decide) (a1.length : Int) g1 r1 er1) rfl [] [] (by decide) rfl rfl) rfl fun v2 _ _ h => ?_
 refine mv h rfl rfl fun h => ?_
 obtain ⟨x1, ex1, H⟩ := bindE H
 refine gs h (o_app (K := (Kd.int .u8)) 0 rfl rfl rfl (rd_at 1 rfl) ex1 t_a23 t_n23) rfl fun v3 _ _ h => ?_
 refine ga h (o_assign rfl) rfl fun h => ?_
 refine GoR.done ?_
 rw [← som H]
 exact g_ret (vs := [v3]) h Try.func48 ⟨rfl, trivial⟩ ⟨v3, rfl, (h.mem.pick [0] (by decide) rfl)⟩
def seg_covered.g (k_ : Nat) (a1 : List Int) (a2 : Int) (a3 : Int) : Option ((List Int)) :=
  (sum_Pseudo.g k_ a2 a3 6 (a1.length : Int)).bind fun r1 => (app r1 a1).bind fun x1 => some (x1)
theorem seg_covered.le (k_ : Nat) (a1 : List Int) (a2 : Int) (a3 : Int) : Le (seg_covered.g k_ a1 a2 a3) (seg_covered.f a1 a2 a3) := by
 unfold seg_covered.g seg_covered.f
 repeat' (first | with_reducible refine le_loop fun _ => ?_ | with_reducible refine le_bind ?_ fun _ => ?_ | with_reducible refine le_ite ?_ ?_ | with_reducible refine le_lt fun _ => ?_ | with_reducible refine le_elim (fun _ => ?_) (fun _ => ?_) _ | with_reducible apply sum_Pseudo.le | with_reducible exact le_refl _)
/-! drawbridge/sum.Sum -/
noncomputable def sum_Sum.f (a1 : List Int) : Option (Int) :=
  (loop (fun s1 => (if decide (s1.2 < (IntKind.i64.wrap (Int.tdiv (IntKind.i64.wrap ((a1.length : Int) + 1)) 2))) = true then (cut a1 (IntKind.i64.wrap (2 * s1.2)) (a1.length : Int)).bind fun x1 => lt (ovr (List.replicate 2 0 : List Int) 0 ((List.replicate 2 0 : List Int).length : Int) x1) fun y1 => (idx y1 0).bind fun x2 => (idx y1 1).bind fun x3 => lt (IntKind.i64.wrap (s1.1 + (bits .or .i64 (ishl .i64 x2 8) x3))) fun y2 => some (.inl (y2, IntKind.i64.wrap (s1.2 + 1))) else some (.inr (s1.1)))) (0, 0)).bind (fun j1 => (loop (fun s2 => (if decide (0 < (ishr .i64 s2 16)) = true then lt (IntKind.i64.wrap ((bits .and .i64 s2 65535) + (ishr .i64 s2 16))) fun y3 => some (.inl y3) else some (.inr (s2)))) j1).bind (fun j2 => lt (bits .xor .i64 j2 65535) fun y4 => some (y4)))
set_option maxRecDepth 100000 in
set_option maxHeartbeats 4000000 in
theorem sum_Sum.spc (v1 : Value) (a1 : List Int) (r : Int) (H : sum_Sum.f a1 = some r) : Spc Try.prog 47 [v1] [Val (Kd.sl (Kd.int .u8)) v1 a1] [] (fun (s : Unit) => .int .i64 r) (fun s => [Ent.pur (InR .i64 r)]) := by
 unfold sum_Sum.f at H
 refine Spc.go Try.func47 rfl (by kernel_rfl) rfl rfl (all_cons (Val.per Per_sl) all_nil) fun F a w h => ?_
 refine Go.seq ?_
 refine Go.reg ?_
 refine ga h (o_assign rfl) rfl fun h => ?_
 refine GoR.done ?_
 refine Go.seq ?_
 refine Go.reg ?_
 refine ga h (o_assign rfl) rfl fun h => ?_
 refine GoR.done ?_
 refine Go.seq ?_
 refine Go.seq ?_
 refine Go.reg ?_
 refine mv h rfl rfl fun h => ?_
 have g1 := (len_at 0 rfl h.mem)
 refine ga h (o_ln rfl (rd_at 0 rfl) t_v23) rfl fun h => ?_
 refine ga h (o_bin rfl rfl rfl) rfl fun h => ?_
 refine ga h (o_quo rfl rfl (show (2 : Int) ≠ 0 by decide)) rfl fun h => ?_
 refine mv h rfl rfl fun h => ?_
 refine GoR.done ?_
 refine Go.block ?_
 obtain ⟨o1, hl, G1⟩ := bindE H
 refine g_cut (fun G => ∀ j1 (a : Act) (w : World), o1 = j1 → InR .i64 j1 → St Try.f47.ntmps F [(3, .int .i64 j1)] [] a w → G a w) 2 ?_ fun J1 => ?_
 ·intro j1 a w ho_ g6 h
  rw [ho_] at G1
  have H := G1
  refine Go.seq ?_
  refine Go.block ?_
  obtain ⟨o2, hl, G2⟩ := bindE H
  refine g_cut (fun G => ∀ j2 (a : Act) (w : World), o2 = j2 → InR .i64 j2 → St Try.f47.ntmps F [(3, .int .i64 j2)] [] a w → G a w) 2 ?_ fun J2 => ?_
  ·intro j2 a w ho_ g8 h
   rw [ho_] at G2
   have H := G2
   refine Go.seq ?_
   refine Go.reg ?_
   refine mv h rfl rfl fun h => ?_
   refine ga h (o_bin rfl rfl rfl) rfl fun h => ?_
   obtain ⟨y4, ey4, H⟩ := ltE H
   refine ga h (o_assign' rfl (congrArg (fun z => Value.int .i64 z) ey4)) rfl fun h => ?_
   refine GoR.done ?_
   rw [← som H]
   exact g_ret (vs := [.int .i64 y4]) h Try.func47 ⟨rfl, trivial⟩ ⟨(), rfl, ((h.mem.pick [] (by decide) rfl).addpur (ey4 ▸ (wrap_in _ _)))⟩
  refine g_loop (fun s2 G => ∀  (a : Act) (w : World), InR .i64 s2 → St Try.f47.ntmps F [(3, .int .i64 s2)] [] a w → G a w) hl (fun s2 p2 H i2 => ?_) fun I_ => ?_
  ·intro  a w g7 h
   refine Go.seq ?_
   refine Go.seq ?_
   refine Go.reg ?_
   refine mv h rfl rfl fun h => ?_
   refine ga h (o_shr rfl rfl (show (0 : Int) ≤ 16 by decide)) rfl fun h => ?_
   refine ga h (o_bin rfl rfl rfl) rfl fun h => ?_
   refine GoR.done ?_
   by_cases c2 : decide (0 < (ishr .i64 s2 16)) = true
   ·have H := ifT c2 H
    refine g_t h rfl c2 ?_
    refine Go.skip ?_
    refine Go.block ?_
    refine Go.reg ?_
    refine mv h rfl rfl fun h => ?_
    refine ga h (o_bin rfl rfl rfl) rfl fun h => ?_
    refine mv h rfl rfl fun h => ?_
    refine ga h (o_shr rfl rfl (show (0 : Int) ≤ 16 by decide)) rfl fun h => ?_
    refine ga h (o_bin rfl rfl rfl) rfl fun h => ?_
    obtain ⟨y3, ey3, H⟩ := ltE H
    refine ga h (o_assign' rfl (congrArg (fun z => Value.int .i64 z) ey3)) rfl fun h => ?_
    refine GoR.done ?_
    refine Go.inBlock ?_
    have e_ := som H; subst e_
    exact Go.inLoop (nx_in i2 _ _ (ey3 ▸ (wrap_in _ _)) (h.wr []))
   ·have H := ifF c2 H
    refine g_f h rfl c2 ?_
    refine Go.exit rfl ?_
    have e_ := som H; subst e_
    exact J2 s2 _ _ (nx_out i2).symm g7 (h.wr [])
  ·exact I_ _ _ g6 (h.wr [])
 refine g_loop (fun s1 G => ∀  (a : Act) (w : World), InR .i64 s1.1 → InR .i64 s1.2 → St Try.f47.ntmps F [(0, v1), (3, .int .i64 s1.1), (9, .int .i64 (IntKind.i64.wrap (Int.tdiv (IntKind.i64.wrap ((a1.length : Int) + 1)) 2))), (10, .int .i64 s1.2)] [Val (Kd.sl (Kd.int .u8)) v1 a1] a w → G a w) hl (fun s1 p1 H i1 => ?_) fun I_ => ?_
 ·intro  a w g2 g3 h
  refine Go.seq ?_
  refine Go.reg ?_
  refine ga h (o_bin rfl rfl rfl) rfl fun h => ?_
  refine GoR.done ?_
  refine Go.seq ?_
  by_cases c1 : decide (s1.2 < (IntKind.i64.wrap (Int.tdiv (IntKind.i64.wrap ((a1.length : Int) + 1)) 2))) = true
  ·have H := ifT c1 H
   refine g_t h rfl c1 ?_
   refine Go.skip ?_
   refine Go.seq ?_
   refine Go.block ?_
   refine Go.seq ?_
   refine Go.reg ?_
   refine mv h rfl rfl fun h => ?_
   refine ga h (o_assign rfl) rfl fun h => ?_
   refine GoR.done ?_
   refine Go.seq ?_
   refine Go.reg ?_
   refine gs h (o_bz (K := (Kd.arr (Kd.int .u8) 2)) t_zc102 t_r102 rfl (z_arr z_int)) rfl fun v2 _ _ h => ?_
   refine gs h (o_alloc (K := (Kd.arr (Kd.int .u8) 2)) (z := (.agg #[.int .u8 0, .int .u8 0])) rfl (z_arr z_int)) rfl fun b1 _ _ h => ?_
   refine gs0 h (o_st 0 rfl rfl rfl (pv_at Per_arr 1 rfl) rfl t_w102) fun _ _ _ h => ?_
   refine GoR.done ?_
   refine Go.seq ?_
   replace h := h.wq [(0, v1), (3, .int .i64 s1.1), (9, .int .i64 (IntKind.i64.wrap (Int.tdiv (IntKind.i64.wrap ((a1.length : Int) + 1)) 2))), (10, .int .i64 s1.2), (4, .int .i64 s1.2), (5, pt b1)] [Fld (Kd.arr (Kd.int .u8) 2) b1 0 (List.replicate 2 0 : List Int), Val (Kd.arr (Kd.int .u8) 2) v2 (List.replicate 2 0 : List Int), Val (Kd.sl (Kd.int .u8)) v1 a1] [0, 1, 2]
   obtain ⟨x1, ex1, H⟩ := bindE H
   refine Go.draw (E := [(0, v1), (3, .int .i64 s1.1), (9, .int .i64 (IntKind.i64.wrap (Int.tdiv (IntKind.i64.wrap ((a1.length : Int) + 1)) 2))), (10, .int .i64 s1.2), (4, .int .i64 s1.2), (5, pt b1)]) [] (L := [Val (Kd.arr (Kd.int .u8) 2) v2 (List.replicate 2 0 : List Int), Val (Kd.sl (Kd.int .u8)) v1 a1]) h rfl rfl 5 [cm [] [5] [5] (.slice (some ⟨b1, 0, none⟩) 2 2) fun u => [Val (Kd.osl (Kd.int .u8)) (.slice (some ⟨b1, 0, none⟩) 2 2) (List.replicate 2 0 : List Int)], cn (v1), cn (.int .i64 s1.2), ce [2] (.int .i64 (IntKind.i64.wrap (2 * s1.2))), cw [1, 2, 3] [] [] fun u => [Val (Kd.sl (Kd.int .u8)) u x1], cm [] [] [] undef fun u => [Fld (Kd.arr (Kd.int .u8) 2) b1 0 (List.replicate 2 0 : List Int)]] rfl t_mxo (by kernel_rfl) (by rfl) ?_ fun f1 _ _ h => ?_
   ·exact ox rfl (OpS.pm (fun _ _ m => m.arr_o 0 rfl (by decide)) (o_slar (K := (Kd.int .u8)) rfl t_r102)) (ox rfl (o_move rfl) (ox rfl (o_move rfl) (ox rfl (o_bin rfl rfl rfl) (oy rfl (o_cutl rfl (pv_at Per_sl 1 rfl) rfl ex1 t_v23) (obs_nil)))))
   replace h := h.wk (E' := [(0, v1), (3, .int .i64 s1.1), (9, .int .i64 (IntKind.i64.wrap (Int.tdiv (IntKind.i64.wrap ((a1.length : Int) + 1)) 2))), (10, .int .i64 s1.2), (5, pt b1), (14, .slice (some ⟨b1, 0, none⟩) 2 2), (18, (f1 4))]) (L' := [Val (Kd.osl (Kd.int .u8)) (.slice (some ⟨b1, 0, none⟩) 2 2) (List.replicate 2 0 : List Int), Val (Kd.sl (Kd.int .u8)) (f1 4) x1, Val (Kd.arr (Kd.int .u8) 2) v2 (List.replicate 2 0 : List Int), Val (Kd.sl (Kd.int .u8)) v1 a1]) (by kernel_rfl) [0, 1, 2, 3] (by decide) (by kernel_rfl)
   obtain ⟨y1, ey1, H⟩ := ltE H
   refine ga h (o_cpf 0 rfl rfl rfl (rd_at 1 rfl) t_a23) rfl fun h => ?_
   rw [ey1] at h
   refine GoR.done ?_
   refine Go.reg ?_
   refine mv h rfl rfl fun h => ?_
   replace h := h.mm fun m => m.o_arr 0 rfl
   obtain ⟨x2, ex2, H⟩ := bindE H
   refine ga h (o_ixf (K := (Kd.int .u8)) 0 rfl rfl rfl ex2 t_r102) rfl fun h => ?_
   have g4 := (fd_ari 0 rfl ex2 h.mem)
   refine ga h (o_lar (K := (Kd.int .u8)) 0 rfl rfl ex2 X_int t_y5) rfl fun h => ?_
   refine ga h (o_convw rfl t_q5 t_u3 g4 rfl) rfl fun h => ?_
   refine ga h (o_shl rfl rfl (show (0 : Int) ≤ 8 by decide)) rfl fun h => ?_
   obtain ⟨x3, ex3, H⟩ := bindE H
   refine ga h (o_ixf (K := (Kd.int .u8)) 0 rfl rfl rfl ex3 t_r102) rfl fun h => ?_
   have g5 := (fd_ari 0 rfl ex3 h.mem)
   refine ga h (o_lar (K := (Kd.int .u8)) 0 rfl rfl ex3 X_int t_y5) rfl fun h => ?_
   refine ga h (o_convw rfl t_q5 t_u3 g5 rfl) rfl fun h => ?_
   refine ga h (o_bin rfl rfl rfl) rfl fun h => ?_
   refine ga h (o_bin rfl rfl rfl) rfl fun h => ?_
   obtain ⟨y2, ey2, H⟩ := ltE H
   refine ga h (o_assign' rfl (congrArg (fun z => Value.int .i64 z) ey2)) rfl fun h => ?_
   refine GoR.done ?_
   refine Go.inBlock ?_
   refine Go.reg ?_
   refine ga h (o_bin rfl rfl rfl) rfl fun h => ?_
   refine mv h rfl rfl fun h => ?_
   refine GoR.done ?_
   have e_ := som H; subst e_
   exact Go.inLoop (nx_in i1 _ _ (ey2 ▸ (wrap_in _ _)) (wrap_in _ _) (h.wr [3]))
  ·have H := ifF c1 H
   refine g_f h rfl c1 ?_
   refine Go.exit rfl ?_
   have e_ := som H; subst e_
   exact J1 s1.1 _ _ (nx_out i1).symm g2 (h.wr [])
 ·exact I_ _ _ (show InR .i64 0 by decide) (show InR .i64 0 by decide) (h.wr [0])
def sum_Sum.g (k_ : Nat) (a1 : List Int) : Option (Int) :=
  (loopK k_ (fun s1 => (if decide (s1.2 < (IntKind.i64.wrap (Int.tdiv (IntKind.i64.wrap ((a1.length : Int) + 1)) 2))) = true then (cut a1 (IntKind.i64.wrap (2 * s1.2)) (a1.length : Int)).bind fun x1 => lt (ovr (List.replicate 2 0 : List Int) 0 ((List.replicate 2 0 : List Int).length : Int) x1) fun y1 => (idx y1 0).bind fun x2 => (idx y1 1).bind fun x3 => lt (IntKind.i64.wrap (s1.1 + (bits .or .i64 (ishl .i64 x2 8) x3))) fun y2 => some (.inl (y2, IntKind.i64.wrap (s1.2 + 1))) else some (.inr (s1.1)))) (0, 0)).bind (fun j1 => (loopK k_ (fun s2 => (if decide (0 < (ishr .i64 s2 16)) = true then lt (IntKind.i64.wrap ((bits .and .i64 s2 65535) + (ishr .i64 s2 16))) fun y3 => some (.inl y3) else some (.inr (s2)))) j1).bind (fun j2 => lt (bits .xor .i64 j2 65535) fun y4 => some (y4)))
theorem sum_Sum.le (k_ : Nat) (a1 : List Int) : Le (sum_Sum.g k_ a1) (sum_Sum.f a1) := by
 unfold sum_Sum.g sum_Sum.f
 repeat' (first | with_reducible refine le_loop fun _ => ?_ | with_reducible refine le_bind ?_ fun _ => ?_ | with_reducible refine le_ite ?_ ?_ | with_reducible refine le_lt fun _ => ?_ | with_reducible refine le_elim (fun _ => ?_) (fun _ => ?_) _ | with_reducible exact le_refl _)
/-! drawbridge/seg.Put -/
noncomputable def seg_Put.f (a1 : TSeg) (a2 : Int) (a3 : Int) : Option ((List Int) × Int) :=
  ((seg_same.f a1).bind fun r1 => (if (!r1) = true then some (true) else (if (!decide ((ishr .i64 a1.Mss 16) = 0)) = true then some (true) else some (decide (60000 < (a1.Data.length : Int)))))).bind (fun j1 => (if j1 = true then some (([], 2)) else ((if decide (0 < a1.Mss) = true then (seg_Put_1.f (IntKind.u64.wrap a1.Mss) 2).bind fun r2 => (app ([2, 4] : List Int) r2).bind fun x1 => some (x1) else some ([]))).bind (fun j2 => (seg_of.f a1).bind fun r3 => lt (ishl .u64 (IntKind.u64.wrap (Int.tdiv (IntKind.u64.wrap (IntKind.i64.wrap (20 + (j2.length : Int)))) 4)) 4) fun y1 => (seg_Put_1.f r3.src 2).bind fun r4 => (seg_Put_1.f r3.dst 2).bind fun r5 => (seg_Put_1.f r3.seq 4).bind fun r6 => (seg_Put_1.f r3.ack 4).bind fun r7 => (seg_Put_1.f y1 1).bind fun r8 => (seg_Put_1.f r3.flags 1).bind fun r9 => (seg_Put_1.f r3.win 2).bind fun r10 => (seg_Put_1.f 0 4).bind fun r11 => (slices_Concat_s_byte_byte.f ([r4, r5, r6, r7, r8, r9, r10, r11, j2, a1.Data] : List (List Int))).bind fun r12 => if inB r12 16 (r12.length : Int) then ((seg_covered.f r12 a2 a3).bind fun r14 => (sum_Sum.f r14).bind fun r15 => (seg_Put_1.f (IntKind.u64.wrap r15) 2).bind fun r16 => lt (ovr r12 16 (r12.length : Int) r16) fun y2 => some ((y2, 0))) else none)))
set_option maxRecDepth 100000 in
set_option maxHeartbeats 4000000 in
theorem seg_Put.spc (v1 : Value) (a1 : TSeg) (a2 : Int) (ha2 : InR .u32 a2) (a3 : Int) (ha3 : InR .u32 a3) (r : (List Int) × Int) (H : seg_Put.f a1 a2 a3 = some r) : Spc Try.prog 28 [v1, .int .u32 a2, .int .u32 a3] [Val KSeg v1 a1] [] (fun (s : Value) => .tuple #[s, .int .i64 r.2]) (fun s => [Ent.pur (InR .i64 r.2), Val (Kd.osl (Kd.int .u8)) s r.1]) := by
 unfold seg_Put.f at H
 refine Spc.go Try.func28 rfl (by kernel_rfl) rfl rfl (all_cons (Val.per PSeg) all_nil) fun F a w h => ?_
 refine Go.seq ?_
 refine Go.reg ?_
 refine gs h (o_box (K := KSeg) rfl (pv_at PSeg 0 rfl)) rfl fun b1 _ _ h => ?_
 refine ga h (o_assign rfl) rfl fun h => ?_
 refine ga h (o_assign rfl) rfl fun h => ?_
 refine GoR.done ?_
 refine Go.seq ?_
 refine Go.seq ?_
 obtain ⟨o1, H, G1⟩ := bindE H
 refine g_cut (fun G => ∀ j1 (a : Act) (w : World), o1 = j1 → St Try.f28.ntmps F [(1, .int .u32 a2), (2, .int .u32 a3), (3, pt b1), (27, .bool j1)] [Fld KSeg b1 0 a1] a w → G a w) 1 ?_ fun J1 => ?_
 ·intro j1 a w ho_ h
  rw [ho_] at G1
  have H := G1
  by_cases c3 : j1 = true
  ·have H := ifT c3 H
   refine g_t h rfl c3 ?_
   refine Go.seq ?_
   refine Go.reg ?_
   refine ga h (o_assign rfl) rfl fun h => ?_
   refine ga h (o_assign rfl) rfl fun h => ?_
   refine GoR.done ?_
   replace h := h.mm fun m => m.nilo (Kd.int .u8)
   rw [← som H]
   exact g_ret (vs := [.slice none 0 0, .int .i64 2]) h Try.func28 ⟨rfl, ⟨rfl, trivial⟩⟩ ⟨.slice none 0 0, rfl, ((h.mem.pick [0] (by decide) rfl).addpur (show InR .i64 2 by decide))⟩
  ·have H := ifF c3 H
   refine g_f h rfl c3 ?_
   refine Go.skip ?_
   refine Go.seq ?_
   refine Go.reg ?_
   refine ga h (o_assign rfl) rfl fun h => ?_
   refine GoR.done ?_
   refine Go.seq ?_
   refine Go.reg ?_
   refine ga h (o_assign rfl) rfl fun h => ?_
   refine GoR.done ?_
   refine Go.seq ?_
   obtain ⟨o2, H, G2⟩ := bindE H
   refine g_cut (fun G => ∀ j2 (v7 : Value) (a : Act) (w : World), o2 = j2 → St Try.f28.ntmps F [(1, .int .u32 a2), (2, .int .u32 a3), (3, pt b1), (8, .func (.func 43) #[] #[]), (9, v7)] [Val (Kd.osl (Kd.int .u8)) v7 j2, Fld KSeg b1 0 a1] a w → G a w) 1 ?_ fun J2 => ?_
   ·intro j2 v7 a w ho_ h
    rw [ho_] at G2
    have H := G2
    refine Go.seq ?_
    refine Go.reg ?_
    refine gs h (o_ldv 1 rfl rfl PSeg t_y30) rfl fun v8 _ _ h => ?_
    obtain ⟨r3, er3, H⟩ := bindE H
    refine gs h (o_call (seg_of.spc v8 a1 r3 er3) rfl [0] [] (by decide) rfl rfl) rfl fun v9 _ _ h => ?_
    refine gs h (o_alloc (K := Khead) (z := (.agg #[.int .u16 0, .int .u16 0, .int .u32 0, .int .u32 0, .int .u8 0, .int .u16 0])) rfl Zhead) rfl fun b2 _ _ h => ?_
    refine gs0 h (o_st 0 rfl rfl rfl (pv_at Phead 1 rfl) rfl t_w90) fun _ _ _ h => ?_
    refine GoR.done ?_
    refine Go.seq ?_
    refine Go.reg ?_
    refine mv h rfl rfl fun h => ?_
    have g5 := (len_own 3 rfl h.mem)
    refine ga h (o_ln rfl (rd_own 3 rfl) t_v23) rfl fun h => ?_
    refine ga h (o_bin rfl rfl rfl) rfl fun h => ?_
    refine ga h (o_conv rfl t_q3 t_u85) rfl fun h => ?_
    refine ga h (o_quo rfl rfl (show (4 : Int) ≠ 0 by decide)) rfl fun h => ?_
    refine ga h (o_shl rfl rfl (show (0 : Int) ≤ 4 by decide)) rfl fun h => ?_
    obtain ⟨y1, ey1, H⟩ := ltE H
    refine ga h (o_assign' rfl (congrArg (fun z => Value.int .u64 z) ey1)) rfl fun h => ?_
    refine GoR.done ?_
    refine Go.seq ?_
    replace h := h.wq [(1, .int .u32 a2), (2, .int .u32 a3), (3, pt b1), (8, .func (.func 43) #[] #[]), (9, v7), (10, pt b2), (11, .int .u64 y1)] [Fld Khead b2 0 r3, Val Khead v9 r3, Val KSeg v8 a1, Val (Kd.osl (Kd.int .u8)) v7 j2, Fld KSeg b1 0 a1] [0, 1, 2, 3, 4]
    obtain ⟨r4, er4, H⟩ := bindE H
    obtain ⟨r5, er5, H⟩ := bindE H
    obtain ⟨r6, er6, H⟩ := bindE H
    obtain ⟨r7, er7, H⟩ := bindE H
    obtain ⟨r8, er8, H⟩ := bindE H
    obtain ⟨r9, er9, H⟩ := bindE H
    obtain ⟨r10, er10, H⟩ := bindE H
    obtain ⟨r11, er11, H⟩ := bindE H
    refine Go.draw (E := [(1, .int .u32 a2), (2, .int .u32 a3), (3, pt b1), (8, .func (.func 43) #[] #[]), (9, v7), (10, pt b2), (11, .int .u64 y1)]) [] (L := [Fld Khead b2 0 r3, Val Khead v9 r3, Val KSeg v8 a1, Val (Kd.osl (Kd.int .u8)) v7 j2, Fld KSeg b1 0 a1]) h rfl rfl 38 [cn (.func (.func 43) #[] #[]), cn (pt b2), cm [1] [] [] (.int .u16 r3.src) fun u => [Ent.pur (InR .u16 r3.src)], cm [1, 2] [2] [] (.int .u64 r3.src) fun u => [], cw [0, 1, 2, 3] [2] [] fun u => [Val (Kd.osl (Kd.int .u8)) u r4], cn (.func (.func 43) #[] #[]), cn (.pointer (some ⟨b2, 1, none⟩)), cm [6] [] [] (.int .u16 r3.dst) fun u => [Ent.pur (InR .u16 r3.dst)], cm [6, 7] [7] [] (.int .u64 r3.dst) fun u => [], cw [5, 6, 7, 8] [7] [] fun u => [Val (Kd.osl (Kd.int .u8)) u r5], cn (.func (.func 43) #[] #[]), cn (.pointer (some ⟨b2, 2, none⟩)), cm [11] [] [] (.int .u32 r3.seq) fun u => [Ent.pur (InR .u32 r3.seq)], cm [11, 12] [12] [] (.int .u64 r3.seq) fun u => [], cw [10, 11, 12, 13] [12] [] fun u => [Val (Kd.osl (Kd.int .u8)) u r6], cn (.func (.func 43) #[] #[]), cn (.pointer (some ⟨b2, 3, none⟩)), cm [16] [] [] (.int .u32 r3.ack) fun u => [Ent.pur (InR .u32 r3.ack)], cm [16, 17] [17] [] (.int .u64 r3.ack) fun u => [], cw [15, 16, 17, 18] [17] [] fun u => [Val (Kd.osl (Kd.int .u8)) u r7], cn (.func (.func 43) #[] #[]), cn (.int .u64 y1), cw [20, 21] [] [] fun u => [Val (Kd.osl (Kd.int .u8)) u r8], cn (.func (.func 43) #[] #[]), cn (.pointer (some ⟨b2, 4, none⟩)), cm [24] [] [] (.int .u8 r3.flags) fun u => [Ent.pur (InR .u8 r3.flags)], cm [24, 25] [25] [] (.int .u64 r3.flags) fun u => [], cw [23, 24, 25, 26] [25] [] fun u => [Val (Kd.osl (Kd.int .u8)) u r9], cn (.func (.func 43) #[] #[]), cn (.pointer (some ⟨b2, 5, none⟩)), cm [29] [] [] (.int .u16 r3.win) fun u => [Ent.pur (InR .u16 r3.win)], cm [29, 30] [30] [] (.int .u64 r3.win) fun u => [], cw [28, 29, 30, 31] [30] [] fun u => [Val (Kd.osl (Kd.int .u8)) u r10], cn (.func (.func 43) #[] #[]), cw [33] [] [] fun u => [Val (Kd.osl (Kd.int .u8)) u r11], cn (v7), cn (.pointer (some ⟨b1, 7, none⟩)), cw [36] [] [] fun u => [Val (Kd.sl (Kd.int .u8)) u a1.Data]] rfl t_mxo (by kernel_rfl) (by rfl) ?_ fun f1 _ _ h => ?_
    ·exact ox rfl (o_move rfl) (ox rfl (o_fa rfl t_f90_0 rfl rfl) (ox rfl (OpS.pur (fun F w m_ => (in2 (fd_sub shead_src 0 rfl m_))) (o_lfx 0 rfl rfl shead_src rfl X_int t_y88)) (ox rfl (OpS.fact (p := InR .u16 r3.src) (fun F w m_ => (Mem.pur 0 rfl m_)) fun g6 => (o_convw rfl t_q88 t_u85 g6 rfl)) (oy rfl (OpS.fact (p := InR .u64 r3.src) (fun F w m_ => (inr_wid (k := .u16) (k' := .u64) (Mem.pur 0 rfl m_) rfl)) fun g7 => (o_callv (vs := [.int .u64 r3.src, .int .i64 2]) (caps := []) rfl rfl (seg_Put_1.spc r3.src g7 2 (show InR .i64 2 by decide) r4 er4) [] [] (by decide) rfl rfl)) (ox rfl (o_move rfl) (ox rfl (o_fa rfl t_f90_1 rfl rfl) (ox rfl (OpS.pur (fun F w m_ => (in2 (fd_sub shead_dst 0 rfl m_))) (o_lfx 0 rfl rfl shead_dst rfl X_int t_y88)) (ox rfl (OpS.fact (p := InR .u16 r3.dst) (fun F w m_ => (Mem.pur 0 rfl m_)) fun g8 => (o_convw rfl t_q88 t_u85 g8 rfl)) (oy rfl (OpS.fact (p := InR .u64 r3.dst) (fun F w m_ => (inr_wid (k := .u16) (k' := .u64) (Mem.pur 0 rfl m_) rfl)) fun g9 => (o_callv (vs := [.int .u64 r3.dst, .int .i64 2]) (caps := []) rfl rfl (seg_Put_1.spc r3.dst g9 2 (show InR .i64 2 by decide) r5 er5) [] [] (by decide) rfl rfl)) (ox rfl (o_move rfl) (ox rfl (o_fa rfl t_f90_2 rfl rfl) (ox rfl (OpS.pur (fun F w m_ => (in2 (fd_sub shead_seq 0 rfl m_))) (o_lfx 0 rfl rfl shead_seq rfl X_int t_y22)) (ox rfl (OpS.fact (p := InR .u32 r3.seq) (fun F w m_ => (Mem.pur 0 rfl m_)) fun g10 => (o_convw rfl t_q22 t_u85 g10 rfl)) (oy rfl (OpS.fact (p := InR .u64 r3.seq) (fun F w m_ => (inr_wid (k := .u32) (k' := .u64) (Mem.pur 0 rfl m_) rfl)) fun g11 => (o_callv (vs := [.int .u64 r3.seq, .int .i64 4]) (caps := []) rfl rfl (seg_Put_1.spc r3.seq g11 4 (show InR .i64 4 by decide) r6 er6) [] [] (by decide) rfl rfl)) (ox rfl (o_move rfl) (ox rfl (o_fa rfl t_f90_3 rfl rfl) (ox rfl (OpS.pur (fun F w m_ => (in2 (fd_sub shead_ack 0 rfl m_))) (o_lfx 0 rfl rfl shead_ack rfl X_int t_y22)) (ox rfl (OpS.fact (p := InR .u32 r3.ack) (fun F w m_ => (Mem.pur 0 rfl m_)) fun g12 => (o_convw rfl t_q22 t_u85 g12 rfl)) (oy rfl (OpS.fact (p := InR .u64 r3.ack) (fun F w m_ => (inr_wid (k := .u32) (k' := .u64) (Mem.pur 0 rfl m_) rfl)) fun g13 => (o_callv (vs := [.int .u64 r3.ack, .int .i64 4]) (caps := []) rfl rfl (seg_Put_1.spc r3.ack g13 4 (show InR .i64 4 by decide) r7 er7) [] [] (by decide) rfl rfl)) (ox rfl (o_move rfl) (ox rfl (o_move rfl) (oy rfl (o_callv (vs := [.int .u64 y1, .int .i64 1]) (caps := []) rfl rfl (seg_Put_1.spc y1 (ey1 ▸ (wrap_in _ _)) 1 (show InR .i64 1 by decide) r8 er8) [] [] (by decide) rfl rfl) (ox rfl (o_move rfl) (ox rfl (o_fa rfl t_f90_4 rfl rfl) (ox rfl (OpS.pur (fun F w m_ => (in2 (fd_sub shead_flags 0 rfl m_))) (o_lfx 0 rfl rfl shead_flags rfl X_int t_y5)) (ox rfl (OpS.fact (p := InR .u8 r3.flags) (fun F w m_ => (Mem.pur 0 rfl m_)) fun g14 => (o_convw rfl t_q5 t_u85 g14 rfl)) (oy rfl (OpS.fact (p := InR .u64 r3.flags) (fun F w m_ => (inr_wid (k := .u8) (k' := .u64) (Mem.pur 0 rfl m_) rfl)) fun g15 => (o_callv (vs := [.int .u64 r3.flags, .int .i64 1]) (caps := []) rfl rfl (seg_Put_1.spc r3.flags g15 1 (show InR .i64 1 by decide) r9 er9) [] [] (by decide) rfl rfl)) (ox rfl (o_move rfl) (ox rfl (o_fa rfl t_f90_5 rfl rfl) (ox rfl (OpS.pur (fun F w m_ => (in2 (fd_sub shead_win 0 rfl m_))) (o_lfx 0 rfl rfl shead_win rfl X_int t_y88)) (ox rfl (OpS.fact (p := InR .u16 r3.win) (fun F w m_ => (Mem.pur 0 rfl m_)) fun g16 => (o_convw rfl t_q88 t_u85 g16 rfl)) (oy rfl (OpS.fact (p := InR .u64 r3.win) (fun F w m_ => (inr_wid (k := .u16) (k' := .u64) (Mem.pur 0 rfl m_) rfl)) fun g17 => (o_callv (vs := [.int .u64 r3.win, .int .i64 2]) (caps := []) rfl rfl (seg_Put_1.spc r3.win g17 2 (show InR .i64 2 by decide) r10 er10) [] [] (by decide) rfl rfl)) (ox rfl (o_move rfl) (oy rfl (o_callv (vs := [.int .u64 0, .int .i64 4]) (caps := []) rfl rfl (seg_Put_1.spc 0 (show InR .u64 0 by decide) 4 (show InR .i64 4 by decide) r11 er11) [] [] (by decide) rfl rfl) (ox rfl (o_move rfl) (ox rfl (o_fa rfl t_f30_7 rfl rfl) (oy rfl (o_lfv 4 rfl rfl sSeg_Data rfl Per_sl t_y23) (obs_nil))))))))))))))))))))))))))))))))))))))
    replace h := h.wk (E' := [(1, .int .u32 a2), (2, .int .u32 a3), (8, .func (.func 43) #[] #[]), (50, (f1 4)), (55, (f1 9)), (60, (f1 14)), (65, (f1 19)), (68, (f1 22)), (73, (f1 27)), (78, (f1 32)), (80, (f1 34)), (81, v7), (83, (f1 37))]) (L' := [Ent.pur (InR .u16 r3.src), Val (Kd.osl (Kd.int .u8)) (f1 4) r4, Ent.pur (InR .u16 r3.dst), Val (Kd.osl (Kd.int .u8)) (f1 9) r5, Ent.pur (InR .u32 r3.seq), Val (Kd.osl (Kd.int .u8)) (f1 14) r6, Ent.pur (InR .u32 r3.ack), Val (Kd.osl (Kd.int .u8)) (f1 19) r7, Val (Kd.osl (Kd.int .u8)) (f1 22) r8, Ent.pur (InR .u8 r3.flags), Val (Kd.osl (Kd.int .u8)) (f1 27) r9, Ent.pur (InR .u16 r3.win), Val (Kd.osl (Kd.int .u8)) (f1 32) r10, Val (Kd.osl (Kd.int .u8)) (f1 34) r11, Val (Kd.sl (Kd.int .u8)) (f1 37) a1.Data, Fld Khead b2 0 r3, Val Khead v9 r3, Val KSeg v8 a1, Val (Kd.osl (Kd.int .u8)) v7 j2, Fld KSeg b1 0 a1]) (by kernel_rfl) [0, 1, 2, 3, 4, 5, 6, 7, 8, 9, 10, 11, 12, 13, 14, 15, 16, 17, 18, 19] (by decide) (by kernel_rfl)
    replace h := h.mm fun m => m.freeze 1 rfl
    replace h := h.mm fun m => m.freeze 3 rfl
    replace h := h.mm fun m => m.freeze 5 rfl
    replace h := h.mm fun m => m.freeze 7 rfl
    replace h := h.mm fun m => m.freeze 8 rfl
    replace h := h.mm fun m => m.freeze 10 rfl
    replace h := h.mm fun m => m.freeze 12 rfl
    replace h := h.mm fun m => m.freeze 13 rfl
    replace h := h.mm fun m => m.freeze 18 rfl
    refine gs h (o_bs (K := (Kd.sl (Kd.int .u8))) (vs := [(f1 4), (f1 9), (f1 14), (f1 19), (f1 22), (f1 27), (f1 32), (f1 34), v7, (f1 37)]) (xs := ([r4, r5, r6, r7, r8, r9, r10, r11, j2, a1.Data] : List (List Int))) rfl rfl (pvs_cons (pv_at Per_sl 1 rfl) (pvs_cons (pv_at Per_sl 3 rfl) (pvs_cons (pv_at Per_sl 5 rfl) (pvs_cons (pv_at Per_sl 7 rfl) (pvs_cons (pv_at Per_sl 8 rfl) (pvs_cons (pv_at Per_sl 10 rfl) (pvs_cons (pv_at Per_sl 12 rfl) (pvs_cons (pv_at Per_sl 13 rfl) (pvs_cons (pv_at Per_sl 18 rfl) (pvs_cons (pv_at Per_sl 14 rfl) pvs_nil)))))))))) t_a100 (by decide) (by decide)) rfl fun v19 _ _ h => ?_
    replace h := h.mm fun m => m.freeze 0 rfl
    obtain ⟨r12, er12, H⟩ := bindE H
    refine gs h (o_call (slices_Concat_s_byte_byte.spc v19 ([r4, r5, r6, r7, r8, r9, r10, r11, j2, a1.Data] : List (List Int)) r12 er12) rfl [0] [] (by decide) rfl rfl) rfl fun v20 _ _ h => ?_
    refine ga h (o_assign rfl) rfl fun h => ?_
    refine GoR.done ?_
    refine Go.seq ?_
    replace h := h.mm fun m => m.isl 0 rfl
    replace h := h.wq [(1, .int .u32 a2), (2, .int .u32 a3), (8, .func (.func 43) #[] #[]), (12, v20)] [Ent.pur (IsSl v20 r12.length), Val (Kd.osl (Kd.int .u8)) v20 r12, Val (Kd.sl (Kd.sl (Kd.int .u8))) v19 ([r4, r5, r6, r7, r8, r9, r10, r11, j2, a1.Data] : List (List Int)), Ent.pur (InR .u16 r3.src), Val (Kd.sl (Kd.int .u8)) (f1 4) r4, Ent.pur (InR .u16 r3.dst), Val (Kd.sl (Kd.int .u8)) (f1 9) r5, Ent.pur (InR .u32 r3.seq), Val (Kd.sl (Kd.int .u8)) (f1 14) r6, Ent.pur (InR .u32 r3.ack), Val (Kd.sl (Kd.int .u8)) (f1 19) r7, Val (Kd.sl (Kd.int .u8)) (f1 22) r8, Ent.pur (InR .u8 r3.flags), Val (Kd.sl (Kd.int .u8)) (f1 27) r9, Ent.pur (InR .u16 r3.win), Val (Kd.sl (Kd.int .u8)) (f1 32) r10, Val (Kd.sl (Kd.int .u8)) (f1 34) r11, Val (Kd.sl (Kd.int .u8)) (f1 37) a1.Data, Fld Khead b2 0 r3, Val Khead v9 r3, Val KSeg v8 a1, Val (Kd.sl (Kd.int .u8)) v7 j2, Fld KSeg b1 0 a1] [0, 1, 2, 3, 4, 5, 6, 7, 8, 9, 10, 11, 12, 13, 14, 15, 16, 17, 18, 19, 20, 21, 22]
    obtain ⟨q3, H⟩ := ifS H
    obtain ⟨r14, er14, H⟩ := bindE H
    obtain ⟨r15, er15, H⟩ := bindE H
    obtain ⟨r16, er16, H⟩ := bindE H
    refine Go.draw (E := [(1, .int .u32 a2), (2, .int .u32 a3), (8, .func (.func 43) #[] #[]), (12, v20)]) [] (L := [Ent.pur (IsSl v20 r12.length), Val (Kd.osl (Kd.int .u8)) v20 r12, Val (Kd.sl (Kd.sl (Kd.int .u8))) v19 ([r4, r5, r6, r7, r8, r9, r10, r11, j2, a1.Data] : List (List Int)), Ent.pur (InR .u16 r3.src), Val (Kd.sl (Kd.int .u8)) (f1 4) r4, Ent.pur (InR .u16 r3.dst), Val (Kd.sl (Kd.int .u8)) (f1 9) r5, Ent.pur (InR .u32 r3.seq), Val (Kd.sl (Kd.int .u8)) (f1 14) r6, Ent.pur (InR .u32 r3.ack), Val (Kd.sl (Kd.int .u8)) (f1 19) r7, Val (Kd.sl (Kd.int .u8)) (f1 22) r8, Ent.pur (InR .u8 r3.flags), Val (Kd.sl (Kd.int .u8)) (f1 27) r9, Ent.pur (InR .u16 r3.win), Val (Kd.sl (Kd.int .u8)) (f1 32) r10, Val (Kd.sl (Kd.int .u8)) (f1 34) r11, Val (Kd.sl (Kd.int .u8)) (f1 37) a1.Data, Fld Khead b2 0 r3, Val Khead v9 r3, Val KSeg v8 a1, Val (Kd.sl (Kd.int .u8)) v7 j2, Fld KSeg b1 0 a1]) h rfl rfl 10 [cn (v20), ce [0] (subV v20 (16 : Int).toNat (r12.length : Int).toNat (Kd.n (Kd.int .u8))), cn (.func (.func 43) #[] #[]), cn (v20), cn (.int .u32 a2), cn (.int .u32 a3), cw [3, 4, 5] [] [] fun u => [Val (Kd.sl (Kd.int .u8)) u r14], cm [3, 4, 5, 6] [6] [] (.int .i64 r15) fun u => [Ent.pur (InR .i64 r15)], ce [3, 4, 5, 6, 7] (.int .u64 (IntKind.u64.wrap r15)), cw [2, 3, 4, 5, 6, 7, 8] [] [] fun u => [Val (Kd.osl (Kd.int .u8)) u r16]] rfl t_mxo (by kernel_rfl) (by rfl) ?_ fun f4 _ _ h => ?_
    ·exact ox rfl (o_move rfl) (ox rfl (OpS.fact (fun F w m_ => (Mem.pur 0 rfl m_)) fun g19 => (o_ownlp (n := 1) g19 rfl rfl q3 t_v23)) (ox rfl (o_move rfl) (ox rfl (o_move rfl) (ox rfl (o_move rfl) (ox rfl (o_move rfl) (oy rfl (OpS.mm (OpS.lend (Lp := [Val (Kd.sl (Kd.int .u8)) v20 r12]) (lent_cons (lent_own 1 rfl) lent_nil) (o_call (seg_covered.spc v20 r12 a2 ha2 a3 ha3 r14 er14) rfl [0] [] (by decide) rfl rfl) (fun _ => (clo_cons (cl_val (cl_osl cl_int)) clo_nil))) (fun _ _ _ m => m.freeze 0 rfl)) (oc rfl rfl rfl (fun f4 => (o_call (sum_Sum.spc (f4 6) r14 r15 er15) rfl [0] [] (by decide) rfl rfl)) (ox rfl (o_conv rfl t_q3 t_u85) (oy rfl (o_callv (vs := [.int .u64 (IntKind.u64.wrap r15), .int .i64 2]) (caps := []) rfl rfl (seg_Put_1.spc (IntKind.u64.wrap r15) (wrap_in _ _) 2 (show InR .i64 2 by decide) r16 er16) [] [] (by decide) rfl rfl) (obs_nil))))))))))
    replace h := h.wk (E' := [(12, v20), (87, subV v20 (16 : Int).toNat (r12.length : Int).toNat (Kd.n (Kd.int .u8))), (95, (f4 9))]) (L' := [Val (Kd.sl (Kd.int .u8)) (f4 6) r14, Ent.pur (InR .i64 r15), Val (Kd.osl (Kd.int .u8)) (f4 9) r16, Ent.pur (IsSl v20 r12.length), Val (Kd.osl (Kd.int .u8)) v20 r12, Val (Kd.sl (Kd.sl (Kd.int .u8))) v19 ([r4, r5, r6, r7, r8, r9, r10, r11, j2, a1.Data] : List (List Int)), Ent.pur (InR .u16 r3.src), Val (Kd.sl (Kd.int .u8)) (f1 4) r4, Ent.pur (InR .u16 r3.dst), Val (Kd.sl (Kd.int .u8)) (f1 9) r5, Ent.pur (InR .u32 r3.seq), Val (Kd.sl (Kd.int .u8)) (f1 14) r6, Ent.pur (InR .u32 r3.ack), Val (Kd.sl (Kd.int .u8)) (f1 19) r7, Val (Kd.sl (Kd.int .u8)) (f1 22) r8, Ent.pur (InR .u8 r3.flags), Val (Kd.sl (Kd.int .u8)) (f1 27) r9, Ent.pur (InR .u16 r3.win), Val (Kd.sl (Kd.int .u8)) (f1 32) r10, Val (Kd.sl (Kd.int .u8)) (f1 34) r11, Val (Kd.sl (Kd.int .u8)) (f1 37) a1.Data, Fld Khead b2 0 r3, Val Khead v9 r3, Val KSeg v8 a1, Val (Kd.sl (Kd.int .u8)) v7 j2, Fld KSeg b1 0 a1]) (by kernel_rfl) [0, 1, 2, 3, 4, 5, 6, 7, 8, 9, 10, 11, 12, 13, 14, 15, 16, 17, 18, 19, 20, 21, 22, 23, 24, 25] (by decide) (by kernel_rfl)
    obtain ⟨y2, ey2, H⟩ := ltE H
    refine ga h (o_cp 4 rfl rfl rfl (rd_own 2 rfl) q3 t_a23) rfl fun h => ?_
    rw [ey2] at h
    refine GoR.done ?_
    refine Go.seq ?_
    refine Go.reg ?_
    refine mv h rfl rfl fun h => ?_
    refine ga h (o_assign rfl) rfl fun h => ?_
    refine ga h (o_assign rfl) rfl fun h => ?_
    refine GoR.done ?_
    rw [← som H]
    exact g_ret (vs := [v20, .int .i64 0]) h Try.func28 ⟨rfl, ⟨rfl, trivial⟩⟩ ⟨v20, rfl, ((h.mem.pick [4] (by decide) rfl).addpur (show InR .i64 0 by decide))⟩
   refine Go.seq ?_
   refine Go.reg ?_
   refine ga h (o_fa rfl t_f30_6 rfl rfl) rfl fun h => ?_
   have g3 := (in2 (fd_sub sSeg_Mss 0 rfl h.mem))
   refine ga h (o_lfx 0 rfl rfl sSeg_Mss rfl X_int t_y3) rfl fun h => ?_
   refine ga h (o_bin rfl rfl rfl) rfl fun h => ?_
   refine GoR.done ?_
   by_cases c4 : decide (0 < a1.Mss) = true
   ·have H := ifT c4 H
    refine g_t h rfl c4 ?_
    refine Go.reg ?_
    refine gs h (o_bs (K := (Kd.int .u8)) (vs := [.int .u8 2, .int .u8 4]) (xs := ([2, 4] : List Int)) rfl rfl (pvs_cons (pv_int (show InR .u8 2 by decide)) (pvs_cons (pv_int (show InR .u8 4 by decide)) pvs_nil)) t_a23 (by decide) (by decide)) rfl fun v4 _ _ h => ?_
    refine mv h rfl rfl fun h => ?_
    refine ga h (o_fa rfl t_f30_6 rfl rfl) rfl fun h => ?_
    have g4 := (in2 (fd_sub sSeg_Mss 1 rfl h.mem))
    refine ga h (o_lfx 1 rfl rfl sSeg_Mss rfl X_int t_y3) rfl fun h => ?_
    refine ga h (o_conv rfl t_q3 t_u85) rfl fun h => ?_
    obtain ⟨r2, er2, H⟩ := bindE H
    refine gs h (o_callv (vs := [.int .u64 (IntKind.u64.wrap a1.Mss), .int .i64 2]) (caps := []) rfl rfl (seg_Put_1.spc (IntKind.u64.wrap a1.Mss) (wrap_in _ _) 2 (show InR .i64 2 by decide) r2 er2) [] [] (by decide) rfl rfl) rfl fun v5 _ _ h => ?_
    obtain ⟨x1, ex1, H⟩ := bindE H
    refine gs h (o_app (K := (Kd.int .u8)) 1 rfl rfl rfl (rd_own 0 rfl) ex1 t_a23 t_n23) rfl fun v6 _ _ h => ?_
    refine ga h (o_assign rfl) rfl fun h => ?_
    refine GoR.done ?_
    exact J2 x1 v6 _ _ (som H).symm (h.wr [1, 2])
   ·have H := ifF c4 H
    refine g_f h rfl c4 ?_
    refine Go.skip ?_
    replace h := h.mm fun m => m.nilo (Kd.int .u8)
    exact J2 [] (.slice none 0 0) _ _ (som H).symm (h.wr [0, 1])
 refine Go.reg ?_
 refine gs h (o_ldv 0 rfl rfl PSeg t_y30) rfl fun v2 _ _ h => ?_
 obtain ⟨r1, er1, H⟩ := bindE H
 refine ga h (o_call (seg_same.spc v2 a1 r1 er1) rfl [0] [] (by decide) rfl rfl) rfl fun h => ?_
 refine ga h (o_not rfl) rfl fun h => ?_
 refine mv h rfl rfl fun h => ?_
 by_cases c1 : (!r1) = true
 ·have H := ifT c1 H
  iterate 4 (refine gk h rfl rfl (nb_t c1) rfl fun _ h => ?_)
  refine ga h (o_pickT rfl rfl c1) rfl fun h => ?_
  refine mv h rfl rfl fun h => ?_
  iterate 4 (refine gk h rfl rfl (nb_t rfl) rfl fun _ h => ?_)
  refine ga h (o_pickT rfl rfl rfl) rfl fun h => ?_
  refine GoR.done ?_
  exact J1 true _ _ (som H).symm (h.wr [1])
 ·have H := ifF c1 H
  refine gg h rfl rfl (nbF c1) (o_fa rfl t_f30_6 rfl rfl) rfl fun _ _ _ h => ?_
  have g1 := (in2 (fd_sub sSeg_Mss 1 rfl h.mem))
  refine gg h rfl rfl (nbF c1) (o_lfx 1 rfl rfl sSeg_Mss rfl X_int t_y3) rfl fun _ _ _ h => ?_
  refine gg h rfl rfl (nbF c1) (o_shr rfl rfl (show (0 : Int) ≤ 16 by decide)) rfl fun _ _ _ h => ?_
  refine gg h rfl rfl (nbF c1) (o_bin rfl rfl rfl) rfl fun _ _ _ h => ?_
  refine ga h (o_pickF rfl rfl c1) rfl fun h => ?_
  refine mv h rfl rfl fun h => ?_
  by_cases c2 : (!decide ((ishr .i64 a1.Mss 16) = 0)) = true
  ·have H := ifT c2 H
   iterate 4 (refine gk h rfl rfl (nb_t c2) rfl fun _ h => ?_)
   refine ga h (o_pickT rfl rfl c2) rfl fun h => ?_
   refine GoR.done ?_
   exact J1 true _ _ (som H).symm (h.wr [1])
  ·have H := ifF c2 H
   refine gg h rfl rfl (nbF c2) (o_fa rfl t_f30_7 rfl rfl) rfl fun _ _ _ h => ?_
   refine gg h rfl rfl (nbF c2) (o_lfv 1 rfl rfl sSeg_Data rfl Per_sl t_y23) rfl fun v3 _ _ h => ?_
   have g2 := (len_at 0 rfl h.mem)
   refine gg h rfl rfl (nbF c2) (o_ln rfl (rd_at 0 rfl) t_v23) rfl fun _ _ _ h => ?_
   refine gg h rfl rfl (nbF c2) (o_bin rfl rfl rfl) rfl fun _ _ _ h => ?_
   refine ga h (o_pickF rfl rfl c2) rfl fun h => ?_
   refine GoR.done ?_
   exact J1 (decide (60000 < (a1.Data.length : Int))) _ _ (som H).symm (h.wr [2])
def seg_Put.g (k_ : Nat) (a1 : TSeg) (a2 : Int) (a3 : Int) : Option ((List Int) × Int) :=
  ((seg_same.g k_ a1).bind fun r1 => (if (!r1) = true then some (true) else (if (!decide ((ishr .i64 a1.Mss 16) = 0)) = true then some (true) else some (decide (60000 < (a1.Data.length : Int)))))).bind (fun j1 => (if j1 = true then some (([], 2)) else ((if decide (0 < a1.Mss) = true then (seg_Put_1.g k_ (IntKind.u64.wrap a1.Mss) 2).bind fun r2 => (app ([2, 4] : List Int) r2).bind fun x1 => some (x1) else some ([]))).bind (fun j2 => (seg_of.g k_ a1).bind fun r3 => lt (ishl .u64 (IntKind.u64.wrap (Int.tdiv (IntKind.u64.wrap (IntKind.i64.wrap (20 + (j2.length : Int)))) 4)) 4) fun y1 => (seg_Put_1.g k_ r3.src 2).bind fun r4 => (seg_Put_1.g k_ r3.dst 2).bind fun r5 => (seg_Put_1.g k_ r3.seq 4).bind fun r6 => (seg_Put_1.g k_ r3.ack 4).bind fun r7 => (seg_Put_1.g k_ y1 1).bind fun r8 => (seg_Put_1.g k_ r3.flags 1).bind fun r9 => (seg_Put_1.g k_ r3.win 2).bind fun r10 => (seg_Put_1.g k_ 0 4).bind fun r11 => (slices_Concat_s_byte_byte.g k_ ([r4, r5, r6, r7, r8, r9, r10, r11, j2, a1.Data] : List (List Int))).bind fun r12 => if inB r12 16 (r12.length : Int) then ((seg_covered.g k_ r12 a2 a3).bind fun r14 => (sum_Sum.g k_ r14).bind fun r15 => (seg_Put_1.g k_ (IntKind.u64.wrap r15) 2).bind fun r16 => lt (ovr r12 16 (r12.length : Int) r16) fun y2 => some ((y2, 0))) else none)))
theorem seg_Put.le (k_ : Nat) (a1 : TSeg) (a2 : Int) (a3 : Int) : Le (seg_Put.g k_ a1 a2 a3) (seg_Put.f a1 a2 a3) := by
 unfold seg_Put.g seg_Put.f
 repeat' (first | with_reducible refine le_loop fun _ => ?_ | with_reducible refine le_bind ?_ fun _ => ?_ | with_reducible refine le_ite ?_ ?_ | with_reducible refine le_lt fun _ => ?_ | with_reducible refine le_elim (fun _ => ?_) (fun _ => ?_) _ | with_reducible apply seg_Put_1.le | with_reducible apply seg_covered.le | with_reducible apply seg_of.le | with_reducible apply seg_same.le | with_reducible apply slices_Concat_s_byte_byte.le | with_reducible apply sum_Sum.le | with_reducible exact le_refl _)
/-! drawbridge/seg.Less -/
noncomputable def seg_Less.f (a1 : Int) (a2 : Int) : Option (Bool) :=
  lt (decide (0 < (IntKind.i32.wrap (IntKind.u32.wrap (a2 - a1))))) fun y1 => some (y1)
set_option maxRecDepth 100000 in
set_option maxHeartbeats 4000000 in
theorem seg_Less.spc (a1 : Int) (ha1 : InR .u32 a1) (a2 : Int) (ha2 : InR .u32 a2) (r : Bool) (H : seg_Less.f a1 a2 = some r) : Spc Try.prog 63 [.int .u32 a1, .int .u32 a2] [] [] (fun (s : Unit) => .bool r) (fun s => []) := by
 unfold seg_Less.f at H
 refine Spc.go Try.func63 rfl (by kernel_rfl) rfl rfl all_nil fun F a w h => ?_
 refine Go.seq ?_
 refine Go.reg ?_
 refine ga h (o_assign rfl) rfl fun h => ?_
 refine GoR.done ?_
 refine Go.seq ?_
 refine Go.reg ?_
 refine mv h rfl rfl fun h => ?_
 refine mv h rfl rfl fun h => ?_
 refine ga h (o_bin rfl rfl rfl) rfl fun h => ?_
 refine ga h (o_conv rfl t_q22 t_u21) rfl fun h => ?_
 refine ga h (o_bin rfl rfl rfl) rfl fun h => ?_
 obtain ⟨y1, ey1, H⟩ := ltE H
 refine ga h (o_assign' rfl (congrArg Value.bool ey1)) rfl fun h => ?_
 refine GoR.done ?_
 rw [← som H]
 exact g_ret (vs := [.bool y1]) h Try.func63 ⟨rfl, trivial⟩ ⟨(), rfl, (h.mem.pick [] (by decide) rfl)⟩
def seg_Less.g (k_ : Nat) (a1 : Int) (a2 : Int) : Option (Bool) :=
  lt (decide (0 < (IntKind.i32.wrap (IntKind.u32.wrap (a2 - a1))))) fun y1 => some (y1)
theorem seg_Less.le (k_ : Nat) (a1 : Int) (a2 : Int) : Le (seg_Less.g k_ a1 a2) (seg_Less.f a1 a2) := by
 unfold seg_Less.g seg_Less.f
 repeat' (first | with_reducible refine le_loop fun _ => ?_ | with_reducible refine le_bind ?_ fun _ => ?_ | with_reducible refine le_ite ?_ ?_ | with_reducible refine le_lt fun _ => ?_ | with_reducible refine le_elim (fun _ => ?_) (fun _ => ?_) _ | with_reducible exact le_refl _)
end Go.Proofs.Ytpcbhkigmnpimaa.S
