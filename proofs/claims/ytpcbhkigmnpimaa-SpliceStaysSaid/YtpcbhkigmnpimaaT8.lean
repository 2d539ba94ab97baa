/- Contracts, printed by a program of this session. -/
import Derived.Test.YtpcbhkigmnpimaaT4
namespace Go.Proofs.Ytpcbhkigmnpimaa.S
open Go Go.SL Go.RowKit
set_option linter.unusedVariables false
set_option linter.unusedSimpArgs false
/-! slices.Reverse[[]byte,byte] -/
noncomputable def slices_Reverse_s_byte_byte.f (a1 : List Int) : Option ((List Int)) :=
  lt (IntKind.i64.wrap ((a1.length : Int) - 1)) fun y1 => (loop (fun s1 => (if decide (s1.2.1 < s1.2.2) = true then (idx s1.1 s1.2.2).bind fun x1 => (idx s1.1 s1.2.1).bind fun x2 => (idx s1.1 s1.2.1).bind fun x3 => (idx (s1.1.set s1.2.1.toNat x1) s1.2.2).bind fun x4 => lt ((s1.1.set s1.2.1.toNat x1).set s1.2.2.toNat x2) fun y2 => lt (IntKind.i64.wrap (s1.2.1 + 1)) fun y3 => lt (IntKind.i64.wrap (s1.2.2 - 1)) fun y4 => some (.inl (y2, y3, y4)) else some (.inr (s1.1)))) (a1, 0, y1)).bind (fun z_ => some (z_))
set_option maxRecDepth 100000 in
set_option maxHeartbeats 4000000 in
theorem slices_Reverse_s_byte_byte.spc (v1 : Value) (a1 : List Int) (r : (List Int)) (H : slices_Reverse_s_byte_byte.f a1 = some r) : Spc Try.prog 60 [v1] [] [Val (Kd.osl (Kd.int .u8)) v1 a1] (fun (s : Unit) => .tuple #[]) (fun s => [Val (Kd.osl (Kd.int .u8)) v1 r]) := by
 unfold slices_Reverse_s_byte_byte.f at H
 refine Spc.go Try.func60 rfl (by kernel_rfl) rfl rfl all_nil fun F a w h => ?_
 refine Go.seq ?_
 refine Go.reg ?_
 refine gs h (o_move rfl) rfl fun _ _ _ h => ?_
 have g1 := (len_own 0 rfl h.mem)
 refine gs h (o_ln rfl (rd_own 0 rfl) t_v23) rfl fun _ _ _ h => ?_
 refine gs h (o_bin rfl rfl rfl) rfl fun _ _ _ h => ?_
 refine gs h (o_assign rfl) rfl fun _ _ _ h => ?_
 obtain ⟨y1, ey1, H⟩ := ltE H
 refine gs h (o_assign' rfl (congrArg (fun z => Value.int .i64 z) ey1)) rfl fun _ _ _ h => ?_
 refine GoR.done ?_
 refine Go.block ?_
 obtain ⟨o1, hl, G1⟩ := bindE H
 refine g_loop (fun s1 G => ∀  (a : Act) (w : World), InR .i64 s1.2.1 → InR .i64 s1.2.2 → St Try.f60.ntmps F [(0, v1), (2, .int .i64 s1.2.1), (3, .int .i64 s1.2.2)] [Val (Kd.osl (Kd.int .u8)) v1 s1.1] a w → G a w) hl (fun s1 p1 H i1 => ?_) fun I_ => ?_
 ·intro  a w g2 g3 h
  refine Go.seq ?_
  refine Go.seq ?_
  refine Go.reg ?_
  refine gs h (o_move rfl) rfl fun _ _ _ h => ?_
  refine gs h (o_move rfl) rfl fun _ _ _ h => ?_
  refine gs h (o_bin rfl rfl rfl) rfl fun _ _ _ h => ?_
  refine GoR.done ?_
  by_cases c1 : decide (s1.2.1 < s1.2.2) = true
  ·have H := ifT c1 H
   refine g_t h rfl c1 ?_
   refine Go.skip ?_
   refine Go.seq ?_
   refine Go.block ?_
   replace h := h.wk (E' := [(0, v1), (2, .int .i64 s1.2.1), (3, .int .i64 s1.2.2)]) (L' := [Val (Kd.osl (Kd.int .u8)) v1 s1.1]) (by rfl) [0] (by decide) (by rfl)
   obtain ⟨x1, ex1, H⟩ := bindE H
   obtain ⟨x2, ex2, H⟩ := bindE H
   obtain ⟨x3, ex3, H⟩ := bindE H
   refine Go.draw (E := [(0, v1), (2, .int .i64 s1.2.1), (3, .int .i64 s1.2.2)]) [] (L := []) h rfl rfl 14 [⟨[], [], [], false, .con (v1), none, fun u => [], []⟩, ⟨[], [], [], false, .con (.int .i64 s1.2.1), none, fun u => [], []⟩, ⟨[], [], [], false, .con (v1), none, fun u => [], []⟩, ⟨[], [], [], false, .con (.int .i64 s1.2.2), none, fun u => [], []⟩, ⟨[], [], [], false, .con (v1), none, fun u => [], []⟩, ⟨[], [], [], false, .con (.int .i64 s1.2.2), none, fun u => [], []⟩, ⟨[4, 5], [14], [], false, .con (elemP v1 (s1.2.2.toNat * Kd.n (Kd.int .u8))), none, fun u => [], []⟩, ⟨[4, 5, 6], [14], [], false, .con (.int .u8 x1), none, fun u => [Ent.pur (InR .u8 x1)], []⟩, ⟨[], [], [], false, .con (v1), none, fun u => [], []⟩, ⟨[], [], [], false, .con (.int .i64 s1.2.1), none, fun u => [], []⟩, ⟨[8, 9], [14], [], false, .con (elemP v1 (s1.2.1.toNat * Kd.n (Kd.int .u8))), none, fun u => [], []⟩, ⟨[8, 9, 10], [14], [], false, .con (.int .u8 x2), none, fun u => [Ent.pur (InR .u8 x2)], []⟩, ⟨[0, 1], [14], [], false, .con (elemP v1 (s1.2.1.toNat * Kd.n (Kd.int .u8))), none, fun u => [], []⟩, ⟨[0, 1, 4, 5, 6, 7, 12], [14, 7], [14], false, .con (undef), none, fun u => [Val (Kd.osl (Kd.int .u8)) v1 (s1.1.set s1.2.1.toNat x1)], []⟩, ⟨[], [], [], false, .con undef, none, fun u => [Val (Kd.osl (Kd.int .u8)) v1 s1.1], []⟩] rfl t_mxo (by kernel_rfl) (by rfl) ?_ fun f1 _ _ h => ?_
   ·exact obs_cons (ob_con rfl (gok_none rfl) rfl fun f1 => (o_move rfl)) (obs_cons (ob_con rfl (gok_none rfl) rfl fun f1 => (o_move rfl)) (obs_cons (ob_con rfl (gok_none rfl) rfl fun f1 => (o_move rfl)) (obs_cons (ob_con rfl (gok_none rfl) rfl fun f1 => (o_move rfl)) (obs_cons (ob_con rfl (gok_none rfl) rfl fun f1 => (o_move rfl)) (obs_cons (ob_con rfl (gok_none rfl) rfl fun f1 => (o_move rfl)) (obs_cons (ob_con rfl (gok_none rfl) rfl fun f1 => (o_ix rfl rfl (rd_own 0 rfl) ex1 t_v23)) (obs_cons (ob_con rfl (gok_none rfl) rfl fun f1 => (OpS.pur (fun F w m_ => (rd_inr (rd_own 0 rfl) ex1 m_)) (o_lex rfl (rd_own 0 rfl) ex1 X_int t_y5 (by decide)))) (obs_cons (ob_con rfl (gok_none rfl) rfl fun f1 => (o_move rfl)) (obs_cons (ob_con rfl (gok_none rfl) rfl fun f1 => (o_move rfl)) (obs_cons (ob_con rfl (gok_none rfl) rfl fun f1 => (o_ix rfl rfl (rd_own 0 rfl) ex2 t_v23)) (obs_cons (ob_con rfl (gok_none rfl) rfl fun f1 => (OpS.pur (fun F w m_ => (rd_inr (rd_own 0 rfl) ex2 m_)) (o_lex rfl (rd_own 0 rfl) ex2 X_int t_y5 (by decide)))) (obs_cons (ob_con rfl (gok_none rfl) rfl fun f1 => (o_ix rfl rfl (rd_own 0 rfl) ex3 t_v23)) (obs_cons (ob_con rfl (gok_none rfl) rfl fun f1 => (OpS.fact (p := InR .u8 x1) (fun F w m_ => (Mem.pur 1 rfl m_)) fun g4 => (o_ste 0 rfl rfl rfl (pv_int g4) ex3 t_w5 (by decide)))) (obs_nil))))))))))))))
   replace h := h.wk (E' := [(0, v1), (2, .int .i64 s1.2.1), (3, .int .i64 s1.2.2), (16, v1), (17, .int .i64 s1.2.2), (25, .int .u8 x2)]) (L' := [Ent.pur (InR .u8 x1), Ent.pur (InR .u8 x2), Val (Kd.osl (Kd.int .u8)) v1 (s1.1.set s1.2.1.toNat x1)]) (by kernel_rfl) [0, 1, 2] (by decide) (by kernel_rfl)
   have g5 := (Mem.pur 1 rfl h.mem)
   obtain ⟨x4, ex4, H⟩ := bindE H
   refine gs h (o_ix rfl rfl (rd_own 2 rfl) ex4 t_v23) rfl fun _ _ _ h => ?_
   obtain ⟨y2, ey2, H⟩ := ltE H
   refine gs0 h (o_ste 2 rfl rfl rfl (pv_int g5) ex4 t_w5 (by decide)) fun _ _ _ h => ?_
   rw [ey2] at h
   refine GoR.done ?_
   refine Go.inBlock ?_
   refine Go.reg ?_
   refine gs h (o_move rfl) rfl fun _ _ _ h => ?_
   refine gs h (o_bin rfl rfl rfl) rfl fun _ _ _ h => ?_
   refine gs h (o_move rfl) rfl fun _ _ _ h => ?_
   refine gs h (o_bin rfl rfl rfl) rfl fun _ _ _ h => ?_
   obtain ⟨y3, ey3, H⟩ := ltE H
   refine gs h (o_assign' rfl (congrArg (fun z => Value.int .i64 z) ey3)) rfl fun _ _ _ h => ?_
   obtain ⟨y4, ey4, H⟩ := ltE H
   refine gs h (o_assign' rfl (congrArg (fun z => Value.int .i64 z) ey4)) rfl fun _ _ _ h => ?_
   refine GoR.done ?_
   have e_ := som H; subst e_
   exact Go.inLoop (nx_in i1 _ _ (ey3 ▸ (wrap_in _ _)) (ey4 ▸ (wrap_in _ _)) (h.wk (by rfl) [2] (by decide) (by rfl)))
  ·have H := ifF c1 H
   refine g_f h rfl c1 ?_
   refine Go.exit rfl ?_
   have e_ := som H; subst e_
   rw [← nx_out i1] at G1
   have H := G1
   rw [← som H]
   exact g_fin (vs := []) h Try.func60 trivial ⟨(), rfl, (h.mem.pick [0] (by decide) rfl)⟩
 ·exact I_ _ _ (show InR .i64 0 by decide) (ey1 ▸ (wrap_in _ _)) (h.wk (by rfl) [0] (by decide) (by rfl))
def slices_Reverse_s_byte_byte.g (k_ : Nat) (a1 : List Int) : Option ((List Int)) :=
  lt (IntKind.i64.wrap ((a1.length : Int) - 1)) fun y1 => (loopK k_ (fun s1 => (if decide (s1.2.1 < s1.2.2) = true then (idx s1.1 s1.2.2).bind fun x1 => (idx s1.1 s1.2.1).bind fun x2 => (idx s1.1 s1.2.1).bind fun x3 => (idx (s1.1.set s1.2.1.toNat x1) s1.2.2).bind fun x4 => lt ((s1.1.set s1.2.1.toNat x1).set s1.2.2.toNat x2) fun y2 => lt (IntKind.i64.wrap (s1.2.1 + 1)) fun y3 => lt (IntKind.i64.wrap (s1.2.2 - 1)) fun y4 => some (.inl (y2, y3, y4)) else some (.inr (s1.1)))) (a1, 0, y1)).bind (fun z_ => some (z_))
theorem slices_Reverse_s_byte_byte.le (k_ : Nat) (a1 : List Int) : Le (slices_Reverse_s_byte_byte.g k_ a1) (slices_Reverse_s_byte_byte.f a1) := by
 unfold slices_Reverse_s_byte_byte.g slices_Reverse_s_byte_byte.f
 repeat' (first | with_reducible refine le_loop fun _ => ?_ | with_reducible refine le_bind ?_ fun _ => ?_ | with_reducible refine le_ite ?_ ?_ | with_reducible refine le_lt fun _ => ?_ | with_reducible refine le_elim (fun _ => ?_) (fun _ => ?_) _ | with_reducible exact le_refl _)
/-! drawbridge/bits.Put -/
noncomputable def bits_Put.f (a1 : Int) (a2 : Int) (a3 : Bool) : Option ((List Int)) :=
  (mk (max 0 (min a2 8)) 0).bind fun x1 => (loop (fun s1 => (if decide (s1.2 < (x1.length : Int)) = true then if 0 ≤ (IntKind.i64.wrap (8 * s1.2)) then ((idx s1.1 s1.2).bind fun x2 => lt (s1.1.set s1.2.toNat (IntKind.u8.wrap (ishr .u64 a1 (IntKind.i64.wrap (8 * s1.2))))) fun y1 => some (.inl (y1, IntKind.i64.wrap (s1.2 + 1)))) else none else some (.inr (s1.1)))) (x1, 0)).bind (fun j1 => ((if a3 = true then (slices_Reverse_s_byte_byte.f j1).bind fun r1 => some (r1) else some (j1))).bind (fun j2 => some (j2)))
set_option maxRecDepth 100000 in
set_option maxHeartbeats 4000000 in
theorem bits_Put.spc (a1 : Int) (ha1 : InR .u64 a1) (a2 : Int) (ha2 : InR .i64 a2) (a3 : Bool) (r : (List Int)) (H : bits_Put.f a1 a2 a3 = some r) : Spc Try.prog 44 [.int .u64 a1, .int .i64 a2, .bool a3] [] [] (fun (s : Value) => s) (fun s => [Val (Kd.osl (Kd.int .u8)) s r]) := by
 unfold bits_Put.f at H
 refine Spc.go Try.func44 rfl (by kernel_rfl) rfl rfl all_nil fun F a w h => ?_
 refine Go.seq ?_
 refine Go.reg ?_
 refine gs h (o_assign rfl) rfl fun _ _ _ h => ?_
 refine GoR.done ?_
 refine Go.seq ?_
 refine Go.reg ?_
 refine gs h (o_move rfl) rfl fun _ _ _ h => ?_
 refine gs h (o_min rfl rfl) rfl fun _ _ _ h => ?_
 refine gs h (o_max rfl rfl) rfl fun _ _ _ h => ?_
 obtain ⟨x1, ex1, H⟩ := bindE H
 refine gs h (o_mk (K := (Kd.int .u8)) rfl rfl ex1 t_a23 (by decide) (fun e he => ⟨[.int .u8 0], by cases he; exact t_zc5, z_int⟩)) rfl fun v1 _ _ h => ?_
 refine gs h (o_assign rfl) rfl fun _ _ _ h => ?_
 refine GoR.done ?_
 refine Go.seq ?_
 refine Go.seq ?_
 refine Go.reg ?_
 refine gs h (o_move rfl) rfl fun _ _ _ h => ?_
 have g1 := (len_own 0 rfl h.mem)
 refine gs h (o_ln rfl (rd_own 0 rfl) t_v23) rfl fun _ _ _ h => ?_
 refine gs h (o_move rfl) rfl fun _ _ _ h => ?_
 refine GoR.done ?_
 refine Go.block ?_
 obtain ⟨o1, hl, G1⟩ := bindE H
 refine g_cut (fun G => ∀ j1 (v2 : Value) (a : Act) (w : World), o1 = j1 → St Try.f44.ntmps F [(2, .bool a3), (7, v2)] [Val (Kd.osl (Kd.int .u8)) v2 j1] a w → G a w) 2 ?_ fun J1 => ?_
 ·intro j1 v2 a w ho_ h
  rw [ho_] at G1
  have H := G1
  refine Go.seq ?_
  obtain ⟨o2, H, G2⟩ := bindE H
  refine g_cut (fun G => ∀ j2 (a : Act) (w : World), o2 = j2 → St Try.f44.ntmps F [(7, v2)] [Val (Kd.osl (Kd.int .u8)) v2 j2] a w → G a w) 1 ?_ fun J2 => ?_
  ·intro j2 a w ho_ h
   rw [ho_] at G2
   have H := G2
   refine Go.seq ?_
   refine Go.reg ?_
   refine gs h (o_move rfl) rfl fun _ _ _ h => ?_
   refine gs h (o_assign rfl) rfl fun _ _ _ h => ?_
   refine GoR.done ?_
   rw [← som H]
   exact g_ret (vs := [v2]) h Try.func44 ⟨rfl, trivial⟩ ⟨v2, rfl, (h.mem.pick [0] (by decide) rfl)⟩
  refine Go.seq ?_
  refine Go.reg ?_
  refine gs h (o_move rfl) rfl fun _ _ _ h => ?_
  refine GoR.done ?_
  by_cases c2 : a3 = true
  ·have H := ifT c2 H
   refine g_t h rfl c2 ?_
   refine Go.reg ?_
   refine gs h (o_move rfl) rfl fun _ _ _ h => ?_
   obtain ⟨r1, er1, H⟩ := bindE H
   refine gs h (o_call (slices_Reverse_s_byte_byte.spc v2 j1 r1 er1) rfl [] [0] (by decide) rfl rfl) rfl fun _ _ _ h => ?_
   refine GoR.done ?_
   exact J2 r1 _ _ (som H).symm (h.wk (by rfl) [0] (by decide) (by rfl))
  ·have H := ifF c2 H
   refine g_f h rfl c2 ?_
   refine Go.skip ?_
   exact J2 j1 _ _ (som H).symm (h.wk (by rfl) [0] (by decide) (by rfl))
 refine g_loop (fun s1 G => ∀  (a : Act) (w : World), InR .i64 s1.2 → St Try.f44.ntmps F [(0, .int .u64 a1), (2, .bool a3), (7, v1), (14, .int .i64 (x1.length : Int)), (15, .int .i64 s1.2)] [Val (Kd.osl (Kd.int .u8)) v1 s1.1] a w → G a w) hl (fun s1 p1 H i1 => ?_) fun I_ => ?_
 ·intro  a w g2 h
  refine Go.seq ?_
  refine Go.reg ?_
  refine gs h (o_bin rfl rfl rfl) rfl fun _ _ _ h => ?_
  refine GoR.done ?_
  refine Go.seq ?_
  by_cases c1 : decide (s1.2 < (x1.length : Int)) = true
  ·have H := ifT c1 H
   refine g_t h rfl c1 ?_
   refine Go.skip ?_
   refine Go.seq ?_
   refine Go.block ?_
   refine Go.seq ?_
   refine Go.reg ?_
   refine gs h (o_move rfl) rfl fun _ _ _ h => ?_
   refine gs h (o_assign rfl) rfl fun _ _ _ h => ?_
   refine GoR.done ?_
   refine Go.reg ?_
   iterate 4 (refine gs h (o_move rfl) rfl fun _ _ _ h => ?_)
   refine gs h (o_bin rfl rfl rfl) rfl fun _ _ _ h => ?_
   obtain ⟨q1, H⟩ := ifS H
   refine gs h (o_shr rfl rfl q1) rfl fun _ _ _ h => ?_
   refine gs h (o_conv rfl t_q85 t_u5) rfl fun _ _ _ h => ?_
   obtain ⟨x2, ex2, H⟩ := bindE H
   refine gs h (o_ix rfl rfl (rd_own 0 rfl) ex2 t_v23) rfl fun _ _ _ h => ?_
   obtain ⟨y1, ey1, H⟩ := ltE H
   refine gs0 h (o_ste 0 rfl rfl rfl (pv_int (wrap_in _ _)) ex2 t_w5 (by decide)) fun _ _ _ h => ?_
   rw [ey1] at h
   refine GoR.done ?_
   refine Go.inBlock ?_
   refine Go.reg ?_
   refine gs h (o_bin rfl rfl rfl) rfl fun _ _ _ h => ?_
   refine gs h (o_move rfl) rfl fun _ _ _ h => ?_
   refine GoR.done ?_
   have e_ := som H; subst e_
   exact Go.inLoop (nx_in i1 _ _ (wrap_in _ _) (h.wk (by rfl) [0] (by decide) (by rfl)))
  ·have H := ifF c1 H
   refine g_f h rfl c1 ?_
   refine Go.exit rfl ?_
   have e_ := som H; subst e_
   exact J1 s1.1 v1 _ _ (nx_out i1).symm (h.wk (by rfl) [0] (by decide) (by rfl))
 ·exact I_ _ _ (show InR .i64 0 by decide) (h.wk (by rfl) [0] (by decide) (by rfl))
def bits_Put.g (k_ : Nat) (a1 : Int) (a2 : Int) (a3 : Bool) : Option ((List Int)) :=
  (mk (max 0 (min a2 8)) 0).bind fun x1 => (loopK k_ (fun s1 => (if decide (s1.2 < (x1.length : Int)) = true then if 0 ≤ (IntKind.i64.wrap (8 * s1.2)) then ((idx s1.1 s1.2).bind fun x2 => lt (s1.1.set s1.2.toNat (IntKind.u8.wrap (ishr .u64 a1 (IntKind.i64.wrap (8 * s1.2))))) fun y1 => some (.inl (y1, IntKind.i64.wrap (s1.2 + 1)))) else none else some (.inr (s1.1)))) (x1, 0)).bind (fun j1 => ((if a3 = true then (slices_Reverse_s_byte_byte.g k_ j1).bind fun r1 => some (r1) else some (j1))).bind (fun j2 => some (j2)))
theorem bits_Put.le (k_ : Nat) (a1 : Int) (a2 : Int) (a3 : Bool) : Le (bits_Put.g k_ a1 a2 a3) (bits_Put.f a1 a2 a3) := by
 unfold bits_Put.g bits_Put.f
 repeat' (first | with_reducible refine le_loop fun _ => ?_ | with_reducible refine le_bind ?_ fun _ => ?_ | with_reducible refine le_ite ?_ ?_ | with_reducible refine le_lt fun _ => ?_ | with_reducible refine le_elim (fun _ => ?_) (fun _ => ?_) _ | with_reducible apply slices_Reverse_s_byte_byte.le | with_reducible exact le_refl _)
/-! drawbridge/seg.Put$1 -/
noncomputable def seg_Put_1.f (a1 : Int) (a2 : Int) : Option ((List Int)) :=
  (bits_Put.f a1 a2 true).bind fun r1 => some (r1)
set_option maxRecDepth 100000 in
set_option maxHeartbeats 4000000 in
theorem seg_Put_1.spc (a1 : Int) (ha1 : InR .u64 a1) (a2 : Int) (ha2 : InR .i64 a2) (r : (List Int)) (H : seg_Put_1.f a1 a2 = some r) : Spc Try.prog 43 [.int .u64 a1, .int .i64 a2] [] [] (fun (s : Value) => s) (fun s => [Val (Kd.osl (Kd.int .u8)) s r]) := by
 unfold seg_Put_1.f at H
 refine Spc.go Try.func43 rfl (by kernel_rfl) rfl rfl all_nil fun F a w h => ?_
 refine Go.seq ?_
 refine Go.reg ?_
 refine gs h (o_assign rfl) rfl fun _ _ _ h => ?_
 refine GoR.done ?_
 refine Go.seq ?_
 refine Go.reg ?_
 refine gs h (o_move rfl) rfl fun _ _ _ h => ?_
 refine gs h (o_move rfl) rfl fun _ _ _ h => ?_
 obtain ⟨r1, er1, H⟩ := bindE H
 refine gs h (o_call (bits_Put.spc a1 ha1 a2 ha2 true r1 er1) rfl [] [] (by decide) rfl rfl) rfl fun v1 _ _ h => ?_
 refine gs h (o_assign rfl) rfl fun _ _ _ h => ?_
 refine GoR.done ?_
 rw [← som H]
 exact g_ret (vs := [v1]) h Try.func43 ⟨rfl, trivial⟩ ⟨v1, rfl, (h.mem.pick [0] (by decide) rfl)⟩
def seg_Put_1.g (k_ : Nat) (a1 : Int) (a2 : Int) : Option ((List Int)) :=
  (bits_Put.g k_ a1 a2 true).bind fun r1 => some (r1)
theorem seg_Put_1.le (k_ : Nat) (a1 : Int) (a2 : Int) : Le (seg_Put_1.g k_ a1 a2) (seg_Put_1.f a1 a2) := by
 unfold seg_Put_1.g seg_Put_1.f
 repeat' (first | with_reducible refine le_loop fun _ => ?_ | with_reducible refine le_bind ?_ fun _ => ?_ | with_reducible refine le_ite ?_ ?_ | with_reducible refine le_lt fun _ => ?_ | with_reducible refine le_elim (fun _ => ?_) (fun _ => ?_) _ | with_reducible apply bits_Put.le | with_reducible exact le_refl _)
/-! drawbridge/sum.Pseudo -/
noncomputable def sum_Pseudo.f (a1 : Int) (a2 : Int) (a3 : Int) (a4 : Int) : Option ((List Int)) :=
  (bits_Put.f a1 4 true).bind fun r1 => (bits_Put.f a2 4 true).bind fun r2 => (bits_Put.f (IntKind.u64.wrap a4) 2 true).bind fun r3 => (slices_Concat_s_byte_byte.f ([r1, r2, ([0, IntKind.u8.wrap a3] : List Int), r3] : List (List Int))).bind fun r4 => some (r4)
set_option maxRecDepth 100000 in
set_option maxHeartbeats 4000000 in
theorem sum_Pseudo.spc (a1 : Int) (ha1 : InR .u32 a1) (a2 : Int) (ha2 : InR .u32 a2) (a3 : Int) (ha3 : InR .i64 a3) (a4 : Int) (ha4 : InR .i64 a4) (r : (List Int)) (H : sum_Pseudo.f a1 a2 a3 a4 = some r) : Spc Try.prog 62 [.int .u32 a1, .int .u32 a2, .int .i64 a3, .int .i64 a4] [] [] (fun (s : Value) => s) (fun s => [Val (Kd.osl (Kd.int .u8)) s r]) := by
 unfold sum_Pseudo.f at H
 refine Spc.go Try.func62 rfl (by kernel_rfl) rfl rfl all_nil fun F a w h => ?_
 refine Go.seq ?_
 refine Go.reg ?_
 refine gs h (o_assign rfl) rfl fun _ _ _ h => ?_
 refine GoR.done ?_
 refine Go.seq ?_
 refine Go.reg ?_
 refine gs h (o_move rfl) rfl fun _ _ _ h => ?_
 refine gs h (o_convw rfl t_q22 t_u85 ha1 rfl) rfl fun _ _ _ h => ?_
 obtain ⟨r1, er1, H⟩ := bindE H
 refine gs h (o_call (bits_Put.spc a1 (inr_wid (k := .u32) (k' := .u64) ha1 rfl) 4 (show InR .i64 4 by decide) true r1 er1) rfl [] [] (by decide) rfl rfl) rfl fun v1 _ _ h => ?_
 refine gs h (o_move rfl) rfl fun _ _ _ h => ?_
 refine gs h (o_convw rfl t_q22 t_u85 ha2 rfl) rfl fun _ _ _ h => ?_
 obtain ⟨r2, er2, H⟩ := bindE H
 refine gs h (o_call (bits_Put.spc a2 (inr_wid (k := .u32) (k' := .u64) ha2 rfl) 4 (show InR .i64 4 by decide) true r2 er2) rfl [] [] (by decide) rfl rfl) rfl fun v2 _ _ h => ?_
 refine gs h (o_move rfl) rfl fun _ _ _ h => ?_
 refine gs h (o_conv rfl t_q3 t_u5) rfl fun _ _ _ h => ?_
 refine gs h (o_bs (K := (Kd.int .u8)) (vs := [.int .u8 0, .int .u8 (IntKind.u8.wrap a3)]) (xs := ([0, IntKind.u8.wrap a3] : List Int)) rfl rfl (pvs_cons (pv_int (show InR .u8 0 by decide)) (pvs_cons (pv_int (wrap_in _ _)) pvs_nil)) t_a23 (by decide) (by decide)) rfl fun v3 _ _ h => ?_
 refine gs h (o_move rfl) rfl fun _ _ _ h => ?_
 refine gs h (o_conv rfl t_q3 t_u85) rfl fun _ _ _ h => ?_
 obtain ⟨r3, er3, H⟩ := bindE H
 refine gs h (o_call (bits_Put.spc (IntKind.u64.wrap a4) (wrap_in _ _) 2 (show InR .i64 2 by decide) true r3 er3) rfl [] [] (by decide) rfl rfl) rfl fun v4 _ _ h => ?_
 replace h := h.mm fun m => m.freeze 3 rfl
 replace h := h.mm fun m => m.freeze 2 rfl
 replace h := h.mm fun m => m.freeze 1 rfl
 replace h := h.mm fun m => m.freeze 0 rfl
 refine gs h (o_bs (K := (Kd.sl (Kd.int .u8))) (vs := [v1, v2, v3, v4]) (xs := ([r1, r2, ([0, IntKind.u8.wrap a3] : List Int), r3] : List (List Int))) rfl rfl (pvs_cons (pv_at Per_sl 3 rfl) (pvs_cons (pv_at Per_sl 2 rfl) (pvs_cons (pv_at Per_sl 1 rfl) (pvs_cons (pv_at Per_sl 0 rfl) pvs_nil)))) t_a100 (by decide) (by decide)) rfl fun v5 _ _ h => ?_
 replace h := h.mm fun m => m.freeze 0 rfl
 obtain ⟨r4, er4, H⟩ := bindE H
 refine gs h (o_call (slices_Concat_s_byte_byte.spc v5 ([r1, r2, ([0, IntKind.u8.wrap a3] : List Int), r3] : List (List Int)) r4 er4) rfl [0] [] (by decide) rfl rfl) rfl fun v6 _ _ h => ?_
 refine gs h (o_assign rfl) rfl fun _ _ _ h => ?_
 refine GoR.done ?_
 rw [← som H]
 exact g_ret (vs := [v6]) h Try.func62 ⟨rfl, trivial⟩ ⟨v6, rfl, (h.mem.pick [0] (by decide) rfl)⟩
def sum_Pseudo.g (k_ : Nat) (a1 : Int) (a2 : Int) (a3 : Int) (a4 : Int) : Option ((List Int)) :=
  (bits_Put.g k_ a1 4 true).bind fun r1 => (bits_Put.g k_ a2 4 true).bind fun r2 => (bits_Put.g k_ (IntKind.u64.wrap a4) 2 true).bind fun r3 => (slices_Concat_s_byte_byte.g k_ ([r1, r2, ([0, IntKind.u8.wrap a3] : List Int), r3] : List (List Int))).bind fun r4 => some (r4)
theorem sum_Pseudo.le (k_ : Nat) (a1 : Int) (a2 : Int) (a3 : Int) (a4 : Int) : Le (sum_Pseudo.g k_ a1 a2 a3 a4) (sum_Pseudo.f a1 a2 a3 a4) := by
 unfold sum_Pseudo.g sum_Pseudo.f
 repeat' (first | with_reducible refine le_loop fun _ => ?_ | with_reducible refine le_bind ?_ fun _ => ?_ | with_reducible refine le_ite ?_ ?_ | with_reducible refine le_lt fun _ => ?_ | with_reducible refine le_elim (fun _ => ?_) (fun _ => ?_) _ | with_reducible apply bits_Put.le | with_reducible apply slices_Concat_s_byte_byte.le | with_reducible exact le_refl _)
/-! drawbridge/seg.covered -/
noncomputable def seg_covered.f (a1 : List Int) (a2 : Int) (a3 : Int) : Option ((List Int)) :=
  (sum_Pseudo.f a2 a3 6 (a1.length : Int)).bind fun r1 => (app r1 a1).bind fun x1 => some (x1)
set_option maxRecDepth 100000 in
set_option maxHeartbeats 4000000 in
theorem seg_covered.spc (v1 : Value) (a1 : List Int) (a2 : Int) (ha2 : InR .u32 a2) (a3 : Int) (ha3 : InR .u32 a3) (r : (List Int)) (H : seg_covered.f a1 a2 a3 = some r) : Spc Try.prog 48 [v1, .int .u32 a2, .int .u32 a3] [Val (Kd.sl (Kd.int .u8)) v1 a1] [] (fun (s : Value) => s) (fun s => [Val (Kd.osl (Kd.int .u8)) s r]) := by
 unfold seg_covered.f at H
 refine Spc.go Try.func48 rfl (by kernel_rfl) rfl rfl (all_cons (Val.per Per_sl) all_nil) fun F a w h => ?_
 refine Go.seq ?_
 refine Go.reg ?_
 refine gs h (o_assign rfl) rfl fun _ _ _ h => ?_
 refine GoR.done ?_
 refine Go.seq ?_
 refine Go.reg ?_
 iterate 3 (refine gs h (o_move rfl) rfl fun _ _ _ h => ?_)
 have g1 := (len_at 0 rfl h.mem)
 refine gs h (o_ln rfl (rd_at 0 rfl) t_v23) rfl fun _ _ _ h => ?_
 obtain ⟨r1, er1, H⟩ := bindE H
 refine gs h (o_call (sum_Pseudo.spc a2 ha2 a3 ha3 6 (show InR .i64 6 by decide) (a1.length : Int) g1 r1 er1) rfl [] [] (by decide) rfl rfl) rfl fun v2 _ _ h => ?_
 refine gs h (o_move rfl) rfl fun _ _ _ h => ?_
 obtain ⟨x1, ex1, H⟩ := bindE H
 refine gs h (o_app (K := (Kd.int .u8)) 0 rfl rfl rfl (rd_at 1 rfl) ex1 t_a23 t_n23) rfl fun v3 _ _ h => ?_
 refine gs h (o_assign rfl) rfl fun _ _ _ h => ?_
 refine GoR.done ?_
 rw [← som H]
 exact g_ret (vs := [v3]) h Try.func48 ⟨rfl, trivial⟩ ⟨v3, rfl, (h.mem.pick [0] (by decide) rfl)⟩
def seg_covered.g (k_ : Nat) (a1 : List Int) (a2 : Int) (a3 : Int) : Option ((List Int)) :=
  (sum_Pseudo.g k_ a2 a3 6 (a1.length : Int)).bind fun r1 => (app r1 a1).bind fun x1 => some (x1)
theorem seg_covered.le (k_ : Nat) (a1 : List Int) (a2 : Int) (a3 : Int) : Le (seg_covered.g k_ a1 a2 a3) (seg_covered.f a1 a2 a3) := by
 unfold seg_covered.g seg_covered.f
 repeat' (first | with_reducible refine le_loop fun _ => ?_ | with_reducible refine le_bind ?_ fun _ => ?_ | with_reducible refine le_ite ?_ ?_ | with_reducible refine le_lt fun _ => ?_ | with_reducible refine le_elim (fun _ => ?_) (fun _ => ?_) _ | with_reducible apply sum_Pseudo.le | with_reducible exact le_refl _)
/-! drawbridge/sum.Sum -/
noncomputable def sum_Sum.f (a1 : List Int) : Option (Int) :=
  (loop (fun s1 => (if decide (s1.2 < (IntKind.i64.wrap (Int.tdiv (IntKind.i64.wrap ((a1.length : Int) + 1)) 2))) = true then (cut a1 (IntKind.i64.wrap (2 * s1.2)) (a1.length : Int)).bind fun x1 => lt (ovr (List.replicate 2 0 : List Int) 0 ((List.replicate 2 0 : List Int).length : Int) x1) fun y1 => (idx y1 0).bind fun x2 => (idx y1 1).bind fun x3 => lt (IntKind.i64.wrap (s1.1 + (bits .or .i64 (ishl .i64 x2 8) x3))) fun y2 => some (.inl (y2, IntKind.i64.wrap (s1.2 + 1))) else some (.inr (s1.1)))) (0, 0)).bind (fun j1 => (loop (fun s2 => (if decide (0 < (ishr .i64 s2 16)) = true then lt (IntKind.i64.wrap ((bits .and .i64 s2 65535) + (ishr .i64 s2 16))) fun y3 => some (.inl y3) else some (.inr (s2)))) j1).bind (fun j2 => lt (bits .xor .i64 j2 65535) fun y4 => some (y4)))
set_option maxRecDepth 100000 in
set_option maxHeartbeats 4000000 in
theorem sum_Sum.spc (v1 : Value) (a1 : List Int) (r : Int) (H : sum_Sum.f a1 = some r) : Spc Try.prog 47 [v1] [Val (Kd.sl (Kd.int .u8)) v1 a1] [] (fun (s : Unit) => .int .i64 r) (fun s => [Ent.pur (InR .i64 r)]) := by
 unfold sum_Sum.f at H
 refine Spc.go Try.func47 rfl (by kernel_rfl) rfl rfl (all_cons (Val.per Per_sl) all_nil) fun F a w h => ?_
 refine Go.seq ?_
 refine Go.reg ?_
 refine gs h (o_assign rfl) rfl fun _ _ _ h => ?_
 refine GoR.done ?_
 refine Go.seq ?_
 refine Go.reg ?_
 refine gs h (o_assign rfl) rfl fun _ _ _ h => ?_
 refine GoR.done ?_
 refine Go.seq ?_
 refine Go.seq ?_
 refine Go.reg ?_
 refine gs h (o_move rfl) rfl fun _ _ _ h => ?_
 have g1 := (len_at 0 rfl h.mem)
 refine gs h (o_ln rfl (rd_at 0 rfl) t_v23) rfl fun _ _ _ h => ?_
 refine gs h (o_bin rfl rfl rfl) rfl fun _ _ _ h => ?_
 refine gs h (o_quo rfl rfl (show (2 : Int) ≠ 0 by decide)) rfl fun _ _ _ h => ?_
 refine gs h (o_move rfl) rfl fun _ _ _ h => ?_
 refine GoR.done ?_
 refine Go.block ?_
 obtain ⟨o1, hl, G1⟩ := bindE H
 refine g_cut (fun G => ∀ j1 (a : Act) (w : World), o1 = j1 → InR .i64 j1 → St Try.f47.ntmps F [(3, .int .i64 j1)] [] a w → G a w) 2 ?_ fun J1 => ?_
 ·intro j1 a w ho_ g6 h
  rw [ho_] at G1
  have H := G1
  refine Go.seq ?_
  refine Go.block ?_
  obtain ⟨o2, hl, G2⟩ := bindE H
  refine g_cut (fun G => ∀ j2 (a : Act) (w : World), o2 = j2 → InR .i64 j2 → St Try.f47.ntmps F [(3, .int .i64 j2)] [] a w → G a w) 2 ?_ fun J2 => ?_
  ·intro j2 a w ho_ g8 h
   rw [ho_] at G2
   have H := G2
   refine Go.seq ?_
   refine Go.reg ?_
   refine gs h (o_move rfl) rfl fun _ _ _ h => ?_
   refine gs h (o_bin rfl rfl rfl) rfl fun _ _ _ h => ?_
   obtain ⟨y4, ey4, H⟩ := ltE H
   refine gs h (o_assign' rfl (congrArg (fun z => Value.int .i64 z) ey4)) rfl fun _ _ _ h => ?_
   refine GoR.done ?_
   rw [← som H]
   exact g_ret (vs := [.int .i64 y4]) h Try.func47 ⟨rfl, trivial⟩ ⟨(), rfl, ((h.mem.pick [] (by decide) rfl).addpur (ey4 ▸ (wrap_in _ _)))⟩
  refine g_loop (fun s2 G => ∀  (a : Act) (w : World), InR .i64 s2 → St Try.f47.ntmps F [(3, .int .i64 s2)] [] a w → G a w) hl (fun s2 p2 H i2 => ?_) fun I_ => ?_
  ·intro  a w g7 h
   refine Go.seq ?_
   refine Go.seq ?_
   refine Go.reg ?_
   refine gs h (o_move rfl) rfl fun _ _ _ h => ?_
   refine gs h (o_shr rfl rfl (show (0 : Int) ≤ 16 by decide)) rfl fun _ _ _ h => ?_
   refine gs h (o_bin rfl rfl rfl) rfl fun _ _ _ h => ?_
   refine GoR.done ?_
   by_cases c2 : decide (0 < (ishr .i64 s2 16)) = true
   ·have H := ifT c2 H
    refine g_t h rfl c2 ?_
    refine Go.skip ?_
    refine Go.block ?_
    refine Go.reg ?_
    refine gs h (o_move rfl) rfl fun _ _ _ h => ?_
    refine gs h (o_bin rfl rfl rfl) rfl fun _ _ _ h => ?_
    refine gs h (o_move rfl) rfl fun _ _ _ h => ?_
    refine gs h (o_shr rfl rfl (show (0 : Int) ≤ 16 by decide)) rfl fun _ _ _ h => ?_
    refine gs h (o_bin rfl rfl rfl) rfl fun _ _ _ h => ?_
    obtain ⟨y3, ey3, H⟩ := ltE H
    refine gs h (o_assign' rfl (congrArg (fun z => Value.int .i64 z) ey3)) rfl fun _ _ _ h => ?_
    refine GoR.done ?_
    refine Go.inBlock ?_
    have e_ := som H; subst e_
    exact Go.inLoop (nx_in i2 _ _ (ey3 ▸ (wrap_in _ _)) (h.wk (by rfl) [] (by decide) (by rfl)))
   ·have H := ifF c2 H
    refine g_f h rfl c2 ?_
    refine Go.exit rfl ?_
    have e_ := som H; subst e_
    exact J2 s2 _ _ (nx_out i2).symm g7 (h.wk (by rfl) [] (by decide) (by rfl))
  ·exact I_ _ _ g6 (h.wk (by rfl) [] (by decide) (by rfl))
 refine g_loop (fun s1 G => ∀  (a : Act) (w : World), InR .i64 s1.1 → InR .i64 s1.2 → St Try.f47.ntmps F [(0, v1), (3, .int .i64 s1.1), (9, .int .i64 (IntKind.i64.wrap (Int.tdiv (IntKind.i64.wrap ((a1.length : Int) + 1)) 2))), (10, .int .i64 s1.2)] [Val (Kd.sl (Kd.int .u8)) v1 a1] a w → G a w) hl (fun s1 p1 H i1 => ?_) fun I_ => ?_
 ·intro  a w g2 g3 h
  refine Go.seq ?_
  refine Go.reg ?_
  refine gs h (o_bin rfl rfl rfl) rfl fun _ _ _ h => ?_
  refine GoR.done ?_
  refine Go.seq ?_
  by_cases c1 : decide (s1.2 < (IntKind.i64.wrap (Int.tdiv (IntKind.i64.wrap ((a1.length : Int) + 1)) 2))) = true
  ·have H := ifT c1 H
   refine g_t h rfl c1 ?_
   refine Go.skip ?_
   refine Go.seq ?_
   refine Go.block ?_
   refine Go.seq ?_
   refine Go.reg ?_
   refine gs h (o_move rfl) rfl fun _ _ _ h => ?_
   refine gs h (o_assign rfl) rfl fun _ _ _ h => ?_
   refine GoR.done ?_
   refine Go.seq ?_
   refine Go.reg ?_
   refine gs h (o_bz (K := (Kd.arr (Kd.int .u8) 2)) t_zc102 t_r102 rfl (z_arr z_int)) rfl fun v2 _ _ h => ?_
   refine gs h (o_alloc (K := (Kd.arr (Kd.int .u8) 2)) (z := (.agg #[.int .u8 0, .int .u8 0])) rfl (z_arr z_int)) rfl fun b1 _ _ h => ?_
   refine gs0 h (o_st 0 rfl rfl rfl (pv_at Per_arr 1 rfl) rfl t_w102) fun _ _ _ h => ?_
   refine GoR.done ?_
   refine Go.seq ?_
   replace h := h.wk (E' := [(0, v1), (3, .int .i64 s1.1), (9, .int .i64 (IntKind.i64.wrap (Int.tdiv (IntKind.i64.wrap ((a1.length : Int) + 1)) 2))), (10, .int .i64 s1.2), (4, .int .i64 s1.2), (5, .pointer (some ⟨b1, 0, none⟩))]) (L' := [Fld (Kd.arr (Kd.int .u8) 2) b1 0 (List.replicate 2 0 : List Int), Val (Kd.arr (Kd.int .u8) 2) v2 (List.replicate 2 0 : List Int), Val (Kd.sl (Kd.int .u8)) v1 a1]) (by rfl) [0, 1, 2] (by decide) (by rfl)
   obtain ⟨x1, ex1, H⟩ := bindE H
   refine Go.draw (E := [(0, v1), (3, .int .i64 s1.1), (9, .int .i64 (IntKind.i64.wrap (Int.tdiv (IntKind.i64.wrap ((a1.length : Int) + 1)) 2))), (10, .int .i64 s1.2), (4, .int .i64 s1.2), (5, .pointer (some ⟨b1, 0, none⟩))]) [] (L := [Val (Kd.arr (Kd.int .u8) 2) v2 (List.replicate 2 0 : List Int), Val (Kd.sl (Kd.int .u8)) v1 a1]) h rfl rfl 5 [⟨[], [5], [5], false, .con (.slice (some ⟨b1, 0, none⟩) 2 2), none, fun u => [Val (Kd.osl (Kd.int .u8)) (.slice (some ⟨b1, 0, none⟩) 2 2) (List.replicate 2 0 : List Int)], []⟩, ⟨[], [], [], false, .con (v1), none, fun u => [], []⟩, ⟨[], [], [], false, .con (.int .i64 s1.2), none, fun u => [], []⟩, ⟨[2], [], [], false, .con (.int .i64 (IntKind.i64.wrap (2 * s1.2))), none, fun u => [], []⟩, ⟨[1, 2, 3], [], [], false, .own, none, fun u => [Val (Kd.sl (Kd.int .u8)) u x1], []⟩, ⟨[], [], [], false, .con undef, none, fun u => [Fld (Kd.arr (Kd.int .u8) 2) b1 0 (List.replicate 2 0 : List Int)], []⟩] rfl t_mxo (by kernel_rfl) (by rfl) ?_ fun f1 _ _ h => ?_
   ·exact obs_cons (ob_con rfl (gok_none rfl) rfl fun f1 => (OpS.pm (fun _ _ m => m.arr_o 0 rfl (by decide)) (o_slar (K := (Kd.int .u8)) rfl t_r102))) (obs_cons (ob_con rfl (gok_none rfl) rfl fun f1 => (o_move rfl)) (obs_cons (ob_con rfl (gok_none rfl) rfl fun f1 => (o_move rfl)) (obs_cons (ob_con rfl (gok_none rfl) rfl fun f1 => (o_bin rfl rfl rfl)) (obs_cons (ob_own rfl (gok_none rfl) rfl fun f1 => (o_cutl rfl (pv_at Per_sl 1 rfl) rfl ex1 t_v23)) (obs_nil)))))
   replace h := h.wk (E' := [(0, v1), (3, .int .i64 s1.1), (9, .int .i64 (IntKind.i64.wrap (Int.tdiv (IntKind.i64.wrap ((a1.length : Int) + 1)) 2))), (10, .int .i64 s1.2), (5, .pointer (some ⟨b1, 0, none⟩)), (14, .slice (some ⟨b1, 0, none⟩) 2 2), (18, (f1 4))]) (L' := [Val (Kd.osl (Kd.int .u8)) (.slice (some ⟨b1, 0, none⟩) 2 2) (List.replicate 2 0 : List Int), Val (Kd.sl (Kd.int .u8)) (f1 4) x1, Val (Kd.arr (Kd.int .u8) 2) v2 (List.replicate 2 0 : List Int), Val (Kd.sl (Kd.int .u8)) v1 a1]) (by kernel_rfl) [0, 1, 2, 3] (by decide) (by kernel_rfl)
   obtain ⟨y1, ey1, H⟩ := ltE H
   refine gs h (o_cpf 0 rfl rfl rfl (rd_at 1 rfl) t_a23) rfl fun _ _ _ h => ?_
   rw [ey1] at h
   refine GoR.done ?_
   refine Go.reg ?_
   refine gs h (o_move rfl) rfl fun _ _ _ h => ?_
   replace h := h.mm fun m => m.o_arr 0 rfl
   obtain ⟨x2, ex2, H⟩ := bindE H
   refine gs h (o_ixf (K := (Kd.int .u8)) 0 rfl rfl rfl ex2 t_r102) rfl fun _ _ _ h => ?_
   have g4 := (fd_ari 0 rfl ex2 h.mem)
   refine gs h (o_lar (K := (Kd.int .u8)) 0 rfl rfl ex2 X_int t_y5) rfl fun _ _ _ h => ?_
   refine gs h (o_convw rfl t_q5 t_u3 g4 rfl) rfl fun _ _ _ h => ?_
   refine gs h (o_shl rfl rfl (show (0 : Int) ≤ 8 by decide)) rfl fun _ _ _ h => ?_
   obtain ⟨x3, ex3, H⟩ := bindE H
   refine gs h (o_ixf (K := (Kd.int .u8)) 0 rfl rfl rfl ex3 t_r102) rfl fun _ _ _ h => ?_
   have g5 := (fd_ari 0 rfl ex3 h.mem)
   refine gs h (o_lar (K := (Kd.int .u8)) 0 rfl rfl ex3 X_int t_y5) rfl fun _ _ _ h => ?_
   refine gs h (o_convw rfl t_q5 t_u3 g5 rfl) rfl fun _ _ _ h => ?_
   refine gs h (o_bin rfl rfl rfl) rfl fun _ _ _ h => ?_
   refine gs h (o_bin rfl rfl rfl) rfl fun _ _ _ h => ?_
   obtain ⟨y2, ey2, H⟩ := ltE H
   refine gs h (o_assign' rfl (congrArg (fun z => Value.int .i64 z) ey2)) rfl fun _ _ _ h => ?_
   refine GoR.done ?_
   refine Go.inBlock ?_
   refine Go.reg ?_
   refine gs h (o_bin rfl rfl rfl) rfl fun _ _ _ h => ?_
   refine gs h (o_move rfl) rfl fun _ _ _ h => ?_
   refine GoR.done ?_
   have e_ := som H; subst e_
   exact Go.inLoop (nx_in i1 _ _ (ey2 ▸ (wrap_in _ _)) (wrap_in _ _) (h.wk (by rfl) [3] (by decide) (by rfl)))
  ·have H := ifF c1 H
   refine g_f h rfl c1 ?_
   refine Go.exit rfl ?_
   have e_ := som H; subst e_
   exact J1 s1.1 _ _ (nx_out i1).symm g2 (h.wk (by rfl) [] (by decide) (by rfl))
 ·exact I_ _ _ (show InR .i64 0 by decide) (show InR .i64 0 by decide) (h.wk (by rfl) [0] (by decide) (by rfl))
def sum_Sum.g (k_ : Nat) (a1 : List Int) : Option (Int) :=
  (loopK k_ (fun s1 => (if decide (s1.2 < (IntKind.i64.wrap (Int.tdiv (IntKind.i64.wrap ((a1.length : Int) + 1)) 2))) = true then (cut a1 (IntKind.i64.wrap (2 * s1.2)) (a1.length : Int)).bind fun x1 => lt (ovr (List.replicate 2 0 : List Int) 0 ((List.replicate 2 0 : List Int).length : Int) x1) fun y1 => (idx y1 0).bind fun x2 => (idx y1 1).bind fun x3 => lt (IntKind.i64.wrap (s1.1 + (bits .or .i64 (ishl .i64 x2 8) x3))) fun y2 => some (.inl (y2, IntKind.i64.wrap (s1.2 + 1))) else some (.inr (s1.1)))) (0, 0)).bind (fun j1 => (loopK k_ (fun s2 => (if decide (0 < (ishr .i64 s2 16)) = true then lt (IntKind.i64.wrap ((bits .and .i64 s2 65535) + (ishr .i64 s2 16))) fun y3 => some (.inl y3) else some (.inr (s2)))) j1).bind (fun j2 => lt (bits .xor .i64 j2 65535) fun y4 => some (y4)))
theorem sum_Sum.le (k_ : Nat) (a1 : List Int) : Le (sum_Sum.g k_ a1) (sum_Sum.f a1) := by
 unfold sum_Sum.g sum_Sum.f
 repeat' (first | with_reducible refine le_loop fun _ => ?_ | with_reducible refine le_bind ?_ fun _ => ?_ | with_reducible refine le_ite ?_ ?_ | with_reducible refine le_lt fun _ => ?_ | with_reducible refine le_elim (fun _ => ?_) (fun _ => ?_) _ | with_reducible exact le_refl _)
end Go.Proofs.Ytpcbhkigmnpimaa.S
