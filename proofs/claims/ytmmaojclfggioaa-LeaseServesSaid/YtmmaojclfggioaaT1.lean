/- Contracts, printed by a program of this session. -/
import Derived.Test.YtmmaojclfggioaaT0
namespace Go.Proofs.Ytmmaojclfggioaa.S
open Go Go.SL Go.RowKit
set_option linter.unusedVariables false
set_option linter.unusedSimpArgs false
/-! slices.Reverse[[]byte,byte] -/
noncomputable def slices_Reverse_s_byte_byte.f (a1 : List Int) : Option ((List Int)) :=
  lt (IntKind.i64.wrap ((a1.length : Int) - 1)) fun y1 => (loop (fun s1 => (if decide (s1.2.1 < s1.2.2) = true then (idx s1.1 s1.2.2).bind fun x1 => (idx s1.1 s1.2.1).bind fun x2 => (idx s1.1 s1.2.1).bind fun x3 => (idx (s1.1.set s1.2.1.toNat x1) s1.2.2).bind fun x4 => lt ((s1.1.set s1.2.1.toNat x1).set s1.2.2.toNat x2) fun y2 => lt (IntKind.i64.wrap (s1.2.1 + 1)) fun y3 => lt (IntKind.i64.wrap (s1.2.2 - 1)) fun y4 => some (.inl (y2, y3, y4)) else some (.inr (s1.1)))) (a1, 0, y1)).bind (fun z_ => some (z_))
set_option maxRecDepth 100000 in
set_option maxHeartbeats 4000000 in
theorem slices_Reverse_s_byte_byte.spc (v1 : Value) (a1 : List Int) (r : (List Int)) (H : slices_Reverse_s_byte_byte.f a1 = some r) : Spc Try.prog 60 [v1] [] [Val (Kd.osl (Kd.int .u8)) v1 a1] (fun (s : Unit) => .tuple #[]) (fun s => [Val (Kd.osl (Kd.int .u8)) v1 r]) := by
 unfold slices_Reverse_s_byte_byte.f at H
 refine Spc.go Try.func60 rfl (by kernel_rfl) rfl rfl all_nil fun F a w h => ?_
 refine Go.seq ?_
 refine Go.reg ?_
 refine mv h rfl rfl fun h => ?_
 have g1 := (len_own 0 rfl h.mem)
 refine ga h (o_ln rfl (rd_own 0 rfl) t_v22) rfl fun h => ?_
 refine ga h (o_bin rfl rfl rfl) rfl fun h => ?_
 refine ga h (o_assign rfl) rfl fun h => ?_
 obtain ⟨y1, ey1, H⟩ := ltE H
 refine ga h (o_assign' rfl (congrArg (fun z => Value.int .i64 z) ey1)) rfl fun h => ?_
 refine GoR.done ?_
 refine Go.block ?_
 obtain ⟨o1, hl, G1⟩ := bindE H
 refine g_loop (fun s1 G => ∀  (a : Act) (w : World), InR .i64 s1.2.1 → InR .i64 s1.2.2 → St Try.f60.ntmps F [(0, v1), (2, .int .i64 s1.2.1), (3, .int .i64 s1.2.2)] [Val (Kd.osl (Kd.int .u8)) v1 s1.1] a w → G a w) hl (fun s1 p1 H i1 => ?_) fun I_ => ?_
 ·intro  a w g2 g3 h
  refine Go.seq ?_
  refine Go.seq ?_
  refine Go.reg ?_
  refine mv h rfl rfl fun h => ?_
  refine mv h rfl rfl fun h => ?_
  refine ga h (o_bin rfl rfl rfl) rfl fun h => ?_
  refine GoR.done ?_
  by_cases c1 : decide (s1.2.1 < s1.2.2) = true
  ·have H := ifT c1 H
   refine g_t h rfl c1 ?_
   refine Go.skip ?_
   refine Go.seq ?_
   refine Go.block ?_
   replace h := h.wq [(0, v1), (2, .int .i64 s1.2.1), (3, .int .i64 s1.2.2)] [Val (Kd.osl (Kd.int .u8)) v1 s1.1] [0]
   obtain ⟨x1, ex1, H⟩ := bindE H
   obtain ⟨x2, ex2, H⟩ := bindE H
   obtain ⟨x3, ex3, H⟩ := bindE H
   refine Go.draw (E := [(0, v1), (2, .int .i64 s1.2.1), (3, .int .i64 s1.2.2)]) [] (L := []) h rfl rfl 14 [cn (v1), cn (.int .i64 s1.2.1), cn (v1), cn (.int .i64 s1.2.2), cn (v1), cn (.int .i64 s1.2.2), cm [4, 5] [14] [] (elemP v1 (s1.2.2.toNat * Kd.n (Kd.int .u8))) fun u => [], cm [4, 5, 6] [14] [] (.int .u8 x1) fun u => [Ent.pur (InR .u8 x1)], cn (v1), cn (.int .i64 s1.2.1), cm [8, 9] [14] [] (elemP v1 (s1.2.1.toNat * Kd.n (Kd.int .u8))) fun u => [], cm [8, 9, 10] [14] [] (.int .u8 x2) fun u => [Ent.pur (InR .u8 x2)], cm [0, 1] [14] [] (elemP v1 (s1.2.1.toNat * Kd.n (Kd.int .u8))) fun u => [], cm [0, 1, 4, 5, 6, 7, 12] [14, 7] [14] (undef) fun u => [Val (Kd.osl (Kd.int .u8)) v1 (s1.1.set s1.2.1.toNat x1)], cm [] [] [] undef fun u => [Val (Kd.osl (Kd.int .u8)) v1 s1.1]] rfl t_mxo (by kernel_rfl) (by rfl) ?_ fun f1 _ _ h => ?_
   ·exact ox rfl (o_move rfl) (ox rfl (o_move rfl) (ox rfl (o_move rfl) (ox rfl (o_move rfl) (ox rfl (o_move rfl) (ox rfl (o_move rfl) (ox rfl (o_ix rfl rfl (rd_own 0 rfl) ex1 t_v22) (ox rfl (OpS.pur (fun F w m_ => (rd_inr (rd_own 0 rfl) ex1 m_)) (o_lex rfl (rd_own 0 rfl) ex1 X_int t_y5 (by decide))) (ox rfl (o_move rfl) (ox rfl (o_move rfl) (ox rfl (o_ix rfl rfl (rd_own 0 rfl) ex2 t_v22) (ox rfl (OpS.pur (fun F w m_ => (rd_inr (rd_own 0 rfl) ex2 m_)) (o_lex rfl (rd_own 0 rfl) ex2 X_int t_y5 (by decide))) (ox rfl (o_ix rfl rfl (rd_own 0 rfl) ex3 t_v22) (ox rfl (OpS.fact (p := InR .u8 x1) (fun F w m_ => (Mem.pur 1 rfl m_)) fun g4 => (o_ste 0 rfl rfl rfl (pv_int g4) ex3 t_w5 (by decide))) (obs_nil))))))))))))))
   replace h := h.wk (E' := [(0, v1), (2, .int .i64 s1.2.1), (3, .int .i64 s1.2.2), (16, v1), (17, .int .i64 s1.2.2), (25, .int .u8 x2)]) (L' := [Ent.pur (InR .u8 x1), Ent.pur (InR .u8 x2), Val (Kd.osl (Kd.int .u8)) v1 (s1.1.set s1.2.1.toNat x1)]) (by kernel_rfl) [0, 1, 2] (by decide) (by kernel_rfl)
   have g5 := (Mem.pur 1 rfl h.mem)
   obtain ⟨x4, ex4, H⟩ := bindE H
   refine ga h (o_ix rfl rfl (rd_own 2 rfl) ex4 t_v22) rfl fun h => ?_
   obtain ⟨y2, ey2, H⟩ := ltE H
   refine gs0 h (o_ste 2 rfl rfl rfl (pv_int g5) ex4 t_w5 (by decide)) fun _ _ _ h => ?_
   rw [ey2] at h
   refine GoR.done ?_
   refine Go.inBlock ?_
   refine Go.reg ?_
   refine mv h rfl rfl fun h => ?_
   refine ga h (o_bin rfl rfl rfl) rfl fun h => ?_
   refine mv h rfl rfl fun h => ?_
   refine ga h (o_bin rfl rfl rfl) rfl fun h => ?_
   obtain ⟨y3, ey3, H⟩ := ltE H
   refine ga h (o_assign' rfl (congrArg (fun z => Value.int .i64 z) ey3)) rfl fun h => ?_
   obtain ⟨y4, ey4, H⟩ := ltE H
   refine ga h (o_assign' rfl (congrArg (fun z => Value.int .i64 z) ey4)) rfl fun h => ?_
   refine GoR.done ?_
   have e_ := som H; subst e_
   exact Go.inLoop (nx_in i1 _ _ (ey3 ▸ (wrap_in _ _)) (ey4 ▸ (wrap_in _ _)) (h.wr [2]))
  ·have H := ifF c1 H
   refine g_f h rfl c1 ?_
   refine Go.exit rfl ?_
   have e_ := som H; subst e_
   rw [← nx_out i1] at G1
   have H := G1
   rw [← som H]
   exact g_fin (vs := []) h Try.func60 trivial ⟨(), rfl, (h.mem.pick [0] (by decide) rfl)⟩
 ·exact I_ _ _ (show InR .i64 0 by decide) (ey1 ▸ (wrap_in _ _)) (h.wr [0])
def slices_Reverse_s_byte_byte.g (k_ : Nat) (a1 : List Int) : Option ((List Int)) :=
  lt (IntKind.i64.wrap ((a1.length : Int) - 1)) fun y1 => (loopK k_ (fun s1 => (if decide (s1.2.1 < s1.2.2) = true then (idx s1.1 s1.2.2).bind fun x1 => (idx s1.1 s1.2.1).bind fun x2 => (idx s1.1 s1.2.1).bind fun x3 => (idx (s1.1.set s1.2.1.toNat x1) s1.2.2).bind fun x4 => lt ((s1.1.set s1.2.1.toNat x1).set s1.2.2.toNat x2) fun y2 => lt (IntKind.i64.wrap (s1.2.1 + 1)) fun y3 => lt (IntKind.i64.wrap (s1.2.2 - 1)) fun y4 => some (.inl (y2, y3, y4)) else some (.inr (s1.1)))) (a1, 0, y1)).bind (fun z_ => some (z_))
theorem slices_Reverse_s_byte_byte.le (k_ : Nat) (a1 : List Int) : Le (slices_Reverse_s_byte_byte.g k_ a1) (slices_Reverse_s_byte_byte.f a1) := by
 unfold slices_Reverse_s_byte_byte.g slices_Reverse_s_byte_byte.f
 repeat' (first | with_reducible refine le_loop fun _ => ?_ | with_reducible refine le_bind ?_ fun _ => ?_ | with_reducible refine le_ite ?_ ?_ | with_reducible refine le_lt fun _ => ?_ | with_reducible refine le_elim (fun _ => ?_) (fun _ => ?_) _ | with_reducible exact le_refl _)
/-! drawbridge/bits.Put -/
noncomputable def bits_Put.f (a1 : Int) (a2 : Int) (a3 : Bool) : Option ((List Int)) :=
  (mk (max 0 (min a2 8)) 0).bind fun x1 => (loop (fun s1 => (if decide (s1.2 < (x1.length : Int)) = true then if 0 ≤ (IntKind.i64.wrap (8 * s1.2)) then ((idx s1.1 s1.2).bind fun x2 => lt (s1.1.set s1.2.toNat (IntKind.u8.wrap (ishr .u64 a1 (IntKind.i64.wrap (8 * s1.2))))) fun y1 => some (.inl (y1, IntKind.i64.wrap (s1.2 + 1)))) else none else some (.inr (s1.1)))) (x1, 0)).bind (fun j1 => ((if a3 = true then (slices_Reverse_s_byte_byte.f j1).bind fun r1 => some (r1) else some (j1))).bind (fun j2 => some (j2)))
set_option maxRecDepth 100000 in
set_option maxHeartbeats 4000000 in
theorem bits_Put.spc (a1 : Int) (ha1 : InR .u64 a1) (a2 : Int) (ha2 : InR .i64 a2) (a3 : Bool) (r : (List Int)) (H : bits_Put.f a1 a2 a3 = some r) : Spc Try.prog 41 [.int .u64 a1, .int .i64 a2, .bool a3] [] [] (fun (s : Value) => s) (fun s => [Val (Kd.osl (Kd.int .u8)) s r]) := by
 unfold bits_Put.f at H
 refine Spc.go Try.func41 rfl (by kernel_rfl) rfl rfl all_nil fun F a w h => ?_
 refine Go.seq ?_
 refine Go.reg ?_
 refine ga h (o_assign rfl) rfl fun h => ?_
 refine GoR.done ?_
 refine Go.seq ?_
 refine Go.reg ?_
 refine mv h rfl rfl fun h => ?_
 refine ga h (o_min rfl rfl) rfl fun h => ?_
 refine ga h (o_max rfl rfl) rfl fun h => ?_
 obtain ⟨x1, ex1, H⟩ := bindE H
 refine gs h (o_mk (K := (Kd.int .u8)) rfl rfl ex1 t_a22 (by decide) (fun e he => ⟨[.int .u8 0], by cases he; exact t_zc5, z_int⟩)) rfl fun v1 _ _ h => ?_
 refine ga h (o_assign rfl) rfl fun h => ?_
 refine GoR.done ?_
 refine Go.seq ?_
 refine Go.seq ?_
 refine Go.reg ?_
 refine mv h rfl rfl fun h => ?_
 have g1 := (len_own 0 rfl h.mem)
 refine ga h (o_ln rfl (rd_own 0 rfl) t_v22) rfl fun h => ?_
 refine mv h rfl rfl fun h => ?_
 refine GoR.done ?_
 refine Go.block ?_
 obtain ⟨o1, hl, G1⟩ := bindE H
 refine g_cut (fun G => ∀ j1 (v2 : Value) (a : Act) (w : World), o1 = j1 → St Try.f41.ntmps F [(2, .bool a3), (7, v2)] [Val (Kd.osl (Kd.int .u8)) v2 j1] a w → G a w) 2 ?_ fun J1 => ?_
 ·intro j1 v2 a w ho_ h
  rw [ho_] at G1
  have H := G1
  refine Go.seq ?_
  obtain ⟨o2, H, G2⟩ := bindE H
  refine g_cut (fun G => ∀ j2 (a : Act) (w : World), o2 = j2 → St Try.f41.ntmps F [(7, v2)] [Val (Kd.osl (Kd.int .u8)) v2 j2] a w → G a w) 1 ?_ fun J2 => ?_
  ·intro j2 a w ho_ h
   rw [ho_] at G2
   have H := G2
   refine Go.seq ?_
   refine Go.reg ?_
   refine mv h rfl rfl fun h => ?_
   refine ga h (o_assign rfl) rfl fun h => ?_
   refine GoR.done ?_
   rw [← som H]
   exact g_ret (vs := [v2]) h Try.func41 ⟨rfl, trivial⟩ ⟨v2, rfl, (h.mem.pick [0] (by decide) rfl)⟩
  refine Go.seq ?_
  refine Go.reg ?_
  refine mv h rfl rfl fun h => ?_
  refine GoR.done ?_
  by_cases c2 : a3 = true
  ·have H := ifT c2 H
   refine g_t h rfl c2 ?_
   refine Go.reg ?_
   refine mv h rfl rfl fun h => ?_
   obtain ⟨r1, er1, H⟩ := bindE H
   refine ga h (o_call (slices_Reverse_s_byte_byte.spc v2 j1 r1 er1) rfl [] [0] (by decide) rfl rfl) rfl fun h => ?_
   refine GoR.done ?_
   exact J2 r1 _ _ (som H).symm (h.wr [0])
  ·have H := ifF c2 H
   refine g_f h rfl c2 ?_
   refine Go.skip ?_
   exact J2 j1 _ _ (som H).symm (h.wr [0])
 refine g_loop (fun s1 G => ∀  (a : Act) (w : World), InR .i64 s1.2 → St Try.f41.ntmps F [(0, .int .u64 a1), (2, .bool a3), (7, v1), (14, .int .i64 (x1.length : Int)), (15, .int .i64 s1.2)] [Val (Kd.osl (Kd.int .u8)) v1 s1.1] a w → G a w) hl (fun s1 p1 H i1 => ?_) fun I_ => ?_
 ·intro  a w g2 h
  refine Go.seq ?_
  refine Go.reg ?_
  refine ga h (o_bin rfl rfl rfl) rfl fun h => ?_
  refine GoR.done ?_
  refine Go.seq ?_
  by_cases c1 : decide (s1.2 < (x1.length : Int)) = true
  ·have H := ifT c1 H
   refine g_t h rfl c1 ?_
   refine Go.skip ?_
   refine Go.seq ?_
   refine Go.block ?_
   refine Go.seq ?_
   refine Go.reg ?_
   refine mv h rfl rfl fun h => ?_
   refine ga h (o_assign rfl) rfl fun h => ?_
   refine GoR.done ?_
   refine Go.reg ?_
   iterate 4 (refine ga h (o_move rfl) rfl fun h => ?_)
   refine ga h (o_bin rfl rfl rfl) rfl fun h => ?_
   obtain ⟨q1, H⟩ := ifS H
   refine ga h (o_shr rfl rfl q1) rfl fun h => ?_
   refine ga h (o_conv rfl t_q70 t_u5) rfl fun h => ?_
   obtain ⟨x2, ex2, H⟩ := bindE H
   refine ga h (o_ix rfl rfl (rd_own 0 rfl) ex2 t_v22) rfl fun h => ?_
   obtain ⟨y1, ey1, H⟩ := ltE H
   refine gs0 h (o_ste 0 rfl rfl rfl (pv_int (wrap_in _ _)) ex2 t_w5 (by decide)) fun _ _ _ h => ?_
   rw [ey1] at h
   refine GoR.done ?_
   refine Go.inBlock ?_
   refine Go.reg ?_
   refine ga h (o_bin rfl rfl rfl) rfl fun h => ?_
   refine mv h rfl rfl fun h => ?_
   refine GoR.done ?_
   have e_ := som H; subst e_
   exact Go.inLoop (nx_in i1 _ _ (wrap_in _ _) (h.wr [0]))
  ·have H := ifF c1 H
   refine g_f h rfl c1 ?_
   refine Go.exit rfl ?_
   have e_ := som H; subst e_
   exact J1 s1.1 v1 _ _ (nx_out i1).symm (h.wr [0])
 ·exact I_ _ _ (show InR .i64 0 by decide) (h.wr [0])
def bits_Put.g (k_ : Nat) (a1 : Int) (a2 : Int) (a3 : Bool) : Option ((List Int)) :=
  (mk (max 0 (min a2 8)) 0).bind fun x1 => (loopK k_ (fun s1 => (if decide (s1.2 < (x1.length : Int)) = true then if 0 ≤ (IntKind.i64.wrap (8 * s1.2)) then ((idx s1.1 s1.2).bind fun x2 => lt (s1.1.set s1.2.toNat (IntKind.u8.wrap (ishr .u64 a1 (IntKind.i64.wrap (8 * s1.2))))) fun y1 => some (.inl (y1, IntKind.i64.wrap (s1.2 + 1)))) else none else some (.inr (s1.1)))) (x1, 0)).bind (fun j1 => ((if a3 = true then (slices_Reverse_s_byte_byte.g k_ j1).bind fun r1 => some (r1) else some (j1))).bind (fun j2 => some (j2)))
theorem bits_Put.le (k_ : Nat) (a1 : Int) (a2 : Int) (a3 : Bool) : Le (bits_Put.g k_ a1 a2 a3) (bits_Put.f a1 a2 a3) := by
 unfold bits_Put.g bits_Put.f
 repeat' (first | with_reducible refine le_loop fun _ => ?_ | with_reducible refine le_bind ?_ fun _ => ?_ | with_reducible refine le_ite ?_ ?_ | with_reducible refine le_lt fun _ => ?_ | with_reducible refine le_elim (fun _ => ?_) (fun _ => ?_) _ | with_reducible apply slices_Reverse_s_byte_byte.le | with_reducible exact le_refl _)
/-! drawbridge/dhcp.Put$1 -/
noncomputable def dhcp_Put_1.f (a1 : Int) (a2 : Int) (a3 : List Int) : Option ((List Int)) :=
  if inB a3 a1 (a3.length : Int) then ((bits_Put.f a2 4 true).bind fun r1 => lt (ovr a3 a1 (a3.length : Int) r1) fun y1 => some (y1)) else none
set_option maxRecDepth 100000 in
set_option maxHeartbeats 4000000 in
theorem dhcp_Put_1.spc (a1 : Int) (ha1 : InR .i64 a1) (a2 : Int) (ha2 : InR .u32 a2) (b1 : Nat) (a3 : List Int) (r : (List Int)) (H : dhcp_Put_1.f a1 a2 a3 = some r) : Spc Try.prog 40 [.int .i64 a1, .int .u32 a2, pt b1] [] [Fld (Kd.osl (Kd.int .u8)) b1 0 a3] (fun (s : Unit) => .tuple #[]) (fun s => [Fld (Kd.osl (Kd.int .u8)) b1 0 r]) := by
 unfold dhcp_Put_1.f at H
 refine Spc.go Try.func40 rfl (by kernel_rfl) rfl rfl all_nil fun F a w h => ?_
 obtain ⟨v1, h⟩ := h.unp 0 rfl
 replace h := h.mm fun m => m.isl 1 rfl
 replace h := h.wq [(0, .int .i64 a1), (1, .int .u32 a2), (2, pt b1)] [Ent.pur (IsSl v1 a3.length), Fld (Kd.eq v1) b1 0 (), Val (Kd.osl (Kd.int .u8)) v1 a3] [0, 1, 2]
 obtain ⟨q2, H⟩ := ifS H
 obtain ⟨r1, er1, H⟩ := bindE H
 refine Go.draw (E := [(0, .int .i64 a1), (1, .int .u32 a2), (2, pt b1)]) [] (L := [Ent.pur (IsSl v1 a3.length), Fld (Kd.eq v1) b1 0 (), Val (Kd.osl (Kd.int .u8)) v1 a3]) h rfl rfl 6 [cn (v1), cn (.int .i64 a1), ce [0, 1] (subV v1 a1.toNat (a3.length : Int).toNat (Kd.n (Kd.int .u8))), cn (.int .u32 a2), ce [3] (.int .u64 a2), cw [3, 4] [] [] fun u => [Val (Kd.osl (Kd.int .u8)) u r1]] rfl t_mxo (by kernel_rfl) (by rfl) ?_ fun f3 _ _ h => ?_
 ·exact ox rfl (o_ldx 1 rfl rfl X_eq t_y22) (ox rfl (o_move rfl) (ox rfl (OpS.fact (fun F w m_ => (Mem.pur 0 rfl m_)) fun g1 => (o_ownlp (n := 1) g1 rfl rfl q2 t_v22)) (ox rfl (o_move rfl) (ox rfl (o_convw rfl t_q25 t_u70 ha2 rfl) (oy rfl (o_call (bits_Put.spc a2 (inr_wid (k := .u32) (k' := .u64) ha2 rfl) 4 (show InR .i64 4 by decide) true r1 er1) rfl [] [] (by decide) rfl rfl) (obs_nil))))))
 replace h := h.wk (E' := [(7, subV v1 a1.toNat (a3.length : Int).toNat (Kd.n (Kd.int .u8))), (10, (f3 5))]) (L' := [Val (Kd.osl (Kd.int .u8)) (f3 5) r1, Ent.pur (IsSl v1 a3.length), Fld (Kd.eq v1) b1 0 (), Val (Kd.osl (Kd.int .u8)) v1 a3]) (by kernel_rfl) [0, 1, 2, 3] (by decide) (by kernel_rfl)
 obtain ⟨y1, ey1, H⟩ := ltE H
 refine ga h (o_cp 3 rfl rfl rfl (rd_own 0 rfl) q2 t_a22) rfl fun h => ?_
 rw [ey1] at h
 refine GoR.done ?_
 replace h := h.mm fun m => (m.pull (Lo := [Fld (Kd.eq v1) b1 0 (), Val (Kd.osl (Kd.int .u8)) v1 y1]) [2, 3] (by decide) rfl).pck
 rw [← som H]
 exact g_fin (vs := []) h Try.func40 trivial ⟨(), rfl, (h.mem.pick [0] (by decide) rfl)⟩
def dhcp_Put_1.g (k_ : Nat) (a1 : Int) (a2 : Int) (a3 : List Int) : Option ((List Int)) :=
  if inB a3 a1 (a3.length : Int) then ((bits_Put.g k_ a2 4 true).bind fun r1 => lt (ovr a3 a1 (a3.length : Int) r1) fun y1 => some (y1)) else none
theorem dhcp_Put_1.le (k_ : Nat) (a1 : Int) (a2 : Int) (a3 : List Int) : Le (dhcp_Put_1.g k_ a1 a2 a3) (dhcp_Put_1.f a1 a2 a3) := by
 unfold dhcp_Put_1.g dhcp_Put_1.f
 repeat' (first | with_reducible refine le_loop fun _ => ?_ | with_reducible refine le_bind ?_ fun _ => ?_ | with_reducible refine le_ite ?_ ?_ | with_reducible refine le_lt fun _ => ?_ | with_reducible refine le_elim (fun _ => ?_) (fun _ => ?_) _ | with_reducible apply bits_Put.le | with_reducible exact le_refl _)
/-! slices.Grow[[]byte,byte] -/
noncomputable def slices_Grow_s_byte_byte.f (a1 : Int) : Option ((List Int)) :=
  (if decide (a1 < 0) = true then none else (lt (IntKind.i64.wrap (a1 - (IntKind.i64.wrap (0 - 0)))) fun y1 => (if decide (0 < y1) = true then (mk y1 0).bind fun x1 => (cut x1 0 0).bind fun x2 => some (x2) else some ([]))).bind (fun j1 => some (j1)))
set_option maxRecDepth 100000 in
set_option maxHeartbeats 4000000 in
theorem slices_Grow_s_byte_byte.spc (a1 : Int) (ha1 : InR .i64 a1) (r : (List Int)) (H : slices_Grow_s_byte_byte.f a1 = some r) : Spc Try.prog 61 [.slice none 0 0, .int .i64 a1] [] [] (fun (s : Value) => s) (fun s => [Val (Kd.osl (Kd.int .u8)) s r]) := by
 unfold slices_Grow_s_byte_byte.f at H
 refine Spc.go Try.func61 rfl (by kernel_rfl) rfl rfl all_nil fun F a w h => ?_
 refine Go.seq ?_
 refine Go.reg ?_
 refine ga h (o_assign rfl) rfl fun h => ?_
 refine GoR.done ?_
 refine Go.seq ?_
 refine Go.seq ?_
 refine Go.reg ?_
 refine mv h rfl rfl fun h => ?_
 refine ga h (o_bin rfl rfl rfl) rfl fun h => ?_
 refine GoR.done ?_
 by_cases c1 : decide (a1 < 0) = true
 ·have H := ifT c1 H
  refine g_t h rfl c1 ?_
  cases H
 ·have H := ifF c1 H
  refine g_f h rfl c1 ?_
  refine Go.skip ?_
  refine Go.seq ?_
  obtain ⟨o1, H, G1⟩ := bindE H
  refine g_cut (fun G => ∀ j1 (v2 : Value) (a : Act) (w : World), o1 = j1 → St Try.f61.ntmps F [(0, v2)] [Val (Kd.osl (Kd.int .u8)) v2 j1] a w → G a w) 1 ?_ fun J1 => ?_
  ·intro j1 v2 a w ho_ h
   rw [ho_] at G1
   have H := G1
   refine Go.seq ?_
   refine Go.reg ?_
   refine mv h rfl rfl fun h => ?_
   refine ga h (o_assign rfl) rfl fun h => ?_
   refine GoR.done ?_
   rw [← som H]
   exact g_ret (vs := [v2]) h Try.func61 ⟨rfl, trivial⟩ ⟨v2, rfl, (h.mem.pick [0] (by decide) rfl)⟩
  refine Go.seq ?_
  refine Go.reg ?_
  refine mv h rfl rfl fun h => ?_
  refine mv h rfl rfl fun h => ?_
  refine ga h (o_capn rfl t_v22) rfl fun h => ?_
  refine mv h rfl rfl fun h => ?_
  refine ga h (o_ln (K := (Kd.int .u8)) rfl (rd_pv pv_nil) t_v22) rfl fun h => ?_
  refine ga h (o_bin rfl rfl rfl) rfl fun h => ?_
  refine ga h (o_bin rfl rfl rfl) rfl fun h => ?_
  obtain ⟨y1, ey1, H⟩ := ltE H
  refine ga h (o_assign' rfl (congrArg (fun z => Value.int .i64 z) ey1)) rfl fun h => ?_
  refine GoR.done ?_
  refine Go.seq ?_
  refine Go.reg ?_
  refine mv h rfl rfl fun h => ?_
  refine ga h (o_bin rfl rfl rfl) rfl fun h => ?_
  refine GoR.done ?_
  by_cases c2 : decide (0 < y1) = true
  ·have H := ifT c2 H
   refine g_t h rfl c2 ?_
   refine Go.reg ?_
   refine mv h rfl rfl fun h => ?_
   refine mv h rfl rfl fun h => ?_
   refine ga h (o_capn rfl t_v22) rfl fun h => ?_
   refine ga h (o_nilh rfl rfl t_v22) rfl fun h => ?_
   refine mv h rfl rfl fun h => ?_
   obtain ⟨x1, ex1, H⟩ := bindE H
   refine gs h (o_appz (K := (Kd.int .u8)) rfl rfl ex1 t_a22 t_u3 (by decide) (fun e he => ⟨[.int .u8 0], by cases he; exact t_zc5, z_int⟩)) rfl fun v1 _ _ h => ?_
   refine mv h rfl rfl fun h => ?_
   refine ga h (o_ln (K := (Kd.int .u8)) rfl (rd_pv pv_nil) t_v22) rfl fun h => ?_
   obtain ⟨x2, ex2, H⟩ := bindE H
   refine ga h (o_subh 0 rfl rfl rfl ex2 t_v22) rfl fun h => ?_
   refine ga h (o_assign rfl) rfl fun h => ?_
   refine GoR.done ?_
   exact J1 x2 (subV v1 (0 : Int).toNat (0 : Int).toNat (Kd.n (Kd.int .u8))) _ _ (som H).symm (h.wr [0])
  ·have H := ifF c2 H
   refine g_f h rfl c2 ?_
   refine Go.skip ?_
   replace h := h.mm fun m => m.nilo (Kd.int .u8)
   exact J1 [] (.slice none 0 0) _ _ (som H).symm (h.wr [0])
def slices_Grow_s_byte_byte.g (k_ : Nat) (a1 : Int) : Option ((List Int)) :=
  (if decide (a1 < 0) = true then none else (lt (IntKind.i64.wrap (a1 - (IntKind.i64.wrap (0 - 0)))) fun y1 => (if decide (0 < y1) = true then (mk y1 0).bind fun x1 => (cut x1 0 0).bind fun x2 => some (x2) else some ([]))).bind (fun j1 => some (j1)))
theorem slices_Grow_s_byte_byte.le (k_ : Nat) (a1 : Int) : Le (slices_Grow_s_byte_byte.g k_ a1) (slices_Grow_s_byte_byte.f a1) := by
 unfold slices_Grow_s_byte_byte.g slices_Grow_s_byte_byte.f
 repeat' (first | with_reducible refine le_loop fun _ => ?_ | with_reducible refine le_bind ?_ fun _ => ?_ | with_reducible refine le_ite ?_ ?_ | with_reducible refine le_lt fun _ => ?_ | with_reducible refine le_elim (fun _ => ?_) (fun _ => ?_) _ | with_reducible exact le_refl _)
/-! slices.Concat[[]byte,byte] -/
noncomputable def slices_Concat_s_byte_byte.f (a1 : List (List Int)) : Option ((List Int)) :=
  (loop (fun s1 => (if decide (s1.2 < (a1.length : Int)) = true then (idx a1 s1.2).bind fun x1 => lt (IntKind.i64.wrap (s1.1 + (x1.length : Int))) fun y1 => (if decide (y1 < 0) = true then none else some (.inl (y1, IntKind.i64.wrap (s1.2 + 1)))) else some (.inr (s1.1)))) (0, 0)).bind (fun j1 => (slices_Grow_s_byte_byte.f j1).bind fun r1 => (loop (fun s2 => (if decide (s2.2 < (a1.length : Int)) = true then (idx a1 s2.2).bind fun x2 => (app s2.1 x2).bind fun x3 => some (.inl (x3, IntKind.i64.wrap (s2.2 + 1))) else some (.inr (s2.1)))) (r1, 0)).bind (fun j2 => some (j2)))
set_option maxRecDepth 100000 in
set_option maxHeartbeats 4000000 in
theorem slices_Concat_s_byte_byte.spc (v1 : Value) (a1 : List (List Int)) (r : (List Int)) (H : slices_Concat_s_byte_byte.f a1 = some r) : Spc Try.prog 43 [v1] [Val (Kd.sl (Kd.sl (Kd.int .u8))) v1 a1] [] (fun (s : Value) => s) (fun s => [Val (Kd.osl (Kd.int .u8)) s r]) := by
 unfold slices_Concat_s_byte_byte.f at H
 refine Spc.go Try.func43 rfl (by kernel_rfl) rfl rfl (all_cons (Val.per Per_sl) all_nil) fun F a w h => ?_
 refine Go.seq ?_
 refine Go.reg ?_
 refine ga h (o_assign rfl) rfl fun h => ?_
 refine GoR.done ?_
 refine Go.seq ?_
 refine Go.reg ?_
 refine ga h (o_assign rfl) rfl fun h => ?_
 refine GoR.done ?_
 refine Go.seq ?_
 refine Go.seq ?_
 refine Go.reg ?_
 refine mv h rfl rfl fun h => ?_
 have g1 := (len_at 0 rfl h.mem)
 refine ga h (o_ln rfl (rd_at 0 rfl) t_v88) rfl fun h => ?_
 refine mv h rfl rfl fun h => ?_
 refine GoR.done ?_
 refine Go.block ?_
 obtain ⟨o1, hl, G1⟩ := bindE H
 refine g_cut (fun G => ∀ j1 (a : Act) (w : World), o1 = j1 → InR .i64 j1 → St Try.f43.ntmps F [(0, v1), (3, .int .i64 j1)] [Val (Kd.sl (Kd.sl (Kd.int .u8))) v1 a1] a w → G a w) 2 ?_ fun J1 => ?_
 ·intro j1 a w ho_ g5 h
  rw [ho_] at G1
  have H := G1
  refine Go.seq ?_
  refine Go.reg ?_
  refine mv h rfl rfl fun h => ?_
  obtain ⟨r1, er1, H⟩ := bindE H
  refine gs h (o_call (slices_Grow_s_byte_byte.spc j1 g5 r1 er1) rfl [] [] (by decide) rfl rfl) rfl fun v3 _ _ h => ?_
  refine ga h (o_assign rfl) rfl fun h => ?_
  refine GoR.done ?_
  refine Go.seq ?_
  refine Go.seq ?_
  refine Go.reg ?_
  refine mv h rfl rfl fun h => ?_
  have g6 := (len_at 1 rfl h.mem)
  refine ga h (o_ln rfl (rd_at 1 rfl) t_v88) rfl fun h => ?_
  refine mv h rfl rfl fun h => ?_
  refine GoR.done ?_
  refine Go.block ?_
  obtain ⟨o2, hl, G2⟩ := bindE H
  refine g_cut (fun G => ∀ j2 (v7 : Value) (a : Act) (w : World), o2 = j2 → St Try.f43.ntmps F [(6, v7)] [Val (Kd.osl (Kd.int .u8)) v7 j2] a w → G a w) 2 ?_ fun J2 => ?_
  ·intro j2 v7 a w ho_ h
   rw [ho_] at G2
   have H := G2
   refine Go.seq ?_
   refine Go.reg ?_
   refine mv h rfl rfl fun h => ?_
   refine ga h (o_assign rfl) rfl fun h => ?_
   refine GoR.done ?_
   rw [← som H]
   exact g_ret (vs := [v7]) h Try.func43 ⟨rfl, trivial⟩ ⟨v7, rfl, (h.mem.pick [0] (by decide) rfl)⟩
  refine g_loop (fun s2 G => ∀ (v4 : Value) (a : Act) (w : World), InR .i64 s2.2 → St Try.f43.ntmps F [(6, v4), (25, v1), (26, .int .i64 (a1.length : Int)), (27, .int .i64 s2.2)] [Val (Kd.osl (Kd.int .u8)) v4 s2.1, Val (Kd.sl (Kd.sl (Kd.int .u8))) v1 a1] a w → G a w) hl (fun s2 p2 H i2 => ?_) fun I_ => ?_
  ·intro v4 a w g7 h
   refine Go.seq ?_
   refine Go.reg ?_
   refine ga h (o_bin rfl rfl rfl) rfl fun h => ?_
   refine GoR.done ?_
   refine Go.seq ?_
   by_cases c3 : decide (s2.2 < (a1.length : Int)) = true
   ·have H := ifT c3 H
    refine g_t h rfl c3 ?_
    refine Go.skip ?_
    refine Go.seq ?_
    refine Go.block ?_
    refine Go.seq ?_
    refine Go.reg ?_
    obtain ⟨x2, ex2, H⟩ := bindE H
    refine ga h (o_ix rfl rfl (rd_at 1 rfl) ex2 t_v88) rfl fun h => ?_
    refine gs h (o_lev rfl (rd_at 1 rfl) ex2 t_y22 (by decide)) rfl fun v5 _ _ h => ?_
    refine ga h (o_assign rfl) rfl fun h => ?_
    refine GoR.done ?_
    refine Go.reg ?_
    refine mv h rfl rfl fun h => ?_
    refine mv h rfl rfl fun h => ?_
    obtain ⟨x3, ex3, H⟩ := bindE H
    refine gs h (o_app (K := (Kd.int .u8)) 1 rfl rfl rfl (rd_at 0 rfl) ex3 t_a22 t_n22) rfl fun v6 _ _ h => ?_
    refine ga h (o_assign rfl) rfl fun h => ?_
    refine GoR.done ?_
    refine Go.inBlock ?_
    refine Go.reg ?_
    refine ga h (o_bin rfl rfl rfl) rfl fun h => ?_
    refine mv h rfl rfl fun h => ?_
    refine GoR.done ?_
    have e_ := som H; subst e_
    exact Go.inLoop (nx_in i2 v6 _ _ (wrap_in _ _) (h.wr [1, 2]))
   ·have H := ifF c3 H
    refine g_f h rfl c3 ?_
    refine Go.exit rfl ?_
    have e_ := som H; subst e_
    exact J2 s2.1 v4 _ _ (nx_out i2).symm (h.wr [0])
  ·exact I_ v3 _ _ (show InR .i64 0 by decide) (h.wr [0, 1])
 refine g_loop (fun s1 G => ∀  (a : Act) (w : World), InR .i64 s1.1 → InR .i64 s1.2 → St Try.f43.ntmps F [(0, v1), (3, .int .i64 s1.1), (9, v1), (10, .int .i64 (a1.length : Int)), (11, .int .i64 s1.2)] [Val (Kd.sl (Kd.sl (Kd.int .u8))) v1 a1] a w → G a w) hl (fun s1 p1 H i1 => ?_) fun I_ => ?_
 ·intro  a w g2 g3 h
  refine Go.seq ?_
  refine Go.reg ?_
  refine ga h (o_bin rfl rfl rfl) rfl fun h => ?_
  refine GoR.done ?_
  refine Go.seq ?_
  by_cases c1 : decide (s1.2 < (a1.length : Int)) = true
  ·have H := ifT c1 H
   refine g_t h rfl c1 ?_
   refine Go.skip ?_
   refine Go.seq ?_
   refine Go.block ?_
   refine Go.seq ?_
   refine Go.reg ?_
   obtain ⟨x1, ex1, H⟩ := bindE H
   refine ga h (o_ix rfl rfl (rd_at 0 rfl) ex1 t_v88) rfl fun h => ?_
   refine gs h (o_lev rfl (rd_at 0 rfl) ex1 t_y22 (by decide)) rfl fun v2 _ _ h => ?_
   refine ga h (o_assign rfl) rfl fun h => ?_
   refine GoR.done ?_
   refine Go.seq ?_
   refine Go.reg ?_
   refine mv h rfl rfl fun h => ?_
   refine mv h rfl rfl fun h => ?_
   have g4 := (len_at 0 rfl h.mem)
   refine ga h (o_ln rfl (rd_at 0 rfl) t_v22) rfl fun h => ?_
   refine ga h (o_bin rfl rfl rfl) rfl fun h => ?_
   obtain ⟨y1, ey1, H⟩ := ltE H
   refine ga h (o_assign' rfl (congrArg (fun z => Value.int .i64 z) ey1)) rfl fun h => ?_
   refine GoR.done ?_
   refine Go.seq ?_
   refine Go.reg ?_
   refine mv h rfl rfl fun h => ?_
   refine ga h (o_bin rfl rfl rfl) rfl fun h => ?_
   refine GoR.done ?_
   by_cases c2 : decide (y1 < 0) = true
   ·have H := ifT c2 H
    refine g_t h rfl c2 ?_
    cases H
   ·have H := ifF c2 H
    refine g_f h rfl c2 ?_
    refine Go.skip ?_
    refine Go.inBlock ?_
    refine Go.reg ?_
    refine ga h (o_bin rfl rfl rfl) rfl fun h => ?_
    refine mv h rfl rfl fun h => ?_
    refine GoR.done ?_
    have e_ := som H; subst e_
    exact Go.inLoop (nx_in i1 _ _ (ey1 ▸ (wrap_in _ _)) (wrap_in _ _) (h.wr [1]))
  ·have H := ifF c1 H
   refine g_f h rfl c1 ?_
   refine Go.exit rfl ?_
   have e_ := som H; subst e_
   exact J1 s1.1 _ _ (nx_out i1).symm g2 (h.wr [0])
 ·exact I_ _ _ (show InR .i64 0 by decide) (show InR .i64 0 by decide) (h.wr [0])
def slices_Concat_s_byte_byte.g (k_ : Nat) (a1 : List (List Int)) : Option ((List Int)) :=
  (loopK k_ (fun s1 => (if decide (s1.2 < (a1.length : Int)) = true then (idx a1 s1.2).bind fun x1 => lt (IntKind.i64.wrap (s1.1 + (x1.length : Int))) fun y1 => (if decide (y1 < 0) = true then none else some (.inl (y1, IntKind.i64.wrap (s1.2 + 1)))) else some (.inr (s1.1)))) (0, 0)).bind (fun j1 => (slices_Grow_s_byte_byte.g k_ j1).bind fun r1 => (loopK k_ (fun s2 => (if decide (s2.2 < (a1.length : Int)) = true then (idx a1 s2.2).bind fun x2 => (app s2.1 x2).bind fun x3 => some (.inl (x3, IntKind.i64.wrap (s2.2 + 1))) else some (.inr (s2.1)))) (r1, 0)).bind (fun j2 => some (j2)))
theorem slices_Concat_s_byte_byte.le (k_ : Nat) (a1 : List (List Int)) : Le (slices_Concat_s_byte_byte.g k_ a1) (slices_Concat_s_byte_byte.f a1) := by
 unfold slices_Concat_s_byte_byte.g slices_Concat_s_byte_byte.f
 repeat' (first | with_reducible refine le_loop fun _ => ?_ | with_reducible refine le_bind ?_ fun _ => ?_ | with_reducible refine le_ite ?_ ?_ | with_reducible refine le_lt fun _ => ?_ | with_reducible refine le_elim (fun _ => ?_) (fun _ => ?_) _ | with_reducible apply slices_Grow_s_byte_byte.le | with_reducible exact le_refl _)
/-! drawbridge/dhcp.Put$2 -/
noncomputable def dhcp_Put_2.f (a1 : Int) (a2 : Int) (a3 : List Int) : Option ((List Int)) :=
  (if decide (0 < a2) = true then (bits_Put.f a2 4 true).bind fun r1 => (slices_Concat_s_byte_byte.f ([a3, ([a1, 4] : List Int), r1] : List (List Int))).bind fun r2 => some (r2) else some (a3))
set_option maxRecDepth 100000 in
set_option maxHeartbeats 4000000 in
theorem dhcp_Put_2.spc (a1 : Int) (ha1 : InR .u8 a1) (a2 : Int) (ha2 : InR .u32 a2) (b1 : Nat) (a3 : List Int) (r : (List Int)) (H : dhcp_Put_2.f a1 a2 a3 = some r) : Spc Try.prog 42 [.int .u8 a1, .int .u32 a2, pt b1] [] [Fld (Kd.osl (Kd.int .u8)) b1 0 a3] (fun (s : Unit) => .tuple #[]) (fun s => [Fld (Kd.osl (Kd.int .u8)) b1 0 r]) := by
 unfold dhcp_Put_2.f at H
 refine Spc.go Try.func42 rfl (by kernel_rfl) rfl rfl all_nil fun F a w h => ?_
 refine Go.seq ?_
 refine Go.reg ?_
 refine mv h rfl rfl fun h => ?_
 refine ga h (o_bin rfl rfl rfl) rfl fun h => ?_
 refine GoR.done ?_
 by_cases c1 : decide (0 < a2) = true
 ·have H := ifT c1 H
  refine g_t h rfl c1 ?_
  obtain ⟨v1, h⟩ := h.unp 0 rfl
  replace h := h.wq [(0, .int .u8 a1), (1, .int .u32 a2), (2, pt b1)] [Fld (Kd.eq v1) b1 0 (), Val (Kd.osl (Kd.int .u8)) v1 a3] [0, 1]
  obtain ⟨r1, er1, H⟩ := bindE H
  refine Go.draw (E := [(0, .int .u8 a1), (1, .int .u32 a2), (2, pt b1)]) [] (L := [Fld (Kd.eq v1) b1 0 (), Val (Kd.osl (Kd.int .u8)) v1 a3]) h rfl rfl 6 [cn (v1), cn (.int .u8 a1), cw [1] [] [] fun u => [Val (Kd.osl (Kd.int .u8)) u ([a1, 4] : List Int)], cn (.int .u32 a2), ce [3] (.int .u64 a2), cw [3, 4] [] [] fun u => [Val (Kd.osl (Kd.int .u8)) u r1]] rfl t_mxo (by kernel_rfl) (by rfl) ?_ fun f2 _ _ h => ?_
  ·exact ox rfl (o_ldx 0 rfl rfl X_eq t_y22) (ox rfl (o_move rfl) (oy rfl (o_bs (K := (Kd.int .u8)) (vs := [.int .u8 a1, .int .u8 4]) (xs := ([a1, 4] : List Int)) rfl rfl (pvs_cons (pv_int ha1) (pvs_cons (pv_int (show InR .u8 4 by decide)) pvs_nil)) t_a22 (by decide) (by decide)) (ox rfl (o_move rfl) (ox rfl (o_convw rfl t_q25 t_u70 ha2 rfl) (oy rfl (o_call (bits_Put.spc a2 (inr_wid (k := .u32) (k' := .u64) ha2 rfl) 4 (show InR .i64 4 by decide) true r1 er1) rfl [] [] (by decide) rfl rfl) (obs_nil))))))
  replace h := h.wk (E' := [(2, pt b1), (7, v1), (9, (f2 2)), (12, (f2 5))]) (L' := [Val (Kd.osl (Kd.int .u8)) (f2 2) ([a1, 4] : List Int), Val (Kd.osl (Kd.int .u8)) (f2 5) r1, Fld (Kd.eq v1) b1 0 (), Val (Kd.osl (Kd.int .u8)) v1 a3]) (by kernel_rfl) [0, 1, 2, 3] (by decide) (by kernel_rfl)
  replace h := h.mm fun m => m.freeze 3 rfl
  replace h := h.mm fun m => m.freeze 0 rfl
  replace h := h.mm fun m => m.freeze 1 rfl
  refine gs h (o_bs (K := (Kd.sl (Kd.int .u8))) (vs := [v1, (f2 2), (f2 5)]) (xs := ([a3, ([a1, 4] : List Int), r1] : List (List Int))) rfl rfl (pvs_cons (pv_at Per_sl 3 rfl) (pvs_cons (pv_at Per_sl 0 rfl) (pvs_cons (pv_at Per_sl 1 rfl) pvs_nil))) t_a88 (by decide) (by decide)) rfl fun v4 _ _ h => ?_
  replace h := h.mm fun m => m.freeze 0 rfl
  obtain ⟨r2, er2, H⟩ := bindE H
  refine gs h (o_call (slices_Concat_s_byte_byte.spc v4 ([a3, ([a1, 4] : List Int), r1] : List (List Int)) r2 er2) rfl [0] [] (by decide) rfl rfl) rfl fun v5 _ _ h => ?_
  refine gs0 h (o_st 4 rfl rfl rfl (pv_eqo 0 rfl) rfl t_w22) fun _ _ _ h => ?_
  refine GoR.done ?_
  replace h := h.mm fun m => (m.pull (Lo := [Fld (Kd.eq v5) b1 0 (), Val (Kd.osl (Kd.int .u8)) v5 r2]) [4, 0] (by decide) rfl).pck
  rw [← som H]
  exact g_fin (vs := []) h Try.func42 trivial ⟨(), rfl, (h.mem.pick [0] (by decide) rfl)⟩
 ·have H := ifF c1 H
  refine g_f h rfl c1 ?_
  refine Go.skip ?_
  rw [← som H]
  exact g_fin (vs := []) h Try.func42 trivial ⟨(), rfl, (h.mem.pick [0] (by decide) rfl)⟩
def dhcp_Put_2.g (k_ : Nat) (a1 : Int) (a2 : Int) (a3 : List Int) : Option ((List Int)) :=
  (if decide (0 < a2) = true then (bits_Put.g k_ a2 4 true).bind fun r1 => (slices_Concat_s_byte_byte.g k_ ([a3, ([a1, 4] : List Int), r1] : List (List Int))).bind fun r2 => some (r2) else some (a3))
theorem dhcp_Put_2.le (k_ : Nat) (a1 : Int) (a2 : Int) (a3 : List Int) : Le (dhcp_Put_2.g k_ a1 a2 a3) (dhcp_Put_2.f a1 a2 a3) := by
 unfold dhcp_Put_2.g dhcp_Put_2.f
 repeat' (first | with_reducible refine le_loop fun _ => ?_ | with_reducible refine le_bind ?_ fun _ => ?_ | with_reducible refine le_ite ?_ ?_ | with_reducible refine le_lt fun _ => ?_ | with_reducible refine le_elim (fun _ => ?_) (fun _ => ?_) _ | with_reducible apply bits_Put.le | with_reducible apply slices_Concat_s_byte_byte.le | with_reducible exact le_refl _)
/-! drawbridge/dhcp.Put -/
noncomputable def dhcp_Put.f (a1 : TDhcp) : Option ((List Int) × Int) :=
  ((if decide (a1.Op < 1) = true then some (true) else (if decide (2 < a1.Op) = true then some (true) else (if (!decide ((a1.Mac.length : Int) = 6)) = true then some (true) else (if decide (a1.Type_ < 1) = true then some (true) else some (decide (8 < a1.Type_))))))).bind (fun j1 => (if j1 = true then some (([], 2)) else (mk 240 0).bind fun x1 => (idx x1 0).bind fun x2 => (idx (x1.set (0 : Int).toNat (IntKind.u8.wrap a1.Op)) 1).bind fun x3 => (idx ((x1.set (0 : Int).toNat (IntKind.u8.wrap a1.Op)).set (1 : Int).toNat 1) 2).bind fun x4 => lt (((x1.set (0 : Int).toNat (IntKind.u8.wrap a1.Op)).set (1 : Int).toNat 1).set (2 : Int).toNat 6) fun y1 => (dhcp_Put_1.f 4 a1.Xid y1).bind fun r1 => (dhcp_Put_1.f 12 a1.Ci r1).bind fun r2 => (dhcp_Put_1.f 16 a1.Yi r2).bind fun r3 => if inB r3 28 (r3.length : Int) then (lt (ovr r3 28 (r3.length : Int) a1.Mac) fun y2 => (dhcp_Put_1.f 236 1669485411 y2).bind fun r4 => (app r4 ([53, 1, IntKind.u8.wrap a1.Type_] : List Int)).bind fun x5 => (dhcp_Put_2.f 50 a1.Want x5).bind fun r5 => (dhcp_Put_2.f 54 a1.Server r5).bind fun r6 => (dhcp_Put_2.f 51 a1.Lease r6).bind fun r7 => (dhcp_Put_2.f 1 a1.Mask r7).bind fun r8 => (dhcp_Put_2.f 3 a1.Router r8).bind fun r9 => (dhcp_Put_2.f 6 a1.Dns r9).bind fun r10 => (app r10 ([255] : List Int)).bind fun x6 => some ((x6, 0))) else none))
set_option maxRecDepth 100000 in
set_option maxHeartbeats 4000000 in
theorem dhcp_Put.spc (v1 : Value) (a1 : TDhcp) (r : (List Int) × Int) (H : dhcp_Put.f a1 = some r) : Spc Try.prog 19 [v1] [Val KDhcp v1 a1] [] (fun (s : Value) => .tuple #[s, .int .i64 r.2]) (fun s => [Ent.pur (InR .i64 r.2), Val (Kd.osl (Kd.int .u8)) s r.1]) := by
 unfold dhcp_Put.f at H
 refine Spc.go Try.func19 rfl (by kernel_rfl) rfl rfl (all_cons (Val.per PDhcp) all_nil) fun F a w h => ?_
 refine Go.seq ?_
 refine Go.reg ?_
 refine gs h (o_box (K := KDhcp) rfl (pv_at PDhcp 0 rfl)) rfl fun b1 _ _ h => ?_
 refine ga h (o_assign rfl) rfl fun h => ?_
 refine ga h (o_assign rfl) rfl fun h => ?_
 refine GoR.done ?_
 refine Go.seq ?_
 refine Go.seq ?_
 obtain ⟨o1, H, G1⟩ := bindE H
 refine g_cut (fun G => ∀ j1 (a : Act) (w : World), o1 = j1 → St Try.f19.ntmps F [(1, pt b1), (30, .bool j1)] [Fld KDhcp b1 0 a1] a w → G a w) 1 ?_ fun J1 => ?_
 ·intro j1 a w ho_ h
  rw [ho_] at G1
  have H := G1
  by_cases c5 : j1 = true
  ·have H := ifT c5 H
   refine g_t h rfl c5 ?_
   refine Go.seq ?_
   refine Go.reg ?_
   refine ga h (o_assign rfl) rfl fun h => ?_
   refine ga h (o_assign rfl) rfl fun h => ?_
   refine GoR.done ?_
   replace h := h.mm fun m => m.nilo (Kd.int .u8)
   rw [← som H]
   exact g_ret (vs := [.slice none 0 0, .int .i64 2]) h Try.func19 ⟨rfl, ⟨rfl, trivial⟩⟩ ⟨.slice none 0 0, rfl, ((h.mem.pick [0] (by decide) rfl).addpur (show InR .i64 2 by decide))⟩
  ·have H := ifF c5 H
   refine g_f h rfl c5 ?_
   refine Go.skip ?_
   refine Go.seq ?_
   refine Go.reg ?_
   obtain ⟨x1, ex1, H⟩ := bindE H
   refine gs h (o_mk (K := (Kd.int .u8)) rfl rfl ex1 t_a22 (by decide) (fun e he => ⟨[.int .u8 0], by cases he; exact t_zc5, z_int⟩)) rfl fun v3 _ _ h => ?_
   refine gs h (o_alloc (K := (Kd.osl (Kd.int .u8))) (z := (.slice none 0 0)) rfl z_osl) rfl fun b2 _ _ h => ?_
   obtain ⟨v4, h⟩ := h.unp 0 rfl
   refine gs0 h (o_st 0 rfl rfl rfl (pv_eqo 2 rfl) rfl t_w22) fun _ _ _ h => ?_
   refine GoR.done ?_
   refine Go.seq ?_
   refine Go.reg ?_
   refine ga h (o_makeFunc (vs := [pt b2]) rfl) rfl fun h => ?_
   refine ga h (o_assign rfl) rfl fun h => ?_
   refine GoR.done ?_
   refine Go.seq ?_
   replace h := h.mm fun m => (m.pull (Lo := [Fld (Kd.eq v3) b2 0 (), Val (Kd.osl (Kd.int .u8)) v3 x1]) [0, 2] (by decide) rfl).pck
   obtain ⟨v5, h⟩ := h.unp 0 rfl
   replace h := h.wq [(1, pt b1), (4, pt b2), (5, .func (.func 40) #[] #[pt b2])] [Val (Kd.osl (Kd.int .u8)) v5 x1, Fld (Kd.eq v5) b2 0 (), Val (Kd.osl (Kd.int .u8)) v4 [], Fld KDhcp b1 0 a1] [1, 0, 3, 5]
   obtain ⟨x2, ex2, H⟩ := bindE H
   obtain ⟨x3, ex3, H⟩ := bindE H
   refine Go.draw (E := [(1, pt b1), (4, pt b2), (5, .func (.func 40) #[] #[pt b2])]) [] (L := [Fld (Kd.eq v5) b2 0 (), Val (Kd.osl (Kd.int .u8)) v4 [], Fld KDhcp b1 0 a1]) h rfl rfl 10 [cn (v5), cn (v5), cn (v5), cn (pt b1), cm [3] [] [] (.int .i64 a1.Op) fun u => [Ent.pur (InR .i64 a1.Op)], ce [3, 4] (.int .u8 (IntKind.u8.wrap a1.Op)), cm [0] [10] [] (elemP v5 ((0 : Int).toNat * Kd.n (Kd.int .u8))) fun u => [], cm [0, 3, 4, 5, 6] [10] [10] (undef) fun u => [Val (Kd.osl (Kd.int .u8)) v5 (x1.set (0 : Int).toNat (IntKind.u8.wrap a1.Op))], cm [0, 1, 3, 4, 5, 6, 7] [7] [] (elemP v5 ((1 : Int).toNat * Kd.n (Kd.int .u8))) fun u => [], cm [0, 1, 3, 4, 5, 6, 7, 8] [7] [7] (undef) fun u => [Val (Kd.osl (Kd.int .u8)) v5 ((x1.set (0 : Int).toNat (IntKind.u8.wrap a1.Op)).set (1 : Int).toNat 1)], cm [] [] [] undef fun u => [Val (Kd.osl (Kd.int .u8)) v5 x1]] rfl t_mxo (by kernel_rfl) (by rfl) ?_ fun f2 _ _ h => ?_
   ·exact ox rfl (o_ldx 0 rfl rfl X_eq t_y22) (ox rfl (o_ldx 0 rfl rfl X_eq t_y22) (ox rfl (o_ldx 0 rfl rfl X_eq t_y22) (ox rfl (o_fa rfl t_f28_0 rfl rfl) (ox rfl (OpS.pur (fun F w m_ => (in2 (fd_sub sDhcp_Op 2 rfl m_))) (o_lfx 2 rfl rfl sDhcp_Op rfl X_int t_y3)) (ox rfl (o_conv rfl t_q3 t_u5) (ox rfl (o_ix rfl rfl (rd_own 0 rfl) ex2 t_v22) (ox rfl (o_ste 0 rfl rfl rfl (pv_int (wrap_in _ _)) ex2 t_w5 (by decide)) (ox rfl (o_ix rfl rfl (rd_own 0 rfl) ex3 t_v22) (ox rfl (o_ste 0 rfl rfl rfl (pv_int (show InR .u8 1 by decide)) ex3 t_w5 (by decide)) (obs_nil))))))))))
   replace h := h.wk (E' := [(1, pt b1), (4, pt b2), (5, .func (.func 40) #[] #[pt b2]), (35, v5)]) (L' := [Ent.pur (InR .i64 a1.Op), Val (Kd.osl (Kd.int .u8)) v5 ((x1.set (0 : Int).toNat (IntKind.u8.wrap a1.Op)).set (1 : Int).toNat 1), Fld (Kd.eq v5) b2 0 (), Val (Kd.osl (Kd.int .u8)) v4 [], Fld KDhcp b1 0 a1]) (by kernel_rfl) [0, 1, 2, 3, 4] (by decide) (by kernel_rfl)
   obtain ⟨x4, ex4, H⟩ := bindE H
   refine ga h (o_ix rfl rfl (rd_own 1 rfl) ex4 t_v22) rfl fun h => ?_
   obtain ⟨y1, ey1, H⟩ := ltE H
   refine gs0 h (o_ste 1 rfl rfl rfl (pv_int (show InR .u8 6 by decide)) ex4 t_w5 (by decide)) fun _ _ _ h => ?_
   rw [ey1] at h
   refine GoR.done ?_
   refine Go.seq ?_
   refine Go.reg ?_
   refine mv h rfl rfl fun h => ?_
   refine ga h (o_fa rfl t_f28_1 rfl rfl) rfl fun h => ?_
   have g6 := (in2 (fd_sub sDhcp_Xid 4 rfl h.mem))
   refine ga h (o_lfx 4 rfl rfl sDhcp_Xid rfl X_int t_y25) rfl fun h => ?_
   replace h := h.mm fun m => (m.pull (Lo := [Fld (Kd.eq v5) b2 0 (), Val (Kd.osl (Kd.int .u8)) v5 y1]) [2, 1] (by decide) rfl).pck
   obtain ⟨r1, er1, H⟩ := bindE H
   refine ga h (o_callv (vs := [.int .i64 4, .int .u32 a1.Xid]) (caps := [pt b2]) rfl rfl (dhcp_Put_1.spc 4 (show InR .i64 4 by decide) a1.Xid g6 b2 y1 r1 er1) [] [0] (by decide) rfl rfl) rfl fun h => ?_
   refine GoR.done ?_
   refine Go.seq ?_
   refine Go.reg ?_
   refine mv h rfl rfl fun h => ?_
   refine ga h (o_fa rfl t_f28_2 rfl rfl) rfl fun h => ?_
   have g7 := (in2 (fd_sub sDhcp_Ci 6 rfl h.mem))
   refine ga h (o_lfx 6 rfl rfl sDhcp_Ci rfl X_int t_y25) rfl fun h => ?_
   obtain ⟨r2, er2, H⟩ := bindE H
   refine ga h (o_callv (vs := [.int .i64 12, .int .u32 a1.Ci]) (caps := [pt b2]) rfl rfl (dhcp_Put_1.spc 12 (show InR .i64 12 by decide) a1.Ci g7 b2 r1 r2 er2) [] [0] (by decide) rfl rfl) rfl fun h => ?_
   refine GoR.done ?_
   refine Go.seq ?_
   refine Go.reg ?_
   refine mv h rfl rfl fun h => ?_
   refine ga h (o_fa rfl t_f28_3 rfl rfl) rfl fun h => ?_
   have g8 := (in2 (fd_sub sDhcp_Yi 7 rfl h.mem))
   refine ga h (o_lfx 7 rfl rfl sDhcp_Yi rfl X_int t_y25) rfl fun h => ?_
   obtain ⟨r3, er3, H⟩ := bindE H
   refine ga h (o_callv (vs := [.int .i64 16, .int .u32 a1.Yi]) (caps := [pt b2]) rfl rfl (dhcp_Put_1.spc 16 (show InR .i64 16 by decide) a1.Yi g8 b2 r2 r3 er3) [] [0] (by decide) rfl rfl) rfl fun h => ?_
   refine GoR.done ?_
   refine Go.seq ?_
   obtain ⟨v6, h⟩ := h.unp 0 rfl
   replace h := h.mm fun m => m.isl 1 rfl
   replace h := h.wq [(1, pt b1), (4, pt b2), (5, .func (.func 40) #[] #[pt b2])] [Ent.pur (IsSl v6 r3.length), Fld (Kd.eq v6) b2 0 (), Val (Kd.osl (Kd.int .u8)) v6 r3, Ent.pur (InR .i64 a1.Op), Val (Kd.osl (Kd.int .u8)) v4 [], Fld KDhcp b1 0 a1] [0, 1, 2, 6, 9, 10]
   obtain ⟨q2, H⟩ := ifS H
   refine Go.draw (E := [(1, pt b1), (4, pt b2), (5, .func (.func 40) #[] #[pt b2])]) [] (L := [Ent.pur (IsSl v6 r3.length), Fld (Kd.eq v6) b2 0 (), Val (Kd.osl (Kd.int .u8)) v6 r3, Ent.pur (InR .i64 a1.Op), Val (Kd.osl (Kd.int .u8)) v4 [], Fld KDhcp b1 0 a1]) h rfl rfl 4 [cn (v6), ce [0] (subV v6 (28 : Int).toNat (r3.length : Int).toNat (Kd.n (Kd.int .u8))), cn (.pointer (some ⟨b1, 4, none⟩)), cw [2] [] [] fun u => [Val (Kd.sl (Kd.int .u8)) u a1.Mac]] rfl t_mxo (by kernel_rfl) (by rfl) ?_ fun f5 _ _ h => ?_
   ·exact ox rfl (o_ldx 1 rfl rfl X_eq t_y22) (ox rfl (OpS.fact (fun F w m_ => (Mem.pur 0 rfl m_)) fun g9 => (o_ownlp (n := 1) g9 rfl rfl q2 t_v22)) (ox rfl (o_fa rfl t_f28_4 rfl rfl) (oy rfl (o_lfv 5 rfl rfl sDhcp_Mac rfl Per_sl t_y22) (obs_nil))))
   replace h := h.wk (E' := [(1, pt b1), (4, pt b2), (5, .func (.func 40) #[] #[pt b2]), (55, subV v6 (28 : Int).toNat (r3.length : Int).toNat (Kd.n (Kd.int .u8))), (57, (f5 3))]) (L' := [Val (Kd.sl (Kd.int .u8)) (f5 3) a1.Mac, Ent.pur (IsSl v6 r3.length), Fld (Kd.eq v6) b2 0 (), Val (Kd.osl (Kd.int .u8)) v6 r3, Ent.pur (InR .i64 a1.Op), Val (Kd.osl (Kd.int .u8)) v4 [], Fld KDhcp b1 0 a1]) (by kernel_rfl) [0, 1, 2, 3, 4, 5, 6] (by decide) (by kernel_rfl)
   obtain ⟨y2, ey2, H⟩ := ltE H
   refine ga h (o_cp 3 rfl rfl rfl (rd_at 0 rfl) q2 t_a22) rfl fun h => ?_
   rw [ey2] at h
   refine GoR.done ?_
   refine Go.seq ?_
   refine Go.reg ?_
   refine mv h rfl rfl fun h => ?_
   replace h := h.mm fun m => (m.pull (Lo := [Fld (Kd.eq v6) b2 0 (), Val (Kd.osl (Kd.int .u8)) v6 y2]) [2, 3] (by decide) rfl).pck
   obtain ⟨r4, er4, H⟩ := bindE H
   refine ga h (o_callv (vs := [.int .i64 236, .int .u32 1669485411]) (caps := [pt b2]) rfl rfl (dhcp_Put_1.spc 236 (show InR .i64 236 by decide) 1669485411 (show InR .u32 1669485411 by decide) b2 y2 r4 er4) [] [0] (by decide) rfl rfl) rfl fun h => ?_
   refine GoR.done ?_
   refine Go.seq ?_
   refine Go.reg ?_
   obtain ⟨v8, h⟩ := h.unp 0 rfl
   refine ga h (o_ldx 0 rfl rfl X_eq t_y22) rfl fun h => ?_
   refine ga h (o_fa rfl t_f28_5 rfl rfl) rfl fun h => ?_
   have g10 := (in2 (fd_sub sDhcp_Type_ 9 rfl h.mem))
   refine ga h (o_lfx 9 rfl rfl sDhcp_Type_ rfl X_int t_y3) rfl fun h => ?_
   refine ga h (o_conv rfl t_q3 t_u5) rfl fun h => ?_
   refine gs h (o_bs (K := (Kd.int .u8)) (vs := [.int .u8 53, .int .u8 1, .int .u8 (IntKind.u8.wrap a1.Type_)]) (xs := ([53, 1, IntKind.u8.wrap a1.Type_] : List Int)) rfl rfl (pvs_cons (pv_int (show InR .u8 53 by decide)) (pvs_cons (pv_int (show InR .u8 1 by decide)) (pvs_cons (pv_int (wrap_in _ _)) pvs_nil))) t_a22 (by decide) (by decide)) rfl fun v9 _ _ h => ?_
   obtain ⟨x5, ex5, H⟩ := bindE H
   refine gs h (o_app (K := (Kd.int .u8)) 2 rfl rfl rfl (rd_own 0 rfl) ex5 t_a22 t_n22) rfl fun v10 _ _ h => ?_
   refine gs0 h (o_st 1 rfl rfl rfl (pv_eqo 2 rfl) rfl t_w22) fun _ _ _ h => ?_
   refine GoR.done ?_
   refine Go.seq ?_
   refine Go.reg ?_
   refine ga h (o_makeFunc (vs := [pt b2]) rfl) rfl fun h => ?_
   refine ga h (o_assign rfl) rfl fun h => ?_
   refine GoR.done ?_
   refine Go.seq ?_
   refine Go.reg ?_
   refine mv h rfl rfl fun h => ?_
   refine ga h (o_fa rfl t_f28_6 rfl rfl) rfl fun h => ?_
   have g11 := (in2 (fd_sub sDhcp_Want 10 rfl h.mem))
   refine ga h (o_lfx 10 rfl rfl sDhcp_Want rfl X_int t_y25) rfl fun h => ?_
   replace h := h.mm fun m => (m.pull (Lo := [Fld (Kd.eq v10) b2 0 (), Val (Kd.osl (Kd.int .u8)) v10 x5]) [1, 2] (by decide) rfl).pck
   obtain ⟨r5, er5, H⟩ := bindE H
   refine ga h (o_callv (vs := [.int .u8 50, .int .u32 a1.Want]) (caps := [pt b2]) rfl rfl (dhcp_Put_2.spc 50 (show InR .u8 50 by decide) a1.Want g11 b2 x5 r5 er5) [] [0] (by decide) rfl rfl) rfl fun h => ?_
   refine GoR.done ?_
   refine Go.seq ?_
   refine Go.reg ?_
   refine mv h rfl rfl fun h => ?_
   refine ga h (o_fa rfl t_f28_7 rfl rfl) rfl fun h => ?_
   have g12 := (in2 (fd_sub sDhcp_Server 12 rfl h.mem))
   refine ga h (o_lfx 12 rfl rfl sDhcp_Server rfl X_int t_y25) rfl fun h => ?_
   obtain ⟨r6, er6, H⟩ := bindE H
   refine ga h (o_callv (vs := [.int .u8 54, .int .u32 a1.Server]) (caps := [pt b2]) rfl rfl (dhcp_Put_2.spc 54 (show InR .u8 54 by decide) a1.Server g12 b2 r5 r6 er6) [] [0] (by decide) rfl rfl) rfl fun h => ?_
   refine GoR.done ?_
   refine Go.seq ?_
   refine Go.reg ?_
   refine mv h rfl rfl fun h => ?_
   refine ga h (o_fa rfl t_f28_8 rfl rfl) rfl fun h => ?_
   have g13 := (in2 (fd_sub sDhcp_Lease 13 rfl h.mem))
   refine ga h (o_lfx 13 rfl rfl sDhcp_Lease rfl X_int t_y25) rfl fun h => ?_
   obtain ⟨r7, er7, H⟩ := bindE H
   refine ga h (o_callv (vs := [.int .u8 51, .int .u32 a1.Lease]) (caps := [pt b2]) rfl rfl (dhcp_Put_2.spc 51 (show InR .u8 51 by decide) a1.Lease g13 b2 r6 r7 er7) [] [0] (by decide) rfl rfl) rfl fun h => ?_
   refine GoR.done ?_
   refine Go.seq ?_
   refine Go.reg ?_
   refine mv h rfl rfl fun h => ?_
   refine ga h (o_fa rfl t_f28_9 rfl rfl) rfl fun h => ?_
   have g14 := (in2 (fd_sub sDhcp_Mask 14 rfl h.mem))
   refine ga h (o_lfx 14 rfl rfl sDhcp_Mask rfl X_int t_y25) rfl fun h => ?_
   obtain ⟨r8, er8, H⟩ := bindE H
   refine ga h (o_callv (vs := [.int .u8 1, .int .u32 a1.Mask]) (caps := [pt b2]) rfl rfl (dhcp_Put_2.spc 1 (show InR .u8 1 by decide) a1.Mask g14 b2 r7 r8 er8) [] [0] (by decide) rfl rfl) rfl fun h => ?_
   refine GoR.done ?_
   refine Go.seq ?_
   refine Go.reg ?_
   refine mv h rfl rfl fun h => ?_
   refine ga h (o_fa rfl t_f28_10 rfl rfl) rfl fun h => ?_
   have g15 := (in2 (fd_sub sDhcp_Router 15 rfl h.mem))
   refine ga h (o_lfx 15 rfl rfl sDhcp_Router rfl X_int t_y25) rfl fun h => ?_
   obtain ⟨r9, er9, H⟩ := bindE H
   refine ga h (o_callv (vs := [.int .u8 3, .int .u32 a1.Router]) (caps := [pt b2]) rfl rfl (dhcp_Put_2.spc 3 (show InR .u8 3 by decide) a1.Router g15 b2 r8 r9 er9) [] [0] (by decide) rfl rfl) rfl fun h => ?_
   refine GoR.done ?_
   refine Go.seq ?_
   refine Go.reg ?_
   refine mv h rfl rfl fun h => ?_
   refine ga h (o_fa rfl t_f28_11 rfl rfl) rfl fun h => ?_
   have g16 := (in2 (fd_sub sDhcp_Dns 16 rfl h.mem))
   refine ga h (o_lfx 16 rfl rfl sDhcp_Dns rfl X_int t_y25) rfl fun h => ?_
   obtain ⟨r10, er10, H⟩ := bindE H
   refine ga h (o_callv (vs := [.int .u8 6, .int .u32 a1.Dns]) (caps := [pt b2]) rfl rfl (dhcp_Put_2.spc 6 (show InR .u8 6 by decide) a1.Dns g16 b2 r9 r10 er10) [] [0] (by decide) rfl rfl) rfl fun h => ?_
   refine GoR.done ?_
   refine Go.seq ?_
   refine Go.reg ?_
   obtain ⟨v11, h⟩ := h.unp 0 rfl
   refine ga h (o_ldx 0 rfl rfl X_eq t_y22) rfl fun h => ?_
   refine gs h (o_bs (K := (Kd.int .u8)) (vs := [.int .u8 255]) (xs := ([255] : List Int)) rfl rfl (pvs_cons (pv_int (show InR .u8 255 by decide)) pvs_nil) t_a22 (by decide) (by decide)) rfl fun v12 _ _ h => ?_
   obtain ⟨x6, ex6, H⟩ := bindE H
   refine gs h (o_app (K := (Kd.int .u8)) 2 rfl rfl rfl (rd_own 0 rfl) ex6 t_a22 t_n22) rfl fun v13 _ _ h => ?_
   refine ga h (o_assign rfl) rfl fun h => ?_
   refine ga h (o_assign rfl) rfl fun h => ?_
   refine GoR.done ?_
   rw [← som H]
   exact g_ret (vs := [v13, .int .i64 0]) h Try.func19 ⟨rfl, ⟨rfl, trivial⟩⟩ ⟨v13, rfl, ((h.mem.pick [2] (by decide) rfl).addpur (show InR .i64 0 by decide))⟩
 refine Go.reg ?_
 refine ga h (o_fa rfl t_f28_0 rfl rfl) rfl fun h => ?_
 have g1 := (in2 (fd_sub sDhcp_Op 0 rfl h.mem))
 refine ga h (o_lfx 0 rfl rfl sDhcp_Op rfl X_int t_y3) rfl fun h => ?_
 refine ga h (o_bin rfl rfl rfl) rfl fun h => ?_
 refine mv h rfl rfl fun h => ?_
 by_cases c1 : decide (a1.Op < 1) = true
 ·have H := ifT c1 H
  iterate 3 (refine gk h rfl rfl (nb_t c1) rfl fun _ h => ?_)
  refine ga h (o_pickT rfl rfl c1) rfl fun h => ?_
  refine mv h rfl rfl fun h => ?_
  iterate 4 (refine gk h rfl rfl (nb_t rfl) rfl fun _ h => ?_)
  refine ga h (o_pickT rfl rfl rfl) rfl fun h => ?_
  refine mv h rfl rfl fun h => ?_
  iterate 3 (refine gk h rfl rfl (nb_t rfl) rfl fun _ h => ?_)
  refine ga h (o_pickT rfl rfl rfl) rfl fun h => ?_
  refine mv h rfl rfl fun h => ?_
  iterate 3 (refine gk h rfl rfl (nb_t rfl) rfl fun _ h => ?_)
  refine ga h (o_pickT rfl rfl rfl) rfl fun h => ?_
  refine GoR.done ?_
  exact J1 true _ _ (som H).symm (h.wr [0])
 ·have H := ifF c1 H
  refine gg h rfl rfl (nbF c1) (o_fa rfl t_f28_0 rfl rfl) rfl fun _ _ _ h => ?_
  have g2 := (in2 (fd_sub sDhcp_Op 0 rfl h.mem))
  refine gg h rfl rfl (nbF c1) (o_lfx 0 rfl rfl sDhcp_Op rfl X_int t_y3) rfl fun _ _ _ h => ?_
  refine gg h rfl rfl (nbF c1) (o_bin rfl rfl rfl) rfl fun _ _ _ h => ?_
  refine ga h (o_pickF rfl rfl c1) rfl fun h => ?_
  refine mv h rfl rfl fun h => ?_
  by_cases c2 : decide (2 < a1.Op) = true
  ·have H := ifT c2 H
   iterate 4 (refine gk h rfl rfl (nb_t c2) rfl fun _ h => ?_)
   refine ga h (o_pickT rfl rfl c2) rfl fun h => ?_
   refine mv h rfl rfl fun h => ?_
   iterate 3 (refine gk h rfl rfl (nb_t rfl) rfl fun _ h => ?_)
   refine ga h (o_pickT rfl rfl rfl) rfl fun h => ?_
   refine mv h rfl rfl fun h => ?_
   iterate 3 (refine gk h rfl rfl (nb_t rfl) rfl fun _ h => ?_)
   refine ga h (o_pickT rfl rfl rfl) rfl fun h => ?_
   refine GoR.done ?_
   exact J1 true _ _ (som H).symm (h.wr [0])
  ·have H := ifF c2 H
   refine gg h rfl rfl (nbF c2) (o_fa rfl t_f28_4 rfl rfl) rfl fun _ _ _ h => ?_
   refine gg h rfl rfl (nbF c2) (o_lfv 0 rfl rfl sDhcp_Mac rfl Per_sl t_y22) rfl fun v2 _ _ h => ?_
   have g3 := (len_at 0 rfl h.mem)
   refine gg h rfl rfl (nbF c2) (o_ln rfl (rd_at 0 rfl) t_v22) rfl fun _ _ _ h => ?_
   refine gg h rfl rfl (nbF c2) (o_bin rfl rfl rfl) rfl fun _ _ _ h => ?_
   refine ga h (o_pickF rfl rfl c2) rfl fun h => ?_
   refine mv h rfl rfl fun h => ?_
   by_cases c3 : (!decide ((a1.Mac.length : Int) = 6)) = true
   ·have H := ifT c3 H
    iterate 3 (refine gk h rfl rfl (nb_t c3) rfl fun _ h => ?_)
    refine ga h (o_pickT rfl rfl c3) rfl fun h => ?_
    refine mv h rfl rfl fun h => ?_
    iterate 3 (refine gk h rfl rfl (nb_t rfl) rfl fun _ h => ?_)
    refine ga h (o_pickT rfl rfl rfl) rfl fun h => ?_
    refine GoR.done ?_
    exact J1 true _ _ (som H).symm (h.wr [1])
   ·have H := ifF c3 H
    refine gg h rfl rfl (nbF c3) (o_fa rfl t_f28_5 rfl rfl) rfl fun _ _ _ h => ?_
    have g4 := (in2 (fd_sub sDhcp_Type_ 1 rfl h.mem))
    refine gg h rfl rfl (nbF c3) (o_lfx 1 rfl rfl sDhcp_Type_ rfl X_int t_y3) rfl fun _ _ _ h => ?_
    refine gg h rfl rfl (nbF c3) (o_bin rfl rfl rfl) rfl fun _ _ _ h => ?_
    refine ga h (o_pickF rfl rfl c3) rfl fun h => ?_
    refine mv h rfl rfl fun h => ?_
    by_cases c4 : decide (a1.Type_ < 1) = true
    ·have H := ifT c4 H
     iterate 3 (refine gk h rfl rfl (nb_t c4) rfl fun _ h => ?_)
     refine ga h (o_pickT rfl rfl c4) rfl fun h => ?_
     refine GoR.done ?_
     exact J1 true _ _ (som H).symm (h.wr [1])
    ·have H := ifF c4 H
     refine gg h rfl rfl (nbF c4) (o_fa rfl t_f28_5 rfl rfl) rfl fun _ _ _ h => ?_
     have g5 := (in2 (fd_sub sDhcp_Type_ 1 rfl h.mem))
     refine gg h rfl rfl (nbF c4) (o_lfx 1 rfl rfl sDhcp_Type_ rfl X_int t_y3) rfl fun _ _ _ h => ?_
     refine gg h rfl rfl (nbF c4) (o_bin rfl rfl rfl) rfl fun _ _ _ h => ?_
     refine ga h (o_pickF rfl rfl c4) rfl fun h => ?_
     refine GoR.done ?_
     exact J1 (decide (8 < a1.Type_)) _ _ (som H).symm (h.wr [1])
def dhcp_Put.g (k_ : Nat) (a1 : TDhcp) : Option ((List Int) × Int) :=
  ((if decide (a1.Op < 1) = true then some (true) else (if decide (2 < a1.Op) = true then some (true) else (if (!decide ((a1.Mac.length : Int) = 6)) = true then some (true) else (if decide (a1.Type_ < 1) = true then some (true) else some (decide (8 < a1.Type_))))))).bind (fun j1 => (if j1 = true then some (([], 2)) else (mk 240 0).bind fun x1 => (idx x1 0).bind fun x2 => (idx (x1.set (0 : Int).toNat (IntKind.u8.wrap a1.Op)) 1).bind fun x3 => (idx ((x1.set (0 : Int).toNat (IntKind.u8.wrap a1.Op)).set (1 : Int).toNat 1) 2).bind fun x4 => lt (((x1.set (0 : Int).toNat (IntKind.u8.wrap a1.Op)).set (1 : Int).toNat 1).set (2 : Int).toNat 6) fun y1 => (dhcp_Put_1.g k_ 4 a1.Xid y1).bind fun r1 => (dhcp_Put_1.g k_ 12 a1.Ci r1).bind fun r2 => (dhcp_Put_1.g k_ 16 a1.Yi r2).bind fun r3 => if inB r3 28 (r3.length : Int) then (lt (ovr r3 28 (r3.length : Int) a1.Mac) fun y2 => (dhcp_Put_1.g k_ 236 1669485411 y2).bind fun r4 => (app r4 ([53, 1, IntKind.u8.wrap a1.Type_] : List Int)).bind fun x5 => (dhcp_Put_2.g k_ 50 a1.Want x5).bind fun r5 => (dhcp_Put_2.g k_ 54 a1.Server r5).bind fun r6 => (dhcp_Put_2.g k_ 51 a1.Lease r6).bind fun r7 => (dhcp_Put_2.g k_ 1 a1.Mask r7).bind fun r8 => (dhcp_Put_2.g k_ 3 a1.Router r8).bind fun r9 => (dhcp_Put_2.g k_ 6 a1.Dns r9).bind fun r10 => (app r10 ([255] : List Int)).bind fun x6 => some ((x6, 0))) else none))
theorem dhcp_Put.le (k_ : Nat) (a1 : TDhcp) : Le (dhcp_Put.g k_ a1) (dhcp_Put.f a1) := by
 unfold dhcp_Put.g dhcp_Put.f
 repeat' (first | with_reducible refine le_loop fun _ => ?_ | with_reducible refine le_bind ?_ fun _ => ?_ | with_reducible refine le_ite ?_ ?_ | with_reducible refine le_lt fun _ => ?_ | with_reducible refine le_elim (fun _ => ?_) (fun _ => ?_) _ | with_reducible apply dhcp_Put_1.le | with_reducible apply dhcp_Put_2.le | with_reducible exact le_refl _)
/-! drawbridge/lease.pool -/
noncomputable def lease_pool.f (a1 : Int) : Option (Bool) :=
  lt (decide ((IntKind.u32.wrap (a1 - 167772687)) < 8)) fun y1 => some (y1)
set_option maxRecDepth 100000 in
set_option maxHeartbeats 4000000 in
theorem lease_pool.spc (a1 : Int) (ha1 : InR .u32 a1) (r : Bool) (H : lease_pool.f a1 = some r) : Spc Try.prog 25 [.int .u32 a1] [] [] (fun (s : Unit) => .bool r) (fun s => []) := by
 unfold lease_pool.f at H
 refine Spc.go Try.func25 rfl (by kernel_rfl) rfl rfl all_nil fun F a w h => ?_
 refine Go.seq ?_
 refine Go.reg ?_
 refine ga h (o_assign rfl) rfl fun h => ?_
 refine GoR.done ?_
 refine Go.seq ?_
 refine Go.reg ?_
 refine mv h rfl rfl fun h => ?_
 refine ga h (o_bin rfl rfl rfl) rfl fun h => ?_
 refine ga h (o_bin rfl rfl rfl) rfl fun h => ?_
 obtain ⟨y1, ey1, H⟩ := ltE H
 refine ga h (o_assign' rfl (congrArg Value.bool ey1)) rfl fun h => ?_
 refine GoR.done ?_
 rw [← som H]
 exact g_ret (vs := [.bool y1]) h Try.func25 ⟨rfl, trivial⟩ ⟨(), rfl, (h.mem.pick [] (by decide) rfl)⟩
def lease_pool.g (k_ : Nat) (a1 : Int) : Option (Bool) :=
  lt (decide ((IntKind.u32.wrap (a1 - 167772687)) < 8)) fun y1 => some (y1)
theorem lease_pool.le (k_ : Nat) (a1 : Int) : Le (lease_pool.g k_ a1) (lease_pool.f a1) := by
 unfold lease_pool.g lease_pool.f
 repeat' (first | with_reducible refine le_loop fun _ => ?_ | with_reducible refine le_bind ?_ fun _ => ?_ | with_reducible refine le_ite ?_ ?_ | with_reducible refine le_lt fun _ => ?_ | with_reducible refine le_elim (fun _ => ?_) (fun _ => ?_) _ | with_reducible exact le_refl _)
end Go.Proofs.Ytmmaojclfggioaa.S
