/- Contracts, printed by a program of this session. -/
import Derived.Test.YthjaancddmecpaaT4
import Derived.Test.YthjaancddmecpaaT5
import Derived.Test.YthjaancddmecpaaT6
namespace Go.Proofs.Ythjaancddmecpaa.S
open Go Go.SL Go.RowKit
set_option linter.unusedVariables false
set_option linter.unusedSimpArgs false
/-! drawbridge/drawbridgelaw19.patched -/
noncomputable def law19_patched.f (a1 : List Int) : Option ((List Int)) :=
  (ref15_Pseudo.f 1 2 6 (a1.length : Int)).bind fun r1 => (app r1 a1).bind fun x1 => (ref15_Patch.f x1 28).bind fun r2 => (cut r2 12 (r2.length : Int)).bind fun x2 => some (x2)
set_option maxRecDepth 100000 in
set_option maxHeartbeats 4000000 in
theorem law19_patched.spc (v1 : Value) (a1 : List Int) (r : (List Int)) (H : law19_patched.f a1 = some r) : Spc Try.prog 19 [v1] [Val (Kd.sl (Kd.int .u8)) v1 a1] [] (fun (s : Value) => s) (fun s => [Val (Kd.osl (Kd.int .u8)) s r]) := by
 unfold law19_patched.f at H
 refine Spc.go Try.func19 rfl (by kernel_rfl) rfl rfl (all_cons (Val.per Per_sl) all_nil) fun F a w h => ?_
 refine Go.seq ?_
 refine Go.reg ?_
 refine gs h (o_assign rfl) rfl fun _ _ _ h => ?_
 refine GoR.done ?_
 refine Go.seq ?_
 refine Go.reg ?_
 refine gs h (o_move rfl) rfl fun _ _ _ h => ?_
 have g1 := (len_at 0 rfl h.mem)
 refine gs h (o_ln rfl (rd_at 0 rfl) t_v23) rfl fun _ _ _ h => ?_
 obtain ⟨r1, er1, H⟩ := bindE H
 refine gs h (o_call (ref15_Pseudo.spc 1 (show InR .u32 1 by decide) 2 (show InR .u32 2 by decide) 6 (show InR .i64 6 by decide) (a1.length : Int) g1 r1 er1) rfl [] [] (by decide) rfl rfl) rfl fun v2 _ _ h => ?_
 refine gs h (o_move rfl) rfl fun _ _ _ h => ?_
 obtain ⟨x1, ex1, H⟩ := bindE H
 refine gs h (o_app (K := (Kd.int .u8)) 0 rfl rfl rfl (rd_at 1 rfl) ex1 t_a23 t_n23) rfl fun v3 _ _ h => ?_
 refine gs h (o_assign rfl) rfl fun _ _ _ h => ?_
 refine GoR.done ?_
 refine Go.seq ?_
 refine Go.reg ?_
 refine gs h (o_move rfl) rfl fun _ _ _ h => ?_
 replace h := h.mm fun m => m.freeze 0 rfl
 obtain ⟨r2, er2, H⟩ := bindE H
 refine gs h (o_call (ref15_Patch.spc v3 x1 28 (show InR .i64 28 by decide) r2 er2) rfl [0] [] (by decide) rfl rfl) rfl fun v4 _ _ h => ?_
 obtain ⟨x2, ex2, H⟩ := bindE H
 refine gs h (o_subl 0 rfl rfl rfl ex2 t_v23) rfl fun _ _ _ h => ?_
 refine gs h (o_assign rfl) rfl fun _ _ _ h => ?_
 refine GoR.done ?_
 rw [← som H]
 exact g_ret (vs := [subV v4 (12 : Int).toNat (r2.length : Int).toNat (Kd.n (Kd.int .u8))]) h Try.func19 ⟨rfl, trivial⟩ ⟨subV v4 (12 : Int).toNat (r2.length : Int).toNat (Kd.n (Kd.int .u8)), rfl, (h.mem.pick [0] (by decide) rfl)⟩
def law19_patched.g (k_ : Nat) (a1 : List Int) : Option ((List Int)) :=
  (ref15_Pseudo.g k_ 1 2 6 (a1.length : Int)).bind fun r1 => (app r1 a1).bind fun x1 => (ref15_Patch.g k_ x1 28).bind fun r2 => (cut r2 12 (r2.length : Int)).bind fun x2 => some (x2)
theorem law19_patched.le (k_ : Nat) (a1 : List Int) : Le (law19_patched.g k_ a1) (law19_patched.f a1) := by
 unfold law19_patched.g law19_patched.f
 repeat' (first | with_reducible refine le_loop fun _ => ?_ | with_reducible refine le_bind ?_ fun _ => ?_ | with_reducible refine le_ite ?_ ?_ | with_reducible refine le_lt fun _ => ?_ | with_reducible refine le_elim (fun _ => ?_) (fun _ => ?_) _ | with_reducible apply ref15_Patch.le | with_reducible apply ref15_Pseudo.le | with_reducible exact le_refl _)
/-! drawbridge/drawbridgelaw19.one -/
noncomputable def law19_one.f (a1 : TSeg) : Option ((List TSeg)) :=
  some (([a1] : List TSeg))
set_option maxRecDepth 100000 in
set_option maxHeartbeats 4000000 in
theorem law19_one.spc (v1 : Value) (a1 : TSeg) (r : (List TSeg)) (H : law19_one.f a1 = some r) : Spc Try.prog 14 [v1] [Val KSeg v1 a1] [] (fun (s : Value) => s) (fun s => [Val (Kd.osl KSeg) s r]) := by
 unfold law19_one.f at H
 refine Spc.go Try.func14 rfl (by kernel_rfl) rfl rfl (all_cons (Val.per PSeg) all_nil) fun F a w h => ?_
 refine Go.seq ?_
 refine Go.reg ?_
 refine gs h (o_box (K := KSeg) rfl (pv_at PSeg 0 rfl)) rfl fun b1 _ _ h => ?_
 refine gs h (o_assign rfl) rfl fun _ _ _ h => ?_
 refine GoR.done ?_
 refine Go.seq ?_
 refine Go.reg ?_
 refine gs h (o_ldv 0 rfl rfl PSeg t_y25) rfl fun v2 _ _ h => ?_
 refine gs h (o_bs (K := KSeg) (vs := [v2]) (xs := ([a1] : List TSeg)) rfl rfl (pvs_cons (pv_at PSeg 0 rfl) pvs_nil) t_a38 (by decide) (by decide)) rfl fun v3 _ _ h => ?_
 refine gs h (o_assign rfl) rfl fun _ _ _ h => ?_
 refine GoR.done ?_
 rw [← som H]
 exact g_ret (vs := [v3]) h Try.func14 ⟨rfl, trivial⟩ ⟨v3, rfl, (h.mem.pick [0] (by decide) rfl)⟩
def law19_one.g (k_ : Nat) (a1 : TSeg) : Option ((List TSeg)) :=
  some (([a1] : List TSeg))
theorem law19_one.le (k_ : Nat) (a1 : TSeg) : Le (law19_one.g k_ a1) (law19_one.f a1) := by
 unfold law19_one.g law19_one.f
 repeat' (first | with_reducible refine le_loop fun _ => ?_ | with_reducible refine le_bind ?_ fun _ => ?_ | with_reducible refine le_ite ?_ ?_ | with_reducible refine le_lt fun _ => ?_ | with_reducible refine le_elim (fun _ => ?_) (fun _ => ?_) _ | with_reducible exact le_refl _)
/-! drawbridge/drawbridgelaw19.SegOptions -/
noncomputable def law19_SegOptions.f (a1 : TSeg) (a2 : Int) (a3 : Int) : Option (Bool) :=
  ((if decide (3000 < (a1.Data.length : Int)) = true then some (true) else (if decide (a2 < 3) = true then some (true) else (if decide (a3 < 0) = true then some (true) else (if decide (30 < a3) = true then some (true) else some ((!decide (a1.Mss = 0)))))))).bind (fun j1 => (if j1 = true then (law19_heads.f).bind fun r1 => some (r1) else (seg_Put.f a1 1 2).bind fun r2 => ((if (!decide (r2.2 = 0)) = true then some (true) else some (decide ((r2.1.length : Int) < 20)))).bind (fun j2 => (if j2 = true then ((if (!decide (r2.2 = 0)) = true then (law19_heads.f).bind fun r3 => some (r3) else some (false))).bind (fun j3 => some (j3)) else (mk a3 0).bind fun x1 => (app ([1, a2, IntKind.u8.wrap (IntKind.i64.wrap (a3 + 2))] : List Int) x1).bind fun x2 => (loop (fun s1 => (if (!decide ((Int.tmod (s1.length : Int) 4) = 0)) = true then (app s1 ([1] : List Int)).bind fun x3 => some (.inl x3) else some (.inr (s1)))) x2).bind (fun j4 => (if decide (40 < (j4.length : Int)) = true then (law19_heads.f).bind fun r4 => some (r4) else (cut r2.1 0 20).bind fun x4 => (app ([] : List Int) x4).bind fun x5 => (app x5 j4).bind fun x6 => (cut r2.1 20 (r2.1.length : Int)).bind fun x7 => (app x6 x7).bind fun x8 => (idx x8 12).bind fun x9 => lt (x8.set (12 : Int).toNat (IntKind.u8.wrap (IntKind.i64.wrap (80 + (IntKind.i64.wrap (4 * (j4.length : Int))))))) fun y1 => (idx y1 16).bind fun x10 => lt (y1.set (16 : Int).toNat 0) fun y2 => (idx y2 17).bind fun x11 => lt (y2.set (17 : Int).toNat 0) fun y3 => (law19_patched.f y3).bind fun r5 => (seg_Get.f r5 1 2).bind fun r6 => ((if decide (r6.2 = 0) = true then (law19_one.f a1).bind fun r7 => (law19_one.f r6.1).bind fun r8 => (ref19_Same.f r7 r8).bind fun r9 => (if r9 = true then (law19_heads.f).bind fun r10 => some (r10) else some (false)) else some (false))).bind (fun j5 => some (j5))))))))
set_option maxRecDepth 100000 in
set_option maxHeartbeats 4000000 in
theorem law19_SegOptions.spc (v1 : Value) (a1 : TSeg) (a2 : Int) (ha2 : InR .u8 a2) (a3 : Int) (ha3 : InR .i64 a3) (r : Bool) (H : law19_SegOptions.f a1 a2 a3 = some r) : Spc Try.prog 6 [v1, .int .u8 a2, .int .i64 a3] [Val KSeg v1 a1] [] (fun (s : Unit) => .bool r) (fun s => []) := by
 unfold law19_SegOptions.f at H
 refine Spc.go Try.func6 rfl (by kernel_rfl) rfl rfl (all_cons (Val.per PSeg) all_nil) fun F a w h => ?_
 refine Go.seq ?_
 refine Go.reg ?_
 refine gs h (o_box (K := KSeg) rfl (pv_at PSeg 0 rfl)) rfl fun b1 _ _ h => ?_
 refine gs h (o_assign rfl) rfl fun _ _ _ h => ?_
 refine GoR.done ?_
 refine Go.seq ?_
 refine Go.seq ?_
 obtain ⟨o1, H, G1⟩ := bindE H
 refine g_cut (fun G => ∀ j1 (a : Act) (w : World), o1 = j1 → St Try.f6.ntmps F [(1, .int .u8 a2), (2, .int .i64 a3), (3, .pointer (some ⟨b1, 0, none⟩)), (33, .bool j1)] [Fld KSeg b1 0 a1] a w → G a w) 1 ?_ fun J1 => ?_
 ·intro j1 a w ho_ h
  rw [ho_] at G1
  have H := G1
  by_cases c5 : j1 = true
  ·have H := ifT c5 H
   refine g_t h rfl c5 ?_
   refine Go.seq ?_
   refine Go.reg ?_
   obtain ⟨r1, er1, H⟩ := bindE H
   refine gs h (o_call (law19_heads.spc  r1 er1) rfl [] [] (by decide) rfl rfl) rfl fun _ _ _ h => ?_
   refine gs h (o_assign rfl) rfl fun _ _ _ h => ?_
   refine GoR.done ?_
   rw [← som H]
   exact g_ret (vs := [.bool r1]) h Try.func6 ⟨rfl, trivial⟩ ⟨(), rfl, (h.mem.pick [] (by decide) rfl)⟩
  ·have H := ifF c5 H
   refine g_f h rfl c5 ?_
   refine Go.skip ?_
   refine Go.seq ?_
   refine Go.reg ?_
   refine gs h (o_ldv 0 rfl rfl PSeg t_y25) rfl fun v3 _ _ h => ?_
   obtain ⟨r2, er2, H⟩ := bindE H
   refine gs h (o_call (seg_Put.spc v3 a1 1 (show InR .u32 1 by decide) 2 (show InR .u32 2 by decide) r2 er2) rfl [0] [] (by decide) rfl rfl) rfl fun v4 _ _ h => ?_
   have g3 := h.mem.pur 0 rfl
   refine gs h (o_move rfl) rfl fun _ _ _ h => ?_
   refine gs h (o_extract rfl rfl) rfl fun _ _ _ h => ?_
   refine gs h (o_extract rfl rfl) rfl fun _ _ _ h => ?_
   refine gs h (o_assign rfl) rfl fun _ _ _ h => ?_
   refine gs h (o_assign rfl) rfl fun _ _ _ h => ?_
   refine GoR.done ?_
   refine Go.seq ?_
   refine Go.seq ?_
   obtain ⟨o2, H, G2⟩ := bindE H
   refine g_cut (fun G => ∀ j2 (a : Act) (w : World), o2 = j2 → St Try.f6.ntmps F [(1, .int .u8 a2), (2, .int .i64 a3), (3, .pointer (some ⟨b1, 0, none⟩)), (7, v4), (8, .int .i64 r2.2), (46, .bool j2)] [Val (Kd.osl (Kd.int .u8)) v4 r2.1, Fld KSeg b1 0 a1] a w → G a w) 1 ?_ fun J2 => ?_
   ·intro j2 a w ho_ h
    rw [ho_] at G2
    have H := G2
    by_cases c7 : j2 = true
    ·have H := ifT c7 H
     refine g_t h rfl c7 ?_
     refine Go.seq ?_
     obtain ⟨o3, H, G3⟩ := bindE H
     refine g_cut (fun G => ∀ j3 (a : Act) (w : World), o3 = j3 → St Try.f6.ntmps F [(6, .bool j3)] [Fld KSeg b1 0 a1] a w → G a w) 1 ?_ fun J3 => ?_
     ·intro j3 a w ho_ h
      rw [ho_] at G3
      have H := G3
      rw [← som H]
      exact g_ret (vs := [.bool j3]) h Try.func6 ⟨rfl, trivial⟩ ⟨(), rfl, (h.mem.pick [] (by decide) rfl)⟩
     refine Go.reg ?_
     refine gs h (o_move rfl) rfl fun _ _ _ h => ?_
     refine gs h (o_bin rfl rfl rfl) rfl fun _ _ _ h => ?_
     refine gs h (o_move rfl) rfl fun _ _ _ h => ?_
     by_cases c8 : (!decide (r2.2 = 0)) = true
     ·have H := ifT c8 H
      obtain ⟨r3, er3, H⟩ := bindE H
      refine gg h rfl rfl c8 (o_call (law19_heads.spc  r3 er3) rfl [] [] (by decide) rfl rfl) rfl fun _ _ _ h => ?_
      refine gs h (o_pickT rfl rfl c8) rfl fun _ _ _ h => ?_
      refine gs h (o_assign rfl) rfl fun _ _ _ h => ?_
      refine GoR.done ?_
      exact J3 r3 _ _ (som H).symm (h.wk (by rfl) [1] (by decide) (by rfl))
     ·have H := ifF c8 H
      refine gk h rfl rfl (nb_f c8) rfl fun _ h => ?_
      refine gs h (o_pickF rfl rfl c8) rfl fun _ _ _ h => ?_
      refine gs h (o_assign rfl) rfl fun _ _ _ h => ?_
      refine GoR.done ?_
      exact J3 false _ _ (som H).symm (h.wk (by rfl) [1] (by decide) (by rfl))
    ·have H := ifF c7 H
     refine g_f h rfl c7 ?_
     refine Go.skip ?_
     refine Go.seq ?_
     refine Go.reg ?_
     refine gs h (o_move rfl) rfl fun _ _ _ h => ?_
     refine gs h (o_move rfl) rfl fun _ _ _ h => ?_
     refine gs h (o_bin rfl rfl rfl) rfl fun _ _ _ h => ?_
     refine gs h (o_conv rfl t_q3 t_u5) rfl fun _ _ _ h => ?_
     refine gs h (o_bs (K := (Kd.int .u8)) (vs := [.int .u8 1, .int .u8 a2, .int .u8 (IntKind.u8.wrap (IntKind.i64.wrap (a3 + 2)))]) (xs := ([1, a2, IntKind.u8.wrap (IntKind.i64.wrap (a3 + 2))] : List Int)) rfl rfl (pvs_cons (pv_int (show InR .u8 1 by decide)) (pvs_cons (pv_int ha2) (pvs_cons (pv_int (wrap_in _ _)) pvs_nil))) t_a23 (by decide) (by decide)) rfl fun v5 _ _ h => ?_
     refine gs h (o_move rfl) rfl fun _ _ _ h => ?_
     obtain ⟨x1, ex1, H⟩ := bindE H
     obtain ⟨x2, ex2, H⟩ := bindE H
     refine gs h (o_appm (K := (Kd.int .u8)) 0 rfl rfl rfl ex1 ex2 t_a23 t_u3 (by decide) (fun e he => ⟨[.int .u8 0], by cases he; exact t_zc5, z_int⟩)) rfl fun v6 _ _ h => ?_
     refine gs h (o_assign rfl) rfl fun _ _ _ h => ?_
     refine GoR.done ?_
     refine Go.seq ?_
     refine Go.block ?_
     obtain ⟨o4, hl, G4⟩ := bindE H
     refine g_cut (fun G => ∀ j4 (v10 : Value) (a : Act) (w : World), o4 = j4 → St Try.f6.ntmps F [(3, .pointer (some ⟨b1, 0, none⟩)), (7, v4), (9, v10)] [Val (Kd.osl (Kd.int .u8)) v4 r2.1, Val (Kd.osl (Kd.int .u8)) v10 j4, Fld KSeg b1 0 a1] a w → G a w) 2 ?_ fun J4 => ?_
     ·intro j4 v10 a w ho_ h
      rw [ho_] at G4
      have H := G4
      refine Go.seq ?_
      refine Go.seq ?_
      refine Go.reg ?_
      refine gs h (o_move rfl) rfl fun _ _ _ h => ?_
      have g6 := (len_own 1 rfl h.mem)
      refine gs h (o_ln rfl (rd_own 1 rfl) t_v23) rfl fun _ _ _ h => ?_
      refine gs h (o_bin rfl rfl rfl) rfl fun _ _ _ h => ?_
      refine GoR.done ?_
      by_cases c10 : decide (40 < (j4.length : Int)) = true
      ·have H := ifT c10 H
       refine g_t h rfl c10 ?_
       refine Go.seq ?_
       refine Go.reg ?_
       obtain ⟨r4, er4, H⟩ := bindE H
       refine gs h (o_call (law19_heads.spc  r4 er4) rfl [] [] (by decide) rfl rfl) rfl fun _ _ _ h => ?_
       refine gs h (o_assign rfl) rfl fun _ _ _ h => ?_
       refine GoR.done ?_
       rw [← som H]
       exact g_ret (vs := [.bool r4]) h Try.func6 ⟨rfl, trivial⟩ ⟨(), rfl, (h.mem.pick [] (by decide) rfl)⟩
      ·have H := ifF c10 H
       refine g_f h rfl c10 ?_
       refine Go.skip ?_
       refine Go.seq ?_
       replace h := h.mm fun m => m.freeze 0 rfl
       replace h := h.wk (E' := [(3, .pointer (some ⟨b1, 0, none⟩)), (7, v4), (9, v10)]) (L' := [Val (Kd.sl (Kd.int .u8)) v4 r2.1, Val (Kd.osl (Kd.int .u8)) v10 j4, Fld KSeg b1 0 a1]) (by rfl) [0, 1, 2] (by decide) (by rfl)
       obtain ⟨x4, ex4, H⟩ := bindE H
       obtain ⟨x5, ex5, H⟩ := bindE H
       obtain ⟨x6, ex6, H⟩ := bindE H
       obtain ⟨x7, ex7, H⟩ := bindE H
       refine Go.draw (L := [Val (Kd.sl (Kd.int .u8)) v4 r2.1, Val (Kd.osl (Kd.int .u8)) v10 j4, Fld KSeg b1 0 a1]) h 8 [⟨[], [], [], false, .own, none, fun u => [Val (Kd.osl (Kd.int .u8)) u ([] : List Int)]⟩, ⟨[], [], [], false, .con (v4), none, fun u => []⟩, ⟨[1], [], [], false, .own, none, fun u => [Val (Kd.sl (Kd.int .u8)) u x4]⟩, ⟨[0, 1, 2], [0, 2], [0], false, .own, none, fun u => [Val (Kd.osl (Kd.int .u8)) u x5]⟩, ⟨[], [], [], false, .con (v10), none, fun u => []⟩, ⟨[0, 1, 2, 3, 4], [3], [3], false, .own, none, fun u => [Val (Kd.osl (Kd.int .u8)) u x6]⟩, ⟨[], [], [], false, .con (v4), none, fun u => []⟩, ⟨[6], [], [], false, .own, none, fun u => [Val (Kd.sl (Kd.int .u8)) u x7]⟩] rfl t_mxo (by kernel_rfl) (by rfl) ?_ fun f2 _ _ h => ?_
       ·exact obs_cons (ob_own rfl (gok_none rfl) rfl fun f2 => (o_bs (K := (Kd.int .u8)) (vs := []) (xs := ([] : List Int)) rfl rfl pvs_nil t_a23 (by decide) (by decide))) (obs_cons (ob_con rfl (gok_none rfl) rfl fun f2 => (o_move rfl)) (obs_cons (ob_own rfl (gok_none rfl) rfl fun f2 => (o_cuth rfl (pv_at Per_sl 0 rfl) rfl ex4 t_v23)) (obs_cons (ob_own rfl (gok_none rfl) rfl fun f2 => (o_app (K := (Kd.int .u8)) 0 rfl rfl rfl (rd_at 1 rfl) ex5 t_a23 t_n23)) (obs_cons (ob_con rfl (gok_none rfl) rfl fun f2 => (o_move rfl)) (obs_cons (ob_own rfl (gok_none rfl) rfl fun f2 => (o_app (K := (Kd.int .u8)) 0 rfl rfl rfl (rd_own 2 rfl) ex6 t_a23 t_n23)) (obs_cons (ob_con rfl (gok_none rfl) rfl fun f2 => (o_move rfl)) (obs_cons (ob_own rfl (gok_none rfl) rfl fun f2 => (o_cutl rfl (pv_at Per_sl 0 rfl) rfl ex7 t_v23)) (obs_nil))))))))
       replace h := h.wk (E' := [(3, .pointer (some ⟨b1, 0, none⟩)), (9, v10), (75, (f2 5)), (77, (f2 7))]) (L' := [Val (Kd.sl (Kd.int .u8)) (f2 2) x4, Val (Kd.osl (Kd.int .u8)) (f2 5) x6, Val (Kd.sl (Kd.int .u8)) (f2 7) x7, Val (Kd.sl (Kd.int .u8)) v4 r2.1, Val (Kd.osl (Kd.int .u8)) v10 j4, Fld KSeg b1 0 a1]) (by kernel_rfl) [0, 1, 2, 3, 4, 5] (by decide) (by kernel_rfl)
       obtain ⟨x8, ex8, H⟩ := bindE H
       refine gs h (o_app (K := (Kd.int .u8)) 1 rfl rfl rfl (rd_at 2 rfl) ex8 t_a23 t_n23) rfl fun v17 _ _ h => ?_
       refine gs h (o_assign rfl) rfl fun _ _ _ h => ?_
       refine GoR.done ?_
       refine Go.seq ?_
       refine Go.reg ?_
       refine gs h (o_move rfl) rfl fun _ _ _ h => ?_
       refine gs h (o_move rfl) rfl fun _ _ _ h => ?_
       have g7 := (len_own 4 rfl h.mem)
       refine gs h (o_ln rfl (rd_own 4 rfl) t_v23) rfl fun _ _ _ h => ?_
       refine gs h (o_bin rfl rfl rfl) rfl fun _ _ _ h => ?_
       refine gs h (o_bin rfl rfl rfl) rfl fun _ _ _ h => ?_
       refine gs h (o_conv rfl t_q3 t_u5) rfl fun _ _ _ h => ?_
       obtain ⟨x9, ex9, H⟩ := bindE H
       refine gs h (o_ix rfl rfl (rd_own 1 rfl) ex9 t_v23) rfl fun _ _ _ h => ?_
       obtain ⟨y1, ey1, H⟩ := ltE H
       refine gs0 h (o_ste 1 rfl rfl rfl (pv_int (wrap_in _ _)) ex9 t_w5 (by decide)) fun _ _ _ h => ?_
       rw [ey1] at h
       refine GoR.done ?_
       refine Go.seq ?_
       refine Go.reg ?_
       refine gs h (o_move rfl) rfl fun _ _ _ h => ?_
       refine gs h (o_move rfl) rfl fun _ _ _ h => ?_
       obtain ⟨x10, ex10, H⟩ := bindE H
       refine gs h (o_ix rfl rfl (rd_own 1 rfl) ex10 t_v23) rfl fun _ _ _ h => ?_
       obtain ⟨y2, ey2, H⟩ := ltE H
       refine gs0 h (o_ste 1 rfl rfl rfl (pv_int (show InR .u8 0 by decide)) ex10 t_w5 (by decide)) fun _ _ _ h => ?_
       rw [ey2] at h
       obtain ⟨x11, ex11, H⟩ := bindE H
       refine gs h (o_ix rfl rfl (rd_own 1 rfl) ex11 t_v23) rfl fun _ _ _ h => ?_
       obtain ⟨y3, ey3, H⟩ := ltE H
       refine gs0 h (o_ste 1 rfl rfl rfl (pv_int (show InR .u8 0 by decide)) ex11 t_w5 (by decide)) fun _ _ _ h => ?_
       rw [ey3] at h
       refine GoR.done ?_
       refine Go.seq ?_
       refine Go.reg ?_
       refine gs h (o_move rfl) rfl fun _ _ _ h => ?_
       replace h := h.mm fun m => m.freeze 1 rfl
       obtain ⟨r5, er5, H⟩ := bindE H
       refine gs h (o_call (law19_patched.spc v17 y3 r5 er5) rfl [1] [] (by decide) rfl rfl) rfl fun v18 _ _ h => ?_
       replace h := h.mm fun m => m.freeze 0 rfl
       obtain ⟨r6, er6, H⟩ := bindE H
       refine gs h (o_call (seg_Get.spc v18 r5 1 (show InR .u32 1 by decide) 2 (show InR .u32 2 by decide) r6 er6) rfl [0] [] (by decide) rfl rfl) rfl fun v19 _ _ h => ?_
       have g8 := h.mem.pur 0 rfl
       refine gs h (o_move rfl) rfl fun _ _ _ h => ?_
       refine gs h (o_extract rfl rfl) rfl fun _ _ _ h => ?_
       refine gs h (o_extract rfl rfl) rfl fun _ _ _ h => ?_
       refine gs h (o_alloc (K := KSeg) (z := (.agg #[.int .i64 0, .int .i64 0, .int .u32 0, .int .u32 0, .int .i64 0, .int .i64 0, .int .i64 0, .slice none 0 0])) rfl ZSeg) rfl fun b2 _ _ h => ?_
       refine gs0 h (o_st 0 rfl rfl rfl (pv_at PSeg 2 rfl) rfl t_w25) fun _ _ _ h => ?_
       refine gs h (o_assign rfl) rfl fun _ _ _ h => ?_
       refine GoR.done ?_
       refine Go.seq ?_
       replace h := h.wk (E' := [(3, .pointer (some ⟨b1, 0, none⟩)), (11, .pointer (some ⟨b2, 0, none⟩)), (12, .int .i64 r6.2)]) (L' := [Fld KSeg b2 0 r6.1, Ent.pur (InR .i64 r6.2), Val KSeg v19 r6.1, Val (Kd.sl (Kd.int .u8)) v18 r5, Val (Kd.sl (Kd.int .u8)) (f2 2) x4, Val (Kd.sl (Kd.int .u8)) v17 y3, Val (Kd.sl (Kd.int .u8)) (f2 7) x7, Val (Kd.sl (Kd.int .u8)) v4 r2.1, Val (Kd.osl (Kd.int .u8)) v10 j4, Fld KSeg b1 0 a1]) (by rfl) [0, 1, 2, 3, 4, 5, 6, 7, 8, 9] (by decide) (by rfl)
       obtain ⟨o5, H, G5⟩ := bindE H
       refine g_cut (fun G => ∀ j5 (a : Act) (w : World), o5 = j5 → St Try.f6.ntmps F [(6, .bool j5)] [Fld KSeg b2 0 r6.1, Fld KSeg b1 0 a1] a w → G a w) 1 ?_ fun J5 => ?_
       ·intro j5 a w ho_ h
        rw [ho_] at G5
        have H := G5
        rw [← som H]
        exact g_ret (vs := [.bool j5]) h Try.func6 ⟨rfl, trivial⟩ ⟨(), rfl, (h.mem.pick [] (by decide) rfl)⟩
       by_cases c11 : decide (r6.2 = 0) = true
       ·have H := ifT c11 H
        obtain ⟨r7, er7, H⟩ := bindE H
        refine Go.draw (L := [Fld KSeg b2 0 r6.1, Ent.pur (InR .i64 r6.2), Val KSeg v19 r6.1, Val (Kd.sl (Kd.int .u8)) v18 r5, Val (Kd.sl (Kd.int .u8)) (f2 2) x4, Val (Kd.sl (Kd.int .u8)) v17 y3, Val (Kd.sl (Kd.int .u8)) (f2 7) x7, Val (Kd.sl (Kd.int .u8)) v4 r2.1, Val (Kd.osl (Kd.int .u8)) v10 j4, Fld KSeg b1 0 a1]) h 6 [⟨[], [], [], false, .con (.int .i64 r6.2), none, fun u => []⟩, ⟨[0], [], [], false, .con (.bool (decide (r6.2 = 0))), none, fun u => []⟩, ⟨[0, 1], [], [], false, .con (.bool (decide (r6.2 = 0))), none, fun u => []⟩, ⟨[0, 1, 2], [], [], false, .own, none, fun u => [Val KSeg u a1]⟩, ⟨[0, 1, 2, 3], [3], [], false, .own, none, fun u => [Val (Kd.osl KSeg) u r7]⟩, ⟨[0, 1, 2], [], [], false, .own, none, fun u => [Val KSeg u r6.1]⟩] rfl t_mxo (by kernel_rfl) (by rfl) ?_ fun f3 _ _ h => ?_
        ·exact obs_cons (ob_con rfl (gok_none rfl) rfl fun f3 => (o_move rfl)) (obs_cons (ob_con rfl (gok_none rfl) rfl fun f3 => (o_bin rfl rfl rfl)) (obs_cons (ob_con rfl (gok_none rfl) rfl fun f3 => (o_move rfl)) (obs_cons (ob_own rfl (gok_some rfl rfl rfl (fun _ => rfl) c11) rfl fun f3 => (o_ldv 9 rfl rfl PSeg t_y25)) (obs_cons (ob_own rfl (gok_some rfl rfl rfl (fun _ => rfl) c11) rfl fun f3 => (o_call (law19_one.spc (f3 3) a1 r7 er7) rfl [0] [] (by decide) rfl rfl)) (obs_cons (ob_own rfl (gok_some rfl rfl rfl (fun _ => rfl) c11) rfl fun f3 => (o_ldv 0 rfl rfl PSeg t_y25)) (obs_nil))))))
        replace h := h.wk (E' := [(98, .bool (decide (r6.2 = 0))), (100, (f3 4)), (101, (f3 5))]) (L' := [Val KSeg (f3 3) a1, Val (Kd.osl KSeg) (f3 4) r7, Val KSeg (f3 5) r6.1, Fld KSeg b2 0 r6.1, Ent.pur (InR .i64 r6.2), Val KSeg v19 r6.1, Val (Kd.sl (Kd.int .u8)) v18 r5, Val (Kd.sl (Kd.int .u8)) (f2 2) x4, Val (Kd.sl (Kd.int .u8)) v17 y3, Val (Kd.sl (Kd.int .u8)) (f2 7) x7, Val (Kd.sl (Kd.int .u8)) v4 r2.1, Val (Kd.osl (Kd.int .u8)) v10 j4, Fld KSeg b1 0 a1]) (by kernel_rfl) [0, 1, 2, 3, 4, 5, 6, 7, 8, 9, 10, 11, 12] (by decide) (by kernel_rfl)
        obtain ⟨r8, er8, H⟩ := bindE H
        refine gg h rfl rfl c11 (o_call (law19_one.spc (f3 5) r6.1 r8 er8) rfl [2] [] (by decide) rfl rfl) rfl fun v23 _ _ h => ?_
        replace h := h.mm fun m => m.freeze 2 rfl
        replace h := h.mm fun m => m.freeze 0 rfl
        obtain ⟨r9, er9, H⟩ := bindE H
        refine gg h rfl rfl c11 (o_call (ref19_Same.spc (f3 4) r7 v23 r8 r9 er9) rfl [2, 0] [] (by decide) rfl rfl) rfl fun _ _ _ h => ?_
        refine gs h (o_pickT rfl rfl c11) rfl fun _ _ _ h => ?_
        refine gs h (o_move rfl) rfl fun _ _ _ h => ?_
        by_cases c12 : r9 = true
        ·have H := ifT c12 H
         obtain ⟨r10, er10, H⟩ := bindE H
         refine gg h rfl rfl c12 (o_call (law19_heads.spc  r10 er10) rfl [] [] (by decide) rfl rfl) rfl fun _ _ _ h => ?_
         refine gs h (o_pickT rfl rfl c12) rfl fun _ _ _ h => ?_
         refine gs h (o_assign rfl) rfl fun _ _ _ h => ?_
         refine GoR.done ?_
         exact J5 r10 _ _ (som H).symm (h.wk (by rfl) [4, 13] (by decide) (by rfl))
        ·have H := ifF c12 H
         refine gk h rfl rfl (nb_f c12) rfl fun _ h => ?_
         refine gs h (o_pickF rfl rfl c12) rfl fun _ _ _ h => ?_
         refine gs h (o_assign rfl) rfl fun _ _ _ h => ?_
         refine GoR.done ?_
         exact J5 false _ _ (som H).symm (h.wk (by rfl) [4, 13] (by decide) (by rfl))
       ·have H := ifF c11 H
        refine Go.draw (L := [Fld KSeg b2 0 r6.1, Ent.pur (InR .i64 r6.2), Val KSeg v19 r6.1, Val (Kd.sl (Kd.int .u8)) v18 r5, Val (Kd.sl (Kd.int .u8)) (f2 2) x4, Val (Kd.sl (Kd.int .u8)) v17 y3, Val (Kd.sl (Kd.int .u8)) (f2 7) x7, Val (Kd.sl (Kd.int .u8)) v4 r2.1, Val (Kd.osl (Kd.int .u8)) v10 j4, Fld KSeg b1 0 a1]) h 6 [⟨[], [], [], false, .con (.int .i64 r6.2), none, fun u => []⟩, ⟨[0], [], [], false, .con (.bool (decide (r6.2 = 0))), none, fun u => []⟩, ⟨[0, 1], [], [], false, .con (.bool (decide (r6.2 = 0))), none, fun u => []⟩, ⟨[2], [], [], true, .con undef, none, fun u => []⟩, ⟨[2], [], [], true, .con undef, none, fun u => []⟩, ⟨[2], [], [], true, .con undef, none, fun u => []⟩] rfl t_mxo (by kernel_rfl) (by rfl) ?_ fun f3 _ _ h => ?_
        ·exact obs_cons (ob_con rfl (gok_none rfl) rfl fun f3 => (o_move rfl)) (obs_cons (ob_con rfl (gok_none rfl) rfl fun f3 => (o_bin rfl rfl rfl)) (obs_cons (ob_con rfl (gok_none rfl) rfl fun f3 => (o_move rfl)) (obs_cons (ob_skip rfl rfl rfl rfl (fun _ => rfl) (nb_f c11) rfl rfl rfl rfl) (obs_cons (ob_skip rfl rfl rfl rfl (fun _ => rfl) (nb_f c11) rfl rfl rfl rfl) (obs_cons (ob_skip rfl rfl rfl rfl (fun _ => rfl) (nb_f c11) rfl rfl rfl rfl) (obs_nil))))))
        replace h := h.wk (E' := [(98, .bool (decide (r6.2 = 0)))]) (L' := [Fld KSeg b2 0 r6.1, Ent.pur (InR .i64 r6.2), Val KSeg v19 r6.1, Val (Kd.sl (Kd.int .u8)) v18 r5, Val (Kd.sl (Kd.int .u8)) (f2 2) x4, Val (Kd.sl (Kd.int .u8)) v17 y3, Val (Kd.sl (Kd.int .u8)) (f2 7) x7, Val (Kd.sl (Kd.int .u8)) v4 r2.1, Val (Kd.osl (Kd.int .u8)) v10 j4, Fld KSeg b1 0 a1]) (by kernel_rfl) [0, 1, 2, 3, 4, 5, 6, 7, 8, 9] (by decide) (by kernel_rfl)
        refine gk h rfl rfl (nb_f c11) rfl fun _ h => ?_
        refine gk h rfl rfl (nb_f c11) rfl fun _ h => ?_
        refine gs h (o_pickF rfl rfl c11) rfl fun _ _ _ h => ?_
        refine gs h (o_move rfl) rfl fun _ _ _ h => ?_
        refine gk h rfl rfl (nb_f Bool.false_ne_true) rfl fun _ h => ?_
        refine gs h (o_pickF rfl rfl Bool.false_ne_true) rfl fun _ _ _ h => ?_
        refine gs h (o_assign rfl) rfl fun _ _ _ h => ?_
        refine GoR.done ?_
        exact J5 false _ _ (som H).symm (h.wk (by rfl) [0, 9] (by decide) (by rfl))
     refine g_loop (fun s1 G => ∀ (v7 : Value) (a : Act) (w : World), St Try.f6.ntmps F [(3, .pointer (some ⟨b1, 0, none⟩)), (7, v4), (9, v7)] [Val (Kd.osl (Kd.int .u8)) v4 r2.1, Val (Kd.osl (Kd.int .u8)) v7 s1, Fld KSeg b1 0 a1] a w → G a w) hl (fun s1 p1 H i1 => ?_) fun I_ => ?_
     ·intro v7 a w h
      refine Go.seq ?_
      refine Go.seq ?_
      refine Go.reg ?_
      refine gs h (o_move rfl) rfl fun _ _ _ h => ?_
      have g5 := (len_own 1 rfl h.mem)
      refine gs h (o_ln rfl (rd_own 1 rfl) t_v23) rfl fun _ _ _ h => ?_
      refine gs h (o_rem rfl rfl (show (4 : Int) ≠ 0 by decide)) rfl fun _ _ _ h => ?_
      refine gs h (o_bin rfl rfl rfl) rfl fun _ _ _ h => ?_
      refine GoR.done ?_
      by_cases c9 : (!decide ((Int.tmod (s1.length : Int) 4) = 0)) = true
      ·have H := ifT c9 H
       refine g_t h rfl c9 ?_
       refine Go.skip ?_
       refine Go.block ?_
       refine Go.reg ?_
       refine gs h (o_move rfl) rfl fun _ _ _ h => ?_
       refine gs h (o_bs (K := (Kd.int .u8)) (vs := [.int .u8 1]) (xs := ([1] : List Int)) rfl rfl (pvs_cons (pv_int (show InR .u8 1 by decide)) pvs_nil) t_a23 (by decide) (by decide)) rfl fun v8 _ _ h => ?_
       obtain ⟨x3, ex3, H⟩ := bindE H
       refine gs h (o_app (K := (Kd.int .u8)) 2 rfl rfl rfl (rd_own 0 rfl) ex3 t_a23 t_n23) rfl fun v9 _ _ h => ?_
       refine gs h (o_assign rfl) rfl fun _ _ _ h => ?_
       refine GoR.done ?_
       refine Go.inBlock ?_
       have e_ := som H; subst e_
       exact Go.inLoop (nx_in i1 v9 _ _ (h.wk (by rfl) [1, 2, 3] (by decide) (by rfl)))
      ·have H := ifF c9 H
       refine g_f h rfl c9 ?_
       refine Go.exit rfl ?_
       have e_ := som H; subst e_
       exact J4 s1 v7 _ _ (nx_out i1).symm (h.wk (by rfl) [0, 1, 2] (by decide) (by rfl))
     ·exact I_ v6 _ _ (h.wk (by rfl) [1, 0, 2] (by decide) (by rfl))
   refine Go.reg ?_
   refine gs h (o_move rfl) rfl fun _ _ _ h => ?_
   refine gs h (o_bin rfl rfl rfl) rfl fun _ _ _ h => ?_
   refine gs h (o_move rfl) rfl fun _ _ _ h => ?_
   by_cases c6 : (!decide (r2.2 = 0)) = true
   ·have H := ifT c6 H
    refine gk h rfl rfl (nb_t c6) rfl fun _ h => ?_
    refine gk h rfl rfl (nb_t c6) rfl fun _ h => ?_
    refine gk h rfl rfl (nb_t c6) rfl fun _ h => ?_
    refine gs h (o_pickT rfl rfl c6) rfl fun _ _ _ h => ?_
    refine GoR.done ?_
    exact J2 true _ _ (som H).symm (h.wk (by rfl) [1, 3] (by decide) (by rfl))
   ·have H := ifF c6 H
    refine gg h rfl rfl (nbF c6) (o_move rfl) rfl fun _ _ _ h => ?_
    have g4 := (len_own 1 rfl h.mem)
    refine gg h rfl rfl (nbF c6) (o_ln rfl (rd_own 1 rfl) t_v23) rfl fun _ _ _ h => ?_
    refine gg h rfl rfl (nbF c6) (o_bin rfl rfl rfl) rfl fun _ _ _ h => ?_
    refine gs h (o_pickF rfl rfl c6) rfl fun _ _ _ h => ?_
    refine GoR.done ?_
    exact J2 (decide ((r2.1.length : Int) < 20)) _ _ (som H).symm (h.wk (by rfl) [1, 3] (by decide) (by rfl))
 refine Go.reg ?_
 refine gs h (o_fa rfl t_f25_7 rfl rfl) rfl fun _ _ _ h => ?_
 refine gs h (o_lfv 0 rfl rfl sSeg_Data rfl Per_sl t_y23) rfl fun v2 _ _ h => ?_
 have g1 := (len_at 0 rfl h.mem)
 refine gs h (o_ln rfl (rd_at 0 rfl) t_v23) rfl fun _ _ _ h => ?_
 refine gs h (o_bin rfl rfl rfl) rfl fun _ _ _ h => ?_
 refine gs h (o_move rfl) rfl fun _ _ _ h => ?_
 by_cases c1 : decide (3000 < (a1.Data.length : Int)) = true
 ·have H := ifT c1 H
  refine gk h rfl rfl (nb_t c1) rfl fun _ h => ?_
  refine gk h rfl rfl (nb_t c1) rfl fun _ h => ?_
  refine gs h (o_pickT rfl rfl c1) rfl fun _ _ _ h => ?_
  refine gs h (o_move rfl) rfl fun _ _ _ h => ?_
  refine gk h rfl rfl (nb_t rfl) rfl fun _ h => ?_
  refine gk h rfl rfl (nb_t rfl) rfl fun _ h => ?_
  refine gs h (o_pickT rfl rfl rfl) rfl fun _ _ _ h => ?_
  refine gs h (o_move rfl) rfl fun _ _ _ h => ?_
  refine gk h rfl rfl (nb_t rfl) rfl fun _ h => ?_
  refine gk h rfl rfl (nb_t rfl) rfl fun _ h => ?_
  refine gs h (o_pickT rfl rfl rfl) rfl fun _ _ _ h => ?_
  refine gs h (o_move rfl) rfl fun _ _ _ h => ?_
  refine gk h rfl rfl (nb_t rfl) rfl fun _ h => ?_
  refine gk h rfl rfl (nb_t rfl) rfl fun _ h => ?_
  refine gk h rfl rfl (nb_t rfl) rfl fun _ h => ?_
  refine gs h (o_pickT rfl rfl rfl) rfl fun _ _ _ h => ?_
  refine GoR.done ?_
  exact J1 true _ _ (som H).symm (h.wk (by rfl) [1] (by decide) (by rfl))
 ·have H := ifF c1 H
  refine gg h rfl rfl (nbF c1) (o_move rfl) rfl fun _ _ _ h => ?_
  refine gg h rfl rfl (nbF c1) (o_bin rfl rfl rfl) rfl fun _ _ _ h => ?_
  refine gs h (o_pickF rfl rfl c1) rfl fun _ _ _ h => ?_
  refine gs h (o_move rfl) rfl fun _ _ _ h => ?_
  by_cases c2 : decide (a2 < 3) = true
  ·have H := ifT c2 H
   refine gk h rfl rfl (nb_t c2) rfl fun _ h => ?_
   refine gk h rfl rfl (nb_t c2) rfl fun _ h => ?_
   refine gs h (o_pickT rfl rfl c2) rfl fun _ _ _ h => ?_
   refine gs h (o_move rfl) rfl fun _ _ _ h => ?_
   refine gk h rfl rfl (nb_t rfl) rfl fun _ h => ?_
   refine gk h rfl rfl (nb_t rfl) rfl fun _ h => ?_
   refine gs h (o_pickT rfl rfl rfl) rfl fun _ _ _ h => ?_
   refine gs h (o_move rfl) rfl fun _ _ _ h => ?_
   refine gk h rfl rfl (nb_t rfl) rfl fun _ h => ?_
   refine gk h rfl rfl (nb_t rfl) rfl fun _ h => ?_
   refine gk h rfl rfl (nb_t rfl) rfl fun _ h => ?_
   refine gs h (o_pickT rfl rfl rfl) rfl fun _ _ _ h => ?_
   refine GoR.done ?_
   exact J1 true _ _ (som H).symm (h.wk (by rfl) [1] (by decide) (by rfl))
  ·have H := ifF c2 H
   refine gg h rfl rfl (nbF c2) (o_move rfl) rfl fun _ _ _ h => ?_
   refine gg h rfl rfl (nbF c2) (o_bin rfl rfl rfl) rfl fun _ _ _ h => ?_
   refine gs h (o_pickF rfl rfl c2) rfl fun _ _ _ h => ?_
   refine gs h (o_move rfl) rfl fun _ _ _ h => ?_
   by_cases c3 : decide (a3 < 0) = true
   ·have H := ifT c3 H
    refine gk h rfl rfl (nb_t c3) rfl fun _ h => ?_
    refine gk h rfl rfl (nb_t c3) rfl fun _ h => ?_
    refine gs h (o_pickT rfl rfl c3) rfl fun _ _ _ h => ?_
    refine gs h (o_move rfl) rfl fun _ _ _ h => ?_
    refine gk h rfl rfl (nb_t rfl) rfl fun _ h => ?_
    refine gk h rfl rfl (nb_t rfl) rfl fun _ h => ?_
    refine gk h rfl rfl (nb_t rfl) rfl fun _ h => ?_
    refine gs h (o_pickT rfl rfl rfl) rfl fun _ _ _ h => ?_
    refine GoR.done ?_
    exact J1 true _ _ (som H).symm (h.wk (by rfl) [1] (by decide) (by rfl))
   ·have H := ifF c3 H
    refine gg h rfl rfl (nbF c3) (o_move rfl) rfl fun _ _ _ h => ?_
    refine gg h rfl rfl (nbF c3) (o_bin rfl rfl rfl) rfl fun _ _ _ h => ?_
    refine gs h (o_pickF rfl rfl c3) rfl fun _ _ _ h => ?_
    refine gs h (o_move rfl) rfl fun _ _ _ h => ?_
    by_cases c4 : decide (30 < a3) = true
    ·have H := ifT c4 H
     refine gk h rfl rfl (nb_t c4) rfl fun _ h => ?_
     refine gk h rfl rfl (nb_t c4) rfl fun _ h => ?_
     refine gk h rfl rfl (nb_t c4) rfl fun _ h => ?_
     refine gs h (o_pickT rfl rfl c4) rfl fun _ _ _ h => ?_
     refine GoR.done ?_
     exact J1 true _ _ (som H).symm (h.wk (by rfl) [1] (by decide) (by rfl))
    ·have H := ifF c4 H
     refine gg h rfl rfl (nbF c4) (o_fa rfl t_f25_6 rfl rfl) rfl fun _ _ _ h => ?_
     have g2 := (in2 (fd_sub sSeg_Mss 1 rfl h.mem))
     refine gg h rfl rfl (nbF c4) (o_lfx 1 rfl rfl sSeg_Mss rfl X_int t_y3) rfl fun _ _ _ h => ?_
     refine gg h rfl rfl (nbF c4) (o_bin rfl rfl rfl) rfl fun _ _ _ h => ?_
     refine gs h (o_pickF rfl rfl c4) rfl fun _ _ _ h => ?_
     refine GoR.done ?_
     exact J1 (!decide (a1.Mss = 0)) _ _ (som H).symm (h.wk (by rfl) [1] (by decide) (by rfl))
def law19_SegOptions.g (k_ : Nat) (a1 : TSeg) (a2 : Int) (a3 : Int) : Option (Bool) :=
  ((if decide (3000 < (a1.Data.length : Int)) = true then some (true) else (if decide (a2 < 3) = true then some (true) else (if decide (a3 < 0) = true then some (true) else (if decide (30 < a3) = true then some (true) else some ((!decide (a1.Mss = 0)))))))).bind (fun j1 => (if j1 = true then (law19_heads.g k_).bind fun r1 => some (r1) else (seg_Put.g k_ a1 1 2).bind fun r2 => ((if (!decide (r2.2 = 0)) = true then some (true) else some (decide ((r2.1.length : Int) < 20)))).bind (fun j2 => (if j2 = true then ((if (!decide (r2.2 = 0)) = true then (law19_heads.g k_).bind fun r3 => some (r3) else some (false))).bind (fun j3 => some (j3)) else (mk a3 0).bind fun x1 => (app ([1, a2, IntKind.u8.wrap (IntKind.i64.wrap (a3 + 2))] : List Int) x1).bind fun x2 => (loopK k_ (fun s1 => (if (!decide ((Int.tmod (s1.length : Int) 4) = 0)) = true then (app s1 ([1] : List Int)).bind fun x3 => some (.inl x3) else some (.inr (s1)))) x2).bind (fun j4 => (if decide (40 < (j4.length : Int)) = true then (law19_heads.g k_).bind fun r4 => some (r4) else (cut r2.1 0 20).bind fun x4 => (app ([] : List Int) x4).bind fun x5 => (app x5 j4).bind fun x6 => (cut r2.1 20 (r2.1.length : Int)).bind fun x7 => (app x6 x7).bind fun x8 => (idx x8 12).bind fun x9 => lt (x8.set (12 : Int).toNat (IntKind.u8.wrap (IntKind.i64.wrap (80 + (IntKind.i64.wrap (4 * (j4.length : Int))))))) fun y1 => (idx y1 16).bind fun x10 => lt (y1.set (16 : Int).toNat 0) fun y2 => (idx y2 17).bind fun x11 => lt (y2.set (17 : Int).toNat 0) fun y3 => (law19_patched.g k_ y3).bind fun r5 => (seg_Get.g k_ r5 1 2).bind fun r6 => ((if decide (r6.2 = 0) = true then (law19_one.g k_ a1).bind fun r7 => (law19_one.g k_ r6.1).bind fun r8 => (ref19_Same.g k_ r7 r8).bind fun r9 => (if r9 = true then (law19_heads.g k_).bind fun r10 => some (r10) else some (false)) else some (false))).bind (fun j5 => some (j5))))))))
theorem law19_SegOptions.le (k_ : Nat) (a1 : TSeg) (a2 : Int) (a3 : Int) : Le (law19_SegOptions.g k_ a1 a2 a3) (law19_SegOptions.f a1 a2 a3) := by
 unfold law19_SegOptions.g law19_SegOptions.f
 repeat' (first | with_reducible refine le_loop fun _ => ?_ | with_reducible refine le_bind ?_ fun _ => ?_ | with_reducible refine le_ite ?_ ?_ | with_reducible refine le_lt fun _ => ?_ | with_reducible refine le_elim (fun _ => ?_) (fun _ => ?_) _ | with_reducible apply law19_heads.le | with_reducible apply law19_one.le | with_reducible apply law19_patched.le | with_reducible apply ref19_Same.le | with_reducible apply seg_Get.le | with_reducible apply seg_Put.le | with_reducible exact le_refl _)
/-! drawbridge/drawbridgeref15.Right -/
noncomputable def ref15_Right.f (a1 : List Int) : Option (Bool) :=
  (ref15_Sum.f a1).bind fun r1 => lt (decide (r1 = 0)) fun y1 => some (y1)
set_option maxRecDepth 100000 in
set_option maxHeartbeats 4000000 in
theorem ref15_Right.spc (v1 : Value) (a1 : List Int) (r : Bool) (H : ref15_Right.f a1 = some r) : Spc Try.prog 37 [v1] [Val (Kd.sl (Kd.int .u8)) v1 a1] [] (fun (s : Unit) => .bool r) (fun s => []) := by
 unfold ref15_Right.f at H
 refine Spc.go Try.func37 rfl (by kernel_rfl) rfl rfl (all_cons (Val.per Per_sl) all_nil) fun F a w h => ?_
 refine Go.seq ?_
 refine Go.reg ?_
 refine gs h (o_assign rfl) rfl fun _ _ _ h => ?_
 refine GoR.done ?_
 refine Go.seq ?_
 refine Go.reg ?_
 refine gs h (o_move rfl) rfl fun _ _ _ h => ?_
 obtain ⟨r1, er1, H⟩ := bindE H
 refine gs h (o_call (ref15_Sum.spc v1 a1 r1 er1) rfl [0] [] (by decide) rfl rfl) rfl fun _ _ _ h => ?_
 have g1 := h.mem.pur 0 rfl
 refine gs h (o_bin rfl rfl rfl) rfl fun _ _ _ h => ?_
 obtain ⟨y1, ey1, H⟩ := ltE H
 refine gs h (o_assign' rfl (congrArg Value.bool ey1)) rfl fun _ _ _ h => ?_
 refine GoR.done ?_
 rw [← som H]
 exact g_ret (vs := [.bool y1]) h Try.func37 ⟨rfl, trivial⟩ ⟨(), rfl, (h.mem.pick [] (by decide) rfl)⟩
def ref15_Right.g (k_ : Nat) (a1 : List Int) : Option (Bool) :=
  (ref15_Sum.g k_ a1).bind fun r1 => lt (decide (r1 = 0)) fun y1 => some (y1)
theorem ref15_Right.le (k_ : Nat) (a1 : List Int) : Le (ref15_Right.g k_ a1) (ref15_Right.f a1) := by
 unfold ref15_Right.g ref15_Right.f
 repeat' (first | with_reducible refine le_loop fun _ => ?_ | with_reducible refine le_bind ?_ fun _ => ?_ | with_reducible refine le_ite ?_ ?_ | with_reducible refine le_lt fun _ => ?_ | with_reducible refine le_elim (fun _ => ?_) (fun _ => ?_) _ | with_reducible apply ref15_Sum.le | with_reducible exact le_refl _)
/-! drawbridge/drawbridgeref01.Get -/
noncomputable def ref01_Get.f (a1 : List Int) (a2 : Bool) : Option (Int) :=
  lt (min (a1.length : Int) 8) fun y1 => (loop (fun s1 => (if decide (s1.2 < y1) = true then (((if a2 = true then (idx a1 s1.2).bind fun x1 => lt (IntKind.u64.wrap ((IntKind.u64.wrap (s1.1 * 256)) + x1)) fun y2 => some (y2) else (idx a1 (IntKind.i64.wrap ((IntKind.i64.wrap (y1 - 1)) - s1.2))).bind fun x2 => lt (IntKind.u64.wrap ((IntKind.u64.wrap (s1.1 * 256)) + x2)) fun y3 => some (y3))).bind (fun j1 => some (j1))).bind (fun j2 => lt (IntKind.i64.wrap (s1.2 + 1)) fun y4 => some (.inl (j2, y4))) else some (.inr (s1.1)))) (0, 0)).bind (fun j3 => some (j3))
set_option maxRecDepth 100000 in
set_option maxHeartbeats 4000000 in
theorem ref01_Get.spc (v1 : Value) (a1 : List Int) (a2 : Bool) (r : Int) (H : ref01_Get.f a1 a2 = some r) : Spc Try.prog 45 [v1, .bool a2] [Val (Kd.sl (Kd.int .u8)) v1 a1] [] (fun (s : Unit) => .int .u64 r) (fun s => [Ent.pur (InR .u64 r)]) := by
 unfold ref01_Get.f at H
 refine Spc.go Try.func45 rfl (by kernel_rfl) rfl rfl (all_cons (Val.per Per_sl) all_nil) fun F a w h => ?_
 refine Go.seq ?_
 refine Go.reg ?_
 refine gs h (o_assign rfl) rfl fun _ _ _ h => ?_
 refine GoR.done ?_
 refine Go.seq ?_
 refine Go.reg ?_
 refine gs h (o_assign rfl) rfl fun _ _ _ h => ?_
 refine GoR.done ?_
 refine Go.seq ?_
 refine Go.reg ?_
 refine gs h (o_move rfl) rfl fun _ _ _ h => ?_
 have g1 := (len_at 0 rfl h.mem)
 refine gs h (o_ln rfl (rd_at 0 rfl) t_v23) rfl fun _ _ _ h => ?_
 refine gs h (o_min rfl rfl) rfl fun _ _ _ h => ?_
 obtain ⟨y1, ey1, H⟩ := ltE H
 refine gs h (o_assign' rfl (congrArg (fun z => Value.int .i64 z) ey1)) rfl fun _ _ _ h => ?_
 refine GoR.done ?_
 refine Go.seq ?_
 refine Go.seq ?_
 refine Go.reg ?_
 refine gs h (o_assign rfl) rfl fun _ _ _ h => ?_
 refine GoR.done ?_
 refine Go.block ?_
 obtain ⟨o1, hl, G1⟩ := bindE H
 refine g_cut (fun G => ∀ j3 (a : Act) (w : World), o1 = j3 → InR .u64 j3 → St Try.f45.ntmps F [(5, .int .u64 j3)] [] a w → G a w) 2 ?_ fun J3 => ?_
 ·intro j3 a w ho_ g8 h
  rw [ho_] at G1
  have H := G1
  refine Go.seq ?_
  refine Go.reg ?_
  refine gs h (o_move rfl) rfl fun _ _ _ h => ?_
  refine gs h (o_assign rfl) rfl fun _ _ _ h => ?_
  refine GoR.done ?_
  rw [← som H]
  exact g_ret (vs := [.int .u64 j3]) h Try.func45 ⟨rfl, trivial⟩ ⟨(), rfl, ((h.mem.pick [] (by decide) rfl).addpur g8)⟩
 refine g_loop (fun s1 G => ∀  (a : Act) (w : World), InR .u64 s1.1 → InR .i64 s1.2 → St Try.f45.ntmps F [(0, v1), (1, .bool a2), (5, .int .u64 s1.1), (6, .int .i64 y1), (7, .int .i64 s1.2)] [Val (Kd.sl (Kd.int .u8)) v1 a1] a w → G a w) hl (fun s1 p1 H i1 => ?_) fun I_ => ?_
 ·intro  a w g2 g3 h
  refine Go.seq ?_
  refine Go.seq ?_
  refine Go.reg ?_
  refine gs h (o_move rfl) rfl fun _ _ _ h => ?_
  refine gs h (o_move rfl) rfl fun _ _ _ h => ?_
  refine gs h (o_bin rfl rfl rfl) rfl fun _ _ _ h => ?_
  refine GoR.done ?_
  by_cases c1 : decide (s1.2 < y1) = true
  ·have H := ifT c1 H
   refine g_t h rfl c1 ?_
   refine Go.skip ?_
   refine Go.seq ?_
   obtain ⟨o2, H, G2⟩ := bindE H
   refine g_cut (fun G => ∀ j2 (a : Act) (w : World), o2 = j2 → InR .u64 j2 → St Try.f45.ntmps F [(0, v1), (1, .bool a2), (5, .int .u64 j2), (6, .int .i64 y1), (7, .int .i64 s1.2)] [Val (Kd.sl (Kd.int .u8)) v1 a1] a w → G a w) 1 ?_ fun J2 => ?_
   ·intro j2 a w ho_ g7 h
    rw [ho_] at G2
    have H := G2
    refine Go.reg ?_
    refine gs h (o_move rfl) rfl fun _ _ _ h => ?_
    refine gs h (o_bin rfl rfl rfl) rfl fun _ _ _ h => ?_
    obtain ⟨y4, ey4, H⟩ := ltE H
    refine gs h (o_assign' rfl (congrArg (fun z => Value.int .i64 z) ey4)) rfl fun _ _ _ h => ?_
    refine GoR.done ?_
    have e_ := som H; subst e_
    exact Go.inLoop (nx_in i1 _ _ g7 (ey4 ▸ (wrap_in _ _)) (h.wk (by rfl) [0] (by decide) (by rfl)))
   refine Go.block ?_
   obtain ⟨o3, H, G3⟩ := bindE H
   refine g_cut (fun G => ∀ j1 (a : Act) (w : World), o3 = j1 → InR .u64 j1 → St Try.f45.ntmps F [(0, v1), (1, .bool a2), (5, .int .u64 j1), (6, .int .i64 y1), (7, .int .i64 s1.2)] [Val (Kd.sl (Kd.int .u8)) v1 a1] a w → G a w) 2 ?_ fun J1 => ?_
   ·intro j1 a w ho_ g6 h
    rw [ho_] at G3
    have H := G3
    exact J2 j1 _ _ (som H).symm g6 (h.wk (by rfl) [0] (by decide) (by rfl))
   refine Go.seq ?_
   refine Go.reg ?_
   refine gs h (o_move rfl) rfl fun _ _ _ h => ?_
   refine GoR.done ?_
   by_cases c2 : a2 = true
   ·have H := ifT c2 H
    refine g_t h rfl c2 ?_
    refine Go.reg ?_
    refine gs h (o_move rfl) rfl fun _ _ _ h => ?_
    refine gs h (o_bin rfl rfl rfl) rfl fun _ _ _ h => ?_
    refine gs h (o_move rfl) rfl fun _ _ _ h => ?_
    refine gs h (o_move rfl) rfl fun _ _ _ h => ?_
    obtain ⟨x1, ex1, H⟩ := bindE H
    refine gs h (o_ix rfl rfl (rd_at 0 rfl) ex1 t_v23) rfl fun _ _ _ h => ?_
    have g4 := (rd_inr (rd_at 0 rfl) ex1 h.mem)
    refine gs h (o_lex rfl (rd_at 0 rfl) ex1 X_int t_y5 (by decide)) rfl fun _ _ _ h => ?_
    refine gs h (o_convw rfl t_q5 t_u49 g4 rfl) rfl fun _ _ _ h => ?_
    refine gs h (o_bin rfl rfl rfl) rfl fun _ _ _ h => ?_
    obtain ⟨y2, ey2, H⟩ := ltE H
    refine gs h (o_assign' rfl (congrArg (fun z => Value.int .u64 z) ey2)) rfl fun _ _ _ h => ?_
    refine GoR.done ?_
    refine Go.inBlock ?_
    exact J1 y2 _ _ (som H).symm (ey2 ▸ (wrap_in _ _)) (h.wk (by rfl) [0] (by decide) (by rfl))
   ·have H := ifF c2 H
    refine g_f h rfl c2 ?_
    refine Go.reg ?_
    refine gs h (o_move rfl) rfl fun _ _ _ h => ?_
    refine gs h (o_bin rfl rfl rfl) rfl fun _ _ _ h => ?_
    refine gs h (o_move rfl) rfl fun _ _ _ h => ?_
    refine gs h (o_move rfl) rfl fun _ _ _ h => ?_
    refine gs h (o_bin rfl rfl rfl) rfl fun _ _ _ h => ?_
    refine gs h (o_move rfl) rfl fun _ _ _ h => ?_
    refine gs h (o_bin rfl rfl rfl) rfl fun _ _ _ h => ?_
    obtain ⟨x2, ex2, H⟩ := bindE H
    refine gs h (o_ix rfl rfl (rd_at 0 rfl) ex2 t_v23) rfl fun _ _ _ h => ?_
    have g5 := (rd_inr (rd_at 0 rfl) ex2 h.mem)
    refine gs h (o_lex rfl (rd_at 0 rfl) ex2 X_int t_y5 (by decide)) rfl fun _ _ _ h => ?_
    refine gs h (o_convw rfl t_q5 t_u49 g5 rfl) rfl fun _ _ _ h => ?_
    refine gs h (o_bin rfl rfl rfl) rfl fun _ _ _ h => ?_
    obtain ⟨y3, ey3, H⟩ := ltE H
    refine gs h (o_assign' rfl (congrArg (fun z => Value.int .u64 z) ey3)) rfl fun _ _ _ h => ?_
    refine GoR.done ?_
    refine Go.inBlock ?_
    exact J1 y3 _ _ (som H).symm (ey3 ▸ (wrap_in _ _)) (h.wk (by rfl) [0] (by decide) (by rfl))
  ·have H := ifF c1 H
   refine g_f h rfl c1 ?_
   refine Go.exit rfl ?_
   have e_ := som H; subst e_
   exact J3 s1.1 _ _ (nx_out i1).symm g2 (h.wk (by rfl) [] (by decide) (by rfl))
 ·exact I_ _ _ (show InR .u64 0 by decide) (show InR .i64 0 by decide) (h.wk (by rfl) [0] (by decide) (by rfl))
def ref01_Get.g (k_ : Nat) (a1 : List Int) (a2 : Bool) : Option (Int) :=
  lt (min (a1.length : Int) 8) fun y1 => (loopK k_ (fun s1 => (if decide (s1.2 < y1) = true then (((if a2 = true then (idx a1 s1.2).bind fun x1 => lt (IntKind.u64.wrap ((IntKind.u64.wrap (s1.1 * 256)) + x1)) fun y2 => some (y2) else (idx a1 (IntKind.i64.wrap ((IntKind.i64.wrap (y1 - 1)) - s1.2))).bind fun x2 => lt (IntKind.u64.wrap ((IntKind.u64.wrap (s1.1 * 256)) + x2)) fun y3 => some (y3))).bind (fun j1 => some (j1))).bind (fun j2 => lt (IntKind.i64.wrap (s1.2 + 1)) fun y4 => some (.inl (j2, y4))) else some (.inr (s1.1)))) (0, 0)).bind (fun j3 => some (j3))
theorem ref01_Get.le (k_ : Nat) (a1 : List Int) (a2 : Bool) : Le (ref01_Get.g k_ a1 a2) (ref01_Get.f a1 a2) := by
 unfold ref01_Get.g ref01_Get.f
 repeat' (first | with_reducible refine le_loop fun _ => ?_ | with_reducible refine le_bind ?_ fun _ => ?_ | with_reducible refine le_ite ?_ ?_ | with_reducible refine le_lt fun _ => ?_ | with_reducible refine le_elim (fun _ => ?_) (fun _ => ?_) _ | with_reducible exact le_refl _)
/-! drawbridge/drawbridgeref19.get -/
noncomputable def ref19_get.f (a1 : List Int) : Option (Int) :=
  (ref01_Get.f a1 true).bind fun r1 => some (r1)
set_option maxRecDepth 100000 in
set_option maxHeartbeats 4000000 in
theorem ref19_get.spc (v1 : Value) (a1 : List Int) (r : Int) (H : ref19_get.f a1 = some r) : Spc Try.prog 39 [v1] [Val (Kd.sl (Kd.int .u8)) v1 a1] [] (fun (s : Unit) => .int .u64 r) (fun s => [Ent.pur (InR .u64 r)]) := by
 unfold ref19_get.f at H
 refine Spc.go Try.func39 rfl (by kernel_rfl) rfl rfl (all_cons (Val.per Per_sl) all_nil) fun F a w h => ?_
 refine Go.seq ?_
 refine Go.reg ?_
 refine gs h (o_assign rfl) rfl fun _ _ _ h => ?_
 refine GoR.done ?_
 refine Go.seq ?_
 refine Go.reg ?_
 refine gs h (o_move rfl) rfl fun _ _ _ h => ?_
 obtain ⟨r1, er1, H⟩ := bindE H
 refine gs h (o_call (ref01_Get.spc v1 a1 true r1 er1) rfl [0] [] (by decide) rfl rfl) rfl fun _ _ _ h => ?_
 have g1 := h.mem.pur 0 rfl
 refine gs h (o_assign rfl) rfl fun _ _ _ h => ?_
 refine GoR.done ?_
 rw [← som H]
 exact g_ret (vs := [.int .u64 r1]) h Try.func39 ⟨rfl, trivial⟩ ⟨(), rfl, ((h.mem.pick [] (by decide) rfl).addpur g1)⟩
def ref19_get.g (k_ : Nat) (a1 : List Int) : Option (Int) :=
  (ref01_Get.g k_ a1 true).bind fun r1 => some (r1)
theorem ref19_get.le (k_ : Nat) (a1 : List Int) : Le (ref19_get.g k_ a1) (ref19_get.f a1) := by
 unfold ref19_get.g ref19_get.f
 repeat' (first | with_reducible refine le_loop fun _ => ?_ | with_reducible refine le_bind ?_ fun _ => ?_ | with_reducible refine le_ite ?_ ?_ | with_reducible refine le_lt fun _ => ?_ | with_reducible refine le_elim (fun _ => ?_) (fun _ => ?_) _ | with_reducible apply ref01_Get.le | with_reducible exact le_refl _)
end Go.Proofs.Ythjaancddmecpaa.S
