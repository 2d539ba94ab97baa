/- Contracts, printed by a program of this session. -/
import Derived.Test.YtjjceikmimhpnaaDoorT4
namespace Go.Proofs.YtjjceikmimhpnaaDoor.S
open Go Go.SL Go.RowKit
set_option linter.unusedVariables false
set_option linter.unusedSimpArgs false
/-! slices.Grow[[]byte,byte] -/
noncomputable def slices_Grow_s_byte_byte.f (a1 : Int) : Option ((List Int)) :=
  (if decide (a1 < 0) = true then none else (lt (IntKind.i64.wrap (a1 - (IntKind.i64.wrap (0 - 0)))) fun y1 => (if decide (0 < y1) = true then (mk y1 0).bind fun x1 => (cut x1 0 0).bind fun x2 => some (x2) else some ([]))).bind (fun j1 => some (j1)))
set_option maxRecDepth 100000 in
set_option maxHeartbeats 4000000 in
theorem slices_Grow_s_byte_byte.spc (a1 : Int) (ha1 : InR .i64 a1) (r : (List Int)) (H : slices_Grow_s_byte_byte.f a1 = some r) : Spc Tryd.prog 46 [.slice none 0 0, .int .i64 a1] [] [] (fun (s : Value) => s) (fun s => [Val (Kd.osl (Kd.int .u8)) s r]) := by
 unfold slices_Grow_s_byte_byte.f at H
 refine Spc.go Tryd.func46 rfl (by kernel_rfl) rfl rfl all_nil fun F a w h => ?_
 refine Go.seq ?_
 refine Go.reg ?_
 refine ga h (o_assign rfl) rfl fun h => ?_
 refine GoR.done ?_
 refine Go.seq ?_
 refine Go.seq ?_
 refine Go.reg ?_
 refine mv h rfl rfl fun h => ?_
 refine ga h (o_bin rfl rfl rfl) rfl fun h => ?_
 refine GoR.done ?_
 by_cases c1 : decide (a1 < 0) = true
 ·have H := ifT c1 H
  refine g_t h rfl c1 ?_
  cases H
 ·have H := ifF c1 H
  refine g_f h rfl c1 ?_
  refine Go.skip ?_
  refine Go.seq ?_
  obtain ⟨o1, H, G1⟩ := bindE H
  refine g_cut (fun G => ∀ j1 (v2 : Value) (a : Act) (w : World), o1 = j1 → St Tryd.f46.ntmps F [(0, v2)] [Val (Kd.osl (Kd.int .u8)) v2 j1] a w → G a w) 1 ?_ fun J1 => ?_
  ·intro j1 v2 a w ho_ h
   rw [ho_] at G1
   have H := G1
   refine Go.seq ?_
   refine Go.reg ?_
   refine mv h rfl rfl fun h => ?_
   refine ga h (o_assign rfl) rfl fun h => ?_
   refine GoR.done ?_
   rw [← som H]
   exact g_ret (vs := [v2]) h Tryd.func46 ⟨rfl, trivial⟩ ⟨v2, rfl, (h.mem.pick [0] (by decide) rfl)⟩
  refine Go.seq ?_
  refine Go.reg ?_
  refine mv h rfl rfl fun h => ?_
  refine mv h rfl rfl fun h => ?_
  refine ga h (o_capn rfl t_v22) rfl fun h => ?_
  refine mv h rfl rfl fun h => ?_
  refine ga h (o_ln (K := (Kd.int .u8)) rfl (rd_pv pv_nil) t_v22) rfl fun h => ?_
  refine ga h (o_bin rfl rfl rfl) rfl fun h => ?_
  refine ga h (o_bin rfl rfl rfl) rfl fun h => ?_
  obtain ⟨y1, ey1, H⟩ := ltE H
  refine ga h (o_assign' rfl (congrArg (fun z => Value.int .i64 z) ey1)) rfl fun h => ?_
  refine GoR.done ?_
  refine Go.seq ?_
  refine Go.reg ?_
  refine mv h rfl rfl fun h => ?_
  refine ga h (o_bin rfl rfl rfl) rfl fun h => ?_
  refine GoR.done ?_
  by_cases c2 : decide (0 < y1) = true
  ·have H := ifT c2 H
   refine g_t h rfl c2 ?_
   refine Go.reg ?_
   refine mv h rfl rfl fun h => ?_
   refine mv h rfl rfl fun h => ?_
   refine ga h (o_capn rfl t_v22) rfl fun h => ?_
   refine ga h (o_nilh rfl rfl t_v22) rfl fun h => ?_
   refine mv h rfl rfl fun h => ?_
   obtain ⟨x1, ex1, H⟩ := bindE H
   refine gs h (o_appz (K := (Kd.int .u8)) rfl rfl ex1 t_a22 t_u3 (by decide) (fun e he => ⟨[.int .u8 0], by cases he; exact t_zc5, z_int⟩)) rfl fun v1 _ _ h => ?_
   refine mv h rfl rfl fun h => ?_
   refine ga h (o_ln (K := (Kd.int .u8)) rfl (rd_pv pv_nil) t_v22) rfl fun h => ?_
   obtain ⟨x2, ex2, H⟩ := bindE H
   refine ga h (o_subh 0 rfl rfl rfl ex2 t_v22) rfl fun h => ?_
   refine ga h (o_assign rfl) rfl fun h => ?_
   refine GoR.done ?_
   exact J1 x2 (subV v1 (0 : Int).toNat (0 : Int).toNat (Kd.n (Kd.int .u8))) _ _ (som H).symm (h.wr [0])
  ·have H := ifF c2 H
   refine g_f h rfl c2 ?_
   refine Go.skip ?_
   replace h := h.mm fun m => m.nilo (Kd.int .u8)
   exact J1 [] (.slice none 0 0) _ _ (som H).symm (h.wr [0])
def slices_Grow_s_byte_byte.g (k_ : Nat) (a1 : Int) : Option ((List Int)) :=
  (if decide (a1 < 0) = true then none else (lt (IntKind.i64.wrap (a1 - (IntKind.i64.wrap (0 - 0)))) fun y1 => (if decide (0 < y1) = true then (mk y1 0).bind fun x1 => (cut x1 0 0).bind fun x2 => some (x2) else some ([]))).bind (fun j1 => some (j1)))
theorem slices_Grow_s_byte_byte.le (k_ : Nat) (a1 : Int) : Le (slices_Grow_s_byte_byte.g k_ a1) (slices_Grow_s_byte_byte.f a1) := by
 unfold slices_Grow_s_byte_byte.g slices_Grow_s_byte_byte.f
 repeat' (first | with_reducible refine le_loop fun _ => ?_ | with_reducible refine le_bind ?_ fun _ => ?_ | with_reducible refine le_ite ?_ ?_ | with_reducible refine le_lt fun _ => ?_ | with_reducible refine le_elim (fun _ => ?_) (fun _ => ?_) _ | with_reducible exact le_refl _)
/-! slices.Concat[[]byte,byte] -/
noncomputable def slices_Concat_s_byte_byte.f (a1 : List (List Int)) : Option ((List Int)) :=
  (loop (fun s1 => (if decide (s1.2 < (a1.length : Int)) = true then (idx a1 s1.2).bind fun x1 => lt (IntKind.i64.wrap (s1.1 + (x1.length : Int))) fun y1 => (if decide (y1 < 0) = true then none else some (.inl (y1, IntKind.i64.wrap (s1.2 + 1)))) else some (.inr (s1.1)))) (0, 0)).bind (fun j1 => (slices_Grow_s_byte_byte.f j1).bind fun r1 => (loop (fun s2 => (if decide (s2.2 < (a1.length : Int)) = true then (idx a1 s2.2).bind fun x2 => (app s2.1 x2).bind fun x3 => some (.inl (x3, IntKind.i64.wrap (s2.2 + 1))) else some (.inr (s2.1)))) (r1, 0)).bind (fun j2 => some (j2)))
set_option maxRecDepth 100000 in
set_option maxHeartbeats 4000000 in
theorem slices_Concat_s_byte_byte.spc (v1 : Value) (a1 : List (List Int)) (r : (List Int)) (H : slices_Concat_s_byte_byte.f a1 = some r) : Spc Tryd.prog 27 [v1] [Val (Kd.sl (Kd.sl (Kd.int .u8))) v1 a1] [] (fun (s : Value) => s) (fun s => [Val (Kd.osl (Kd.int .u8)) s r]) := by
 unfold slices_Concat_s_byte_byte.f at H
 refine Spc.go Tryd.func27 rfl (by kernel_rfl) rfl rfl (all_cons (Val.per Per_sl) all_nil) fun F a w h => ?_
 refine Go.seq ?_
 refine Go.reg ?_
 refine ga h (o_assign rfl) rfl fun h => ?_
 refine GoR.done ?_
 refine Go.seq ?_
 refine Go.reg ?_
 refine ga h (o_assign rfl) rfl fun h => ?_
 refine GoR.done ?_
 refine Go.seq ?_
 refine Go.seq ?_
 refine Go.reg ?_
 refine mv h rfl rfl fun h => ?_
 have g1 := (len_at 0 rfl h.mem)
 refine ga h (o_ln rfl (rd_at 0 rfl) t_v85) rfl fun h => ?_
 refine mv h rfl rfl fun h => ?_
 refine GoR.done ?_
 refine Go.block ?_
 obtain ⟨o1, hl, G1⟩ := bindE H
 refine g_cut (fun G => ∀ j1 (a : Act) (w : World), o1 = j1 → InR .i64 j1 → St Tryd.f27.ntmps F [(0, v1), (3, .int .i64 j1)] [Val (Kd.sl (Kd.sl (Kd.int .u8))) v1 a1] a w → G a w) 2 ?_ fun J1 => ?_
 ·intro j1 a w ho_ g5 h
  rw [ho_] at G1
  have H := G1
  refine Go.seq ?_
  refine Go.reg ?_
  refine mv h rfl rfl fun h => ?_
  obtain ⟨r1, er1, H⟩ := bindE H
  refine gs h (o_call (slices_Grow_s_byte_byte.spc j1 g5 r1 er1) rfl [] [] (by decide) rfl rfl) rfl fun v3 _ _ h => ?_
  refine ga h (o_assign rfl) rfl fun h => ?_
  refine GoR.done ?_
  refine Go.seq ?_
  refine Go.seq ?_
  refine Go.reg ?_
  refine mv h rfl rfl fun h => ?_
  have g6 := (len_at 1 rfl h.mem)
  refine ga h (o_ln rfl (rd_at 1 rfl) t_v85) rfl fun h => ?_
  refine mv h rfl rfl fun h => ?_
  refine GoR.done ?_
  refine Go.block ?_
  obtain ⟨o2, hl, G2⟩ := bindE H
  refine g_cut (fun G => ∀ j2 (v7 : Value) (a : Act) (w : World), o2 = j2 → St Tryd.f27.ntmps F [(6, v7)] [Val (Kd.osl (Kd.int .u8)) v7 j2] a w → G a w) 2 ?_ fun J2 => ?_
  ·intro j2 v7 a w ho_ h
   rw [ho_] at G2
   have H := G2
   refine Go.seq ?_
   refine Go.reg ?_
   refine mv h rfl rfl fun h => ?_
   refine ga h (o_assign rfl) rfl fun h => ?_
   refine GoR.done ?_
   rw [← som H]
   exact g_ret (vs := [v7]) h Tryd.func27 ⟨rfl, trivial⟩ ⟨v7, rfl, (h.mem.pick [0] (by decide) rfl)⟩
  refine g_loop (fun s2 G => ∀ (v4 : Value) (a : Act) (w : World), InR .i64 s2.2 → St Tryd.f27.ntmps F [(6, v4), (25, v1), (26, .int .i64 (a1.length : Int)), (27, .int .i64 s2.2)] [Val (Kd.osl (Kd.int .u8)) v4 s2.1, Val (Kd.sl (Kd.sl (Kd.int .u8))) v1 a1] a w → G a w) hl (fun s2 p2 H i2 => ?_) fun I_ => ?_
  ·intro v4 a w g7 h
   refine Go.seq ?_
   refine Go.reg ?_
   refine ga h (o_bin rfl rfl rfl) rfl fun h => ?_
   refine GoR.done ?_
   refine Go.seq ?_
   by_cases c3 : decide (s2.2 < (a1.length : Int)) = true
   ·have H := ifT c3 H
    refine g_t h rfl c3 ?_
    refine Go.skip ?_
    refine Go.seq ?_
    refine Go.block ?_
    refine Go.seq ?_
    refine Go.reg ?_
    obtain ⟨x2, ex2, H⟩ := bindE H
    refine ga h (o_ix rfl rfl (rd_at 1 rfl) ex2 t_v85) rfl fun h => ?_
    refine gs h (o_lev rfl (rd_at 1 rfl) ex2 t_y22 (by decide)) rfl fun v5 _ _ h => ?_
    refine ga h (o_assign rfl) rfl fun h => ?_
    refine GoR.done ?_
    refine Go.reg ?_
    refine mv h rfl rfl fun h => ?_
    refine mv h rfl rfl fun h => ?_
    obtain ⟨x3, ex3, H⟩ := bindE H
    refine gs h (o_app (K := (Kd.int .u8)) 1 rfl rfl rfl (rd_at 0 rfl) ex3 t_a22 t_n22) rfl fun v6 _ _ h => ?_
    refine ga h (o_assign rfl) rfl fun h => ?_
    refine GoR.done ?_
    refine Go.inBlock ?_
    refine Go.reg ?_
    refine ga h (o_bin rfl rfl rfl) rfl fun h => ?_
    refine mv h rfl rfl fun h => ?_
    refine GoR.done ?_
    have e_ := som H; subst e_
    exact Go.inLoop (nx_in i2 v6 _ _ (wrap_in _ _) (h.wr [1, 2]))
   ·have H := ifF c3 H
    refine g_f h rfl c3 ?_
    refine Go.exit rfl ?_
    have e_ := som H; subst e_
    exact J2 s2.1 v4 _ _ (nx_out i2).symm (h.wr [0])
  ·exact I_ v3 _ _ (show InR .i64 0 by decide) (h.wr [0, 1])
 refine g_loop (fun s1 G => ∀  (a : Act) (w : World), InR .i64 s1.1 → InR .i64 s1.2 → St Tryd.f27.ntmps F [(0, v1), (3, .int .i64 s1.1), (9, v1), (10, .int .i64 (a1.length : Int)), (11, .int .i64 s1.2)] [Val (Kd.sl (Kd.sl (Kd.int .u8))) v1 a1] a w → G a w) hl (fun s1 p1 H i1 => ?_) fun I_ => ?_
 ·intro  a w g2 g3 h
  refine Go.seq ?_
  refine Go.reg ?_
  refine ga h (o_bin rfl rfl rfl) rfl fun h => ?_
  refine GoR.done ?_
  refine Go.seq ?_
  by_cases c1 : decide (s1.2 < (a1.length : Int)) = true
  ·have H := ifT c1 H
   refine g_t h rfl c1 ?_
   refine Go.skip ?_
   refine Go.seq ?_
   refine Go.block ?_
   refine Go.seq ?_
   refine Go.reg ?_
   obtain ⟨x1, ex1, H⟩ := bindE H
   refine ga h (o_ix rfl rfl (rd_at 0 rfl) ex1 t_v85) rfl fun h => ?_
   refine gs h (o_lev rfl (rd_at 0 rfl) ex1 t_y22 (by decide)) rfl fun v2 _ _ h => ?_
   refine ga h (o_assign rfl) rfl fun h => ?_
   refine GoR.done ?_
   refine Go.seq ?_
   refine Go.reg ?_
   refine mv h rfl rfl fun h => ?_
   refine mv h rfl rfl fun h => ?_
   have g4 := (len_at 0 rfl h.mem)
   refine ga h (o_ln rfl (rd_at 0 rfl) t_v22) rfl fun h => ?_
   refine ga h (o_bin rfl rfl rfl) rfl fun h => ?_
   obtain ⟨y1, ey1, H⟩ := ltE H
   refine ga h (o_assign' rfl (congrArg (fun z => Value.int .i64 z) ey1)) rfl fun h => ?_
   refine GoR.done ?_
   refine Go.seq ?_
   refine Go.reg ?_
   refine mv h rfl rfl fun h => ?_
   refine ga h (o_bin rfl rfl rfl) rfl fun h => ?_
   refine GoR.done ?_
   by_cases c2 : decide (y1 < 0) = true
   ·have H := ifT c2 H
    refine g_t h rfl c2 ?_
    cases H
   ·have H := ifF c2 H
    refine g_f h rfl c2 ?_
    refine Go.skip ?_
    refine Go.inBlock ?_
    refine Go.reg ?_
    refine ga h (o_bin rfl rfl rfl) rfl fun h => ?_
    refine mv h rfl rfl fun h => ?_
    refine GoR.done ?_
    have e_ := som H; subst e_
    exact Go.inLoop (nx_in i1 _ _ (ey1 ▸ (wrap_in _ _)) (wrap_in _ _) (h.wr [1]))
  ·have H := ifF c1 H
   refine g_f h rfl c1 ?_
   refine Go.exit rfl ?_
   have e_ := som H; subst e_
   exact J1 s1.1 _ _ (nx_out i1).symm g2 (h.wr [0])
 ·exact I_ _ _ (show InR .i64 0 by decide) (show InR .i64 0 by decide) (h.wr [0])
def slices_Concat_s_byte_byte.g (k_ : Nat) (a1 : List (List Int)) : Option ((List Int)) :=
  (loopK k_ (fun s1 => (if decide (s1.2 < (a1.length : Int)) = true then (idx a1 s1.2).bind fun x1 => lt (IntKind.i64.wrap (s1.1 + (x1.length : Int))) fun y1 => (if decide (y1 < 0) = true then none else some (.inl (y1, IntKind.i64.wrap (s1.2 + 1)))) else some (.inr (s1.1)))) (0, 0)).bind (fun j1 => (slices_Grow_s_byte_byte.g k_ j1).bind fun r1 => (loopK k_ (fun s2 => (if decide (s2.2 < (a1.length : Int)) = true then (idx a1 s2.2).bind fun x2 => (app s2.1 x2).bind fun x3 => some (.inl (x3, IntKind.i64.wrap (s2.2 + 1))) else some (.inr (s2.1)))) (r1, 0)).bind (fun j2 => some (j2)))
theorem slices_Concat_s_byte_byte.le (k_ : Nat) (a1 : List (List Int)) : Le (slices_Concat_s_byte_byte.g k_ a1) (slices_Concat_s_byte_byte.f a1) := by
 unfold slices_Concat_s_byte_byte.g slices_Concat_s_byte_byte.f
 repeat' (first | with_reducible refine le_loop fun _ => ?_ | with_reducible refine le_bind ?_ fun _ => ?_ | with_reducible refine le_ite ?_ ?_ | with_reducible refine le_lt fun _ => ?_ | with_reducible refine le_elim (fun _ => ?_) (fun _ => ?_) _ | with_reducible apply slices_Grow_s_byte_byte.le | with_reducible exact le_refl _)
/-! drawbridge/dns.Ask -/
noncomputable def dns_Ask.f (a1 : Int) (a2 : List Int) (a3 : Int) : Option ((List Int) × Int) :=
  (dns_name.f a2).bind fun r1 => ((if (!r1.2) = true then some (true) else (if (!decide ((ishr .i64 a1 16) = 0)) = true then some (true) else some ((!decide ((ishr .i64 a3 16) = 0)))))).bind (fun j1 => (if j1 = true then some (([], 2)) else (dns_two.f a1).bind fun r2 => (dns_two.f 256).bind fun r3 => (dns_two.f 1).bind fun r4 => (mk 6 0).bind fun x1 => (dns_two.f a3).bind fun r5 => (dns_two.f 1).bind fun r6 => (slices_Concat_s_byte_byte.f ([r2, r3, r4, x1, r1.1, r5, r6] : List (List Int))).bind fun r7 => some ((r7, 0))))
set_option maxRecDepth 100000 in
set_option maxHeartbeats 4000000 in
theorem dns_Ask.spc (a1 : Int) (ha1 : InR .i64 a1) (a2 : List Int) (ha2 : Bs a2) (a3 : Int) (ha3 : InR .i64 a3) (r : (List Int) × Int) (H : dns_Ask.f a1 a2 a3 = some r) : Spc Tryd.prog 10 [.int .i64 a1, .string (mkS a2), .int .i64 a3] [] [] (fun (s : Value) => .tuple #[s, .int .i64 r.2]) (fun s => [Ent.pur (InR .i64 r.2), Val (Kd.osl (Kd.int .u8)) s r.1]) := by
 unfold dns_Ask.f at H
 refine Spc.go Tryd.func10 rfl (by kernel_rfl) rfl rfl all_nil fun F a w h => ?_
 refine Go.seq ?_
 refine Go.reg ?_
 refine ga h (o_assign rfl) rfl fun h => ?_
 refine ga h (o_assign rfl) rfl fun h => ?_
 refine GoR.done ?_
 refine Go.seq ?_
 refine Go.reg ?_
 refine mv h rfl rfl fun h => ?_
 obtain ⟨r1, er1, H⟩ := bindE H
 refine gs h (o_call (dns_name.spc a2 ha2 r1 er1) rfl [] [] (by decide) rfl rfl) rfl fun v1 _ _ h => ?_
 refine mv h rfl rfl fun h => ?_
 refine ga h (o_extract rfl rfl) rfl fun h => ?_
 refine ga h (o_extract rfl rfl) rfl fun h => ?_
 refine ga h (o_assign rfl) rfl fun h => ?_
 refine ga h (o_assign rfl) rfl fun h => ?_
 refine GoR.done ?_
 refine Go.seq ?_
 refine Go.seq ?_
 obtain ⟨o1, H, G1⟩ := bindE H
 refine g_cut (fun G => ∀ j1 (a : Act) (w : World), o1 = j1 → St Tryd.f10.ntmps F [(0, .int .i64 a1), (2, .int .i64 a3), (8, v1), (26, .bool j1)] [Val (Kd.sl (Kd.int .u8)) v1 r1.1] a w → G a w) 1 ?_ fun J1 => ?_
 ·intro j1 a w ho_ h
  rw [ho_] at G1
  have H := G1
  by_cases c3 : j1 = true
  ·have H := ifT c3 H
   refine g_t h rfl c3 ?_
   refine Go.seq ?_
   refine Go.reg ?_
   refine ga h (o_assign rfl) rfl fun h => ?_
   refine ga h (o_assign rfl) rfl fun h => ?_
   refine GoR.done ?_
   replace h := h.mm fun m => m.nilo (Kd.int .u8)
   rw [← som H]
   exact g_ret (vs := [.slice none 0 0, .int .i64 2]) h Tryd.func10 ⟨rfl, ⟨rfl, trivial⟩⟩ ⟨.slice none 0 0, rfl, ((h.mem.pick [0] (by decide) rfl).addpur (show InR .i64 2 by decide))⟩
  ·have H := ifF c3 H
   refine g_f h rfl c3 ?_
   refine Go.skip ?_
   refine Go.seq ?_
   replace h := h.wq [(0, .int .i64 a1), (2, .int .i64 a3), (8, v1)] [Val (Kd.sl (Kd.int .u8)) v1 r1.1] [0]
   obtain ⟨r2, er2, H⟩ := bindE H
   obtain ⟨r3, er3, H⟩ := bindE H
   obtain ⟨r4, er4, H⟩ := bindE H
   obtain ⟨x1, ex1, H⟩ := bindE H
   obtain ⟨r5, er5, H⟩ := bindE H
   obtain ⟨r6, er6, H⟩ := bindE H
   refine Go.draw (E := [(0, .int .i64 a1), (2, .int .i64 a3), (8, v1)]) [] (L := [Val (Kd.sl (Kd.int .u8)) v1 r1.1]) h rfl rfl 9 [cn (.int .i64 a1), cw [0] [] [] fun u => [Val (Kd.osl (Kd.int .u8)) u r2], cw [] [] [] fun u => [Val (Kd.osl (Kd.int .u8)) u r3], cw [] [] [] fun u => [Val (Kd.osl (Kd.int .u8)) u r4], cw [] [] [] fun u => [Val (Kd.osl (Kd.int .u8)) u x1], cn (v1), cn (.int .i64 a3), cw [6] [] [] fun u => [Val (Kd.osl (Kd.int .u8)) u r5], cw [] [] [] fun u => [Val (Kd.osl (Kd.int .u8)) u r6]] rfl t_mxo (by kernel_rfl) (by rfl) ?_ fun f1 _ _ h => ?_
   ·exact ox rfl (o_move rfl) (oy rfl (o_call (dns_two.spc a1 ha1 r2 er2) rfl [] [] (by decide) rfl rfl) (oy rfl (o_call (dns_two.spc 256 (show InR .i64 256 by decide) r3 er3) rfl [] [] (by decide) rfl rfl) (oy rfl (o_call (dns_two.spc 1 (show InR .i64 1 by decide) r4 er4) rfl [] [] (by decide) rfl rfl) (oy rfl (o_mk (K := (Kd.int .u8)) rfl rfl ex1 t_a22 (by decide) (fun e he => ⟨[.int .u8 0], by cases he; exact t_zc5, z_int⟩)) (ox rfl (o_move rfl) (ox rfl (o_move rfl) (oy rfl (o_call (dns_two.spc a3 ha3 r5 er5) rfl [] [] (by decide) rfl rfl) (oy rfl (o_call (dns_two.spc 1 (show InR .i64 1 by decide) r6 er6) rfl [] [] (by decide) rfl rfl) (obs_nil)))))))))
   replace h := h.wk (E' := [(28, (f1 1)), (29, (f1 2)), (30, (f1 3)), (31, (f1 4)), (32, v1), (34, (f1 7)), (35, (f1 8))]) (L' := [Val (Kd.osl (Kd.int .u8)) (f1 1) r2, Val (Kd.osl (Kd.int .u8)) (f1 2) r3, Val (Kd.osl (Kd.int .u8)) (f1 3) r4, Val (Kd.osl (Kd.int .u8)) (f1 4) x1, Val (Kd.osl (Kd.int .u8)) (f1 7) r5, Val (Kd.osl (Kd.int .u8)) (f1 8) r6, Val (Kd.sl (Kd.int .u8)) v1 r1.1]) (by kernel_rfl) [0, 1, 2, 3, 4, 5, 6] (by decide) (by kernel_rfl)
   replace h := h.mm fun m => m.freeze 0 rfl
   replace h := h.mm fun m => m.freeze 1 rfl
   replace h := h.mm fun m => m.freeze 2 rfl
   replace h := h.mm fun m => m.freeze 3 rfl
   replace h := h.mm fun m => m.freeze 4 rfl
   replace h := h.mm fun m => m.freeze 5 rfl
   refine gs h (o_bs (K := (Kd.sl (Kd.int .u8))) (vs := [(f1 1), (f1 2), (f1 3), (f1 4), v1, (f1 7), (f1 8)]) (xs := ([r2, r3, r4, x1, r1.1, r5, r6] : List (List Int))) rfl rfl (pvs_cons (pv_at Per_sl 0 rfl) (pvs_cons (pv_at Per_sl 1 rfl) (pvs_cons (pv_at Per_sl 2 rfl) (pvs_cons (pv_at Per_sl 3 rfl) (pvs_cons (pv_at Per_sl 6 rfl) (pvs_cons (pv_at Per_sl 4 rfl) (pvs_cons (pv_at Per_sl 5 rfl) pvs_nil))))))) t_a85 (by decide) (by decide)) rfl fun v8 _ _ h => ?_
   replace h := h.mm fun m => m.freeze 0 rfl
   obtain ⟨r7, er7, H⟩ := bindE H
   refine gs h (o_call (slices_Concat_s_byte_byte.spc v8 ([r2, r3, r4, x1, r1.1, r5, r6] : List (List Int)) r7 er7) rfl [0] [] (by decide) rfl rfl) rfl fun v9 _ _ h => ?_
   refine ga h (o_assign rfl) rfl fun h => ?_
   refine ga h (o_assign rfl) rfl fun h => ?_
   refine GoR.done ?_
   rw [← som H]
   exact g_ret (vs := [v9, .int .i64 0]) h Tryd.func10 ⟨rfl, ⟨rfl, trivial⟩⟩ ⟨v9, rfl, ((h.mem.pick [0] (by decide) rfl).addpur (show InR .i64 0 by decide))⟩
 refine Go.reg ?_
 refine mv h rfl rfl fun h => ?_
 refine ga h (o_not rfl) rfl fun h => ?_
 refine mv h rfl rfl fun h => ?_
 by_cases c1 : (!r1.2) = true
 ·have H := ifT c1 H
  iterate 3 (refine gk h rfl rfl (nb_t c1) rfl fun _ h => ?_)
  refine ga h (o_pickT rfl rfl c1) rfl fun h => ?_
  refine mv h rfl rfl fun h => ?_
  iterate 3 (refine gk h rfl rfl (nb_t rfl) rfl fun _ h => ?_)
  refine ga h (o_pickT rfl rfl rfl) rfl fun h => ?_
  refine GoR.done ?_
  exact J1 true _ _ (som H).symm (h.wr [0])
 ·have H := ifF c1 H
  refine gg h rfl rfl (nbF c1) (o_move rfl) rfl fun _ _ _ h => ?_
  refine gg h rfl rfl (nbF c1) (o_shr rfl rfl (show (0 : Int) ≤ 16 by decide)) rfl fun _ _ _ h => ?_
  refine gg h rfl rfl (nbF c1) (o_bin rfl rfl rfl) rfl fun _ _ _ h => ?_
  refine ga h (o_pickF rfl rfl c1) rfl fun h => ?_
  refine mv h rfl rfl fun h => ?_
  by_cases c2 : (!decide ((ishr .i64 a1 16) = 0)) = true
  ·have H := ifT c2 H
   iterate 3 (refine gk h rfl rfl (nb_t c2) rfl fun _ h => ?_)
   refine ga h (o_pickT rfl rfl c2) rfl fun h => ?_
   refine GoR.done ?_
   exact J1 true _ _ (som H).symm (h.wr [0])
  ·have H := ifF c2 H
   refine gg h rfl rfl (nbF c2) (o_move rfl) rfl fun _ _ _ h => ?_
   refine gg h rfl rfl (nbF c2) (o_shr rfl rfl (show (0 : Int) ≤ 16 by decide)) rfl fun _ _ _ h => ?_
   refine gg h rfl rfl (nbF c2) (o_bin rfl rfl rfl) rfl fun _ _ _ h => ?_
   refine ga h (o_pickF rfl rfl c2) rfl fun h => ?_
   refine GoR.done ?_
   exact J1 (!decide ((ishr .i64 a3 16) = 0)) _ _ (som H).symm (h.wr [0])
def dns_Ask.g (k_ : Nat) (a1 : Int) (a2 : List Int) (a3 : Int) : Option ((List Int) × Int) :=
  (dns_name.g k_ a2).bind fun r1 => ((if (!r1.2) = true then some (true) else (if (!decide ((ishr .i64 a1 16) = 0)) = true then some (true) else some ((!decide ((ishr .i64 a3 16) = 0)))))).bind (fun j1 => (if j1 = true then some (([], 2)) else (dns_two.g k_ a1).bind fun r2 => (dns_two.g k_ 256).bind fun r3 => (dns_two.g k_ 1).bind fun r4 => (mk 6 0).bind fun x1 => (dns_two.g k_ a3).bind fun r5 => (dns_two.g k_ 1).bind fun r6 => (slices_Concat_s_byte_byte.g k_ ([r2, r3, r4, x1, r1.1, r5, r6] : List (List Int))).bind fun r7 => some ((r7, 0))))
theorem dns_Ask.le (k_ : Nat) (a1 : Int) (a2 : List Int) (a3 : Int) : Le (dns_Ask.g k_ a1 a2 a3) (dns_Ask.f a1 a2 a3) := by
 unfold dns_Ask.g dns_Ask.f
 repeat' (first | with_reducible refine le_loop fun _ => ?_ | with_reducible refine le_bind ?_ fun _ => ?_ | with_reducible refine le_ite ?_ ?_ | with_reducible refine le_lt fun _ => ?_ | with_reducible refine le_elim (fun _ => ?_) (fun _ => ?_) _ | with_reducible apply dns_name.le | with_reducible apply dns_two.le | with_reducible apply slices_Concat_s_byte_byte.le | with_reducible exact le_refl _)
/-! drawbridge/dns.no -/
noncomputable def dns_no.f (a1 : Int) : Option ((Option Tfault)) :=
  some ((some (⟨a1⟩ : Tfault)))
set_option maxRecDepth 100000 in
set_option maxHeartbeats 4000000 in
theorem dns_no.spc (a1 : Int) (ha1 : InR .i64 a1) (r : (Option Tfault)) (H : dns_no.f a1 = some r) : Spc Tryd.prog 34 [.int .i64 a1] [] [] (fun (s : Value) => s) (fun s => [Val (Kd.erp 64 Kfault) s r]) := by
 unfold dns_no.f at H
 refine Spc.go Tryd.func34 rfl (by kernel_rfl) rfl rfl all_nil fun F a w h => ?_
 refine Go.seq ?_
 refine Go.reg ?_
 refine ga h (o_assign rfl) rfl fun h => ?_
 refine GoR.done ?_
 refine Go.seq ?_
 refine Go.reg ?_
 refine mv h rfl rfl fun h => ?_
 refine gs h (o_build (K := Kfault) (x := (⟨a1⟩ : Tfault)) (ps := [(0, .int .i64 a1)]) rfl (zs := zsfault) rfl t_b68 rfl (show PB (Kd.last (Kd.int .i64)) a1 0 zsfault _ _ from (pb_lastp (pv_int ha1) rfl))) rfl fun v1 _ _ h => ?_
 refine gs h (o_box (K := Kfault) rfl (pv_at Pfault 0 rfl)) rfl fun b1 _ _ h => ?_
 replace h := h.mm fun m => m.frz Pfault 0 rfl
 refine ga h (o_ifc rfl (by kernel_rfl)) rfl fun h => ?_
 refine ga h (o_assign rfl) rfl fun h => ?_
 refine GoR.done ?_
 replace h := h.mm fun m => (pv_ers 0 rfl (T := 64)).ent m
 rw [← som H]
 exact g_ret (vs := [.iface 64 (pt b1)]) h Tryd.func34 ⟨rfl, trivial⟩ ⟨.iface 64 (pt b1), rfl, (h.mem.pick [0] (by decide) rfl)⟩
def dns_no.g (k_ : Nat) (a1 : Int) : Option ((Option Tfault)) :=
  some ((some (⟨a1⟩ : Tfault)))
theorem dns_no.le (k_ : Nat) (a1 : Int) : Le (dns_no.g k_ a1) (dns_no.f a1) := by
 unfold dns_no.g dns_no.f
 repeat' (first | with_reducible refine le_loop fun _ => ?_ | with_reducible refine le_bind ?_ fun _ => ?_ | with_reducible refine le_ite ?_ ?_ | with_reducible refine le_lt fun _ => ?_ | with_reducible refine le_elim (fun _ => ?_) (fun _ => ?_) _ | with_reducible exact le_refl _)
/-! drawbridge/bits.Get -/
noncomputable def bits_Get.f (a1 : List Int) (a2 : Bool) : Option (Int) :=
  lt (min (a1.length : Int) 8) fun y1 => (loop (fun s1 => (if decide (s1.2 < y1) = true then ((if a2 = true then lt (IntKind.i64.wrap ((IntKind.i64.wrap (y1 - 1)) - s1.2)) fun y2 => some (y2) else some (s1.2))).bind (fun j1 => (idx a1 j1).bind fun x1 => if 0 ≤ (IntKind.i64.wrap (8 * s1.2)) then (lt (bits .or .u64 s1.1 (ishl .u64 x1 (IntKind.i64.wrap (8 * s1.2)))) fun y3 => some (.inl (y3, IntKind.i64.wrap (s1.2 + 1)))) else none) else some (.inr (s1.1)))) (0, 0)).bind (fun j2 => some (j2))
set_option maxRecDepth 100000 in
set_option maxHeartbeats 4000000 in
theorem bits_Get.spc (v1 : Value) (a1 : List Int) (a2 : Bool) (r : Int) (H : bits_Get.f a1 a2 = some r) : Spc Tryd.prog 50 [v1, .bool a2] [Val (Kd.sl (Kd.int .u8)) v1 a1] [] (fun (s : Unit) => .int .u64 r) (fun s => [Ent.pur (InR .u64 r)]) := by
 unfold bits_Get.f at H
 refine Spc.go Tryd.func50 rfl (by kernel_rfl) rfl rfl (all_cons (Val.per Per_sl) all_nil) fun F a w h => ?_
 refine Go.seq ?_
 refine Go.reg ?_
 refine ga h (o_assign rfl) rfl fun h => ?_
 refine GoR.done ?_
 refine Go.seq ?_
 refine Go.reg ?_
 refine ga h (o_assign rfl) rfl fun h => ?_
 refine GoR.done ?_
 refine Go.seq ?_
 refine Go.reg ?_
 refine mv h rfl rfl fun h => ?_
 have g1 := (len_at 0 rfl h.mem)
 refine ga h (o_ln rfl (rd_at 0 rfl) t_v22) rfl fun h => ?_
 refine ga h (o_min rfl rfl) rfl fun h => ?_
 obtain ⟨y1, ey1, H⟩ := ltE H
 refine ga h (o_assign' rfl (congrArg (fun z => Value.int .i64 z) ey1)) rfl fun h => ?_
 refine GoR.done ?_
 refine Go.seq ?_
 refine Go.seq ?_
 refine Go.reg ?_
 refine mv h rfl rfl fun h => ?_
 refine mv h rfl rfl fun h => ?_
 refine GoR.done ?_
 refine Go.block ?_
 obtain ⟨o1, hl, G1⟩ := bindE H
 refine g_cut (fun G => ∀ j2 (a : Act) (w : World), o1 = j2 → InR .u64 j2 → St Tryd.f50.ntmps F [(5, .int .u64 j2)] [] a w → G a w) 2 ?_ fun J2 => ?_
 ·intro j2 a w ho_ g6 h
  rw [ho_] at G1
  have H := G1
  refine Go.seq ?_
  refine Go.reg ?_
  refine mv h rfl rfl fun h => ?_
  refine ga h (o_assign rfl) rfl fun h => ?_
  refine GoR.done ?_
  rw [← som H]
  exact g_ret (vs := [.int .u64 j2]) h Tryd.func50 ⟨rfl, trivial⟩ ⟨(), rfl, ((h.mem.pick [] (by decide) rfl).addpur g6)⟩
 refine g_loop (fun s1 G => ∀  (a : Act) (w : World), InR .u64 s1.1 → InR .i64 s1.2 → St Tryd.f50.ntmps F [(0, v1), (1, .bool a2), (5, .int .u64 s1.1), (6, .int .i64 y1), (12, .int .i64 y1), (13, .int .i64 s1.2)] [Val (Kd.sl (Kd.int .u8)) v1 a1] a w → G a w) hl (fun s1 p1 H i1 => ?_) fun I_ => ?_
 ·intro  a w g2 g3 h
  refine Go.seq ?_
  refine Go.reg ?_
  refine ga h (o_bin rfl rfl rfl) rfl fun h => ?_
  refine GoR.done ?_
  refine Go.seq ?_
  by_cases c1 : decide (s1.2 < y1) = true
  ·have H := ifT c1 H
   refine g_t h rfl c1 ?_
   refine Go.skip ?_
   refine Go.seq ?_
   refine Go.block ?_
   refine Go.seq ?_
   refine Go.reg ?_
   refine mv h rfl rfl fun h => ?_
   refine ga h (o_assign rfl) rfl fun h => ?_
   refine GoR.done ?_
   refine Go.seq ?_
   refine Go.reg ?_
   refine mv h rfl rfl fun h => ?_
   refine ga h (o_assign rfl) rfl fun h => ?_
   refine GoR.done ?_
   refine Go.seq ?_
   obtain ⟨o2, H, G2⟩ := bindE H
   refine g_cut (fun G => ∀ j1 (a : Act) (w : World), o2 = j1 → InR .i64 j1 → St Tryd.f50.ntmps F [(0, v1), (1, .bool a2), (5, .int .u64 s1.1), (6, .int .i64 y1), (7, .int .i64 s1.2), (8, .int .i64 j1), (12, .int .i64 y1), (13, .int .i64 s1.2)] [Val (Kd.sl (Kd.int .u8)) v1 a1] a w → G a w) 1 ?_ fun J1 => ?_
   ·intro j1 a w ho_ g4 h
    rw [ho_] at G2
    have H := G2
    refine Go.reg ?_
    iterate 3 (refine ga h (o_move rfl) rfl fun h => ?_)
    obtain ⟨x1, ex1, H⟩ := bindE H
    refine ga h (o_ix rfl rfl (rd_at 0 rfl) ex1 t_v22) rfl fun h => ?_
    have g5 := (rd_inr (rd_at 0 rfl) ex1 h.mem)
    refine ga h (o_lex rfl (rd_at 0 rfl) ex1 X_int t_y5 (by decide)) rfl fun h => ?_
    refine ga h (o_convw rfl t_q5 t_u87 g5 rfl) rfl fun h => ?_
    refine mv h rfl rfl fun h => ?_
    refine ga h (o_bin rfl rfl rfl) rfl fun h => ?_
    obtain ⟨q1, H⟩ := ifS H
    refine ga h (o_shl rfl rfl q1) rfl fun h => ?_
    refine ga h (o_bin rfl rfl rfl) rfl fun h => ?_
    obtain ⟨y3, ey3, H⟩ := ltE H
    refine ga h (o_assign' rfl (congrArg (fun z => Value.int .u64 z) ey3)) rfl fun h => ?_
    refine GoR.done ?_
    refine Go.inBlock ?_
    refine Go.reg ?_
    refine ga h (o_bin rfl rfl rfl) rfl fun h => ?_
    refine mv h rfl rfl fun h => ?_
    refine GoR.done ?_
    have e_ := som H; subst e_
    exact Go.inLoop (nx_in i1 _ _ (ey3 ▸ (wrap_in _ _)) (wrap_in _ _) (h.wr [0]))
   refine Go.seq ?_
   refine Go.reg ?_
   refine mv h rfl rfl fun h => ?_
   refine GoR.done ?_
   by_cases c2 : a2 = true
   ·have H := ifT c2 H
    refine g_t h rfl c2 ?_
    refine Go.reg ?_
    refine mv h rfl rfl fun h => ?_
    refine ga h (o_bin rfl rfl rfl) rfl fun h => ?_
    refine mv h rfl rfl fun h => ?_
    refine ga h (o_bin rfl rfl rfl) rfl fun h => ?_
    obtain ⟨y2, ey2, H⟩ := ltE H
    refine ga h (o_assign' rfl (congrArg (fun z => Value.int .i64 z) ey2)) rfl fun h => ?_
    refine GoR.done ?_
    exact J1 y2 _ _ (som H).symm (ey2 ▸ (wrap_in _ _)) (h.wr [0])
   ·have H := ifF c2 H
    refine g_f h rfl c2 ?_
    refine Go.skip ?_
    exact J1 s1.2 _ _ (som H).symm g3 (h.wr [0])
  ·have H := ifF c1 H
   refine g_f h rfl c1 ?_
   refine Go.exit rfl ?_
   have e_ := som H; subst e_
   exact J2 s1.1 _ _ (nx_out i1).symm g2 (h.wr [])
 ·exact I_ _ _ (show InR .u64 0 by decide) (show InR .i64 0 by decide) (h.wr [0])
def bits_Get.g (k_ : Nat) (a1 : List Int) (a2 : Bool) : Option (Int) :=
  lt (min (a1.length : Int) 8) fun y1 => (loopK k_ (fun s1 => (if decide (s1.2 < y1) = true then ((if a2 = true then lt (IntKind.i64.wrap ((IntKind.i64.wrap (y1 - 1)) - s1.2)) fun y2 => some (y2) else some (s1.2))).bind (fun j1 => (idx a1 j1).bind fun x1 => if 0 ≤ (IntKind.i64.wrap (8 * s1.2)) then (lt (bits .or .u64 s1.1 (ishl .u64 x1 (IntKind.i64.wrap (8 * s1.2)))) fun y3 => some (.inl (y3, IntKind.i64.wrap (s1.2 + 1)))) else none) else some (.inr (s1.1)))) (0, 0)).bind (fun j2 => some (j2))
theorem bits_Get.le (k_ : Nat) (a1 : List Int) (a2 : Bool) : Le (bits_Get.g k_ a1 a2) (bits_Get.f a1 a2) := by
 unfold bits_Get.g bits_Get.f
 repeat' (first | with_reducible refine le_loop fun _ => ?_ | with_reducible refine le_bind ?_ fun _ => ?_ | with_reducible refine le_ite ?_ ?_ | with_reducible refine le_lt fun _ => ?_ | with_reducible refine le_elim (fun _ => ?_) (fun _ => ?_) _ | with_reducible exact le_refl _)
/-! drawbridge/dns.num -/
noncomputable def dns_num.f (a1 : List Int) : Option (Int) :=
  (cut a1 0 2).bind fun x1 => (bits_Get.f x1 true).bind fun r1 => lt (IntKind.i64.wrap r1) fun y1 => some (y1)
set_option maxRecDepth 100000 in
set_option maxHeartbeats 4000000 in
theorem dns_num.spc (v1 : Value) (a1 : List Int) (r : Int) (H : dns_num.f a1 = some r) : Spc Tryd.prog 31 [v1] [Val (Kd.sl (Kd.int .u8)) v1 a1] [] (fun (s : Unit) => .int .i64 r) (fun s => [Ent.pur (InR .i64 r)]) := by
 unfold dns_num.f at H
 refine Spc.go Tryd.func31 rfl (by kernel_rfl) rfl rfl (all_cons (Val.per Per_sl) all_nil) fun F a w h => ?_
 refine Go.seq ?_
 refine Go.reg ?_
 refine ga h (o_assign rfl) rfl fun h => ?_
 refine GoR.done ?_
 refine Go.seq ?_
 refine Go.reg ?_
 refine mv h rfl rfl fun h => ?_
 obtain ⟨x1, ex1, H⟩ := bindE H
 refine gs h (o_cuth rfl (pv_at Per_sl 0 rfl) rfl ex1 t_v22) rfl fun v2 _ _ h => ?_
 obtain ⟨r1, er1, H⟩ := bindE H
 refine ga h (o_call (bits_Get.spc v2 x1 true r1 er1) rfl [0] [] (by decide) rfl rfl) rfl fun h => ?_
 have g1 := h.mem.pur 0 rfl
 refine ga h (o_conv rfl t_q87 t_u3) rfl fun h => ?_
 obtain ⟨y1, ey1, H⟩ := ltE H
 refine ga h (o_assign' rfl (congrArg (fun z => Value.int .i64 z) ey1)) rfl fun h => ?_
 refine GoR.done ?_
 rw [← som H]
 exact g_ret (vs := [.int .i64 y1]) h Tryd.func31 ⟨rfl, trivial⟩ ⟨(), rfl, ((h.mem.pick [] (by decide) rfl).addpur (ey1 ▸ (wrap_in _ _)))⟩
def dns_num.g (k_ : Nat) (a1 : List Int) : Option (Int) :=
  (cut a1 0 2).bind fun x1 => (bits_Get.g k_ x1 true).bind fun r1 => lt (IntKind.i64.wrap r1) fun y1 => some (y1)
theorem dns_num.le (k_ : Nat) (a1 : List Int) : Le (dns_num.g k_ a1) (dns_num.f a1) := by
 unfold dns_num.g dns_num.f
 repeat' (first | with_reducible refine le_loop fun _ => ?_ | with_reducible refine le_bind ?_ fun _ => ?_ | with_reducible refine le_ite ?_ ?_ | with_reducible refine le_lt fun _ => ?_ | with_reducible refine le_elim (fun _ => ?_) (fun _ => ?_) _ | with_reducible apply bits_Get.le | with_reducible exact le_refl _)
/-! drawbridge/dns.label -/
noncomputable def dns_label.f (a1 : List Int) : Option ((List Int) × (Option Tfault)) :=
  (idx a1 0).bind fun x1 => (if decide (63 < x1) = true then (dns_no.f 161).bind fun r1 => some (([], r1)) else (loop (fun s1 => (if decide (s1.2 < x1) = true then (if decide ((a1.length : Int) ≤ (IntKind.i64.wrap (1 + s1.2))) = true then (dns_no.f 160).bind fun r2 => some (.inr (.inr (([], r2)))) else (idx a1 (IntKind.i64.wrap (1 + s1.2))).bind fun x2 => (dns_letter.f x2).bind fun r3 => (if (!r3.2) = true then (dns_no.f 161).bind fun r4 => some (.inr (.inr (([], r4)))) else (app s1.1 ([r3.1] : List Int)).bind fun x3 => some (.inl (x3, IntKind.i64.wrap (s1.2 + 1))))) else some (.inr (.inl (s1.1))))) (([] : List Int), 0)).bind (Sum.elim (fun j1 => some ((j1, none))) (fun z_ => some (z_))))
set_option maxRecDepth 100000 in
set_option maxHeartbeats 4000000 in
theorem dns_label.spc (v1 : Value) (a1 : List Int) (r : (List Int) × (Option Tfault)) (H : dns_label.f a1 = some r) : Spc Tryd.prog 35 [v1] [Val (Kd.sl (Kd.int .u8)) v1 a1] [] (fun (s : Value) => .tuple #[.string (mkS r.1), s]) (fun s => [Ent.pur (Bs r.1), Val (Kd.erp 64 Kfault) s r.2]) := by
 unfold dns_label.f at H
 refine Spc.go Tryd.func35 rfl (by kernel_rfl) rfl rfl (all_cons (Val.per Per_sl) all_nil) fun F a w h => ?_
 refine Go.seq ?_
 refine Go.reg ?_
 refine ga h (o_assign rfl) rfl fun h => ?_
 refine ga h (o_assign rfl) rfl fun h => ?_
 refine GoR.done ?_
 refine Go.seq ?_
 refine Go.reg ?_
 refine mv h rfl rfl fun h => ?_
 obtain ⟨x1, ex1, H⟩ := bindE H
 refine ga h (o_ix rfl rfl (rd_at 0 rfl) ex1 t_v22) rfl fun h => ?_
 have g1 := (rd_inr (rd_at 0 rfl) ex1 h.mem)
 refine ga h (o_lex rfl (rd_at 0 rfl) ex1 X_int t_y5 (by decide)) rfl fun h => ?_
 refine ga h (o_convw rfl t_q5 t_u3 g1 rfl) rfl fun h => ?_
 refine ga h (o_assign rfl) rfl fun h => ?_
 refine GoR.done ?_
 refine Go.seq ?_
 refine Go.seq ?_
 refine Go.reg ?_
 refine mv h rfl rfl fun h => ?_
 refine ga h (o_bin rfl rfl rfl) rfl fun h => ?_
 refine GoR.done ?_
 by_cases c1 : decide (63 < x1) = true
 ·have H := ifT c1 H
  refine g_t h rfl c1 ?_
  refine Go.seq ?_
  refine Go.reg ?_
  obtain ⟨r1, er1, H⟩ := bindE H
  refine gs h (o_call (dns_no.spc 161 (show InR .i64 161 by decide) r1 er1) rfl [] [] (by decide) rfl rfl) rfl fun v2 _ _ h => ?_
  refine ga h (o_assign rfl) rfl fun h => ?_
  refine ga h (o_assign rfl) rfl fun h => ?_
  refine GoR.done ?_
  rw [← som H]
  exact g_ret (vs := [.string (mkS []), v2]) h Tryd.func35 ⟨rfl, ⟨rfl, trivial⟩⟩ ⟨v2, rfl, ((h.mem.pick [0] (by decide) rfl).addpur (show Bs [] by decide))⟩
 ·have H := ifF c1 H
  refine g_f h rfl c1 ?_
  refine Go.skip ?_
  refine Go.seq ?_
  refine Go.reg ?_
  refine ga h (o_assign rfl) rfl fun h => ?_
  refine GoR.done ?_
  refine Go.seq ?_
  refine Go.seq ?_
  refine Go.reg ?_
  refine mv h rfl rfl fun h => ?_
  refine mv h rfl rfl fun h => ?_
  refine GoR.done ?_
  refine Go.block ?_
  obtain ⟨o1, hl, G1⟩ := bindE H
  refine g_cut (fun G => ∀ j1 (v8 : Value) (a : Act) (w : World), o1 = .inl (j1) → St Tryd.f35.ntmps F [(5, v8)] [Val (Kd.osl (Kd.int .u8)) v8 j1] a w → G a w) 2 ?_ fun J1 => ?_
  ·intro j1 v8 a w ho_ h
   rw [ho_] at G1
   have H := eInl G1
   refine Go.seq ?_
   refine Go.reg ?_
   refine mv h rfl rfl fun h => ?_
   have g6 := (rd_bs (rd_own 0 rfl) h.mem)
   refine ga h (o_b2s rfl (rd_own 0 rfl) t_u22 t_u5 t_u9) rfl fun h => ?_
   refine ga h (o_assign rfl) rfl fun h => ?_
   refine ga h (o_assign rfl) rfl fun h => ?_
   refine GoR.done ?_
   replace h := h.mm fun m => (pv_ern (T := 64) (K := Kfault)).ent m
   rw [← som H]
   exact g_ret (vs := [.string (mkS j1), .nilIface]) h Tryd.func35 ⟨rfl, ⟨rfl, trivial⟩⟩ ⟨.nilIface, rfl, ((h.mem.pick [0] (by decide) rfl).addpur g6)⟩
  refine g_loop (fun s1 G => ∀ (v3 : Value) (a : Act) (w : World), InR .i64 s1.2 → St Tryd.f35.ntmps F [(0, v1), (5, v3), (16, .int .i64 x1), (17, .int .i64 s1.2)] [Val (Kd.sl (Kd.int .u8)) v1 a1, Val (Kd.osl (Kd.int .u8)) v3 s1.1] a w → G a w) hl (fun s1 p1 H i1 => ?_) fun I_ => ?_
  ·intro v3 a w g2 h
   refine Go.seq ?_
   refine Go.reg ?_
   refine ga h (o_bin rfl rfl rfl) rfl fun h => ?_
   refine GoR.done ?_
   refine Go.seq ?_
   by_cases c2 : decide (s1.2 < x1) = true
   ·have H := ifT c2 H
    refine g_t h rfl c2 ?_
    refine Go.skip ?_
    refine Go.seq ?_
    refine Go.block ?_
    refine Go.seq ?_
    refine Go.reg ?_
    refine mv h rfl rfl fun h => ?_
    refine ga h (o_assign rfl) rfl fun h => ?_
    refine GoR.done ?_
    refine Go.seq ?_
    refine Go.seq ?_
    refine Go.reg ?_
    refine mv h rfl rfl fun h => ?_
    refine ga h (o_bin rfl rfl rfl) rfl fun h => ?_
    refine mv h rfl rfl fun h => ?_
    have g3 := (len_at 0 rfl h.mem)
    refine ga h (o_ln rfl (rd_at 0 rfl) t_v22) rfl fun h => ?_
    refine ga h (o_bin rfl rfl rfl) rfl fun h => ?_
    refine GoR.done ?_
    by_cases c3 : decide ((a1.length : Int) ≤ (IntKind.i64.wrap (1 + s1.2))) = true
    ·have H := ifT c3 H
     refine g_t h rfl c3 ?_
     refine Go.seq ?_
     refine Go.reg ?_
     obtain ⟨r2, er2, H⟩ := bindE H
     refine gs h (o_call (dns_no.spc 160 (show InR .i64 160 by decide) r2 er2) rfl [] [] (by decide) rfl rfl) rfl fun v4 _ _ h => ?_
     refine ga h (o_assign rfl) rfl fun h => ?_
     refine ga h (o_assign rfl) rfl fun h => ?_
     refine GoR.done ?_
     have e_ := som H; subst e_
     rw [← nx_out i1] at G1
     have H := G1
     rw [← som H]
     exact g_ret (vs := [.string (mkS []), v4]) h Tryd.func35 ⟨rfl, ⟨rfl, trivial⟩⟩ ⟨v4, rfl, ((h.mem.pick [0] (by decide) rfl).addpur (show Bs [] by decide))⟩
    ·have H := ifF c3 H
     refine g_f h rfl c3 ?_
     refine Go.skip ?_
     refine Go.seq ?_
     refine Go.reg ?_
     refine mv h rfl rfl fun h => ?_
     refine mv h rfl rfl fun h => ?_
     refine ga h (o_bin rfl rfl rfl) rfl fun h => ?_
     obtain ⟨x2, ex2, H⟩ := bindE H
     refine ga h (o_ix rfl rfl (rd_at 0 rfl) ex2 t_v22) rfl fun h => ?_
     have g4 := (rd_inr (rd_at 0 rfl) ex2 h.mem)
     refine ga h (o_lex rfl (rd_at 0 rfl) ex2 X_int t_y5 (by decide)) rfl fun h => ?_
     obtain ⟨r3, er3, H⟩ := bindE H
     refine ga h (o_call (dns_letter.spc x2 g4 r3 er3) rfl [] [] (by decide) rfl rfl) rfl fun h => ?_
     have g5 := h.mem.pur 0 rfl
     refine mv h rfl rfl fun h => ?_
     refine ga h (o_extract rfl rfl) rfl fun h => ?_
     refine ga h (o_extract rfl rfl) rfl fun h => ?_
     refine ga h (o_assign rfl) rfl fun h => ?_
     refine ga h (o_assign rfl) rfl fun h => ?_
     refine GoR.done ?_
     refine Go.seq ?_
     refine Go.seq ?_
     refine Go.reg ?_
     refine mv h rfl rfl fun h => ?_
     refine ga h (o_not rfl) rfl fun h => ?_
     refine GoR.done ?_
     by_cases c4 : (!r3.2) = true
     ·have H := ifT c4 H
      refine g_t h rfl c4 ?_
      refine Go.seq ?_
      refine Go.reg ?_
      obtain ⟨r4, er4, H⟩ := bindE H
      refine gs h (o_call (dns_no.spc 161 (show InR .i64 161 by decide) r4 er4) rfl [] [] (by decide) rfl rfl) rfl fun v5 _ _ h => ?_
      refine ga h (o_assign rfl) rfl fun h => ?_
      refine ga h (o_assign rfl) rfl fun h => ?_
      refine GoR.done ?_
      have e_ := som H; subst e_
      rw [← nx_out i1] at G1
      have H := G1
      rw [← som H]
      exact g_ret (vs := [.string (mkS []), v5]) h Tryd.func35 ⟨rfl, ⟨rfl, trivial⟩⟩ ⟨v5, rfl, ((h.mem.pick [0] (by decide) rfl).addpur (show Bs [] by decide))⟩
     ·have H := ifF c4 H
      refine g_f h rfl c4 ?_
      refine Go.skip ?_
      refine Go.reg ?_
      refine mv h rfl rfl fun h => ?_
      refine mv h rfl rfl fun h => ?_
      refine gs h (o_bs (K := (Kd.int .u8)) (vs := [.int .u8 r3.1]) (xs := ([r3.1] : List Int)) rfl rfl (pvs_cons (pv_int g5) pvs_nil) t_a22 (by decide) (by decide)) rfl fun v6 _ _ h => ?_
      obtain ⟨x3, ex3, H⟩ := bindE H
      refine gs h (o_app (K := (Kd.int .u8)) 3 rfl rfl rfl (rd_own 0 rfl) ex3 t_a22 t_n22) rfl fun v7 _ _ h => ?_
      refine ga h (o_assign rfl) rfl fun h => ?_
      refine GoR.done ?_
      refine Go.inBlock ?_
      refine Go.reg ?_
      refine ga h (o_bin rfl rfl rfl) rfl fun h => ?_
      refine mv h rfl rfl fun h => ?_
      refine GoR.done ?_
      have e_ := som H; subst e_
      exact Go.inLoop (nx_in i1 v7 _ _ (wrap_in _ _) (h.wr [2, 3]))
   ·have H := ifF c2 H
    refine g_f h rfl c2 ?_
    refine Go.exit rfl ?_
    have e_ := som H; subst e_
    exact J1 s1.1 v3 _ _ (nx_out i1).symm (h.wr [1])
  ·replace h := h.mm fun m => m.nilo (Kd.int .u8)
   exact I_ (.slice none 0 0) _ _ (show InR .i64 0 by decide) (h.wr [1, 0])
def dns_label.g (k_ : Nat) (a1 : List Int) : Option ((List Int) × (Option Tfault)) :=
  (idx a1 0).bind fun x1 => (if decide (63 < x1) = true then (dns_no.g k_ 161).bind fun r1 => some (([], r1)) else (loopK k_ (fun s1 => (if decide (s1.2 < x1) = true then (if decide ((a1.length : Int) ≤ (IntKind.i64.wrap (1 + s1.2))) = true then (dns_no.g k_ 160).bind fun r2 => some (.inr (.inr (([], r2)))) else (idx a1 (IntKind.i64.wrap (1 + s1.2))).bind fun x2 => (dns_letter.g k_ x2).bind fun r3 => (if (!r3.2) = true then (dns_no.g k_ 161).bind fun r4 => some (.inr (.inr (([], r4)))) else (app s1.1 ([r3.1] : List Int)).bind fun x3 => some (.inl (x3, IntKind.i64.wrap (s1.2 + 1))))) else some (.inr (.inl (s1.1))))) (([] : List Int), 0)).bind (Sum.elim (fun j1 => some ((j1, none))) (fun z_ => some (z_))))
theorem dns_label.le (k_ : Nat) (a1 : List Int) : Le (dns_label.g k_ a1) (dns_label.f a1) := by
 unfold dns_label.g dns_label.f
 repeat' (first | with_reducible refine le_loop fun _ => ?_ | with_reducible refine le_bind ?_ fun _ => ?_ | with_reducible refine le_ite ?_ ?_ | with_reducible refine le_lt fun _ => ?_ | with_reducible refine le_elim (fun _ => ?_) (fun _ => ?_) _ | with_reducible apply dns_letter.le | with_reducible apply dns_no.le | with_reducible exact le_refl _)
end Go.Proofs.YtjjceikmimhpnaaDoor.S
