/- Contracts, printed by a program of this session. -/
import Derived.Test.YtjjceikmimhpnaaDoorT4
import Derived.Test.YtjjceikmimhpnaaDoorT5
import Derived.Test.YtjjceikmimhpnaaDoorT6
import Derived.Test.YtjjceikmimhpnaaDoorT7
import Derived.Test.YtjjceikmimhpnaaDoorT8
namespace Go.Proofs.YtjjceikmimhpnaaDoor.S
open Go Go.SL Go.RowKit
set_option linter.unusedVariables false
set_option linter.unusedSimpArgs false
/-! drawbridge/dns.Question -/
noncomputable def dns_Question.f (a1 : List Int) : Option ((List Int) × Int × Int) :=
  (dns_read.f a1).bind fun r1 => (if (!r1.2.isNone) = true then (dns_errno.f r1.2).bind fun r2 => some (([], 0, r2)) else (strings_Join.f r1.1.labels [46]).bind fun r3 => some ((r3, r1.1.kind, 0)))
set_option maxRecDepth 100000 in
set_option maxHeartbeats 4000000 in
theorem dns_Question.spc (v1 : Value) (a1 : List Int) (r : (List Int) × Int × Int) (H : dns_Question.f a1 = some r) : Spc Tryd.prog 8 [v1] [Val (Kd.sl (Kd.int .u8)) v1 a1, Pfl (Kd.eq gv0) 0 0 ()] [] (fun (s : Unit) => .tuple #[.string (mkS r.1), .int .i64 r.2.1, .int .i64 r.2.2]) (fun s => [Ent.pur (Bs r.1 ∧ InR .i64 r.2.1 ∧ InR .i64 r.2.2)]) := by
 unfold dns_Question.f at H
 refine Spc.go Tryd.func8 rfl (by kernel_rfl) rfl rfl (all_cons (Val.per Per_sl) (all_cons Per_pfl all_nil)) fun F a w h => ?_
 refine Go.seq ?_
 refine Go.reg ?_
 iterate 3 (refine ga h (o_assign rfl) rfl fun h => ?_)
 refine GoR.done ?_
 refine Go.seq ?_
 refine Go.reg ?_
 refine mv h rfl rfl fun h => ?_
 obtain ⟨r1, er1, H⟩ := bindE H
 refine gs h (o_call (dns_read.spc v1 a1 r1 er1) rfl [0] [] (by decide) rfl rfl) rfl fun s_ _ _ h => ?_
 obtain ⟨v2, v3⟩ := s_
 refine mv h rfl rfl fun h => ?_
 refine ga h (o_extract rfl rfl) rfl fun h => ?_
 refine ga h (o_extract rfl rfl) rfl fun h => ?_
 refine gs h (o_alloc (K := KquestionR) (z := (.agg #[.slice none 0 0, .int .i64 0, .int .i64 0])) rfl ZquestionR) rfl fun b1 _ _ h => ?_
 refine gs0 h (o_st 0 rfl rfl rfl (pv_at PquestionR 1 rfl) rfl t_w46) fun _ _ _ h => ?_
 refine ga h (o_assign rfl) rfl fun h => ?_
 refine GoR.done ?_
 refine Go.seq ?_
 refine Go.seq ?_
 refine Go.reg ?_
 refine mv h rfl rfl fun h => ?_
 refine ga h (o_ern 2 rfl rfl t_i48) rfl fun h => ?_
 refine GoR.done ?_
 by_cases c1 : (!r1.2.isNone) = true
 ·have H := ifT c1 H
  refine g_t h rfl c1 ?_
  refine Go.seq ?_
  refine Go.reg ?_
  refine mv h rfl rfl fun h => ?_
  obtain ⟨r2, er2, H⟩ := bindE H
  refine ga h (o_call (dns_errno.spc v3 r1.2 r2 er2) rfl [2, 4] [] (by decide) rfl rfl) rfl fun h => ?_
  have g1 := h.mem.pur 0 rfl
  iterate 3 (refine ga h (o_assign rfl) rfl fun h => ?_)
  refine GoR.done ?_
  rw [← som H]
  exact g_ret (vs := [.string (mkS []), .int .i64 0, .int .i64 r2]) h Tryd.func8 ⟨rfl, ⟨rfl, ⟨rfl, trivial⟩⟩⟩ ⟨(), rfl, ((h.mem.pick [] (by decide) rfl).addpur ⟨(show Bs [] by decide), (show InR .i64 0 by decide), g1⟩)⟩
 ·have H := ifF c1 H
  refine g_f h rfl c1 ?_
  refine Go.skip ?_
  refine Go.seq ?_
  replace h := h.wq [(3, .int .i64 0), (4, .int .i64 0), (5, pt b1)] [Fld KquestionR b1 0 r1.1, Val KquestionR v2 r1.1, Val (Kd.erp 64 Kfault) v3 r1.2, Val (Kd.sl (Kd.int .u8)) v1 a1, Pfl (Kd.eq gv0) 0 0 ()] [0, 1, 2, 3, 4]
  obtain ⟨r3, er3, H⟩ := bindE H
  refine Go.draw (E := [(3, .int .i64 0), (4, .int .i64 0), (5, pt b1)]) [] (L := [Fld KquestionR b1 0 r1.1, Val KquestionR v2 r1.1, Val (Kd.erp 64 Kfault) v3 r1.2, Val (Kd.sl (Kd.int .u8)) v1 a1, Pfl (Kd.eq gv0) 0 0 ()]) h rfl rfl 6 [cn (pt b1), cw [0] [] [] fun u => [Val (Kd.sl Kd.str) u r1.1.labels], cm [0, 1] [1] [] (.string (mkS r3)) fun u => [Ent.pur (Bs r3)], cn (.pointer (some ⟨b1, 1, none⟩)), cm [3] [] [] (.int .i64 r1.1.kind) fun u => [Ent.pur (InR .i64 r1.1.kind)], ce [0, 1, 2] (.string (mkS r3))] rfl t_mxo (by kernel_rfl) (by rfl) ?_ fun f1 _ _ h => ?_
  ·exact ox rfl (o_fa rfl t_f46_0 rfl rfl) (oy rfl (o_lfv 0 rfl rfl squestionR_labels rfl Per_sl t_y44) (oc rfl rfl rfl (fun f1 => (o_call (strings_Join.spc (f1 1) r1.1.labels [46] (show Bs [46] by decide) r3 er3) rfl [0] [] (by decide) rfl rfl)) (ox rfl (o_fa rfl t_f46_1 rfl rfl) (ox rfl (OpS.pur (fun F w m_ => (in2 (fd_sub squestionR_kind 0 rfl m_))) (o_lfx 0 rfl rfl squestionR_kind rfl X_int t_y3)) (ox rfl (o_assign rfl) (obs_nil))))))
  replace h := h.wk (E' := [(3, .int .i64 0), (4, .int .i64 0), (20, .int .i64 r1.1.kind), (2, .string (mkS r3))]) (L' := [Val (Kd.sl Kd.str) (f1 1) r1.1.labels, Ent.pur (Bs r3), Ent.pur (InR .i64 r1.1.kind), Fld KquestionR b1 0 r1.1, Val KquestionR v2 r1.1, Val (Kd.erp 64 Kfault) v3 r1.2, Val (Kd.sl (Kd.int .u8)) v1 a1, Pfl (Kd.eq gv0) 0 0 ()]) (by kernel_rfl) [0, 1, 2, 3, 4, 5, 6, 7] (by decide) (by kernel_rfl)
  have g2 := (Mem.pur 2 rfl h.mem)
  have g3 := (Mem.pur 1 rfl h.mem)
  refine ga h (o_assign rfl) rfl fun h => ?_
  refine ga h (o_assign rfl) rfl fun h => ?_
  refine GoR.done ?_
  rw [← som H]
  exact g_ret (vs := [.string (mkS r3), .int .i64 r1.1.kind, .int .i64 0]) h Tryd.func8 ⟨rfl, ⟨rfl, ⟨rfl, trivial⟩⟩⟩ ⟨(), rfl, ((h.mem.pick [] (by decide) rfl).addpur ⟨g3, g2, (show InR .i64 0 by decide)⟩)⟩
def dns_Question.g (k_ : Nat) (a1 : List Int) : Option ((List Int) × Int × Int) :=
  (dns_read.g k_ a1).bind fun r1 => (if (!r1.2.isNone) = true then (dns_errno.g k_ r1.2).bind fun r2 => some (([], 0, r2)) else (strings_Join.g k_ r1.1.labels [46]).bind fun r3 => some ((r3, r1.1.kind, 0)))
theorem dns_Question.le (k_ : Nat) (a1 : List Int) : Le (dns_Question.g k_ a1) (dns_Question.f a1) := by
 unfold dns_Question.g dns_Question.f
 repeat' (first | with_reducible refine le_loop fun _ => ?_ | with_reducible refine le_bind ?_ fun _ => ?_ | with_reducible refine le_ite ?_ ?_ | with_reducible refine le_lt fun _ => ?_ | with_reducible refine le_elim (fun _ => ?_) (fun _ => ?_) _ | with_reducible apply dns_errno.le | with_reducible apply dns_read.le | with_reducible apply strings_Join.le | with_reducible exact le_refl _)
/-! drawbridge/dns.Id -/
noncomputable def dns_Id.f (a1 : List Int) : Option (Int × Bool) :=
  (if decide ((a1.length : Int) < 12) = true then some ((0, false)) else (dns_num.f a1).bind fun r1 => some ((r1, true)))
set_option maxRecDepth 100000 in
set_option maxHeartbeats 4000000 in
theorem dns_Id.spc (v1 : Value) (a1 : List Int) (r : Int × Bool) (H : dns_Id.f a1 = some r) : Spc Tryd.prog 12 [v1] [Val (Kd.sl (Kd.int .u8)) v1 a1] [] (fun (s : Unit) => .tuple #[.int .i64 r.1, .bool r.2]) (fun s => [Ent.pur (InR .i64 r.1)]) := by
 unfold dns_Id.f at H
 refine Spc.go Tryd.func12 rfl (by kernel_rfl) rfl rfl (all_cons (Val.per Per_sl) all_nil) fun F a w h => ?_
 refine Go.seq ?_
 refine Go.reg ?_
 refine ga h (o_assign rfl) rfl fun h => ?_
 refine ga h (o_assign rfl) rfl fun h => ?_
 refine GoR.done ?_
 refine Go.seq ?_
 refine Go.seq ?_
 refine Go.reg ?_
 refine mv h rfl rfl fun h => ?_
 have g1 := (len_at 0 rfl h.mem)
 refine ga h (o_ln rfl (rd_at 0 rfl) t_v22) rfl fun h => ?_
 refine ga h (o_bin rfl rfl rfl) rfl fun h => ?_
 refine GoR.done ?_
 by_cases c1 : decide ((a1.length : Int) < 12) = true
 ·have H := ifT c1 H
  refine g_t h rfl c1 ?_
  refine Go.seq ?_
  refine Go.reg ?_
  refine ga h (o_assign rfl) rfl fun h => ?_
  refine ga h (o_assign rfl) rfl fun h => ?_
  refine GoR.done ?_
  rw [← som H]
  exact g_ret (vs := [.int .i64 0, .bool false]) h Tryd.func12 ⟨rfl, ⟨rfl, trivial⟩⟩ ⟨(), rfl, ((h.mem.pick [] (by decide) rfl).addpur (show InR .i64 0 by decide))⟩
 ·have H := ifF c1 H
  refine g_f h rfl c1 ?_
  refine Go.skip ?_
  refine Go.seq ?_
  refine Go.reg ?_
  refine mv h rfl rfl fun h => ?_
  obtain ⟨r1, er1, H⟩ := bindE H
  refine ga h (o_call (dns_num.spc v1 a1 r1 er1) rfl [0] [] (by decide) rfl rfl) rfl fun h => ?_
  have g2 := h.mem.pur 0 rfl
  refine ga h (o_assign rfl) rfl fun h => ?_
  refine ga h (o_assign rfl) rfl fun h => ?_
  refine GoR.done ?_
  rw [← som H]
  exact g_ret (vs := [.int .i64 r1, .bool true]) h Tryd.func12 ⟨rfl, ⟨rfl, trivial⟩⟩ ⟨(), rfl, ((h.mem.pick [] (by decide) rfl).addpur g2)⟩
def dns_Id.g (k_ : Nat) (a1 : List Int) : Option (Int × Bool) :=
  (if decide ((a1.length : Int) < 12) = true then some ((0, false)) else (dns_num.g k_ a1).bind fun r1 => some ((r1, true)))
theorem dns_Id.le (k_ : Nat) (a1 : List Int) : Le (dns_Id.g k_ a1) (dns_Id.f a1) := by
 unfold dns_Id.g dns_Id.f
 repeat' (first | with_reducible refine le_loop fun _ => ?_ | with_reducible refine le_bind ?_ fun _ => ?_ | with_reducible refine le_ite ?_ ?_ | with_reducible refine le_lt fun _ => ?_ | with_reducible refine le_elim (fun _ => ?_) (fun _ => ?_) _ | with_reducible apply dns_num.le | with_reducible exact le_refl _)
/-! slices.Clone[[]byte,byte] -/
noncomputable def slices_Clone_s_byte_byte.f (a1 : List Int) : Option ((List Int)) :=
  (app ([] : List Int) a1).bind fun x1 => some (x1)
set_option maxRecDepth 100000 in
set_option maxHeartbeats 4000000 in
theorem slices_Clone_s_byte_byte.spc (v1 : Value) (a1 : List Int) (r : (List Int)) (H : slices_Clone_s_byte_byte.f a1 = some r) : Spc Tryd.prog 33 [v1] [Val (Kd.sl (Kd.int .u8)) v1 a1] [] (fun (s : Value) => s) (fun s => [Val (Kd.osl (Kd.int .u8)) s r]) := by
 unfold slices_Clone_s_byte_byte.f at H
 refine Spc.go Tryd.func33 rfl (by kernel_rfl) rfl rfl (all_cons (Val.per Per_sl) all_nil) fun F a w h => ?_
 refine Go.seq ?_
 refine Go.reg ?_
 refine ga h (o_assign rfl) rfl fun h => ?_
 refine GoR.done ?_
 refine Go.seq ?_
 refine Go.seq ?_
 refine Go.reg ?_
 refine mv h rfl rfl fun h => ?_
 refine gs h (o_eqn rfl rfl (rd_at 0 rfl) t_v22) rfl fun t1 _ _ h => ?_
 refine GoR.done ?_
 by_cases c1 : t1 = true
 ·have q_ := h.mem.pur 0 rfl c1
  have H : (some ([])) = some r := by rw [q_] at H; simpa [app, app1] using H
  refine g_t h rfl c1 ?_
  refine Go.seq ?_
  refine Go.reg ?_
  refine ga h (o_assign rfl) rfl fun h => ?_
  refine GoR.done ?_
  replace h := h.mm fun m => m.nilo (Kd.int .u8)
  rw [← som H]
  exact g_ret (vs := [.slice none 0 0]) h Tryd.func33 ⟨rfl, trivial⟩ ⟨.slice none 0 0, rfl, (h.mem.pick [0] (by decide) rfl)⟩
 ·refine g_f h rfl c1 ?_
  refine Go.skip ?_
  refine Go.seq ?_
  refine Go.reg ?_
  refine gs h (o_bs (K := (Kd.int .u8)) (vs := []) (xs := ([] : List Int)) rfl rfl pvs_nil t_a22 (by decide) (by decide)) rfl fun v2 _ _ h => ?_
  refine mv h rfl rfl fun h => ?_
  obtain ⟨x1, ex1, H⟩ := bindE H
  refine gs h (o_app (K := (Kd.int .u8)) 0 rfl rfl rfl (rd_at 2 rfl) ex1 t_a22 t_n22) rfl fun v3 _ _ h => ?_
  refine ga h (o_assign rfl) rfl fun h => ?_
  refine GoR.done ?_
  rw [← som H]
  exact g_ret (vs := [v3]) h Tryd.func33 ⟨rfl, trivial⟩ ⟨v3, rfl, (h.mem.pick [0] (by decide) rfl)⟩
def slices_Clone_s_byte_byte.g (k_ : Nat) (a1 : List Int) : Option ((List Int)) :=
  (app ([] : List Int) a1).bind fun x1 => some (x1)
theorem slices_Clone_s_byte_byte.le (k_ : Nat) (a1 : List Int) : Le (slices_Clone_s_byte_byte.g k_ a1) (slices_Clone_s_byte_byte.f a1) := by
 unfold slices_Clone_s_byte_byte.g slices_Clone_s_byte_byte.f
 repeat' (first | with_reducible refine le_loop fun _ => ?_ | with_reducible refine le_bind ?_ fun _ => ?_ | with_reducible refine le_ite ?_ ?_ | with_reducible refine le_lt fun _ => ?_ | with_reducible refine le_elim (fun _ => ?_) (fun _ => ?_) _ | with_reducible exact le_refl _)
/-! drawbridge/dns.With -/
noncomputable def dns_With.f (a1 : List Int) (a2 : Int) : Option ((List Int)) :=
  (slices_Clone_s_byte_byte.f a1).bind fun r1 => ((if decide (12 ≤ (r1.length : Int)) = true then (dns_two.f a2).bind fun r2 => lt (ovr r1 0 (r1.length : Int) r2) fun y1 => some (y1) else some (r1))).bind (fun j1 => some (j1))
set_option maxRecDepth 100000 in
set_option maxHeartbeats 4000000 in
theorem dns_With.spc (v1 : Value) (a1 : List Int) (a2 : Int) (ha2 : InR .i64 a2) (r : (List Int)) (H : dns_With.f a1 a2 = some r) : Spc Tryd.prog 17 [v1, .int .i64 a2] [Val (Kd.sl (Kd.int .u8)) v1 a1] [] (fun (s : Value) => s) (fun s => [Val (Kd.osl (Kd.int .u8)) s r]) := by
 unfold dns_With.f at H
 refine Spc.go Tryd.func17 rfl (by kernel_rfl) rfl rfl (all_cons (Val.per Per_sl) all_nil) fun F a w h => ?_
 refine Go.seq ?_
 refine Go.reg ?_
 refine ga h (o_assign rfl) rfl fun h => ?_
 refine GoR.done ?_
 refine Go.seq ?_
 refine Go.reg ?_
 refine mv h rfl rfl fun h => ?_
 obtain ⟨r1, er1, H⟩ := bindE H
 refine gs h (o_call (slices_Clone_s_byte_byte.spc v1 a1 r1 er1) rfl [0] [] (by decide) rfl rfl) rfl fun v2 _ _ h => ?_
 refine ga h (o_assign rfl) rfl fun h => ?_
 refine GoR.done ?_
 refine Go.seq ?_
 obtain ⟨o1, H, G1⟩ := bindE H
 refine g_cut (fun G => ∀ j1 (a : Act) (w : World), o1 = j1 → St Tryd.f17.ntmps F [(5, v2)] [Val (Kd.osl (Kd.int .u8)) v2 j1] a w → G a w) 1 ?_ fun J1 => ?_
 ·intro j1 a w ho_ h
  rw [ho_] at G1
  have H := G1
  refine Go.seq ?_
  refine Go.reg ?_
  refine mv h rfl rfl fun h => ?_
  refine ga h (o_assign rfl) rfl fun h => ?_
  refine GoR.done ?_
  rw [← som H]
  exact g_ret (vs := [v2]) h Tryd.func17 ⟨rfl, trivial⟩ ⟨v2, rfl, (h.mem.pick [0] (by decide) rfl)⟩
 refine Go.seq ?_
 refine Go.reg ?_
 refine mv h rfl rfl fun h => ?_
 have g1 := (len_own 0 rfl h.mem)
 refine ga h (o_ln rfl (rd_own 0 rfl) t_v22) rfl fun h => ?_
 refine ga h (o_bin rfl rfl rfl) rfl fun h => ?_
 refine GoR.done ?_
 by_cases c1 : decide (12 ≤ (r1.length : Int)) = true
 ·have H := ifT c1 H
  refine g_t h rfl c1 ?_
  refine Go.reg ?_
  refine mv h rfl rfl fun h => ?_
  refine mv h rfl rfl fun h => ?_
  obtain ⟨r2, er2, H⟩ := bindE H
  refine gs h (o_call (dns_two.spc a2 ha2 r2 er2) rfl [] [] (by decide) rfl rfl) rfl fun v3 _ _ h => ?_
  obtain ⟨y1, ey1, H⟩ := ltE H
  refine ga h (o_cpf 1 rfl rfl rfl (rd_own 0 rfl) t_a22) rfl fun h => ?_
  rw [ey1] at h
  refine GoR.done ?_
  exact J1 y1 _ _ (som H).symm (h.wr [1])
 ·have H := ifF c1 H
  refine g_f h rfl c1 ?_
  refine Go.skip ?_
  exact J1 r1 _ _ (som H).symm (h.wr [0])
def dns_With.g (k_ : Nat) (a1 : List Int) (a2 : Int) : Option ((List Int)) :=
  (slices_Clone_s_byte_byte.g k_ a1).bind fun r1 => ((if decide (12 ≤ (r1.length : Int)) = true then (dns_two.g k_ a2).bind fun r2 => lt (ovr r1 0 (r1.length : Int) r2) fun y1 => some (y1) else some (r1))).bind (fun j1 => some (j1))
theorem dns_With.le (k_ : Nat) (a1 : List Int) (a2 : Int) : Le (dns_With.g k_ a1 a2) (dns_With.f a1 a2) := by
 unfold dns_With.g dns_With.f
 repeat' (first | with_reducible refine le_loop fun _ => ?_ | with_reducible refine le_bind ?_ fun _ => ?_ | with_reducible refine le_ite ?_ ?_ | with_reducible refine le_lt fun _ => ?_ | with_reducible refine le_elim (fun _ => ?_) (fun _ => ?_) _ | with_reducible apply dns_two.le | with_reducible apply slices_Clone_s_byte_byte.le | with_reducible exact le_refl _)
/-! drawbridge/dns.Query -/
noncomputable def dns_Query.f (a1 : List Int) : Option (Bool) :=
  ((if decide (12 ≤ (a1.length : Int)) = true then (idx a1 2).bind fun x1 => lt (decide ((bits .and .u8 x1 128) = 0)) fun y1 => some (y1) else some (false))).bind (fun j1 => some (j1))
set_option maxRecDepth 100000 in
set_option maxHeartbeats 4000000 in
theorem dns_Query.spc (v1 : Value) (a1 : List Int) (r : Bool) (H : dns_Query.f a1 = some r) : Spc Tryd.prog 19 [v1] [Val (Kd.sl (Kd.int .u8)) v1 a1] [] (fun (s : Unit) => .bool r) (fun s => []) := by
 unfold dns_Query.f at H
 refine Spc.go Tryd.func19 rfl (by kernel_rfl) rfl rfl (all_cons (Val.per Per_sl) all_nil) fun F a w h => ?_
 refine Go.seq ?_
 refine Go.reg ?_
 refine ga h (o_assign rfl) rfl fun h => ?_
 refine GoR.done ?_
 refine Go.seq ?_
 obtain ⟨o1, H, G1⟩ := bindE H
 refine g_cut (fun G => ∀ j1 (a : Act) (w : World), o1 = j1 → St Tryd.f19.ntmps F [(2, .bool j1)] [] a w → G a w) 1 ?_ fun J1 => ?_
 ·intro j1 a w ho_ h
  rw [ho_] at G1
  have H := G1
  rw [← som H]
  exact g_ret (vs := [.bool j1]) h Tryd.func19 ⟨rfl, trivial⟩ ⟨(), rfl, (h.mem.pick [] (by decide) rfl)⟩
 refine Go.reg ?_
 refine mv h rfl rfl fun h => ?_
 have g1 := (len_at 0 rfl h.mem)
 refine ga h (o_ln rfl (rd_at 0 rfl) t_v22) rfl fun h => ?_
 refine ga h (o_bin rfl rfl rfl) rfl fun h => ?_
 refine mv h rfl rfl fun h => ?_
 by_cases c1 : decide (12 ≤ (a1.length : Int)) = true
 ·have H := ifT c1 H
  refine gg h rfl rfl c1 (o_move rfl) rfl fun _ _ _ h => ?_
  obtain ⟨x1, ex1, H⟩ := bindE H
  refine gg h rfl rfl c1 (o_ix rfl rfl (rd_at 0 rfl) ex1 t_v22) rfl fun _ _ _ h => ?_
  have g2 := (rd_inr (rd_at 0 rfl) ex1 h.mem)
  refine gg h rfl rfl c1 (o_lex rfl (rd_at 0 rfl) ex1 X_int t_y5 (by decide)) rfl fun _ _ _ h => ?_
  refine gg h rfl rfl c1 (o_bin rfl rfl rfl) rfl fun _ _ _ h => ?_
  refine gg h rfl rfl c1 (o_bin rfl rfl rfl) rfl fun _ _ _ h => ?_
  refine ga h (o_pickT rfl rfl c1) rfl fun h => ?_
  obtain ⟨y1, ey1, H⟩ := ltE H
  refine ga h (o_assign' rfl (congrArg Value.bool ey1)) rfl fun h => ?_
  refine GoR.done ?_
  exact J1 y1 _ _ (som H).symm (h.wr [])
 ·have H := ifF c1 H
  iterate 5 (refine gk h rfl rfl (nb_f c1) rfl fun _ h => ?_)
  refine ga h (o_pickF rfl rfl c1) rfl fun h => ?_
  refine ga h (o_assign rfl) rfl fun h => ?_
  refine GoR.done ?_
  exact J1 false _ _ (som H).symm (h.wr [])
def dns_Query.g (k_ : Nat) (a1 : List Int) : Option (Bool) :=
  ((if decide (12 ≤ (a1.length : Int)) = true then (idx a1 2).bind fun x1 => lt (decide ((bits .and .u8 x1 128) = 0)) fun y1 => some (y1) else some (false))).bind (fun j1 => some (j1))
theorem dns_Query.le (k_ : Nat) (a1 : List Int) : Le (dns_Query.g k_ a1) (dns_Query.f a1) := by
 unfold dns_Query.g dns_Query.f
 repeat' (first | with_reducible refine le_loop fun _ => ?_ | with_reducible refine le_bind ?_ fun _ => ?_ | with_reducible refine le_ite ?_ ?_ | with_reducible refine le_lt fun _ => ?_ | with_reducible refine le_elim (fun _ => ?_) (fun _ => ?_) _ | with_reducible exact le_refl _)
/-! drawbridge/dns.Fail -/
noncomputable def dns_Fail.f (a1 : List Int) (a2 : Int) : Option ((List Int) × Bool) :=
  (dns_read.f a1).bind fun r1 => ((if (!r1.2.isNone) = true then some (true) else (dns_Query.f a1).bind fun r2 => some ((!r2)))).bind (fun j1 => (if j1 = true then some (([], false)) else (cut a1 0 2).bind fun x1 => (dns_two.f 1).bind fun r3 => (mk 6 0).bind fun x2 => (cut a1 12 r1.1.end_).bind fun x3 => (slices_Concat_s_byte_byte.f ([x1, ([129, bits .or .u8 128 (IntKind.u8.wrap (bits .and .i64 a2 15))] : List Int), r3, x2, x3] : List (List Int))).bind fun r4 => some ((r4, true))))
set_option maxRecDepth 100000 in
set_option maxHeartbeats 4000000 in
theorem dns_Fail.spc (v1 : Value) (a1 : List Int) (a2 : Int) (ha2 : InR .i64 a2) (r : (List Int) × Bool) (H : dns_Fail.f a1 a2 = some r) : Spc Tryd.prog 14 [v1, .int .i64 a2] [Val (Kd.sl (Kd.int .u8)) v1 a1] [] (fun (s : Value) => .tuple #[s, .bool r.2]) (fun s => [Val (Kd.osl (Kd.int .u8)) s r.1]) := by
 unfold dns_Fail.f at H
 refine Spc.go Tryd.func14 rfl (by kernel_rfl) rfl rfl (all_cons (Val.per Per_sl) all_nil) fun F a w h => ?_
 refine Go.seq ?_
 refine Go.reg ?_
 refine ga h (o_assign rfl) rfl fun h => ?_
 refine ga h (o_assign rfl) rfl fun h => ?_
 refine GoR.done ?_
 refine Go.seq ?_
 refine Go.reg ?_
 refine mv h rfl rfl fun h => ?_
 obtain ⟨r1, er1, H⟩ := bindE H
 refine gs h (o_call (dns_read.spc v1 a1 r1 er1) rfl [0] [] (by decide) rfl rfl) rfl fun s_ _ _ h => ?_
 obtain ⟨v2, v3⟩ := s_
 refine mv h rfl rfl fun h => ?_
 refine ga h (o_extract rfl rfl) rfl fun h => ?_
 refine ga h (o_extract rfl rfl) rfl fun h => ?_
 refine gs h (o_alloc (K := KquestionR) (z := (.agg #[.slice none 0 0, .int .i64 0, .int .i64 0])) rfl ZquestionR) rfl fun b1 _ _ h => ?_
 refine gs0 h (o_st 0 rfl rfl rfl (pv_at PquestionR 1 rfl) rfl t_w46) fun _ _ _ h => ?_
 refine ga h (o_assign rfl) rfl fun h => ?_
 refine GoR.done ?_
 refine Go.seq ?_
 refine Go.seq ?_
 obtain ⟨o1, H, G1⟩ := bindE H
 refine g_cut (fun G => ∀ j1 (a : Act) (w : World), o1 = j1 → St Tryd.f14.ntmps F [(0, v1), (1, .int .i64 a2), (6, pt b1), (19, .bool j1)] [Val (Kd.sl (Kd.int .u8)) v1 a1, Fld KquestionR b1 0 r1.1] a w → G a w) 1 ?_ fun J1 => ?_
 ·intro j1 a w ho_ h
  rw [ho_] at G1
  have H := G1
  by_cases c2 : j1 = true
  ·have H := ifT c2 H
   refine g_t h rfl c2 ?_
   refine Go.seq ?_
   refine Go.reg ?_
   refine ga h (o_assign rfl) rfl fun h => ?_
   refine ga h (o_assign rfl) rfl fun h => ?_
   refine GoR.done ?_
   replace h := h.mm fun m => m.nilo (Kd.int .u8)
   rw [← som H]
   exact g_ret (vs := [.slice none 0 0, .bool false]) h Tryd.func14 ⟨rfl, ⟨rfl, trivial⟩⟩ ⟨.slice none 0 0, rfl, (h.mem.pick [0] (by decide) rfl)⟩
  ·have H := ifF c2 H
   refine g_f h rfl c2 ?_
   refine Go.skip ?_
   refine Go.seq ?_
   replace h := h.wq [(0, v1), (1, .int .i64 a2), (6, pt b1)] [Val (Kd.sl (Kd.int .u8)) v1 a1, Fld KquestionR b1 0 r1.1] [0, 1]
   obtain ⟨x1, ex1, H⟩ := bindE H
   obtain ⟨r3, er3, H⟩ := bindE H
   obtain ⟨x2, ex2, H⟩ := bindE H
   obtain ⟨x3, ex3, H⟩ := bindE H
   refine Go.draw (E := [(0, v1), (1, .int .i64 a2), (6, pt b1)]) [] (L := [Val (Kd.sl (Kd.int .u8)) v1 a1, Fld KquestionR b1 0 r1.1]) h rfl rfl 13 [cn (v1), cw [0] [] [] fun u => [Val (Kd.sl (Kd.int .u8)) u x1], cn (.int .i64 a2), ce [2] (.int .i64 (bits .and .i64 a2 15)), ce [2, 3] (.int .u8 (IntKind.u8.wrap (bits .and .i64 a2 15))), ce [2, 3, 4] (.int .u8 (bits .or .u8 128 (IntKind.u8.wrap (bits .and .i64 a2 15)))), cw [2, 3, 4, 5] [] [] fun u => [Val (Kd.osl (Kd.int .u8)) u ([129, bits .or .u8 128 (IntKind.u8.wrap (bits .and .i64 a2 15))] : List Int)], cw [] [] [] fun u => [Val (Kd.osl (Kd.int .u8)) u r3], cw [] [] [] fun u => [Val (Kd.osl (Kd.int .u8)) u x2], cn (v1), cn (.pointer (some ⟨b1, 2, none⟩)), cm [10] [] [] (.int .i64 r1.1.end_) fun u => [Ent.pur (InR .i64 r1.1.end_)], cw [9, 10, 11] [] [] fun u => [Val (Kd.sl (Kd.int .u8)) u x3]] rfl t_mxo (by kernel_rfl) (by rfl) ?_ fun f1 _ _ h => ?_
   ·exact ox rfl (o_move rfl) (oy rfl (o_cuth rfl (pv_at Per_sl 0 rfl) rfl ex1 t_v22) (ox rfl (o_move rfl) (ox rfl (o_bin rfl rfl rfl) (ox rfl (o_conv rfl t_q3 t_u5) (ox rfl (o_bin rfl rfl rfl) (oy rfl (o_bs (K := (Kd.int .u8)) (vs := [.int .u8 129, .int .u8 (bits .or .u8 128 (IntKind.u8.wrap (bits .and .i64 a2 15)))]) (xs := ([129, bits .or .u8 128 (IntKind.u8.wrap (bits .and .i64 a2 15))] : List Int)) rfl rfl (pvs_cons (pv_int (show InR .u8 129 by decide)) (pvs_cons (pv_int (wrap_in _ _)) pvs_nil)) t_a22 (by decide) (by decide)) (oy rfl (o_call (dns_two.spc 1 (show InR .i64 1 by decide) r3 er3) rfl [] [] (by decide) rfl rfl) (oy rfl (o_mk (K := (Kd.int .u8)) rfl rfl ex2 t_a22 (by decide) (fun e he => ⟨[.int .u8 0], by cases he; exact t_zc5, z_int⟩)) (ox rfl (o_move rfl) (ox rfl (o_fa rfl t_f46_2 rfl rfl) (ox rfl (OpS.pur (fun F w m_ => (in2 (fd_sub squestionR_end_ 1 rfl m_))) (o_lfx 1 rfl rfl squestionR_end_ rfl X_int t_y3)) (oy rfl (o_cut rfl (pv_at Per_sl 0 rfl) rfl rfl ex3 t_v22) (obs_nil)))))))))))))
   replace h := h.wk (E' := [(21, (f1 1)), (26, (f1 6)), (27, (f1 7)), (28, (f1 8)), (32, (f1 12))]) (L' := [Val (Kd.sl (Kd.int .u8)) (f1 1) x1, Val (Kd.osl (Kd.int .u8)) (f1 6) ([129, bits .or .u8 128 (IntKind.u8.wrap (bits .and .i64 a2 15))] : List Int), Val (Kd.osl (Kd.int .u8)) (f1 7) r3, Val (Kd.osl (Kd.int .u8)) (f1 8) x2, Ent.pur (InR .i64 r1.1.end_), Val (Kd.sl (Kd.int .u8)) (f1 12) x3, Val (Kd.sl (Kd.int .u8)) v1 a1, Fld KquestionR b1 0 r1.1]) (by kernel_rfl) [0, 1, 2, 3, 4, 5, 6, 7] (by decide) (by kernel_rfl)
   replace h := h.mm fun m => m.freeze 1 rfl
   replace h := h.mm fun m => m.freeze 2 rfl
   replace h := h.mm fun m => m.freeze 3 rfl
   refine gs h (o_bs (K := (Kd.sl (Kd.int .u8))) (vs := [(f1 1), (f1 6), (f1 7), (f1 8), (f1 12)]) (xs := ([x1, ([129, bits .or .u8 128 (IntKind.u8.wrap (bits .and .i64 a2 15))] : List Int), r3, x2, x3] : List (List Int))) rfl rfl (pvs_cons (pv_at Per_sl 0 rfl) (pvs_cons (pv_at Per_sl 1 rfl) (pvs_cons (pv_at Per_sl 2 rfl) (pvs_cons (pv_at Per_sl 3 rfl) (pvs_cons (pv_at Per_sl 5 rfl) pvs_nil))))) t_a85 (by decide) (by decide)) rfl fun v9 _ _ h => ?_
   replace h := h.mm fun m => m.freeze 0 rfl
   obtain ⟨r4, er4, H⟩ := bindE H
   refine gs h (o_call (slices_Concat_s_byte_byte.spc v9 ([x1, ([129, bits .or .u8 128 (IntKind.u8.wrap (bits .and .i64 a2 15))] : List Int), r3, x2, x3] : List (List Int)) r4 er4) rfl [0] [] (by decide) rfl rfl) rfl fun v10 _ _ h => ?_
   refine ga h (o_assign rfl) rfl fun h => ?_
   refine ga h (o_assign rfl) rfl fun h => ?_
   refine GoR.done ?_
   rw [← som H]
   exact g_ret (vs := [v10, .bool true]) h Tryd.func14 ⟨rfl, ⟨rfl, trivial⟩⟩ ⟨v10, rfl, (h.mem.pick [0] (by decide) rfl)⟩
 refine Go.reg ?_
 refine mv h rfl rfl fun h => ?_
 refine ga h (o_ern 2 rfl rfl t_i48) rfl fun h => ?_
 refine mv h rfl rfl fun h => ?_
 by_cases c1 : (!r1.2.isNone) = true
 ·have H := ifT c1 H
  iterate 3 (refine gk h rfl rfl (nb_t c1) rfl fun _ h => ?_)
  refine ga h (o_pickT rfl rfl c1) rfl fun h => ?_
  refine GoR.done ?_
  exact J1 true _ _ (som H).symm (h.wr [3, 0])
 ·have H := ifF c1 H
  refine gg h rfl rfl (nbF c1) (o_move rfl) rfl fun _ _ _ h => ?_
  obtain ⟨r2, er2, H⟩ := bindE H
  refine gg h rfl rfl (nbF c1) (o_call (dns_Query.spc v1 a1 r2 er2) rfl [3] [] (by decide) rfl rfl) rfl fun _ _ _ h => ?_
  refine gg h rfl rfl (nbF c1) (o_not rfl) rfl fun _ _ _ h => ?_
  refine ga h (o_pickF rfl rfl c1) rfl fun h => ?_
  refine GoR.done ?_
  exact J1 (!r2) _ _ (som H).symm (h.wr [3, 0])
def dns_Fail.g (k_ : Nat) (a1 : List Int) (a2 : Int) : Option ((List Int) × Bool) :=
  (dns_read.g k_ a1).bind fun r1 => ((if (!r1.2.isNone) = true then some (true) else (dns_Query.g k_ a1).bind fun r2 => some ((!r2)))).bind (fun j1 => (if j1 = true then some (([], false)) else (cut a1 0 2).bind fun x1 => (dns_two.g k_ 1).bind fun r3 => (mk 6 0).bind fun x2 => (cut a1 12 r1.1.end_).bind fun x3 => (slices_Concat_s_byte_byte.g k_ ([x1, ([129, bits .or .u8 128 (IntKind.u8.wrap (bits .and .i64 a2 15))] : List Int), r3, x2, x3] : List (List Int))).bind fun r4 => some ((r4, true))))
theorem dns_Fail.le (k_ : Nat) (a1 : List Int) (a2 : Int) : Le (dns_Fail.g k_ a1 a2) (dns_Fail.f a1 a2) := by
 unfold dns_Fail.g dns_Fail.f
 repeat' (first | with_reducible refine le_loop fun _ => ?_ | with_reducible refine le_bind ?_ fun _ => ?_ | with_reducible refine le_ite ?_ ?_ | with_reducible refine le_lt fun _ => ?_ | with_reducible refine le_elim (fun _ => ?_) (fun _ => ?_) _ | with_reducible apply dns_Query.le | with_reducible apply dns_read.le | with_reducible apply dns_two.le | with_reducible apply slices_Concat_s_byte_byte.le | with_reducible exact le_refl _)
end Go.Proofs.YtjjceikmimhpnaaDoor.S
