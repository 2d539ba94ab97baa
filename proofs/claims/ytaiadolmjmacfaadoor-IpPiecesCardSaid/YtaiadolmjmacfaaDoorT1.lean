/- Contracts, printed by a program of this session. -/
import Derived.Test.YtaiadolmjmacfaaDoorT0
namespace Go.Proofs.YtaiadolmjmacfaaDoor.S
open Go Go.SL Go.RowKit
set_option linter.unusedVariables false
set_option linter.unusedSimpArgs false
/-! drawbridge/ip.right$1 -/
noncomputable def ip_right_1.f (a1 : Int) : Option (Bool) :=
  lt (!decide ((ishr .i64 a1 8) = 0)) fun y1 => some (y1)
set_option maxRecDepth 100000 in
set_option maxHeartbeats 4000000 in
theorem ip_right_1.spc (a1 : Int) (ha1 : InR .i64 a1) (r : Bool) (H : ip_right_1.f a1 = some r) : Spc Tryd.prog 35 [.int .i64 a1] [] [] (fun (s : Unit) => .bool r) (fun s => []) := by
 unfold ip_right_1.f at H
 refine Spc.go Tryd.func35 rfl (by kernel_rfl) rfl rfl all_nil fun F a w h => ?_
 refine Go.seq ?_
 refine Go.reg ?_
 refine gs h (o_assign rfl) rfl fun _ _ _ h => ?_
 refine GoR.done ?_
 refine Go.seq ?_
 refine Go.reg ?_
 refine gs h (o_move rfl) rfl fun _ _ _ h => ?_
 refine gs h (o_shr rfl rfl (show (0 : Int) ≤ 8 by decide)) rfl fun _ _ _ h => ?_
 refine gs h (o_bin rfl rfl rfl) rfl fun _ _ _ h => ?_
 obtain ⟨y1, ey1, H⟩ := ltE H
 refine gs h (o_assign' rfl (congrArg Value.bool ey1)) rfl fun _ _ _ h => ?_
 refine GoR.done ?_
 rw [← som H]
 exact g_ret (vs := [.bool y1]) h Tryd.func35 ⟨rfl, trivial⟩ ⟨(), rfl, (h.mem.pick [] (by decide) rfl)⟩
def ip_right_1.g (k_ : Nat) (a1 : Int) : Option (Bool) :=
  lt (!decide ((ishr .i64 a1 8) = 0)) fun y1 => some (y1)
theorem ip_right_1.le (k_ : Nat) (a1 : Int) : Le (ip_right_1.g k_ a1) (ip_right_1.f a1) := by
 unfold ip_right_1.g ip_right_1.f
 repeat' (first | with_reducible refine le_loop fun _ => ?_ | with_reducible refine le_bind ?_ fun _ => ?_ | with_reducible refine le_ite ?_ ?_ | with_reducible refine le_lt fun _ => ?_ | with_reducible refine le_elim (fun _ => ?_) (fun _ => ?_) _ | with_reducible exact le_refl _)
/-! slices.IndexFunc[[]int,int] -/
noncomputable def slices_IndexFunc_s_int_int_at_ip_right_1.f (a1 : List Int) : Option (Int) :=
  (loop (fun s1 => (if decide (s1 < (a1.length : Int)) = true then (idx a1 s1).bind fun x1 => (ip_right_1.f x1).bind fun r1 => (if r1 = true then some (.inr (.inr (s1))) else some (.inl (IntKind.i64.wrap (s1 + 1)))) else some (.inr (.inl (()))))) 0).bind (Sum.elim (fun j1 => some ((-1))) (fun z_ => some (z_)))
set_option maxRecDepth 100000 in
set_option maxHeartbeats 4000000 in
theorem slices_IndexFunc_s_int_int_at_ip_right_1.spc (v1 : Value) (a1 : List Int) (r : Int) (H : slices_IndexFunc_s_int_int_at_ip_right_1.f a1 = some r) : Spc Tryd.prog 46 [v1, .func (.func 35) #[] #[]] [Val (Kd.sl (Kd.int .i64)) v1 a1] [] (fun (s : Unit) => .int .i64 r) (fun s => [Ent.pur (InR .i64 r)]) := by
 unfold slices_IndexFunc_s_int_int_at_ip_right_1.f at H
 refine Spc.go Tryd.func46 rfl (by kernel_rfl) rfl rfl (all_cons (Val.per Per_sl) all_nil) fun F a w h => ?_
 refine Go.seq ?_
 refine Go.reg ?_
 refine gs h (o_assign rfl) rfl fun _ _ _ h => ?_
 refine GoR.done ?_
 refine Go.seq ?_
 refine Go.seq ?_
 refine Go.reg ?_
 refine gs h (o_move rfl) rfl fun _ _ _ h => ?_
 have g1 := (len_at 0 rfl h.mem)
 refine gs h (o_ln rfl (rd_at 0 rfl) t_v65) rfl fun _ _ _ h => ?_
 refine gs h (o_move rfl) rfl fun _ _ _ h => ?_
 refine GoR.done ?_
 refine Go.block ?_
 obtain ⟨o1, hl, G1⟩ := bindE H
 refine g_cut (fun G => ∀ j1 (a : Act) (w : World), o1 = .inl (j1) → St Tryd.f46.ntmps F [] [] a w → G a w) 2 ?_ fun J1 => ?_
 ·intro j1 a w ho_ h
  rw [ho_] at G1
  have H := eInl G1
  refine Go.seq ?_
  refine Go.reg ?_
  refine gs h (o_assign rfl) rfl fun _ _ _ h => ?_
  refine GoR.done ?_
  rw [← som H]
  exact g_ret (vs := [.int .i64 (-1)]) h Tryd.func46 ⟨rfl, trivial⟩ ⟨(), rfl, ((h.mem.pick [] (by decide) rfl).addpur (show InR .i64 (-1) by decide))⟩
 refine g_loop (fun s1 G => ∀  (a : Act) (w : World), InR .i64 s1 → St Tryd.f46.ntmps F [(0, v1), (1, .func (.func 35) #[] #[]), (7, .int .i64 (a1.length : Int)), (8, .int .i64 s1)] [Val (Kd.sl (Kd.int .i64)) v1 a1] a w → G a w) hl (fun s1 p1 H i1 => ?_) fun I_ => ?_
 ·intro  a w g2 h
  refine Go.seq ?_
  refine Go.reg ?_
  refine gs h (o_bin rfl rfl rfl) rfl fun _ _ _ h => ?_
  refine GoR.done ?_
  refine Go.seq ?_
  by_cases c1 : decide (s1 < (a1.length : Int)) = true
  ·have H := ifT c1 H
   refine g_t h rfl c1 ?_
   refine Go.skip ?_
   refine Go.seq ?_
   refine Go.block ?_
   refine Go.seq ?_
   refine Go.reg ?_
   refine gs h (o_move rfl) rfl fun _ _ _ h => ?_
   refine gs h (o_assign rfl) rfl fun _ _ _ h => ?_
   refine GoR.done ?_
   refine Go.seq ?_
   refine Go.reg ?_
   iterate 3 (refine gs h (o_move rfl) rfl fun _ _ _ h => ?_)
   obtain ⟨x1, ex1, H⟩ := bindE H
   refine gs h (o_ix rfl rfl (rd_at 0 rfl) ex1 t_v65) rfl fun _ _ _ h => ?_
   have g3 := (rd_inr (rd_at 0 rfl) ex1 h.mem)
   refine gs h (o_lex rfl (rd_at 0 rfl) ex1 X_int t_y3 (by decide)) rfl fun _ _ _ h => ?_
   obtain ⟨r1, er1, H⟩ := bindE H
   refine gs h (o_callv (vs := [.int .i64 x1]) (caps := []) rfl rfl (ip_right_1.spc x1 g3 r1 er1) [] [] (by decide) rfl rfl) rfl fun _ _ _ h => ?_
   refine GoR.done ?_
   by_cases c2 : r1 = true
   ·have H := ifT c2 H
    refine g_t h rfl c2 ?_
    refine Go.seq ?_
    refine Go.reg ?_
    refine gs h (o_move rfl) rfl fun _ _ _ h => ?_
    refine gs h (o_assign rfl) rfl fun _ _ _ h => ?_
    refine GoR.done ?_
    have e_ := som H; subst e_
    rw [← nx_out i1] at G1
    have H := G1
    rw [← som H]
    exact g_ret (vs := [.int .i64 s1]) h Tryd.func46 ⟨rfl, trivial⟩ ⟨(), rfl, ((h.mem.pick [] (by decide) rfl).addpur g2)⟩
   ·have H := ifF c2 H
    refine g_f h rfl c2 ?_
    refine Go.skip ?_
    refine Go.inBlock ?_
    refine Go.reg ?_
    refine gs h (o_bin rfl rfl rfl) rfl fun _ _ _ h => ?_
    refine gs h (o_move rfl) rfl fun _ _ _ h => ?_
    refine GoR.done ?_
    have e_ := som H; subst e_
    exact Go.inLoop (nx_in i1 _ _ (wrap_in _ _) (h.wk (by rfl) [0] (by decide) (by rfl)))
  ·have H := ifF c1 H
   refine g_f h rfl c1 ?_
   refine Go.exit rfl ?_
   have e_ := som H; subst e_
   exact J1 () _ _ (nx_out i1).symm (h.wk (by rfl) [] (by decide) (by rfl))
 ·exact I_ _ _ (show InR .i64 0 by decide) (h.wk (by rfl) [0] (by decide) (by rfl))
def slices_IndexFunc_s_int_int_at_ip_right_1.g (k_ : Nat) (a1 : List Int) : Option (Int) :=
  (loopK k_ (fun s1 => (if decide (s1 < (a1.length : Int)) = true then (idx a1 s1).bind fun x1 => (ip_right_1.g k_ x1).bind fun r1 => (if r1 = true then some (.inr (.inr (s1))) else some (.inl (IntKind.i64.wrap (s1 + 1)))) else some (.inr (.inl (()))))) 0).bind (Sum.elim (fun j1 => some ((-1))) (fun z_ => some (z_)))
theorem slices_IndexFunc_s_int_int_at_ip_right_1.le (k_ : Nat) (a1 : List Int) : Le (slices_IndexFunc_s_int_int_at_ip_right_1.g k_ a1) (slices_IndexFunc_s_int_int_at_ip_right_1.f a1) := by
 unfold slices_IndexFunc_s_int_int_at_ip_right_1.g slices_IndexFunc_s_int_int_at_ip_right_1.f
 repeat' (first | with_reducible refine le_loop fun _ => ?_ | with_reducible refine le_bind ?_ fun _ => ?_ | with_reducible refine le_ite ?_ ?_ | with_reducible refine le_lt fun _ => ?_ | with_reducible refine le_elim (fun _ => ?_) (fun _ => ?_) _ | with_reducible apply ip_right_1.le | with_reducible exact le_refl _)
/-! slices.ContainsFunc[[]int,int] -/
noncomputable def slices_ContainsFunc_s_int_int_at_ip_right_1.f (a1 : List Int) : Option (Bool) :=
  (slices_IndexFunc_s_int_int_at_ip_right_1.f a1).bind fun r1 => lt (decide (0 ≤ r1)) fun y1 => some (y1)
set_option maxRecDepth 100000 in
set_option maxHeartbeats 4000000 in
theorem slices_ContainsFunc_s_int_int_at_ip_right_1.spc (v1 : Value) (a1 : List Int) (r : Bool) (H : slices_ContainsFunc_s_int_int_at_ip_right_1.f a1 = some r) : Spc Tryd.prog 34 [v1, .func (.func 35) #[] #[]] [Val (Kd.sl (Kd.int .i64)) v1 a1] [] (fun (s : Unit) => .bool r) (fun s => []) := by
 unfold slices_ContainsFunc_s_int_int_at_ip_right_1.f at H
 refine Spc.go Tryd.func34 rfl (by kernel_rfl) rfl rfl (all_cons (Val.per Per_sl) all_nil) fun F a w h => ?_
 refine Go.seq ?_
 refine Go.reg ?_
 refine gs h (o_assign rfl) rfl fun _ _ _ h => ?_
 refine GoR.done ?_
 refine Go.seq ?_
 refine Go.reg ?_
 refine gs h (o_move rfl) rfl fun _ _ _ h => ?_
 refine gs h (o_move rfl) rfl fun _ _ _ h => ?_
 obtain ⟨r1, er1, H⟩ := bindE H
 refine gs h (o_call (slices_IndexFunc_s_int_int_at_ip_right_1.spc v1 a1 r1 er1) rfl [0] [] (by decide) rfl rfl) rfl fun _ _ _ h => ?_
 have g1 := h.mem.pur 0 rfl
 refine gs h (o_bin rfl rfl rfl) rfl fun _ _ _ h => ?_
 obtain ⟨y1, ey1, H⟩ := ltE H
 refine gs h (o_assign' rfl (congrArg Value.bool ey1)) rfl fun _ _ _ h => ?_
 refine GoR.done ?_
 rw [← som H]
 exact g_ret (vs := [.bool y1]) h Tryd.func34 ⟨rfl, trivial⟩ ⟨(), rfl, (h.mem.pick [] (by decide) rfl)⟩
def slices_ContainsFunc_s_int_int_at_ip_right_1.g (k_ : Nat) (a1 : List Int) : Option (Bool) :=
  (slices_IndexFunc_s_int_int_at_ip_right_1.g k_ a1).bind fun r1 => lt (decide (0 ≤ r1)) fun y1 => some (y1)
theorem slices_ContainsFunc_s_int_int_at_ip_right_1.le (k_ : Nat) (a1 : List Int) : Le (slices_ContainsFunc_s_int_int_at_ip_right_1.g k_ a1) (slices_ContainsFunc_s_int_int_at_ip_right_1.f a1) := by
 unfold slices_ContainsFunc_s_int_int_at_ip_right_1.g slices_ContainsFunc_s_int_int_at_ip_right_1.f
 repeat' (first | with_reducible refine le_loop fun _ => ?_ | with_reducible refine le_bind ?_ fun _ => ?_ | with_reducible refine le_ite ?_ ?_ | with_reducible refine le_lt fun _ => ?_ | with_reducible refine le_elim (fun _ => ?_) (fun _ => ?_) _ | with_reducible apply slices_IndexFunc_s_int_int_at_ip_right_1.le | with_reducible exact le_refl _)
/-! drawbridge/ip.right -/
noncomputable def ip_right.f (a1 : TIp) : Option (Bool) :=
  (slices_ContainsFunc_s_int_int_at_ip_right_1.f ([a1.Tos, a1.Ttl, a1.Proto] : List Int)).bind fun r1 => (if r1 = true then some (false) else ((if decide ((ishr .i64 a1.Id 16) = 0) = true then (if decide ((ishr .i64 a1.Flags 3) = 0) = true then (if decide ((ishr .i64 a1.Off 13) = 0) = true then (if decide ((a1.Options.length : Int) ≤ 40) = true then (if decide ((bits .and .i64 (a1.Options.length : Int) 3) = 0) = true then lt (decide ((a1.Data.length : Int) ≤ (IntKind.i64.wrap (65515 - (a1.Options.length : Int))))) fun y1 => some (y1) else some (false)) else some (false)) else some (false)) else some (false)) else some (false))).bind (fun j1 => some (j1)))
set_option maxRecDepth 100000 in
set_option maxHeartbeats 4000000 in
theorem ip_right.spc (v1 : Value) (a1 : TIp) (r : Bool) (H : ip_right.f a1 = some r) : Spc Tryd.prog 18 [v1] [Val KIp v1 a1] [] (fun (s : Unit) => .bool r) (fun s => []) := by
 unfold ip_right.f at H
 refine Spc.go Tryd.func18 rfl (by kernel_rfl) rfl rfl (all_cons (Val.per PIp) all_nil) fun F a w h => ?_
 refine Go.seq ?_
 refine Go.reg ?_
 refine gs h (o_box (K := KIp) rfl (pv_at PIp 0 rfl)) rfl fun b1 _ _ h => ?_
 refine gs h (o_assign rfl) rfl fun _ _ _ h => ?_
 refine GoR.done ?_
 refine Go.seq ?_
 refine Go.reg ?_
 refine gs h (o_fa rfl t_f25_0 rfl rfl) rfl fun _ _ _ h => ?_
 have g1 := (in2 (fd_sub sIp_Tos 0 rfl h.mem))
 refine gs h (o_lfx 0 rfl rfl sIp_Tos rfl X_int t_y3) rfl fun _ _ _ h => ?_
 refine gs h (o_fa rfl t_f25_4 rfl rfl) rfl fun _ _ _ h => ?_
 have g2 := (in2 (fd_sub sIp_Ttl 0 rfl h.mem))
 refine gs h (o_lfx 0 rfl rfl sIp_Ttl rfl X_int t_y3) rfl fun _ _ _ h => ?_
 refine gs h (o_fa rfl t_f25_5 rfl rfl) rfl fun _ _ _ h => ?_
 have g3 := (in2 (fd_sub sIp_Proto 0 rfl h.mem))
 refine gs h (o_lfx 0 rfl rfl sIp_Proto rfl X_int t_y3) rfl fun _ _ _ h => ?_
 refine gs h (o_bs (K := (Kd.int .i64)) (vs := [.int .i64 a1.Tos, .int .i64 a1.Ttl, .int .i64 a1.Proto]) (xs := ([a1.Tos, a1.Ttl, a1.Proto] : List Int)) rfl rfl (pvs_cons (pv_int g1) (pvs_cons (pv_int g2) (pvs_cons (pv_int g3) pvs_nil))) t_a65 (by decide) (by decide)) rfl fun v2 _ _ h => ?_
 refine gs h (o_assign rfl) rfl fun _ _ _ h => ?_
 refine GoR.done ?_
 refine Go.seq ?_
 refine Go.seq ?_
 refine Go.reg ?_
 refine gs h (o_move rfl) rfl fun _ _ _ h => ?_
 replace h := h.mm fun m => m.freeze 0 rfl
 obtain ⟨r1, er1, H⟩ := bindE H
 refine gs h (o_call (slices_ContainsFunc_s_int_int_at_ip_right_1.spc v2 ([a1.Tos, a1.Ttl, a1.Proto] : List Int) r1 er1) rfl [0] [] (by decide) rfl rfl) rfl fun _ _ _ h => ?_
 refine GoR.done ?_
 by_cases c1 : r1 = true
 ·have H := ifT c1 H
  refine g_t h rfl c1 ?_
  refine Go.seq ?_
  refine Go.reg ?_
  refine gs h (o_assign rfl) rfl fun _ _ _ h => ?_
  refine GoR.done ?_
  rw [← som H]
  exact g_ret (vs := [.bool false]) h Tryd.func18 ⟨rfl, trivial⟩ ⟨(), rfl, (h.mem.pick [] (by decide) rfl)⟩
 ·have H := ifF c1 H
  refine g_f h rfl c1 ?_
  refine Go.skip ?_
  refine Go.seq ?_
  obtain ⟨o1, H, G1⟩ := bindE H
  refine g_cut (fun G => ∀ j1 (a : Act) (w : World), o1 = j1 → St Tryd.f18.ntmps F [(2, .bool j1)] [Fld KIp b1 0 a1] a w → G a w) 1 ?_ fun J1 => ?_
  ·intro j1 a w ho_ h
   rw [ho_] at G1
   have H := G1
   rw [← som H]
   exact g_ret (vs := [.bool j1]) h Tryd.func18 ⟨rfl, trivial⟩ ⟨(), rfl, (h.mem.pick [] (by decide) rfl)⟩
  refine Go.reg ?_
  refine gs h (o_fa rfl t_f25_1 rfl rfl) rfl fun _ _ _ h => ?_
  have g4 := (in2 (fd_sub sIp_Id 1 rfl h.mem))
  refine gs h (o_lfx 1 rfl rfl sIp_Id rfl X_int t_y3) rfl fun _ _ _ h => ?_
  refine gs h (o_shr rfl rfl (show (0 : Int) ≤ 16 by decide)) rfl fun _ _ _ h => ?_
  refine gs h (o_bin rfl rfl rfl) rfl fun _ _ _ h => ?_
  refine gs h (o_move rfl) rfl fun _ _ _ h => ?_
  by_cases c2 : decide ((ishr .i64 a1.Id 16) = 0) = true
  ·have H := ifT c2 H
   refine gg h rfl rfl c2 (o_fa rfl t_f25_2 rfl rfl) rfl fun _ _ _ h => ?_
   have g5 := (in2 (fd_sub sIp_Flags 1 rfl h.mem))
   refine gg h rfl rfl c2 (o_lfx 1 rfl rfl sIp_Flags rfl X_int t_y3) rfl fun _ _ _ h => ?_
   refine gg h rfl rfl c2 (o_shr rfl rfl (show (0 : Int) ≤ 3 by decide)) rfl fun _ _ _ h => ?_
   refine gg h rfl rfl c2 (o_bin rfl rfl rfl) rfl fun _ _ _ h => ?_
   refine gs h (o_pickT rfl rfl c2) rfl fun _ _ _ h => ?_
   refine gs h (o_move rfl) rfl fun _ _ _ h => ?_
   by_cases c3 : decide ((ishr .i64 a1.Flags 3) = 0) = true
   ·have H := ifT c3 H
    refine gg h rfl rfl c3 (o_fa rfl t_f25_3 rfl rfl) rfl fun _ _ _ h => ?_
    have g6 := (in2 (fd_sub sIp_Off 1 rfl h.mem))
    refine gg h rfl rfl c3 (o_lfx 1 rfl rfl sIp_Off rfl X_int t_y3) rfl fun _ _ _ h => ?_
    refine gg h rfl rfl c3 (o_shr rfl rfl (show (0 : Int) ≤ 13 by decide)) rfl fun _ _ _ h => ?_
    refine gg h rfl rfl c3 (o_bin rfl rfl rfl) rfl fun _ _ _ h => ?_
    refine gs h (o_pickT rfl rfl c3) rfl fun _ _ _ h => ?_
    refine gs h (o_move rfl) rfl fun _ _ _ h => ?_
    by_cases c4 : decide ((ishr .i64 a1.Off 13) = 0) = true
    ·have H := ifT c4 H
     refine gg h rfl rfl c4 (o_fa rfl t_f25_8 rfl rfl) rfl fun _ _ _ h => ?_
     refine gg h rfl rfl c4 (o_lfv 1 rfl rfl sIp_Options rfl Per_sl t_y23) rfl fun v3 _ _ h => ?_
     have g7 := (len_at 0 rfl h.mem)
     refine gg h rfl rfl c4 (o_ln rfl (rd_at 0 rfl) t_v23) rfl fun _ _ _ h => ?_
     refine gg h rfl rfl c4 (o_bin rfl rfl rfl) rfl fun _ _ _ h => ?_
     refine gs h (o_pickT rfl rfl c4) rfl fun _ _ _ h => ?_
     refine gs h (o_move rfl) rfl fun _ _ _ h => ?_
     by_cases c5 : decide ((a1.Options.length : Int) ≤ 40) = true
     ·have H := ifT c5 H
      refine gg h rfl rfl c5 (o_fa rfl t_f25_8 rfl rfl) rfl fun _ _ _ h => ?_
      refine gg h rfl rfl c5 (o_lfv 2 rfl rfl sIp_Options rfl Per_sl t_y23) rfl fun v4 _ _ h => ?_
      have g8 := (len_at 0 rfl h.mem)
      refine gg h rfl rfl c5 (o_ln rfl (rd_at 0 rfl) t_v23) rfl fun _ _ _ h => ?_
      refine gg h rfl rfl c5 (o_bin rfl rfl rfl) rfl fun _ _ _ h => ?_
      refine gg h rfl rfl c5 (o_bin rfl rfl rfl) rfl fun _ _ _ h => ?_
      refine gs h (o_pickT rfl rfl c5) rfl fun _ _ _ h => ?_
      refine gs h (o_move rfl) rfl fun _ _ _ h => ?_
      by_cases c6 : decide ((bits .and .i64 (a1.Options.length : Int) 3) = 0) = true
      ·have H := ifT c6 H
       refine gg h rfl rfl c6 (o_fa rfl t_f25_9 rfl rfl) rfl fun _ _ _ h => ?_
       refine gg h rfl rfl c6 (o_lfv 3 rfl rfl sIp_Data rfl Per_sl t_y23) rfl fun v5 _ _ h => ?_
       have g9 := (len_at 0 rfl h.mem)
       refine gg h rfl rfl c6 (o_ln rfl (rd_at 0 rfl) t_v23) rfl fun _ _ _ h => ?_
       refine gg h rfl rfl c6 (o_fa rfl t_f25_8 rfl rfl) rfl fun _ _ _ h => ?_
       refine gg h rfl rfl c6 (o_lfv 4 rfl rfl sIp_Options rfl Per_sl t_y23) rfl fun v6 _ _ h => ?_
       have g10 := (len_at 0 rfl h.mem)
       refine gg h rfl rfl c6 (o_ln rfl (rd_at 0 rfl) t_v23) rfl fun _ _ _ h => ?_
       refine gg h rfl rfl c6 (o_bin rfl rfl rfl) rfl fun _ _ _ h => ?_
       refine gg h rfl rfl c6 (o_bin rfl rfl rfl) rfl fun _ _ _ h => ?_
       refine gs h (o_pickT rfl rfl c6) rfl fun _ _ _ h => ?_
       obtain ⟨y1, ey1, H⟩ := ltE H
       refine gs h (o_assign' rfl (congrArg Value.bool ey1)) rfl fun _ _ _ h => ?_
       refine GoR.done ?_
       exact J1 y1 _ _ (som H).symm (h.wk (by rfl) [5] (by decide) (by rfl))
      ·have H := ifF c6 H
       iterate 8 (refine gk h rfl rfl (nb_f c6) rfl fun _ h => ?_)
       refine gs h (o_pickF rfl rfl c6) rfl fun _ _ _ h => ?_
       refine gs h (o_assign rfl) rfl fun _ _ _ h => ?_
       refine GoR.done ?_
       exact J1 false _ _ (som H).symm (h.wk (by rfl) [3] (by decide) (by rfl))
     ·have H := ifF c5 H
      iterate 5 (refine gk h rfl rfl (nb_f c5) rfl fun _ h => ?_)
      refine gs h (o_pickF rfl rfl c5) rfl fun _ _ _ h => ?_
      refine gs h (o_move rfl) rfl fun _ _ _ h => ?_
      iterate 8 (refine gk h rfl rfl (nb_f Bool.false_ne_true) rfl fun _ h => ?_)
      refine gs h (o_pickF rfl rfl Bool.false_ne_true) rfl fun _ _ _ h => ?_
      refine gs h (o_assign rfl) rfl fun _ _ _ h => ?_
      refine GoR.done ?_
      exact J1 false _ _ (som H).symm (h.wk (by rfl) [2] (by decide) (by rfl))
    ·have H := ifF c4 H
     iterate 4 (refine gk h rfl rfl (nb_f c4) rfl fun _ h => ?_)
     refine gs h (o_pickF rfl rfl c4) rfl fun _ _ _ h => ?_
     refine gs h (o_move rfl) rfl fun _ _ _ h => ?_
     iterate 5 (refine gk h rfl rfl (nb_f Bool.false_ne_true) rfl fun _ h => ?_)
     refine gs h (o_pickF rfl rfl Bool.false_ne_true) rfl fun _ _ _ h => ?_
     refine gs h (o_move rfl) rfl fun _ _ _ h => ?_
     iterate 8 (refine gk h rfl rfl (nb_f Bool.false_ne_true) rfl fun _ h => ?_)
     refine gs h (o_pickF rfl rfl Bool.false_ne_true) rfl fun _ _ _ h => ?_
     refine gs h (o_assign rfl) rfl fun _ _ _ h => ?_
     refine GoR.done ?_
     exact J1 false _ _ (som H).symm (h.wk (by rfl) [1] (by decide) (by rfl))
   ·have H := ifF c3 H
    iterate 4 (refine gk h rfl rfl (nb_f c3) rfl fun _ h => ?_)
    refine gs h (o_pickF rfl rfl c3) rfl fun _ _ _ h => ?_
    refine gs h (o_move rfl) rfl fun _ _ _ h => ?_
    iterate 4 (refine gk h rfl rfl (nb_f Bool.false_ne_true) rfl fun _ h => ?_)
    refine gs h (o_pickF rfl rfl Bool.false_ne_true) rfl fun _ _ _ h => ?_
    refine gs h (o_move rfl) rfl fun _ _ _ h => ?_
    iterate 5 (refine gk h rfl rfl (nb_f Bool.false_ne_true) rfl fun _ h => ?_)
    refine gs h (o_pickF rfl rfl Bool.false_ne_true) rfl fun _ _ _ h => ?_
    refine gs h (o_move rfl) rfl fun _ _ _ h => ?_
    iterate 8 (refine gk h rfl rfl (nb_f Bool.false_ne_true) rfl fun _ h => ?_)
    refine gs h (o_pickF rfl rfl Bool.false_ne_true) rfl fun _ _ _ h => ?_
    refine gs h (o_assign rfl) rfl fun _ _ _ h => ?_
    refine GoR.done ?_
    exact J1 false _ _ (som H).symm (h.wk (by rfl) [1] (by decide) (by rfl))
  ·have H := ifF c2 H
   iterate 4 (refine gk h rfl rfl (nb_f c2) rfl fun _ h => ?_)
   refine gs h (o_pickF rfl rfl c2) rfl fun _ _ _ h => ?_
   refine gs h (o_move rfl) rfl fun _ _ _ h => ?_
   iterate 4 (refine gk h rfl rfl (nb_f Bool.false_ne_true) rfl fun _ h => ?_)
   refine gs h (o_pickF rfl rfl Bool.false_ne_true) rfl fun _ _ _ h => ?_
   refine gs h (o_move rfl) rfl fun _ _ _ h => ?_
   iterate 4 (refine gk h rfl rfl (nb_f Bool.false_ne_true) rfl fun _ h => ?_)
   refine gs h (o_pickF rfl rfl Bool.false_ne_true) rfl fun _ _ _ h => ?_
   refine gs h (o_move rfl) rfl fun _ _ _ h => ?_
   iterate 5 (refine gk h rfl rfl (nb_f Bool.false_ne_true) rfl fun _ h => ?_)
   refine gs h (o_pickF rfl rfl Bool.false_ne_true) rfl fun _ _ _ h => ?_
   refine gs h (o_move rfl) rfl fun _ _ _ h => ?_
   iterate 8 (refine gk h rfl rfl (nb_f Bool.false_ne_true) rfl fun _ h => ?_)
   refine gs h (o_pickF rfl rfl Bool.false_ne_true) rfl fun _ _ _ h => ?_
   refine gs h (o_assign rfl) rfl fun _ _ _ h => ?_
   refine GoR.done ?_
   exact J1 false _ _ (som H).symm (h.wk (by rfl) [1] (by decide) (by rfl))
def ip_right.g (k_ : Nat) (a1 : TIp) : Option (Bool) :=
  (slices_ContainsFunc_s_int_int_at_ip_right_1.g k_ ([a1.Tos, a1.Ttl, a1.Proto] : List Int)).bind fun r1 => (if r1 = true then some (false) else ((if decide ((ishr .i64 a1.Id 16) = 0) = true then (if decide ((ishr .i64 a1.Flags 3) = 0) = true then (if decide ((ishr .i64 a1.Off 13) = 0) = true then (if decide ((a1.Options.length : Int) ≤ 40) = true then (if decide ((bits .and .i64 (a1.Options.length : Int) 3) = 0) = true then lt (decide ((a1.Data.length : Int) ≤ (IntKind.i64.wrap (65515 - (a1.Options.length : Int))))) fun y1 => some (y1) else some (false)) else some (false)) else some (false)) else some (false)) else some (false))).bind (fun j1 => some (j1)))
theorem ip_right.le (k_ : Nat) (a1 : TIp) : Le (ip_right.g k_ a1) (ip_right.f a1) := by
 unfold ip_right.g ip_right.f
 repeat' (first | with_reducible refine le_loop fun _ => ?_ | with_reducible refine le_bind ?_ fun _ => ?_ | with_reducible refine le_ite ?_ ?_ | with_reducible refine le_lt fun _ => ?_ | with_reducible refine le_elim (fun _ => ?_) (fun _ => ?_) _ | with_reducible apply slices_ContainsFunc_s_int_int_at_ip_right_1.le | with_reducible exact le_refl _)
/-! slices.Reverse[[]byte,byte] -/
noncomputable def slices_Reverse_s_byte_byte.f (a1 : List Int) : Option ((List Int)) :=
  lt (IntKind.i64.wrap ((a1.length : Int) - 1)) fun y1 => (loop (fun s1 => (if decide (s1.2.1 < s1.2.2) = true then (idx s1.1 s1.2.2).bind fun x1 => (idx s1.1 s1.2.1).bind fun x2 => (idx s1.1 s1.2.1).bind fun x3 => (idx (s1.1.set s1.2.1.toNat x1) s1.2.2).bind fun x4 => lt ((s1.1.set s1.2.1.toNat x1).set s1.2.2.toNat x2) fun y2 => lt (IntKind.i64.wrap (s1.2.1 + 1)) fun y3 => lt (IntKind.i64.wrap (s1.2.2 - 1)) fun y4 => some (.inl (y2, y3, y4)) else some (.inr (s1.1)))) (a1, 0, y1)).bind (fun z_ => some (z_))
set_option maxRecDepth 100000 in
set_option maxHeartbeats 4000000 in
theorem slices_Reverse_s_byte_byte.spc (v1 : Value) (a1 : List Int) (r : (List Int)) (H : slices_Reverse_s_byte_byte.f a1 = some r) : Spc Tryd.prog 36 [v1] [] [Val (Kd.osl (Kd.int .u8)) v1 a1] (fun (s : Unit) => .tuple #[]) (fun s => [Val (Kd.osl (Kd.int .u8)) v1 r]) := by
 unfold slices_Reverse_s_byte_byte.f at H
 refine Spc.go Tryd.func36 rfl (by kernel_rfl) rfl rfl all_nil fun F a w h => ?_
 refine Go.seq ?_
 refine Go.reg ?_
 refine gs h (o_move rfl) rfl fun _ _ _ h => ?_
 have g1 := (len_own 0 rfl h.mem)
 refine gs h (o_ln rfl (rd_own 0 rfl) t_v23) rfl fun _ _ _ h => ?_
 refine gs h (o_bin rfl rfl rfl) rfl fun _ _ _ h => ?_
 refine gs h (o_assign rfl) rfl fun _ _ _ h => ?_
 obtain ⟨y1, ey1, H⟩ := ltE H
 refine gs h (o_assign' rfl (congrArg (fun z => Value.int .i64 z) ey1)) rfl fun _ _ _ h => ?_
 refine GoR.done ?_
 refine Go.block ?_
 obtain ⟨o1, hl, G1⟩ := bindE H
 refine g_loop (fun s1 G => ∀  (a : Act) (w : World), InR .i64 s1.2.1 → InR .i64 s1.2.2 → St Tryd.f36.ntmps F [(0, v1), (2, .int .i64 s1.2.1), (3, .int .i64 s1.2.2)] [Val (Kd.osl (Kd.int .u8)) v1 s1.1] a w → G a w) hl (fun s1 p1 H i1 => ?_) fun I_ => ?_
 ·intro  a w g2 g3 h
  refine Go.seq ?_
  refine Go.seq ?_
  refine Go.reg ?_
  refine gs h (o_move rfl) rfl fun _ _ _ h => ?_
  refine gs h (o_move rfl) rfl fun _ _ _ h => ?_
  refine gs h (o_bin rfl rfl rfl) rfl fun _ _ _ h => ?_
  refine GoR.done ?_
  by_cases c1 : decide (s1.2.1 < s1.2.2) = true
  ·have H := ifT c1 H
   refine g_t h rfl c1 ?_
   refine Go.skip ?_
   refine Go.seq ?_
   refine Go.block ?_
   replace h := h.wk (E' := [(0, v1), (2, .int .i64 s1.2.1), (3, .int .i64 s1.2.2)]) (L' := [Val (Kd.osl (Kd.int .u8)) v1 s1.1]) (by rfl) [0] (by decide) (by rfl)
   obtain ⟨x1, ex1, H⟩ := bindE H
   obtain ⟨x2, ex2, H⟩ := bindE H
   obtain ⟨x3, ex3, H⟩ := bindE H
   refine Go.draw (E := [(0, v1), (2, .int .i64 s1.2.1), (3, .int .i64 s1.2.2)]) [] (L := []) h rfl rfl 14 [⟨[], [], [], false, .con (v1), none, fun u => [], []⟩, ⟨[], [], [], false, .con (.int .i64 s1.2.1), none, fun u => [], []⟩, ⟨[], [], [], false, .con (v1), none, fun u => [], []⟩, ⟨[], [], [], false, .con (.int .i64 s1.2.2), none, fun u => [], []⟩, ⟨[], [], [], false, .con (v1), none, fun u => [], []⟩, ⟨[], [], [], false, .con (.int .i64 s1.2.2), none, fun u => [], []⟩, ⟨[4, 5], [14], [], false, .con (elemP v1 (s1.2.2.toNat * Kd.n (Kd.int .u8))), none, fun u => [], []⟩, ⟨[4, 5, 6], [14], [], false, .con (.int .u8 x1), none, fun u => [Ent.pur (InR .u8 x1)], []⟩, ⟨[], [], [], false, .con (v1), none, fun u => [], []⟩, ⟨[], [], [], false, .con (.int .i64 s1.2.1), none, fun u => [], []⟩, ⟨[8, 9], [14], [], false, .con (elemP v1 (s1.2.1.toNat * Kd.n (Kd.int .u8))), none, fun u => [], []⟩, ⟨[8, 9, 10], [14], [], false, .con (.int .u8 x2), none, fun u => [Ent.pur (InR .u8 x2)], []⟩, ⟨[0, 1], [14], [], false, .con (elemP v1 (s1.2.1.toNat * Kd.n (Kd.int .u8))), none, fun u => [], []⟩, ⟨[0, 1, 4, 5, 6, 7, 12], [14, 7], [14], false, .con (undef), none, fun u => [Val (Kd.osl (Kd.int .u8)) v1 (s1.1.set s1.2.1.toNat x1)], []⟩, ⟨[], [], [], false, .con undef, none, fun u => [Val (Kd.osl (Kd.int .u8)) v1 s1.1], []⟩] rfl t_mxo (by kernel_rfl) (by rfl) ?_ fun f1 _ _ h => ?_
   ·exact obs_cons (ob_con rfl (gok_none rfl) rfl fun f1 => (o_move rfl)) (obs_cons (ob_con rfl (gok_none rfl) rfl fun f1 => (o_move rfl)) (obs_cons (ob_con rfl (gok_none rfl) rfl fun f1 => (o_move rfl)) (obs_cons (ob_con rfl (gok_none rfl) rfl fun f1 => (o_move rfl)) (obs_cons (ob_con rfl (gok_none rfl) rfl fun f1 => (o_move rfl)) (obs_cons (ob_con rfl (gok_none rfl) rfl fun f1 => (o_move rfl)) (obs_cons (ob_con rfl (gok_none rfl) rfl fun f1 => (o_ix rfl rfl (rd_own 0 rfl) ex1 t_v23)) (obs_cons (ob_con rfl (gok_none rfl) rfl fun f1 => (OpS.pur (fun F w m_ => (rd_inr (rd_own 0 rfl) ex1 m_)) (o_lex rfl (rd_own 0 rfl) ex1 X_int t_y5 (by decide)))) (obs_cons (ob_con rfl (gok_none rfl) rfl fun f1 => (o_move rfl)) (obs_cons (ob_con rfl (gok_none rfl) rfl fun f1 => (o_move rfl)) (obs_cons (ob_con rfl (gok_none rfl) rfl fun f1 => (o_ix rfl rfl (rd_own 0 rfl) ex2 t_v23)) (obs_cons (ob_con rfl (gok_none rfl) rfl fun f1 => (OpS.pur (fun F w m_ => (rd_inr (rd_own 0 rfl) ex2 m_)) (o_lex rfl (rd_own 0 rfl) ex2 X_int t_y5 (by decide)))) (obs_cons (ob_con rfl (gok_none rfl) rfl fun f1 => (o_ix rfl rfl (rd_own 0 rfl) ex3 t_v23)) (obs_cons (ob_con rfl (gok_none rfl) rfl fun f1 => (OpS.fact (p := InR .u8 x1) (fun F w m_ => (Mem.pur 1 rfl m_)) fun g4 => (o_ste 0 rfl rfl rfl (pv_int g4) ex3 t_w5 (by decide)))) (obs_nil))))))))))))))
   replace h := h.wk (E' := [(0, v1), (2, .int .i64 s1.2.1), (3, .int .i64 s1.2.2), (16, v1), (17, .int .i64 s1.2.2), (25, .int .u8 x2)]) (L' := [Ent.pur (InR .u8 x1), Ent.pur (InR .u8 x2), Val (Kd.osl (Kd.int .u8)) v1 (s1.1.set s1.2.1.toNat x1)]) (by kernel_rfl) [0, 1, 2] (by decide) (by kernel_rfl)
   have g5 := (Mem.pur 1 rfl h.mem)
   obtain ⟨x4, ex4, H⟩ := bindE H
   refine gs h (o_ix rfl rfl (rd_own 2 rfl) ex4 t_v23) rfl fun _ _ _ h => ?_
   obtain ⟨y2, ey2, H⟩ := ltE H
   refine gs0 h (o_ste 2 rfl rfl rfl (pv_int g5) ex4 t_w5 (by decide)) fun _ _ _ h => ?_
   rw [ey2] at h
   refine GoR.done ?_
   refine Go.inBlock ?_
   refine Go.reg ?_
   refine gs h (o_move rfl) rfl fun _ _ _ h => ?_
   refine gs h (o_bin rfl rfl rfl) rfl fun _ _ _ h => ?_
   refine gs h (o_move rfl) rfl fun _ _ _ h => ?_
   refine gs h (o_bin rfl rfl rfl) rfl fun _ _ _ h => ?_
   obtain ⟨y3, ey3, H⟩ := ltE H
   refine gs h (o_assign' rfl (congrArg (fun z => Value.int .i64 z) ey3)) rfl fun _ _ _ h => ?_
   obtain ⟨y4, ey4, H⟩ := ltE H
   refine gs h (o_assign' rfl (congrArg (fun z => Value.int .i64 z) ey4)) rfl fun _ _ _ h => ?_
   refine GoR.done ?_
   have e_ := som H; subst e_
   exact Go.inLoop (nx_in i1 _ _ (ey3 ▸ (wrap_in _ _)) (ey4 ▸ (wrap_in _ _)) (h.wk (by rfl) [2] (by decide) (by rfl)))
  ·have H := ifF c1 H
   refine g_f h rfl c1 ?_
   refine Go.exit rfl ?_
   have e_ := som H; subst e_
   rw [← nx_out i1] at G1
   have H := G1
   rw [← som H]
   exact g_fin (vs := []) h Tryd.func36 trivial ⟨(), rfl, (h.mem.pick [0] (by decide) rfl)⟩
 ·exact I_ _ _ (show InR .i64 0 by decide) (ey1 ▸ (wrap_in _ _)) (h.wk (by rfl) [0] (by decide) (by rfl))
def slices_Reverse_s_byte_byte.g (k_ : Nat) (a1 : List Int) : Option ((List Int)) :=
  lt (IntKind.i64.wrap ((a1.length : Int) - 1)) fun y1 => (loopK k_ (fun s1 => (if decide (s1.2.1 < s1.2.2) = true then (idx s1.1 s1.2.2).bind fun x1 => (idx s1.1 s1.2.1).bind fun x2 => (idx s1.1 s1.2.1).bind fun x3 => (idx (s1.1.set s1.2.1.toNat x1) s1.2.2).bind fun x4 => lt ((s1.1.set s1.2.1.toNat x1).set s1.2.2.toNat x2) fun y2 => lt (IntKind.i64.wrap (s1.2.1 + 1)) fun y3 => lt (IntKind.i64.wrap (s1.2.2 - 1)) fun y4 => some (.inl (y2, y3, y4)) else some (.inr (s1.1)))) (a1, 0, y1)).bind (fun z_ => some (z_))
theorem slices_Reverse_s_byte_byte.le (k_ : Nat) (a1 : List Int) : Le (slices_Reverse_s_byte_byte.g k_ a1) (slices_Reverse_s_byte_byte.f a1) := by
 unfold slices_Reverse_s_byte_byte.g slices_Reverse_s_byte_byte.f
 repeat' (first | with_reducible refine le_loop fun _ => ?_ | with_reducible refine le_bind ?_ fun _ => ?_ | with_reducible refine le_ite ?_ ?_ | with_reducible refine le_lt fun _ => ?_ | with_reducible refine le_elim (fun _ => ?_) (fun _ => ?_) _ | with_reducible exact le_refl _)
/-! drawbridge/bits.Put -/
noncomputable def bits_Put.f (a1 : Int) (a2 : Int) (a3 : Bool) : Option ((List Int)) :=
  (mk (max 0 (min a2 8)) 0).bind fun x1 => (loop (fun s1 => (if decide (s1.2 < (x1.length : Int)) = true then if 0 ≤ (IntKind.i64.wrap (8 * s1.2)) then ((idx s1.1 s1.2).bind fun x2 => lt (s1.1.set s1.2.toNat (IntKind.u8.wrap (ishr .u64 a1 (IntKind.i64.wrap (8 * s1.2))))) fun y1 => some (.inl (y1, IntKind.i64.wrap (s1.2 + 1)))) else none else some (.inr (s1.1)))) (x1, 0)).bind (fun j1 => ((if a3 = true then (slices_Reverse_s_byte_byte.f j1).bind fun r1 => some (r1) else some (j1))).bind (fun j2 => some (j2)))
set_option maxRecDepth 100000 in
set_option maxHeartbeats 4000000 in
theorem bits_Put.spc (a1 : Int) (ha1 : InR .u64 a1) (a2 : Int) (ha2 : InR .i64 a2) (a3 : Bool) (r : (List Int)) (H : bits_Put.f a1 a2 a3 = some r) : Spc Tryd.prog 20 [.int .u64 a1, .int .i64 a2, .bool a3] [] [] (fun (s : Value) => s) (fun s => [Val (Kd.osl (Kd.int .u8)) s r]) := by
 unfold bits_Put.f at H
 refine Spc.go Tryd.func20 rfl (by kernel_rfl) rfl rfl all_nil fun F a w h => ?_
 refine Go.seq ?_
 refine Go.reg ?_
 refine gs h (o_assign rfl) rfl fun _ _ _ h => ?_
 refine GoR.done ?_
 refine Go.seq ?_
 refine Go.reg ?_
 refine gs h (o_move rfl) rfl fun _ _ _ h => ?_
 refine gs h (o_min rfl rfl) rfl fun _ _ _ h => ?_
 refine gs h (o_max rfl rfl) rfl fun _ _ _ h => ?_
 obtain ⟨x1, ex1, H⟩ := bindE H
 refine gs h (o_mk (K := (Kd.int .u8)) rfl rfl ex1 t_a23 (by decide) (fun e he => ⟨[.int .u8 0], by cases he; exact t_zc5, z_int⟩)) rfl fun v1 _ _ h => ?_
 refine gs h (o_assign rfl) rfl fun _ _ _ h => ?_
 refine GoR.done ?_
 refine Go.seq ?_
 refine Go.seq ?_
 refine Go.reg ?_
 refine gs h (o_move rfl) rfl fun _ _ _ h => ?_
 have g1 := (len_own 0 rfl h.mem)
 refine gs h (o_ln rfl (rd_own 0 rfl) t_v23) rfl fun _ _ _ h => ?_
 refine gs h (o_move rfl) rfl fun _ _ _ h => ?_
 refine GoR.done ?_
 refine Go.block ?_
 obtain ⟨o1, hl, G1⟩ := bindE H
 refine g_cut (fun G => ∀ j1 (v2 : Value) (a : Act) (w : World), o1 = j1 → St Tryd.f20.ntmps F [(2, .bool a3), (7, v2)] [Val (Kd.osl (Kd.int .u8)) v2 j1] a w → G a w) 2 ?_ fun J1 => ?_
 ·intro j1 v2 a w ho_ h
  rw [ho_] at G1
  have H := G1
  refine Go.seq ?_
  obtain ⟨o2, H, G2⟩ := bindE H
  refine g_cut (fun G => ∀ j2 (a : Act) (w : World), o2 = j2 → St Tryd.f20.ntmps F [(7, v2)] [Val (Kd.osl (Kd.int .u8)) v2 j2] a w → G a w) 1 ?_ fun J2 => ?_
  ·intro j2 a w ho_ h
   rw [ho_] at G2
   have H := G2
   refine Go.seq ?_
   refine Go.reg ?_
   refine gs h (o_move rfl) rfl fun _ _ _ h => ?_
   refine gs h (o_assign rfl) rfl fun _ _ _ h => ?_
   refine GoR.done ?_
   rw [← som H]
   exact g_ret (vs := [v2]) h Tryd.func20 ⟨rfl, trivial⟩ ⟨v2, rfl, (h.mem.pick [0] (by decide) rfl)⟩
  refine Go.seq ?_
  refine Go.reg ?_
  refine gs h (o_move rfl) rfl fun _ _ _ h => ?_
  refine GoR.done ?_
  by_cases c2 : a3 = true
  ·have H := ifT c2 H
   refine g_t h rfl c2 ?_
   refine Go.reg ?_
   refine gs h (o_move rfl) rfl fun _ _ _ h => ?_
   obtain ⟨r1, er1, H⟩ := bindE H
   refine gs h (o_call (slices_Reverse_s_byte_byte.spc v2 j1 r1 er1) rfl [] [0] (by decide) rfl rfl) rfl fun _ _ _ h => ?_
   refine GoR.done ?_
   exact J2 r1 _ _ (som H).symm (h.wk (by rfl) [0] (by decide) (by rfl))
  ·have H := ifF c2 H
   refine g_f h rfl c2 ?_
   refine Go.skip ?_
   exact J2 j1 _ _ (som H).symm (h.wk (by rfl) [0] (by decide) (by rfl))
 refine g_loop (fun s1 G => ∀  (a : Act) (w : World), InR .i64 s1.2 → St Tryd.f20.ntmps F [(0, .int .u64 a1), (2, .bool a3), (7, v1), (14, .int .i64 (x1.length : Int)), (15, .int .i64 s1.2)] [Val (Kd.osl (Kd.int .u8)) v1 s1.1] a w → G a w) hl (fun s1 p1 H i1 => ?_) fun I_ => ?_
 ·intro  a w g2 h
  refine Go.seq ?_
  refine Go.reg ?_
  refine gs h (o_bin rfl rfl rfl) rfl fun _ _ _ h => ?_
  refine GoR.done ?_
  refine Go.seq ?_
  by_cases c1 : decide (s1.2 < (x1.length : Int)) = true
  ·have H := ifT c1 H
   refine g_t h rfl c1 ?_
   refine Go.skip ?_
   refine Go.seq ?_
   refine Go.block ?_
   refine Go.seq ?_
   refine Go.reg ?_
   refine gs h (o_move rfl) rfl fun _ _ _ h => ?_
   refine gs h (o_assign rfl) rfl fun _ _ _ h => ?_
   refine GoR.done ?_
   refine Go.reg ?_
   iterate 4 (refine gs h (o_move rfl) rfl fun _ _ _ h => ?_)
   refine gs h (o_bin rfl rfl rfl) rfl fun _ _ _ h => ?_
   obtain ⟨q1, H⟩ := ifS H
   refine gs h (o_shr rfl rfl q1) rfl fun _ _ _ h => ?_
   refine gs h (o_conv rfl t_q49 t_u5) rfl fun _ _ _ h => ?_
   obtain ⟨x2, ex2, H⟩ := bindE H
   refine gs h (o_ix rfl rfl (rd_own 0 rfl) ex2 t_v23) rfl fun _ _ _ h => ?_
   obtain ⟨y1, ey1, H⟩ := ltE H
   refine gs0 h (o_ste 0 rfl rfl rfl (pv_int (wrap_in _ _)) ex2 t_w5 (by decide)) fun _ _ _ h => ?_
   rw [ey1] at h
   refine GoR.done ?_
   refine Go.inBlock ?_
   refine Go.reg ?_
   refine gs h (o_bin rfl rfl rfl) rfl fun _ _ _ h => ?_
   refine gs h (o_move rfl) rfl fun _ _ _ h => ?_
   refine GoR.done ?_
   have e_ := som H; subst e_
   exact Go.inLoop (nx_in i1 _ _ (wrap_in _ _) (h.wk (by rfl) [0] (by decide) (by rfl)))
  ·have H := ifF c1 H
   refine g_f h rfl c1 ?_
   refine Go.exit rfl ?_
   have e_ := som H; subst e_
   exact J1 s1.1 v1 _ _ (nx_out i1).symm (h.wk (by rfl) [0] (by decide) (by rfl))
 ·exact I_ _ _ (show InR .i64 0 by decide) (h.wk (by rfl) [0] (by decide) (by rfl))
def bits_Put.g (k_ : Nat) (a1 : Int) (a2 : Int) (a3 : Bool) : Option ((List Int)) :=
  (mk (max 0 (min a2 8)) 0).bind fun x1 => (loopK k_ (fun s1 => (if decide (s1.2 < (x1.length : Int)) = true then if 0 ≤ (IntKind.i64.wrap (8 * s1.2)) then ((idx s1.1 s1.2).bind fun x2 => lt (s1.1.set s1.2.toNat (IntKind.u8.wrap (ishr .u64 a1 (IntKind.i64.wrap (8 * s1.2))))) fun y1 => some (.inl (y1, IntKind.i64.wrap (s1.2 + 1)))) else none else some (.inr (s1.1)))) (x1, 0)).bind (fun j1 => ((if a3 = true then (slices_Reverse_s_byte_byte.g k_ j1).bind fun r1 => some (r1) else some (j1))).bind (fun j2 => some (j2)))
theorem bits_Put.le (k_ : Nat) (a1 : Int) (a2 : Int) (a3 : Bool) : Le (bits_Put.g k_ a1 a2 a3) (bits_Put.f a1 a2 a3) := by
 unfold bits_Put.g bits_Put.f
 repeat' (first | with_reducible refine le_loop fun _ => ?_ | with_reducible refine le_bind ?_ fun _ => ?_ | with_reducible refine le_ite ?_ ?_ | with_reducible refine le_lt fun _ => ?_ | with_reducible refine le_elim (fun _ => ?_) (fun _ => ?_) _ | with_reducible apply slices_Reverse_s_byte_byte.le | with_reducible exact le_refl _)
/-! drawbridge/ip.Put$1 -/
noncomputable def ip_Put_1.f (a1 : Int) (a2 : Int) : Option ((List Int)) :=
  (bits_Put.f (IntKind.u64.wrap a1) a2 true).bind fun r1 => some (r1)
set_option maxRecDepth 100000 in
set_option maxHeartbeats 4000000 in
theorem ip_Put_1.spc (a1 : Int) (ha1 : InR .i64 a1) (a2 : Int) (ha2 : InR .i64 a2) (r : (List Int)) (H : ip_Put_1.f a1 a2 = some r) : Spc Tryd.prog 19 [.int .i64 a1, .int .i64 a2] [] [] (fun (s : Value) => s) (fun s => [Val (Kd.osl (Kd.int .u8)) s r]) := by
 unfold ip_Put_1.f at H
 refine Spc.go Tryd.func19 rfl (by kernel_rfl) rfl rfl all_nil fun F a w h => ?_
 refine Go.seq ?_
 refine Go.reg ?_
 refine gs h (o_assign rfl) rfl fun _ _ _ h => ?_
 refine GoR.done ?_
 refine Go.seq ?_
 refine Go.reg ?_
 refine gs h (o_move rfl) rfl fun _ _ _ h => ?_
 refine gs h (o_conv rfl t_q3 t_u49) rfl fun _ _ _ h => ?_
 refine gs h (o_move rfl) rfl fun _ _ _ h => ?_
 obtain ⟨r1, er1, H⟩ := bindE H
 refine gs h (o_call (bits_Put.spc (IntKind.u64.wrap a1) (wrap_in _ _) a2 ha2 true r1 er1) rfl [] [] (by decide) rfl rfl) rfl fun v1 _ _ h => ?_
 refine gs h (o_assign rfl) rfl fun _ _ _ h => ?_
 refine GoR.done ?_
 rw [← som H]
 exact g_ret (vs := [v1]) h Tryd.func19 ⟨rfl, trivial⟩ ⟨v1, rfl, (h.mem.pick [0] (by decide) rfl)⟩
def ip_Put_1.g (k_ : Nat) (a1 : Int) (a2 : Int) : Option ((List Int)) :=
  (bits_Put.g k_ (IntKind.u64.wrap a1) a2 true).bind fun r1 => some (r1)
theorem ip_Put_1.le (k_ : Nat) (a1 : Int) (a2 : Int) : Le (ip_Put_1.g k_ a1 a2) (ip_Put_1.f a1 a2) := by
 unfold ip_Put_1.g ip_Put_1.f
 repeat' (first | with_reducible refine le_loop fun _ => ?_ | with_reducible refine le_bind ?_ fun _ => ?_ | with_reducible refine le_ite ?_ ?_ | with_reducible refine le_lt fun _ => ?_ | with_reducible refine le_elim (fun _ => ?_) (fun _ => ?_) _ | with_reducible apply bits_Put.le | with_reducible exact le_refl _)
/-! slices.Grow[[]byte,byte] -/
noncomputable def slices_Grow_s_byte_byte.f (a1 : Int) : Option ((List Int)) :=
  (if decide (a1 < 0) = true then none else (lt (IntKind.i64.wrap (a1 - (IntKind.i64.wrap (0 - 0)))) fun y1 => (if decide (0 < y1) = true then (mk y1 0).bind fun x1 => (cut x1 0 0).bind fun x2 => some (x2) else some ([]))).bind (fun j1 => some (j1)))
set_option maxRecDepth 100000 in
set_option maxHeartbeats 4000000 in
theorem slices_Grow_s_byte_byte.spc (a1 : Int) (ha1 : InR .i64 a1) (r : (List Int)) (H : slices_Grow_s_byte_byte.f a1 = some r) : Spc Tryd.prog 37 [.slice none 0 0, .int .i64 a1] [] [] (fun (s : Value) => s) (fun s => [Val (Kd.osl (Kd.int .u8)) s r]) := by
 unfold slices_Grow_s_byte_byte.f at H
 refine Spc.go Tryd.func37 rfl (by kernel_rfl) rfl rfl all_nil fun F a w h => ?_
 refine Go.seq ?_
 refine Go.reg ?_
 refine gs h (o_assign rfl) rfl fun _ _ _ h => ?_
 refine GoR.done ?_
 refine Go.seq ?_
 refine Go.seq ?_
 refine Go.reg ?_
 refine gs h (o_move rfl) rfl fun _ _ _ h => ?_
 refine gs h (o_bin rfl rfl rfl) rfl fun _ _ _ h => ?_
 refine GoR.done ?_
 by_cases c1 : decide (a1 < 0) = true
 ·have H := ifT c1 H
  refine g_t h rfl c1 ?_
  cases H
 ·have H := ifF c1 H
  refine g_f h rfl c1 ?_
  refine Go.skip ?_
  refine Go.seq ?_
  obtain ⟨o1, H, G1⟩ := bindE H
  refine g_cut (fun G => ∀ j1 (v2 : Value) (a : Act) (w : World), o1 = j1 → St Tryd.f37.ntmps F [(0, v2)] [Val (Kd.osl (Kd.int .u8)) v2 j1] a w → G a w) 1 ?_ fun J1 => ?_
  ·intro j1 v2 a w ho_ h
   rw [ho_] at G1
   have H := G1
   refine Go.seq ?_
   refine Go.reg ?_
   refine gs h (o_move rfl) rfl fun _ _ _ h => ?_
   refine gs h (o_assign rfl) rfl fun _ _ _ h => ?_
   refine GoR.done ?_
   rw [← som H]
   exact g_ret (vs := [v2]) h Tryd.func37 ⟨rfl, trivial⟩ ⟨v2, rfl, (h.mem.pick [0] (by decide) rfl)⟩
  refine Go.seq ?_
  refine Go.reg ?_
  refine gs h (o_move rfl) rfl fun _ _ _ h => ?_
  refine gs h (o_move rfl) rfl fun _ _ _ h => ?_
  refine gs h (o_capn rfl t_v23) rfl fun _ _ _ h => ?_
  refine gs h (o_move rfl) rfl fun _ _ _ h => ?_
  refine gs h (o_ln (K := (Kd.int .u8)) rfl (rd_pv pv_nil) t_v23) rfl fun _ _ _ h => ?_
  refine gs h (o_bin rfl rfl rfl) rfl fun _ _ _ h => ?_
  refine gs h (o_bin rfl rfl rfl) rfl fun _ _ _ h => ?_
  obtain ⟨y1, ey1, H⟩ := ltE H
  refine gs h (o_assign' rfl (congrArg (fun z => Value.int .i64 z) ey1)) rfl fun _ _ _ h => ?_
  refine GoR.done ?_
  refine Go.seq ?_
  refine Go.reg ?_
  refine gs h (o_move rfl) rfl fun _ _ _ h => ?_
  refine gs h (o_bin rfl rfl rfl) rfl fun _ _ _ h => ?_
  refine GoR.done ?_
  by_cases c2 : decide (0 < y1) = true
  ·have H := ifT c2 H
   refine g_t h rfl c2 ?_
   refine Go.reg ?_
   refine gs h (o_move rfl) rfl fun _ _ _ h => ?_
   refine gs h (o_move rfl) rfl fun _ _ _ h => ?_
   refine gs h (o_capn rfl t_v23) rfl fun _ _ _ h => ?_
   refine gs h (o_nilh rfl rfl t_v23) rfl fun _ _ _ h => ?_
   refine gs h (o_move rfl) rfl fun _ _ _ h => ?_
   obtain ⟨x1, ex1, H⟩ := bindE H
   refine gs h (o_appz (K := (Kd.int .u8)) rfl rfl ex1 t_a23 t_u3 (by decide) (fun e he => ⟨[.int .u8 0], by cases he; exact t_zc5, z_int⟩)) rfl fun v1 _ _ h => ?_
   refine gs h (o_move rfl) rfl fun _ _ _ h => ?_
   refine gs h (o_ln (K := (Kd.int .u8)) rfl (rd_pv pv_nil) t_v23) rfl fun _ _ _ h => ?_
   obtain ⟨x2, ex2, H⟩ := bindE H
   refine gs h (o_subh 0 rfl rfl rfl ex2 t_v23) rfl fun _ _ _ h => ?_
   refine gs h (o_assign rfl) rfl fun _ _ _ h => ?_
   refine GoR.done ?_
   exact J1 x2 (subV v1 (0 : Int).toNat (0 : Int).toNat (Kd.n (Kd.int .u8))) _ _ (som H).symm (h.wk (by rfl) [0] (by decide) (by rfl))
  ·have H := ifF c2 H
   refine g_f h rfl c2 ?_
   refine Go.skip ?_
   replace h := h.mm fun m => m.nilo (Kd.int .u8)
   exact J1 [] (.slice none 0 0) _ _ (som H).symm (h.wk (by rfl) [0] (by decide) (by rfl))
def slices_Grow_s_byte_byte.g (k_ : Nat) (a1 : Int) : Option ((List Int)) :=
  (if decide (a1 < 0) = true then none else (lt (IntKind.i64.wrap (a1 - (IntKind.i64.wrap (0 - 0)))) fun y1 => (if decide (0 < y1) = true then (mk y1 0).bind fun x1 => (cut x1 0 0).bind fun x2 => some (x2) else some ([]))).bind (fun j1 => some (j1)))
theorem slices_Grow_s_byte_byte.le (k_ : Nat) (a1 : Int) : Le (slices_Grow_s_byte_byte.g k_ a1) (slices_Grow_s_byte_byte.f a1) := by
 unfold slices_Grow_s_byte_byte.g slices_Grow_s_byte_byte.f
 repeat' (first | with_reducible refine le_loop fun _ => ?_ | with_reducible refine le_bind ?_ fun _ => ?_ | with_reducible refine le_ite ?_ ?_ | with_reducible refine le_lt fun _ => ?_ | with_reducible refine le_elim (fun _ => ?_) (fun _ => ?_) _ | with_reducible exact le_refl _)
/-! slices.Concat[[]byte,byte] -/
noncomputable def slices_Concat_s_byte_byte.f (a1 : List (List Int)) : Option ((List Int)) :=
  (loop (fun s1 => (if decide (s1.2 < (a1.length : Int)) = true then (idx a1 s1.2).bind fun x1 => lt (IntKind.i64.wrap (s1.1 + (x1.length : Int))) fun y1 => (if decide (y1 < 0) = true then none else some (.inl (y1, IntKind.i64.wrap (s1.2 + 1)))) else some (.inr (s1.1)))) (0, 0)).bind (fun j1 => (slices_Grow_s_byte_byte.f j1).bind fun r1 => (loop (fun s2 => (if decide (s2.2 < (a1.length : Int)) = true then (idx a1 s2.2).bind fun x2 => (app s2.1 x2).bind fun x3 => some (.inl (x3, IntKind.i64.wrap (s2.2 + 1))) else some (.inr (s2.1)))) (r1, 0)).bind (fun j2 => some (j2)))
set_option maxRecDepth 100000 in
set_option maxHeartbeats 4000000 in
theorem slices_Concat_s_byte_byte.spc (v1 : Value) (a1 : List (List Int)) (r : (List Int)) (H : slices_Concat_s_byte_byte.f a1 = some r) : Spc Tryd.prog 21 [v1] [Val (Kd.sl (Kd.sl (Kd.int .u8))) v1 a1] [] (fun (s : Value) => s) (fun s => [Val (Kd.osl (Kd.int .u8)) s r]) := by
 unfold slices_Concat_s_byte_byte.f at H
 refine Spc.go Tryd.func21 rfl (by kernel_rfl) rfl rfl (all_cons (Val.per Per_sl) all_nil) fun F a w h => ?_
 refine Go.seq ?_
 refine Go.reg ?_
 refine gs h (o_assign rfl) rfl fun _ _ _ h => ?_
 refine GoR.done ?_
 refine Go.seq ?_
 refine Go.reg ?_
 refine gs h (o_assign rfl) rfl fun _ _ _ h => ?_
 refine GoR.done ?_
 refine Go.seq ?_
 refine Go.seq ?_
 refine Go.reg ?_
 refine gs h (o_move rfl) rfl fun _ _ _ h => ?_
 have g1 := (len_at 0 rfl h.mem)
 refine gs h (o_ln rfl (rd_at 0 rfl) t_v69) rfl fun _ _ _ h => ?_
 refine gs h (o_move rfl) rfl fun _ _ _ h => ?_
 refine GoR.done ?_
 refine Go.block ?_
 obtain ⟨o1, hl, G1⟩ := bindE H
 refine g_cut (fun G => ∀ j1 (a : Act) (w : World), o1 = j1 → InR .i64 j1 → St Tryd.f21.ntmps F [(0, v1), (3, .int .i64 j1)] [Val (Kd.sl (Kd.sl (Kd.int .u8))) v1 a1] a w → G a w) 2 ?_ fun J1 => ?_
 ·intro j1 a w ho_ g5 h
  rw [ho_] at G1
  have H := G1
  refine Go.seq ?_
  refine Go.reg ?_
  refine gs h (o_move rfl) rfl fun _ _ _ h => ?_
  obtain ⟨r1, er1, H⟩ := bindE H
  refine gs h (o_call (slices_Grow_s_byte_byte.spc j1 g5 r1 er1) rfl [] [] (by decide) rfl rfl) rfl fun v3 _ _ h => ?_
  refine gs h (o_assign rfl) rfl fun _ _ _ h => ?_
  refine GoR.done ?_
  refine Go.seq ?_
  refine Go.seq ?_
  refine Go.reg ?_
  refine gs h (o_move rfl) rfl fun _ _ _ h => ?_
  have g6 := (len_at 1 rfl h.mem)
  refine gs h (o_ln rfl (rd_at 1 rfl) t_v69) rfl fun _ _ _ h => ?_
  refine gs h (o_move rfl) rfl fun _ _ _ h => ?_
  refine GoR.done ?_
  refine Go.block ?_
  obtain ⟨o2, hl, G2⟩ := bindE H
  refine g_cut (fun G => ∀ j2 (v7 : Value) (a : Act) (w : World), o2 = j2 → St Tryd.f21.ntmps F [(6, v7)] [Val (Kd.osl (Kd.int .u8)) v7 j2] a w → G a w) 2 ?_ fun J2 => ?_
  ·intro j2 v7 a w ho_ h
   rw [ho_] at G2
   have H := G2
   refine Go.seq ?_
   refine Go.reg ?_
   refine gs h (o_move rfl) rfl fun _ _ _ h => ?_
   refine gs h (o_assign rfl) rfl fun _ _ _ h => ?_
   refine GoR.done ?_
   rw [← som H]
   exact g_ret (vs := [v7]) h Tryd.func21 ⟨rfl, trivial⟩ ⟨v7, rfl, (h.mem.pick [0] (by decide) rfl)⟩
  refine g_loop (fun s2 G => ∀ (v4 : Value) (a : Act) (w : World), InR .i64 s2.2 → St Tryd.f21.ntmps F [(6, v4), (25, v1), (26, .int .i64 (a1.length : Int)), (27, .int .i64 s2.2)] [Val (Kd.osl (Kd.int .u8)) v4 s2.1, Val (Kd.sl (Kd.sl (Kd.int .u8))) v1 a1] a w → G a w) hl (fun s2 p2 H i2 => ?_) fun I_ => ?_
  ·intro v4 a w g7 h
   refine Go.seq ?_
   refine Go.reg ?_
   refine gs h (o_bin rfl rfl rfl) rfl fun _ _ _ h => ?_
   refine GoR.done ?_
   refine Go.seq ?_
   by_cases c3 : decide (s2.2 < (a1.length : Int)) = true
   ·have H := ifT c3 H
    refine g_t h rfl c3 ?_
    refine Go.skip ?_
    refine Go.seq ?_
    refine Go.block ?_
    refine Go.seq ?_
    refine Go.reg ?_
    obtain ⟨x2, ex2, H⟩ := bindE H
    refine gs h (o_ix rfl rfl (rd_at 1 rfl) ex2 t_v69) rfl fun _ _ _ h => ?_
    refine gs h (o_lev rfl (rd_at 1 rfl) ex2 t_y23 (by decide)) rfl fun v5 _ _ h => ?_
    refine gs h (o_assign rfl) rfl fun _ _ _ h => ?_
    refine GoR.done ?_
    refine Go.reg ?_
    refine gs h (o_move rfl) rfl fun _ _ _ h => ?_
    refine gs h (o_move rfl) rfl fun _ _ _ h => ?_
    obtain ⟨x3, ex3, H⟩ := bindE H
    refine gs h (o_app (K := (Kd.int .u8)) 1 rfl rfl rfl (rd_at 0 rfl) ex3 t_a23 t_n23) rfl fun v6 _ _ h => ?_
    refine gs h (o_assign rfl) rfl fun _ _ _ h => ?_
    refine GoR.done ?_
    refine Go.inBlock ?_
    refine Go.reg ?_
    refine gs h (o_bin rfl rfl rfl) rfl fun _ _ _ h => ?_
    refine gs h (o_move rfl) rfl fun _ _ _ h => ?_
    refine GoR.done ?_
    have e_ := som H; subst e_
    exact Go.inLoop (nx_in i2 v6 _ _ (wrap_in _ _) (h.wk (by rfl) [1, 2] (by decide) (by rfl)))
   ·have H := ifF c3 H
    refine g_f h rfl c3 ?_
    refine Go.exit rfl ?_
    have e_ := som H; subst e_
    exact J2 s2.1 v4 _ _ (nx_out i2).symm (h.wk (by rfl) [0] (by decide) (by rfl))
  ·exact I_ v3 _ _ (show InR .i64 0 by decide) (h.wk (by rfl) [0, 1] (by decide) (by rfl))
 refine g_loop (fun s1 G => ∀  (a : Act) (w : World), InR .i64 s1.1 → InR .i64 s1.2 → St Tryd.f21.ntmps F [(0, v1), (3, .int .i64 s1.1), (9, v1), (10, .int .i64 (a1.length : Int)), (11, .int .i64 s1.2)] [Val (Kd.sl (Kd.sl (Kd.int .u8))) v1 a1] a w → G a w) hl (fun s1 p1 H i1 => ?_) fun I_ => ?_
 ·intro  a w g2 g3 h
  refine Go.seq ?_
  refine Go.reg ?_
  refine gs h (o_bin rfl rfl rfl) rfl fun _ _ _ h => ?_
  refine GoR.done ?_
  refine Go.seq ?_
  by_cases c1 : decide (s1.2 < (a1.length : Int)) = true
  ·have H := ifT c1 H
   refine g_t h rfl c1 ?_
   refine Go.skip ?_
   refine Go.seq ?_
   refine Go.block ?_
   refine Go.seq ?_
   refine Go.reg ?_
   obtain ⟨x1, ex1, H⟩ := bindE H
   refine gs h (o_ix rfl rfl (rd_at 0 rfl) ex1 t_v69) rfl fun _ _ _ h => ?_
   refine gs h (o_lev rfl (rd_at 0 rfl) ex1 t_y23 (by decide)) rfl fun v2 _ _ h => ?_
   refine gs h (o_assign rfl) rfl fun _ _ _ h => ?_
   refine GoR.done ?_
   refine Go.seq ?_
   refine Go.reg ?_
   refine gs h (o_move rfl) rfl fun _ _ _ h => ?_
   refine gs h (o_move rfl) rfl fun _ _ _ h => ?_
   have g4 := (len_at 0 rfl h.mem)
   refine gs h (o_ln rfl (rd_at 0 rfl) t_v23) rfl fun _ _ _ h => ?_
   refine gs h (o_bin rfl rfl rfl) rfl fun _ _ _ h => ?_
   obtain ⟨y1, ey1, H⟩ := ltE H
   refine gs h (o_assign' rfl (congrArg (fun z => Value.int .i64 z) ey1)) rfl fun _ _ _ h => ?_
   refine GoR.done ?_
   refine Go.seq ?_
   refine Go.reg ?_
   refine gs h (o_move rfl) rfl fun _ _ _ h => ?_
   refine gs h (o_bin rfl rfl rfl) rfl fun _ _ _ h => ?_
   refine GoR.done ?_
   by_cases c2 : decide (y1 < 0) = true
   ·have H := ifT c2 H
    refine g_t h rfl c2 ?_
    cases H
   ·have H := ifF c2 H
    refine g_f h rfl c2 ?_
    refine Go.skip ?_
    refine Go.inBlock ?_
    refine Go.reg ?_
    refine gs h (o_bin rfl rfl rfl) rfl fun _ _ _ h => ?_
    refine gs h (o_move rfl) rfl fun _ _ _ h => ?_
    refine GoR.done ?_
    have e_ := som H; subst e_
    exact Go.inLoop (nx_in i1 _ _ (ey1 ▸ (wrap_in _ _)) (wrap_in _ _) (h.wk (by rfl) [1] (by decide) (by rfl)))
  ·have H := ifF c1 H
   refine g_f h rfl c1 ?_
   refine Go.exit rfl ?_
   have e_ := som H; subst e_
   exact J1 s1.1 _ _ (nx_out i1).symm g2 (h.wk (by rfl) [0] (by decide) (by rfl))
 ·exact I_ _ _ (show InR .i64 0 by decide) (show InR .i64 0 by decide) (h.wk (by rfl) [0] (by decide) (by rfl))
def slices_Concat_s_byte_byte.g (k_ : Nat) (a1 : List (List Int)) : Option ((List Int)) :=
  (loopK k_ (fun s1 => (if decide (s1.2 < (a1.length : Int)) = true then (idx a1 s1.2).bind fun x1 => lt (IntKind.i64.wrap (s1.1 + (x1.length : Int))) fun y1 => (if decide (y1 < 0) = true then none else some (.inl (y1, IntKind.i64.wrap (s1.2 + 1)))) else some (.inr (s1.1)))) (0, 0)).bind (fun j1 => (slices_Grow_s_byte_byte.g k_ j1).bind fun r1 => (loopK k_ (fun s2 => (if decide (s2.2 < (a1.length : Int)) = true then (idx a1 s2.2).bind fun x2 => (app s2.1 x2).bind fun x3 => some (.inl (x3, IntKind.i64.wrap (s2.2 + 1))) else some (.inr (s2.1)))) (r1, 0)).bind (fun j2 => some (j2)))
theorem slices_Concat_s_byte_byte.le (k_ : Nat) (a1 : List (List Int)) : Le (slices_Concat_s_byte_byte.g k_ a1) (slices_Concat_s_byte_byte.f a1) := by
 unfold slices_Concat_s_byte_byte.g slices_Concat_s_byte_byte.f
 repeat' (first | with_reducible refine le_loop fun _ => ?_ | with_reducible refine le_bind ?_ fun _ => ?_ | with_reducible refine le_ite ?_ ?_ | with_reducible refine le_lt fun _ => ?_ | with_reducible refine le_elim (fun _ => ?_) (fun _ => ?_) _ | with_reducible apply slices_Grow_s_byte_byte.le | with_reducible exact le_refl _)
/-! slices.Clone[[]byte,byte] -/
noncomputable def slices_Clone_s_byte_byte.f (a1 : List Int) : Option ((List Int)) :=
  (app ([] : List Int) a1).bind fun x1 => some (x1)
set_option maxRecDepth 100000 in
set_option maxHeartbeats 4000000 in
theorem slices_Clone_s_byte_byte.spc (v1 : Value) (a1 : List Int) (r : (List Int)) (H : slices_Clone_s_byte_byte.f a1 = some r) : Spc Tryd.prog 31 [v1] [Val (Kd.sl (Kd.int .u8)) v1 a1] [] (fun (s : Value) => s) (fun s => [Val (Kd.osl (Kd.int .u8)) s r]) := by
 unfold slices_Clone_s_byte_byte.f at H
 refine Spc.go Tryd.func31 rfl (by kernel_rfl) rfl rfl (all_cons (Val.per Per_sl) all_nil) fun F a w h => ?_
 refine Go.seq ?_
 refine Go.reg ?_
 refine gs h (o_assign rfl) rfl fun _ _ _ h => ?_
 refine GoR.done ?_
 refine Go.seq ?_
 refine Go.seq ?_
 refine Go.reg ?_
 refine gs h (o_move rfl) rfl fun _ _ _ h => ?_
 refine gs h (o_eqn rfl rfl (rd_at 0 rfl) t_v23) rfl fun t1 _ _ h => ?_
 refine GoR.done ?_
 by_cases c1 : t1 = true
 ·have q_ := h.mem.pur 0 rfl c1
  have H : (some ([])) = some r := by rw [q_] at H; simpa [app, app1] using H
  refine g_t h rfl c1 ?_
  refine Go.seq ?_
  refine Go.reg ?_
  refine gs h (o_assign rfl) rfl fun _ _ _ h => ?_
  refine GoR.done ?_
  replace h := h.mm fun m => m.nilo (Kd.int .u8)
  rw [← som H]
  exact g_ret (vs := [.slice none 0 0]) h Tryd.func31 ⟨rfl, trivial⟩ ⟨.slice none 0 0, rfl, (h.mem.pick [0] (by decide) rfl)⟩
 ·refine g_f h rfl c1 ?_
  refine Go.skip ?_
  refine Go.seq ?_
  refine Go.reg ?_
  refine gs h (o_bs (K := (Kd.int .u8)) (vs := []) (xs := ([] : List Int)) rfl rfl pvs_nil t_a23 (by decide) (by decide)) rfl fun v2 _ _ h => ?_
  refine gs h (o_move rfl) rfl fun _ _ _ h => ?_
  obtain ⟨x1, ex1, H⟩ := bindE H
  refine gs h (o_app (K := (Kd.int .u8)) 0 rfl rfl rfl (rd_at 2 rfl) ex1 t_a23 t_n23) rfl fun v3 _ _ h => ?_
  refine gs h (o_assign rfl) rfl fun _ _ _ h => ?_
  refine GoR.done ?_
  rw [← som H]
  exact g_ret (vs := [v3]) h Tryd.func31 ⟨rfl, trivial⟩ ⟨v3, rfl, (h.mem.pick [0] (by decide) rfl)⟩
def slices_Clone_s_byte_byte.g (k_ : Nat) (a1 : List Int) : Option ((List Int)) :=
  (app ([] : List Int) a1).bind fun x1 => some (x1)
theorem slices_Clone_s_byte_byte.le (k_ : Nat) (a1 : List Int) : Le (slices_Clone_s_byte_byte.g k_ a1) (slices_Clone_s_byte_byte.f a1) := by
 unfold slices_Clone_s_byte_byte.g slices_Clone_s_byte_byte.f
 repeat' (first | with_reducible refine le_loop fun _ => ?_ | with_reducible refine le_bind ?_ fun _ => ?_ | with_reducible refine le_ite ?_ ?_ | with_reducible refine le_lt fun _ => ?_ | with_reducible refine le_elim (fun _ => ?_) (fun _ => ?_) _ | with_reducible exact le_refl _)
end Go.Proofs.YtaiadolmjmacfaaDoor.S
