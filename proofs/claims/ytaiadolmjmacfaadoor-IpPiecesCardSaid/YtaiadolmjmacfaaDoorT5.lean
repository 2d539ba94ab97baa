/- Contracts, printed by a program of this session. -/
import Derived.Test.YtaiadolmjmacfaaDoorT1
import Derived.Test.YtaiadolmjmacfaaDoorT2
import Derived.Test.YtaiadolmjmacfaaDoorT3
import Derived.Test.YtaiadolmjmacfaaDoorT4
namespace Go.Proofs.YtaiadolmjmacfaaDoor.S
open Go Go.SL Go.RowKit
set_option linter.unusedVariables false
set_option linter.unusedSimpArgs false
/-! drawbridge/ip.Get -/
noncomputable def ip_Get.f (a1 : List Int) : Option (TIp × Int) :=
  (ip_get.f a1).bind fun r1 => (ip_errno.f r1.2).bind fun r2 => some ((r1.1, r2))
set_option maxRecDepth 100000 in
set_option maxHeartbeats 4000000 in
theorem ip_Get.spc (v1 : Value) (a1 : List Int) (r : TIp × Int) (H : ip_Get.f a1 = some r) : Spc Tryd.prog 10 [v1] [Val (Kd.sl (Kd.int .u8)) v1 a1, Pfl (Kd.eq gv0) 0 0 ()] [] (fun (s : Value) => .tuple #[s, .int .i64 r.2]) (fun s => [Ent.pur (InR .i64 r.2), Val KIp s r.1]) := by
 unfold ip_Get.f at H
 refine Spc.go Tryd.func10 rfl (by kernel_rfl) rfl rfl (all_cons (Val.per Per_sl) (all_cons Per_pfl all_nil)) fun F a w h => ?_
 refine Go.seq ?_
 refine Go.reg ?_
 refine gs h (o_alloc (K := KIp) (z := (.agg #[.int .i64 0, .int .i64 0, .int .i64 0, .int .i64 0, .int .i64 0, .int .i64 0, .int .u32 0, .int .u32 0, .slice none 0 0, .slice none 0 0])) rfl ZIp) rfl fun b1 _ _ h => ?_
 refine gs h (o_assign rfl) rfl fun _ _ _ h => ?_
 refine GoR.done ?_
 refine Go.seq ?_
 refine Go.reg ?_
 refine gs h (o_move rfl) rfl fun _ _ _ h => ?_
 obtain ⟨r1, er1, H⟩ := bindE H
 refine gs h (o_call (ip_get.spc v1 a1 r1 er1) rfl [1] [] (by decide) rfl rfl) rfl fun s_ _ _ h => ?_
 obtain ⟨v2, v3⟩ := s_
 refine gs h (o_move rfl) rfl fun _ _ _ h => ?_
 refine gs h (o_extract rfl rfl) rfl fun _ _ _ h => ?_
 refine gs h (o_extract rfl rfl) rfl fun _ _ _ h => ?_
 refine gs h (o_alloc (K := KIp) (z := (.agg #[.int .i64 0, .int .i64 0, .int .i64 0, .int .i64 0, .int .i64 0, .int .i64 0, .int .u32 0, .int .u32 0, .slice none 0 0, .slice none 0 0])) rfl ZIp) rfl fun b2 _ _ h => ?_
 refine gs0 h (o_st 0 rfl rfl rfl (pv_at PIp 1 rfl) rfl t_w25) fun _ _ _ h => ?_
 refine gs h (o_assign rfl) rfl fun _ _ _ h => ?_
 refine GoR.done ?_
 refine Go.seq ?_
 replace h := h.wk (E' := [(2, .pointer (some ⟨b1, 0, none⟩)), (3, .int .i64 0), (4, .pointer (some ⟨b2, 0, none⟩)), (5, v3)]) (L' := [Fld KIp b2 0 r1.1, Val KIp v2 r1.1, Val (Kd.erp 74 Kfault) v3 r1.2, Fld KIp b1 0 zIp, Val (Kd.sl (Kd.int .u8)) v1 a1, Pfl (Kd.eq gv0) 0 0 ()]) (by rfl) [0, 1, 2, 3, 4, 5] (by decide) (by rfl)
 obtain ⟨r2, er2, H⟩ := bindE H
 refine Go.draw (E := [(2, .pointer (some ⟨b1, 0, none⟩)), (3, .int .i64 0), (4, .pointer (some ⟨b2, 0, none⟩)), (5, v3)]) [] (L := [Fld KIp b2 0 r1.1, Val KIp v2 r1.1, Val (Kd.erp 74 Kfault) v3 r1.2, Fld KIp b1 0 zIp, Val (Kd.sl (Kd.int .u8)) v1 a1, Pfl (Kd.eq gv0) 0 0 ()]) h rfl rfl 3 [⟨[], [], [], false, .own, none, fun u => [Val KIp u r1.1], []⟩, ⟨[], [], [], false, .con (v3), none, fun u => [], []⟩, ⟨[1], [], [], false, .con (.int .i64 r2), none, fun u => [Ent.pur (InR .i64 r2)], []⟩] rfl t_mxo (by kernel_rfl) (by rfl) ?_ fun f1 _ _ h => ?_
 ·exact obs_cons (ob_own rfl (gok_none rfl) rfl fun f1 => (o_ldv 0 rfl rfl PIp t_y25)) (obs_cons (ob_con rfl (gok_none rfl) rfl fun f1 => (o_move rfl)) (obs_cons (ob_con rfl (gok_none rfl) rfl fun f1 => (o_call (ip_errno.spc v3 r1.2 r2 er2) rfl [2, 5] [] (by decide) rfl rfl)) (obs_nil)))
 replace h := h.wk (E' := [(2, .pointer (some ⟨b1, 0, none⟩)), (3, .int .i64 0), (11, (f1 0)), (13, .int .i64 r2)]) (L' := [Val KIp (f1 0) r1.1, Ent.pur (InR .i64 r2), Fld KIp b2 0 r1.1, Val KIp v2 r1.1, Val (Kd.erp 74 Kfault) v3 r1.2, Fld KIp b1 0 zIp, Val (Kd.sl (Kd.int .u8)) v1 a1, Pfl (Kd.eq gv0) 0 0 ()]) (by kernel_rfl) [0, 1, 2, 3, 4, 5, 6, 7] (by decide) (by kernel_rfl)
 have g1 := (Mem.pur 1 rfl h.mem)
 refine gs0 h (o_st 5 rfl rfl rfl (pv_at PIp 0 rfl) rfl t_w25) fun _ _ _ h => ?_
 refine gs h (o_assign rfl) rfl fun _ _ _ h => ?_
 refine GoR.done ?_
 obtain ⟨v5, h, u1⟩ := h.peek 5 rfl PIp t_y25
 rw [← som H]
 exact g_ret (vs := [v5, .int .i64 r2]) h Tryd.func10 ⟨⟨_, rfl, u1⟩, ⟨rfl, trivial⟩⟩ ⟨v5, rfl, ((h.mem.pick [0] (by decide) rfl).addpur g1)⟩
def ip_Get.g (k_ : Nat) (a1 : List Int) : Option (TIp × Int) :=
  (ip_get.g k_ a1).bind fun r1 => (ip_errno.g k_ r1.2).bind fun r2 => some ((r1.1, r2))
theorem ip_Get.le (k_ : Nat) (a1 : List Int) : Le (ip_Get.g k_ a1) (ip_Get.f a1) := by
 unfold ip_Get.g ip_Get.f
 repeat' (first | with_reducible refine le_loop fun _ => ?_ | with_reducible refine le_bind ?_ fun _ => ?_ | with_reducible refine le_ite ?_ ?_ | with_reducible refine le_lt fun _ => ?_ | with_reducible refine le_elim (fun _ => ?_) (fun _ => ?_) _ | with_reducible apply ip_errno.le | with_reducible apply ip_get.le | with_reducible exact le_refl _)
/-! slices.Chunk[[]byte,byte]$1 -/
set_option maxRecDepth 100000 in
set_option maxHeartbeats 4000000 in
theorem slices_Chunk_s_byte_byte_1.it (b1 b2 : Nat) (xs : List Int) (m : Int) (hm : 1 ≤ m) (hb : (xs.length : Int) + m ≤ 9223372036854775807) : Iter Tryd.prog 45 [.pointer (some ⟨b1, 0, none⟩), .pointer (some ⟨b2, 0, none⟩)] [Fld (Kd.sl (Kd.int .u8)) b1 0 xs, Fld (Kd.int .i64) b2 0 m] (Kd.sl (Kd.int .u8)) (chunks xs m.toNat) := by
 obtain ⟨M, rfl⟩ : ∃ M : Nat, m = (M : Int) := ⟨m.toNat, by omega⟩
 rw [Int.toNat_natCast]
 have hM : 1 ≤ M := by omega
 refine ⟨⟨_, Tryd.func45, by kernel_rfl, rfl⟩, fun l r X hX F w hm0 => ?_⟩
 refine Calls.of_go Tryd.func45 rfl (n := Tryd.f45.ntmps) rfl (Nat.le_of_ble_eq_true rfl) fun a ha => ?_
 have h : St Tryd.f45.ntmps F (slots0 0 [.func (.yield l) #[] #[], .pointer (some ⟨b1, 0, none⟩), .pointer (some ⟨b2, 0, none⟩)]) [Fld (Kd.int .i64) b2 0 (M : Int), Fld (Kd.sl (Kd.int .u8)) b1 0 xs, Obe l (.loop (r.lp .ready none)), X 0] a w := ⟨ha, hm0.pick [3, 2, 0, 1] (by decide) rfl⟩
 refine Go.seq ?_
 refine Go.reg ?_
 refine gs h (o_assign rfl) rfl fun _ _ _ h => ?_
 refine GoR.done ?_
 refine Go.block ?_
 refine Go.loopN (chunks xs M).length (fun j a w => St Tryd.f45.ntmps F [(0, .func (.yield l) #[] #[]), (1, .pointer (some ⟨b1, 0, none⟩)), (2, .pointer (some ⟨b2, 0, none⟩)), (4, .int .i64 ((j * M : Nat) : Int))] [Fld (Kd.int .i64) b2 0 (M : Int), Fld (Kd.sl (Kd.int .u8)) b1 0 xs, Obe l (.loop (r.lp .ready none)), X j] a w) ?_ ?_
 · have e0 : ((0 * M : Nat) : Int) = 0 := by simp
   rw [e0]
   exact h.wk (by rfl) [0, 1, 2, 3] (by decide) rfl
 · intro j hjN ih a w h
   obtain ⟨s1, hs1⟩ : ∃ s1 : Int, s1 = ((j * M : Nat) : Int) := ⟨_, rfl⟩
   rw [← hs1] at h
   refine Go.seq ?_
   refine Go.seq ?_
   refine Go.reg ?_
   refine gs h (o_move rfl) rfl fun _ _ _ h => ?_
   refine gs h (o_ldv 1 rfl rfl Per_sl t_y23) rfl fun v2 _ _ h => ?_
   refine gs h (o_ln rfl (rd_at 0 rfl) t_v23) rfl fun _ _ _ h => ?_
   refine gs h (o_bin rfl rfl rfl) rfl fun _ _ _ h => ?_
   refine GoR.done ?_
   by_cases hj : j < (chunks xs M).length
   · have hlt := (chunks_len xs M hM j).1 hj
     obtain ⟨hc1, hc2⟩ := chunks_cut xs M j hM hj
     rw [← hs1] at hc1 hc2
     have c1 : decide (s1 < (xs.length : Int)) = true := decide_eq_true (by omega)
     obtain ⟨x1, hx1⟩ : ∃ x1, x1 = xs.drop (j * M) := ⟨_, rfl⟩
     rw [← hx1] at hc1 hc2
     have hx1l : x1.length = xs.length - j * M := by rw [hx1]; exact List.length_drop
     refine g_t h rfl c1 ?_
     refine Go.skip ?_
     refine Go.seq ?_
     refine Go.block ?_
     refine Go.seq ?_
     replace h := h.wk (E' := [(0, .func (.yield l) #[] #[]), (1, .pointer (some ⟨b1, 0, none⟩)), (2, .pointer (some ⟨b2, 0, none⟩)), (4, .int .i64 s1)]) (L' := [Val (Kd.sl (Kd.int .u8)) v2 xs, Fld (Kd.int .i64) b2 0 (M : Int), Fld (Kd.sl (Kd.int .u8)) b1 0 xs, Obe l (.loop (r.lp .ready none)), X j]) (by rfl) [0, 1, 2, 3, 4] (by decide) (by rfl)
     refine Go.draw (E := [(0, .func (.yield l) #[] #[]), (1, .pointer (some ⟨b1, 0, none⟩)), (2, .pointer (some ⟨b2, 0, none⟩)), (4, .int .i64 s1)]) [] (L := [Val (Kd.sl (Kd.int .u8)) v2 xs, Fld (Kd.int .i64) b2 0 (M : Int), Fld (Kd.sl (Kd.int .u8)) b1 0 xs, Obe l (.loop (r.lp .ready none)), X j]) h rfl rfl 5 [⟨[], [], [], false, .con (.int .i64 (M : Int)), none, fun u => [Ent.pur (InR .i64 (M : Int))], []⟩, ⟨[], [], [], false, .own, none, fun u => [Val (Kd.sl (Kd.int .u8)) u xs], []⟩, ⟨[], [], [], false, .con (.int .i64 s1), none, fun u => [], []⟩, ⟨[1, 2], [1], [], false, .own, none, fun u => [Val (Kd.sl (Kd.int .u8)) u x1], []⟩, ⟨[1, 2, 3], [3], [], false, .con (.int .i64 (x1.length : Int)), none, fun u => [], []⟩] rfl t_mxo (by kernel_rfl) (by rfl) ?_ fun f1 _ _ h => ?_
     · exact obs_cons (ob_con rfl (gok_none rfl) rfl fun f1 => (OpS.pur (fun F w m_ => (fd_in 1 rfl m_)) (o_ldx 1 rfl rfl X_int t_y3))) (obs_cons (ob_own rfl (gok_none rfl) rfl fun f1 => (o_ldv 2 rfl rfl Per_sl t_y23)) (obs_cons (ob_con rfl (gok_none rfl) rfl fun f1 => (o_move rfl)) (obs_cons (ob_own rfl (gok_none rfl) rfl fun f1 => (o_cutl rfl (pv_at Per_sl 0 rfl) rfl hc1 t_v23)) (obs_cons (ob_con rfl (gok_none rfl) rfl fun f1 => (o_ln rfl (rd_at 0 rfl) t_v23)) (obs_nil)))))
     replace h := h.wk (E' := [(0, .func (.yield l) #[] #[]), (1, .pointer (some ⟨b1, 0, none⟩)), (2, .pointer (some ⟨b2, 0, none⟩)), (4, .int .i64 s1), (13, .int .i64 (M : Int)), (17, .int .i64 (x1.length : Int))]) (L' := [Val (Kd.sl (Kd.int .u8)) v2 xs, Fld (Kd.int .i64) b2 0 (M : Int), Fld (Kd.sl (Kd.int .u8)) b1 0 xs, Obe l (.loop (r.lp .ready none)), X j]) (by kernel_rfl) [3, 4, 5, 6, 7] (by decide) (by kernel_rfl)
     refine gs h (o_min rfl rfl) rfl fun _ _ _ h => ?_
     obtain ⟨y1, ey1⟩ : ∃ y1, y1 = min (M : Int) (x1.length : Int) := ⟨_, rfl⟩
     rw [← ey1] at hc2
     refine gs h (o_assign' rfl (congrArg (fun z => Value.int .i64 z) ey1.symm)) rfl fun _ _ _ h => ?_
     refine GoR.done ?_
     refine Go.seq ?_
     refine Go.regI h.sl.df ?_
     refine gi h (o_move rfl) rfl fun _ _ _ h => ?_
     refine gi h (o_ldv 2 rfl rfl Per_sl t_y23) rfl fun v5 _ _ h => ?_
     iterate 3 (refine gi h (o_move rfl) rfl fun _ _ _ h => ?_)
     refine gi h (o_bin rfl rfl rfl) rfl fun _ _ _ h => ?_
     refine gi h (o_move rfl) rfl fun _ _ _ h => ?_
     refine gi h (o_move rfl) rfl fun _ _ _ h => ?_
     refine gi h (o_bin rfl rfl rfl) rfl fun _ _ _ h => ?_
     have ew : IntKind.i64.wrap (s1 + y1) = s1 + y1 := in_i64 (by omega) (by omega)
     refine gi h (o_cut3 rfl (pv_at Per_sl 0 rfl) rfl rfl rfl (by rw [ew]; exact hc2) t_v23) rfl fun v6 _ _ h => ?_
     refine gi_yield h rfl rfl (hX j hj v6) (Lr := [Fld (Kd.int .i64) b2 0 (M : Int), Fld (Kd.sl (Kd.int .u8)) b1 0 xs]) (fun m => m.pick [5, 6, 0, 3, 4] (by decide) rfl) rfl fun _ _ h => ?_
     refine gi h (o_not rfl) rfl fun _ _ _ h => ?_
     refine GoI.done ?_
     refine g_f h rfl (by decide) ?_
     refine Go.skip ?_
     refine Go.inBlock ?_
     refine Go.reg ?_
     refine gs h (o_move rfl) rfl fun _ _ _ h => ?_
     refine gs h (o_ldx 2 rfl rfl X_int t_y3) rfl fun _ _ _ h => ?_
     refine gs h (o_bin rfl rfl rfl) rfl fun _ _ _ h => ?_
     have ey2 : IntKind.i64.wrap (s1 + (M : Int)) = (((j + 1) * M : Nat) : Int) := by
       rw [in_i64 (by omega) (by omega), hs1, Nat.add_mul]; omega
     refine gs h (o_assign' rfl (congrArg (fun z => Value.int .i64 z) ey2)) rfl fun _ _ _ h => ?_
     refine GoR.done ?_
     exact Go.inLoop (ih hj _ _ (h.wk (by rfl) [2, 3, 0, 1] (by decide) (by rfl)))
   · have hge : ¬ j * M < xs.length := fun hh => hj ((chunks_len xs M hM j).2 hh)
     have c1 : ¬ decide (s1 < (xs.length : Int)) = true := by
       rw [decide_eq_true_iff]; omega
     refine g_f h rfl c1 ?_
     refine Go.exit rfl ?_
     have ej : j = (chunks xs M).length := by omega
     subst ej
     exact g_fin (vs := []) h Tryd.func45 trivial ⟨rfl, h.mem.pick [3, 4] (by decide) rfl⟩
/-! slices.Chunk[[]byte,byte] -/
noncomputable def slices_Chunk_s_byte_byte.f (a1 : List Int) (a2 : Int) : Option ((List (List Int))) :=
  (if decide (a2 < 1) = true then none else if 1 ≤ a2 ∧ (a1.length : Int) + a2 ≤ 9223372036854775807 then (some ((chunks a1 a2.toNat))) else none)
set_option maxRecDepth 100000 in
set_option maxHeartbeats 4000000 in
theorem slices_Chunk_s_byte_byte.spc (v1 : Value) (a1 : List Int) (a2 : Int) (ha2 : InR .i64 a2) (r : (List (List Int))) (H : slices_Chunk_s_byte_byte.f a1 a2 = some r) : Spc Tryd.prog 30 [v1, .int .i64 a2] [Val (Kd.sl (Kd.int .u8)) v1 a1] [] (fun (s : Value) => s) (fun s => [Val (Kd.it Tryd.prog (Kd.sl (Kd.int .u8))) s r]) := by
 unfold slices_Chunk_s_byte_byte.f at H
 refine Spc.go Tryd.func30 rfl (by kernel_rfl) rfl rfl (all_cons (Val.per Per_sl) all_nil) fun F a w h => ?_
 refine Go.seq ?_
 refine Go.reg ?_
 refine gs h (o_box (K := (Kd.sl (Kd.int .u8))) rfl (pv_at Per_sl 0 rfl)) rfl fun b1 _ _ h => ?_
 refine gs h (o_box (K := (Kd.int .i64)) rfl (pv_int ha2)) rfl fun b2 _ _ h => ?_
 refine gs h (o_assign rfl) rfl fun _ _ _ h => ?_
 refine GoR.done ?_
 refine Go.seq ?_
 refine Go.seq ?_
 refine Go.reg ?_
 have g1 := (fd_in 0 rfl h.mem)
 refine gs h (o_ldx 0 rfl rfl X_int t_y3) rfl fun _ _ _ h => ?_
 refine gs h (o_bin rfl rfl rfl) rfl fun _ _ _ h => ?_
 refine GoR.done ?_
 by_cases c1 : decide (a2 < 1) = true
 ·have H := ifT c1 H
  refine g_t h rfl c1 ?_
  cases H
 ·have H := ifF c1 H
  refine g_f h rfl c1 ?_
  refine Go.skip ?_
  refine Go.seq ?_
  refine Go.reg ?_
  obtain ⟨q1, H⟩ := ifS H
  refine gs h (o_makeFunc (vs := [.pointer (some ⟨b1, 0, none⟩), .pointer (some ⟨b2, 0, none⟩)]) rfl) rfl fun _ _ _ h => ?_
  replace h := h.mm fun m => m.mkit (slices_Chunk_s_byte_byte_1.it b1 b2 a1 a2 q1.1 q1.2) [1, 0] (by decide) rfl
  refine gs h (o_assign rfl) rfl fun _ _ _ h => ?_
  refine GoR.done ?_
  rw [← som H]
  exact g_ret (vs := [.func (.func 45) #[] #[.pointer (some ⟨b1, 0, none⟩), .pointer (some ⟨b2, 0, none⟩)]]) h Tryd.func30 ⟨rfl, trivial⟩ ⟨.func (.func 45) #[] #[.pointer (some ⟨b1, 0, none⟩), .pointer (some ⟨b2, 0, none⟩)], rfl, (h.mem.pick [0] (by decide) rfl)⟩
def slices_Chunk_s_byte_byte.g (k_ : Nat) (a1 : List Int) (a2 : Int) : Option ((List (List Int))) :=
  (if decide (a2 < 1) = true then none else if 1 ≤ a2 ∧ (a1.length : Int) + a2 ≤ 9223372036854775807 then (some ((chunks a1 a2.toNat))) else none)
theorem slices_Chunk_s_byte_byte.le (k_ : Nat) (a1 : List Int) (a2 : Int) : Le (slices_Chunk_s_byte_byte.g k_ a1 a2) (slices_Chunk_s_byte_byte.f a1 a2) := by
 unfold slices_Chunk_s_byte_byte.g slices_Chunk_s_byte_byte.f
 repeat' (first | with_reducible refine le_loop fun _ => ?_ | with_reducible refine le_bind ?_ fun _ => ?_ | with_reducible refine le_ite ?_ ?_ | with_reducible refine le_lt fun _ => ?_ | with_reducible refine le_elim (fun _ => ?_) (fun _ => ?_) _ | with_reducible exact le_refl _)
/-! drawbridge/ip.Cut -/
noncomputable def ip_Cut.f (a1 : TIp) (a2 : Int) : Option ((List TIp) × Int) :=
  lt (IntKind.i64.wrap (20 + (a1.Options.length : Int))) fun y1 => lt (IntKind.i64.wrap (Int.tdiv (IntKind.i64.wrap ((IntKind.i64.wrap ((a1.Data.length : Int) + 8)) - 1)) 8)) fun y2 => (ip_right.f a1).bind fun r1 => (if (!r1) = true then some (([], 2)) else lt (decide ((IntKind.i64.wrap (y1 + (a1.Data.length : Int))) ≤ a2)) fun y3 => (if y3 = true then some ((([a1] : List TIp), 0)) else lt (decide (0 < (bits .and .i64 a1.Flags 2))) fun y4 => (if y4 = true then some (([], 161)) else ((if decide (a2 < (IntKind.i64.wrap (y1 + 8))) = true then some (true) else lt (decide (8191 < (IntKind.i64.wrap (a1.Off + y2)))) fun y5 => some (y5))).bind (fun j1 => (if j1 = true then some (([], 2)) else (slices_Chunk_s_byte_byte.f a1.Data (IntKind.i64.wrap ((IntKind.i64.wrap (Int.tdiv (IntKind.i64.wrap (a2 - y1)) 8)) * 8))).bind fun r2 => (rng (fun s1 y6 => (slices_Clone_s_byte_byte.f y6).bind fun r3 => lt (⟨s1.2.Tos, s1.2.Id, s1.2.Flags, s1.2.Off, s1.2.Ttl, s1.2.Proto, s1.2.Src, s1.2.Dst, s1.2.Options, r3⟩ : TIp) fun y7 => lt (⟨y7.Tos, y7.Id, bits .or .i64 y7.Flags 1, y7.Off, y7.Ttl, y7.Proto, y7.Src, y7.Dst, y7.Options, y7.Data⟩ : TIp) fun y8 => (app s1.1 ([y8] : List TIp)).bind fun x1 => lt (⟨s1.2.Tos, s1.2.Id, s1.2.Flags, IntKind.i64.wrap (s1.2.Off + (IntKind.i64.wrap (Int.tdiv (y6.length : Int) 8))), s1.2.Ttl, s1.2.Proto, s1.2.Src, s1.2.Dst, s1.2.Options, s1.2.Data⟩ : TIp) fun y9 => some (x1, y9)) r2 ([], a1)).bind fun o2 => (idx o2.1 (IntKind.i64.wrap ((o2.1.length : Int) - 1))).bind fun x2 => lt (o2.1.set (IntKind.i64.wrap ((o2.1.length : Int) - 1)).toNat (⟨x2.Tos, x2.Id, o2.2.Flags, x2.Off, x2.Ttl, x2.Proto, x2.Src, x2.Dst, x2.Options, x2.Data⟩ : TIp)) fun y10 => some ((y10, 0)))))))
set_option maxRecDepth 100000 in
set_option maxHeartbeats 4000000 in
theorem ip_Cut.spc (v1 : Value) (a1 : TIp) (a2 : Int) (ha2 : InR .i64 a2) (r : (List TIp) × Int) (H : ip_Cut.f a1 a2 = some r) : Spc Tryd.prog 15 [v1, .int .i64 a2] [Val KIp v1 a1] [] (fun (s : Value) => .tuple #[s, .int .i64 r.2]) (fun s => [Ent.pur (InR .i64 r.2), Val (Kd.osl KIp) s r.1]) := by
 unfold ip_Cut.f at H
 refine Spc.go Tryd.func15 rfl (by kernel_rfl) rfl rfl (all_cons (Val.per PIp) all_nil) fun F a w h => ?_
 refine Go.seq ?_
 refine Go.reg ?_
 refine gs h (o_box (K := KIp) rfl (pv_at PIp 0 rfl)) rfl fun b1 _ _ h => ?_
 refine gs h (o_assign rfl) rfl fun _ _ _ h => ?_
 refine gs h (o_assign rfl) rfl fun _ _ _ h => ?_
 refine GoR.done ?_
 refine Go.seq ?_
 refine Go.reg ?_
 refine gs h (o_fa rfl t_f25_8 rfl rfl) rfl fun _ _ _ h => ?_
 refine gs h (o_lfv 0 rfl rfl sIp_Options rfl Per_sl t_y23) rfl fun v2 _ _ h => ?_
 have g1 := (len_at 0 rfl h.mem)
 refine gs h (o_ln rfl (rd_at 0 rfl) t_v23) rfl fun _ _ _ h => ?_
 refine gs h (o_bin rfl rfl rfl) rfl fun _ _ _ h => ?_
 obtain ⟨y1, ey1, H⟩ := ltE H
 refine gs h (o_assign' rfl (congrArg (fun z => Value.int .i64 z) ey1)) rfl fun _ _ _ h => ?_
 refine GoR.done ?_
 refine Go.seq ?_
 refine Go.reg ?_
 refine gs h (o_fa rfl t_f25_9 rfl rfl) rfl fun _ _ _ h => ?_
 refine gs h (o_lfv 1 rfl rfl sIp_Data rfl Per_sl t_y23) rfl fun v3 _ _ h => ?_
 have g2 := (len_at 0 rfl h.mem)
 refine gs h (o_ln rfl (rd_at 0 rfl) t_v23) rfl fun _ _ _ h => ?_
 refine gs h (o_bin rfl rfl rfl) rfl fun _ _ _ h => ?_
 refine gs h (o_bin rfl rfl rfl) rfl fun _ _ _ h => ?_
 refine gs h (o_quo rfl rfl (show (8 : Int) ≠ 0 by decide)) rfl fun _ _ _ h => ?_
 obtain ⟨y2, ey2, H⟩ := ltE H
 refine gs h (o_assign' rfl (congrArg (fun z => Value.int .i64 z) ey2)) rfl fun _ _ _ h => ?_
 refine GoR.done ?_
 refine Go.seq ?_
 refine Go.block ?_
 refine Go.seq ?_
 refine Go.reg ?_
 refine gs h (o_ldv 2 rfl rfl PIp t_y25) rfl fun v4 _ _ h => ?_
 obtain ⟨r1, er1, H⟩ := bindE H
 refine gs h (o_call (ip_right.spc v4 a1 r1 er1) rfl [0] [] (by decide) rfl rfl) rfl fun _ _ _ h => ?_
 refine gs h (o_not rfl) rfl fun _ _ _ h => ?_
 refine gs h (o_assign rfl) rfl fun _ _ _ h => ?_
 refine GoR.done ?_
 by_cases c1 : (!r1) = true
 ·have H := ifT c1 H
  refine g_t h rfl c1 ?_
  refine Go.seq ?_
  refine Go.reg ?_
  refine gs h (o_assign rfl) rfl fun _ _ _ h => ?_
  refine gs h (o_assign rfl) rfl fun _ _ _ h => ?_
  refine GoR.done ?_
  replace h := h.mm fun m => m.nilo KIp
  rw [← som H]
  exact g_ret (vs := [.slice none 0 0, .int .i64 2]) h Tryd.func15 ⟨rfl, ⟨rfl, trivial⟩⟩ ⟨.slice none 0 0, rfl, ((h.mem.pick [0] (by decide) rfl).addpur (show InR .i64 2 by decide))⟩
 ·have H := ifF c1 H
  refine g_f h rfl c1 ?_
  refine Go.seq ?_
  refine Go.reg ?_
  refine gs h (o_move rfl) rfl fun _ _ _ h => ?_
  refine gs h (o_fa rfl t_f25_9 rfl rfl) rfl fun _ _ _ h => ?_
  refine gs h (o_lfv 3 rfl rfl sIp_Data rfl Per_sl t_y23) rfl fun v5 _ _ h => ?_
  have g3 := (len_at 0 rfl h.mem)
  refine gs h (o_ln rfl (rd_at 0 rfl) t_v23) rfl fun _ _ _ h => ?_
  refine gs h (o_bin rfl rfl rfl) rfl fun _ _ _ h => ?_
  refine gs h (o_move rfl) rfl fun _ _ _ h => ?_
  refine gs h (o_bin rfl rfl rfl) rfl fun _ _ _ h => ?_
  obtain ⟨y3, ey3, H⟩ := ltE H
  refine gs h (o_assign' rfl (congrArg Value.bool ey3)) rfl fun _ _ _ h => ?_
  refine GoR.done ?_
  by_cases c2 : y3 = true
  ·have H := ifT c2 H
   refine g_t h rfl c2 ?_
   refine Go.seq ?_
   refine Go.reg ?_
   refine gs h (o_ldv 4 rfl rfl PIp t_y25) rfl fun v6 _ _ h => ?_
   refine gs h (o_bs (K := KIp) (vs := [v6]) (xs := ([a1] : List TIp)) rfl rfl (pvs_cons (pv_at PIp 0 rfl) pvs_nil) t_a38 (by decide) (by decide)) rfl fun v7 _ _ h => ?_
   refine gs h (o_assign rfl) rfl fun _ _ _ h => ?_
   refine gs h (o_assign rfl) rfl fun _ _ _ h => ?_
   refine GoR.done ?_
   rw [← som H]
   exact g_ret (vs := [v7, .int .i64 0]) h Tryd.func15 ⟨rfl, ⟨rfl, trivial⟩⟩ ⟨v7, rfl, ((h.mem.pick [0] (by decide) rfl).addpur (show InR .i64 0 by decide))⟩
  ·have H := ifF c2 H
   refine g_f h rfl c2 ?_
   refine Go.seq ?_
   refine Go.reg ?_
   refine gs h (o_fa rfl t_f25_2 rfl rfl) rfl fun _ _ _ h => ?_
   have g4 := (in2 (fd_sub sIp_Flags 4 rfl h.mem))
   refine gs h (o_lfx 4 rfl rfl sIp_Flags rfl X_int t_y3) rfl fun _ _ _ h => ?_
   refine gs h (o_bin rfl rfl rfl) rfl fun _ _ _ h => ?_
   refine gs h (o_bin rfl rfl rfl) rfl fun _ _ _ h => ?_
   obtain ⟨y4, ey4, H⟩ := ltE H
   refine gs h (o_assign' rfl (congrArg Value.bool ey4)) rfl fun _ _ _ h => ?_
   refine GoR.done ?_
   by_cases c3 : y4 = true
   ·have H := ifT c3 H
    refine g_t h rfl c3 ?_
    refine Go.seq ?_
    refine Go.reg ?_
    refine gs h (o_assign rfl) rfl fun _ _ _ h => ?_
    refine gs h (o_assign rfl) rfl fun _ _ _ h => ?_
    refine GoR.done ?_
    replace h := h.mm fun m => m.nilo KIp
    rw [← som H]
    exact g_ret (vs := [.slice none 0 0, .int .i64 161]) h Tryd.func15 ⟨rfl, ⟨rfl, trivial⟩⟩ ⟨.slice none 0 0, rfl, ((h.mem.pick [0] (by decide) rfl).addpur (show InR .i64 161 by decide))⟩
   ·have H := ifF c3 H
    refine g_f h rfl c3 ?_
    refine Go.seq ?_
    obtain ⟨o1, H, G1⟩ := bindE H
    refine g_cut (fun G => ∀ j1 (a : Act) (w : World), o1 = j1 → St Tryd.f15.ntmps F [(1, .int .i64 a2), (2, .pointer (some ⟨b1, 0, none⟩)), (6, .int .i64 y1), (40, .bool j1)] [Fld KIp b1 0 a1] a w → G a w) 1 ?_ fun J1 => ?_
    ·intro j1 a w ho_ h
     rw [ho_] at G1
     have H := G1
     by_cases c5 : j1 = true
     ·have H := ifT c5 H
      refine g_t h rfl c5 ?_
      refine Go.seq ?_
      refine Go.reg ?_
      refine gs h (o_assign rfl) rfl fun _ _ _ h => ?_
      refine gs h (o_assign rfl) rfl fun _ _ _ h => ?_
      refine GoR.done ?_
      replace h := h.mm fun m => m.nilo KIp
      rw [← som H]
      exact g_ret (vs := [.slice none 0 0, .int .i64 2]) h Tryd.func15 ⟨rfl, ⟨rfl, trivial⟩⟩ ⟨.slice none 0 0, rfl, ((h.mem.pick [0] (by decide) rfl).addpur (show InR .i64 2 by decide))⟩
     ·have H := ifF c5 H
      refine g_f h rfl c5 ?_
      refine Go.skip ?_
      refine Go.inBlock ?_
      refine Go.seq ?_
      refine Go.reg ?_
      refine gs h (o_alloc (K := (Kd.osl KIp)) (z := (.slice none 0 0)) rfl z_osl) rfl fun b2 _ _ h => ?_
      refine GoR.done ?_
      refine Go.seq ?_
      refine Go.seq ?_
      refine Go.reg ?_
      refine gs h (o_fa rfl t_f25_9 rfl rfl) rfl fun _ _ _ h => ?_
      refine gs h (o_lfv 1 rfl rfl sIp_Data rfl Per_sl t_y23) rfl fun v8 _ _ h => ?_
      refine gs h (o_move rfl) rfl fun _ _ _ h => ?_
      refine gs h (o_move rfl) rfl fun _ _ _ h => ?_
      refine gs h (o_bin rfl rfl rfl) rfl fun _ _ _ h => ?_
      refine gs h (o_quo rfl rfl (show (8 : Int) ≠ 0 by decide)) rfl fun _ _ _ h => ?_
      refine gs h (o_bin rfl rfl rfl) rfl fun _ _ _ h => ?_
      obtain ⟨r2, er2, H⟩ := bindE H
      refine gs h (o_call (slices_Chunk_s_byte_byte.spc v8 a1.Data (IntKind.i64.wrap ((IntKind.i64.wrap (Int.tdiv (IntKind.i64.wrap (a2 - y1)) 8)) * 8)) (wrap_in _ _) r2 er2) rfl [0] [] (by decide) rfl rfl) rfl fun v9 _ _ h => ?_
      refine GoR.done ?_
      refine Go.block ?_
      replace h := h.wk (E' := [(2, .pointer (some ⟨b1, 0, none⟩)), (8, .pointer (some ⟨b2, 0, none⟩)), (59, v9)]) (L' := [Val (Kd.it Tryd.prog (Kd.sl (Kd.int .u8))) v9 r2, Fld (Kd.osl KIp) b2 0 [], Fld KIp b1 0 a1]) (by rfl) [0, 2, 3] (by decide) (by rfl)
      obtain ⟨o2, i1, H⟩ := bindE H
      refine g_range h rfl i1 (fun s1 => [Fld (Kd.osl KIp) b2 0 s1.1, Fld KIp b1 0 s1.2]) [] [0, 1, 2] (by decide) (by rfl) rfl rfl (fun s1 s2 y6 v10 l1 F a w H h => ?_) fun D_ w h => ?_
      ·refine Go.block ?_
       refine Go.seq ?_
       refine Go.reg ?_
       refine gs h (o_ldv 2 rfl rfl PIp t_y25) rfl fun v11 _ _ h => ?_
       refine gs h (o_alloc (K := KIp) (z := (.agg #[.int .i64 0, .int .i64 0, .int .i64 0, .int .i64 0, .int .i64 0, .int .i64 0, .int .u32 0, .int .u32 0, .slice none 0 0, .slice none 0 0])) rfl ZIp) rfl fun b3 _ _ h => ?_
       refine gs0 h (o_st 0 rfl rfl rfl (pv_at PIp 1 rfl) rfl t_w25) fun _ _ _ h => ?_
       refine GoR.done ?_
       refine Go.seq ?_
       refine Go.reg ?_
       refine gs h (o_move rfl) rfl fun _ _ _ h => ?_
       obtain ⟨r3, er3, H⟩ := bindE H
       refine gs h (o_call (slices_Clone_s_byte_byte.spc v10 y6 r3 er3) rfl [2] [] (by decide) rfl rfl) rfl fun v12 _ _ h => ?_
       refine gs h (o_fa rfl t_f25_9 rfl rfl) rfl fun _ _ _ h => ?_
       replace h := h.mm fun m => m.freeze 0 rfl
       obtain ⟨y7, ey7, H⟩ := ltE H
       refine gs0 h (o_stp (x0 := s1.2) (y := r3) 1 t_uIp_9_1 rfl rfl rfl rfl (pv_at Per_sl 0 rfl) t_w23) fun _ _ _ h => ?_
       rw [ey7] at h
       refine GoR.done ?_
       refine Go.seq ?_
       refine Go.reg ?_
       refine gs h (o_fa rfl t_f25_2 rfl rfl) rfl fun _ _ _ h => ?_
       have g6 := (in2 (fd_sub sIp_Flags 1 rfl h.mem))
       refine gs h (o_lfx 1 rfl rfl sIp_Flags rfl X_int t_y3) rfl fun _ _ _ h => ?_
       refine gs h (o_bin rfl rfl rfl) rfl fun _ _ _ h => ?_
       refine gs h (o_fa rfl t_f25_2 rfl rfl) rfl fun _ _ _ h => ?_
       obtain ⟨y8, ey8, H⟩ := ltE H
       refine gs0 h (o_stp (x0 := y7) (y := bits .or .i64 y7.Flags 1) 1 t_uIp_2_1 rfl rfl rfl rfl (pv_int (wrap_in _ _)) t_w3) fun _ _ _ h => ?_
       rw [ey8] at h
       refine GoR.done ?_
       refine Go.seq ?_
       refine Go.reg ?_
       obtain ⟨v13, h⟩ := h.unp 4 rfl
       refine gs h (o_ldx 0 rfl rfl X_eq t_y38) rfl fun _ _ _ h => ?_
       refine gs h (o_ldv 2 rfl rfl PIp t_y25) rfl fun v14 _ _ h => ?_
       refine gs h (o_bs (K := KIp) (vs := [v14]) (xs := ([y8] : List TIp)) rfl rfl (pvs_cons (pv_at PIp 0 rfl) pvs_nil) t_a38 (by decide) (by decide)) rfl fun v15 _ _ h => ?_
       obtain ⟨x1, ex1, H⟩ := bindE H
       refine gs h (o_app (K := KIp) 7 rfl rfl rfl (rd_own 0 rfl) ex1 t_a38 t_n38) rfl fun v16 _ _ h => ?_
       refine gs0 h (o_st 2 rfl rfl rfl (pv_eqo 7 rfl) rfl t_w38) fun _ _ _ h => ?_
       refine GoR.done ?_
       refine Go.reg ?_
       refine gs h (o_fa rfl t_f25_3 rfl rfl) rfl fun _ _ _ h => ?_
       have g7 := (in2 (fd_sub sIp_Off 8 rfl h.mem))
       refine gs h (o_lfx 8 rfl rfl sIp_Off rfl X_int t_y3) rfl fun _ _ _ h => ?_
       refine gs h (o_move rfl) rfl fun _ _ _ h => ?_
       have g8 := (len_at 6 rfl h.mem)
       refine gs h (o_ln rfl (rd_at 6 rfl) t_v23) rfl fun _ _ _ h => ?_
       refine gs h (o_quo rfl rfl (show (8 : Int) ≠ 0 by decide)) rfl fun _ _ _ h => ?_
       refine gs h (o_bin rfl rfl rfl) rfl fun _ _ _ h => ?_
       refine gs h (o_fa rfl t_f25_3 rfl rfl) rfl fun _ _ _ h => ?_
       obtain ⟨y9, ey9, H⟩ := ltE H
       refine gs0 h (o_stp (x0 := s1.2) (y := IntKind.i64.wrap (s1.2.Off + (IntKind.i64.wrap (Int.tdiv (y6.length : Int) 8)))) 8 t_uIp_3_1 rfl rfl rfl rfl (pv_int (wrap_in _ _)) t_w3) fun _ _ _ h => ?_
       rw [ey9] at h
       refine GoR.done ?_
       refine Go.inBlock ?_
       replace h := h.mm fun m => (m.pull (Lo := [Fld (Kd.eq v16) b2 0 (), Val (Kd.osl KIp) v16 x1]) [2, 7] (by decide) rfl).pck
       have e_ := som H; subst e_
       exact Go.rend h.sl.df ⟨rfl, h.mem.pick [0, 9] (by decide) (by rfl)⟩
      ·refine Go.inBlock ?_
       refine Go.seq ?_
       refine Go.reg ?_
       obtain ⟨v17, h⟩ := h.unp 1 rfl
       refine gs h (o_ldx 0 rfl rfl X_eq t_y38) rfl fun _ _ _ h => ?_
       refine gs h (o_ldx 0 rfl rfl X_eq t_y38) rfl fun _ _ _ h => ?_
       have g9 := (len_own 2 rfl h.mem)
       refine gs h (o_ln rfl (rd_own 2 rfl) t_v38) rfl fun _ _ _ h => ?_
       refine gs h (o_bin rfl rfl rfl) rfl fun _ _ _ h => ?_
       refine gs h (o_fa rfl t_f25_2 rfl rfl) rfl fun _ _ _ h => ?_
       have g10 := (in2 (fd_sub sIp_Flags 3 rfl h.mem))
       refine gs h (o_lfx 3 rfl rfl sIp_Flags rfl X_int t_y3) rfl fun _ _ _ h => ?_
       obtain ⟨x2, ex2, H⟩ := bindE H
       refine gs h (o_ix rfl rfl (rd_own 2 rfl) ex2 t_v38) rfl fun _ _ _ h => ?_
       refine gs h (o_fae (k' := (IntKind.i64.wrap ((o2.1.length : Int) - 1)).toNat * Kd.n KIp + 2) rfl (rd_own 2 rfl) ex2 (by decide) t_f25_2 rfl rfl) rfl fun _ _ _ h => ?_
       obtain ⟨y10, ey10, H⟩ := ltE H
       refine gs0 h (o_stes 2 t_uIp_2_1 rfl rfl rfl rfl (pv_int g10) ex2 t_w3 (by decide)) fun _ _ _ h => ?_
       rw [ey10] at h
       refine GoR.done ?_
       refine Go.seq ?_
       refine Go.reg ?_
       refine gs h (o_ldx 0 rfl rfl X_eq t_y38) rfl fun _ _ _ h => ?_
       refine gs h (o_assign rfl) rfl fun _ _ _ h => ?_
       refine gs h (o_assign rfl) rfl fun _ _ _ h => ?_
       refine GoR.done ?_
       rw [← som H]
       exact g_retm (vs := [v17, .int .i64 0]) h 1 rfl Tryd.func15 (fun w h => ⟨rfl, ⟨rfl, trivial⟩⟩) (fun w h => ⟨v17, rfl, ((h.mem.pick [2] (by decide) rfl).addpur (show InR .i64 0 by decide))⟩)
    refine Go.reg ?_
    refine gs h (o_move rfl) rfl fun _ _ _ h => ?_
    refine gs h (o_move rfl) rfl fun _ _ _ h => ?_
    refine gs h (o_bin rfl rfl rfl) rfl fun _ _ _ h => ?_
    refine gs h (o_bin rfl rfl rfl) rfl fun _ _ _ h => ?_
    refine gs h (o_move rfl) rfl fun _ _ _ h => ?_
    by_cases c4 : decide (a2 < (IntKind.i64.wrap (y1 + 8))) = true
    ·have H := ifT c4 H
     iterate 5 (refine gk h rfl rfl (nb_t c4) rfl fun _ h => ?_)
     refine gs h (o_pickT rfl rfl c4) rfl fun _ _ _ h => ?_
     refine gs h (o_assign rfl) rfl fun _ _ _ h => ?_
     refine GoR.done ?_
     exact J1 true _ _ (som H).symm (h.wk (by rfl) [4] (by decide) (by rfl))
    ·have H := ifF c4 H
     refine gg h rfl rfl (nbF c4) (o_fa rfl t_f25_3 rfl rfl) rfl fun _ _ _ h => ?_
     have g5 := (in2 (fd_sub sIp_Off 4 rfl h.mem))
     refine gg h rfl rfl (nbF c4) (o_lfx 4 rfl rfl sIp_Off rfl X_int t_y3) rfl fun _ _ _ h => ?_
     refine gg h rfl rfl (nbF c4) (o_move rfl) rfl fun _ _ _ h => ?_
     refine gg h rfl rfl (nbF c4) (o_bin rfl rfl rfl) rfl fun _ _ _ h => ?_
     refine gg h rfl rfl (nbF c4) (o_bin rfl rfl rfl) rfl fun _ _ _ h => ?_
     refine gs h (o_pickF rfl rfl c4) rfl fun _ _ _ h => ?_
     obtain ⟨y5, ey5, H⟩ := ltE H
     refine gs h (o_assign' rfl (congrArg Value.bool ey5)) rfl fun _ _ _ h => ?_
     refine GoR.done ?_
     exact J1 y5 _ _ (som H).symm (h.wk (by rfl) [4] (by decide) (by rfl))
def ip_Cut.g (k_ : Nat) (a1 : TIp) (a2 : Int) : Option ((List TIp) × Int) :=
  lt (IntKind.i64.wrap (20 + (a1.Options.length : Int))) fun y1 => lt (IntKind.i64.wrap (Int.tdiv (IntKind.i64.wrap ((IntKind.i64.wrap ((a1.Data.length : Int) + 8)) - 1)) 8)) fun y2 => (ip_right.g k_ a1).bind fun r1 => (if (!r1) = true then some (([], 2)) else lt (decide ((IntKind.i64.wrap (y1 + (a1.Data.length : Int))) ≤ a2)) fun y3 => (if y3 = true then some ((([a1] : List TIp), 0)) else lt (decide (0 < (bits .and .i64 a1.Flags 2))) fun y4 => (if y4 = true then some (([], 161)) else ((if decide (a2 < (IntKind.i64.wrap (y1 + 8))) = true then some (true) else lt (decide (8191 < (IntKind.i64.wrap (a1.Off + y2)))) fun y5 => some (y5))).bind (fun j1 => (if j1 = true then some (([], 2)) else (slices_Chunk_s_byte_byte.g k_ a1.Data (IntKind.i64.wrap ((IntKind.i64.wrap (Int.tdiv (IntKind.i64.wrap (a2 - y1)) 8)) * 8))).bind fun r2 => (rng (fun s1 y6 => (slices_Clone_s_byte_byte.g k_ y6).bind fun r3 => lt (⟨s1.2.Tos, s1.2.Id, s1.2.Flags, s1.2.Off, s1.2.Ttl, s1.2.Proto, s1.2.Src, s1.2.Dst, s1.2.Options, r3⟩ : TIp) fun y7 => lt (⟨y7.Tos, y7.Id, bits .or .i64 y7.Flags 1, y7.Off, y7.Ttl, y7.Proto, y7.Src, y7.Dst, y7.Options, y7.Data⟩ : TIp) fun y8 => (app s1.1 ([y8] : List TIp)).bind fun x1 => lt (⟨s1.2.Tos, s1.2.Id, s1.2.Flags, IntKind.i64.wrap (s1.2.Off + (IntKind.i64.wrap (Int.tdiv (y6.length : Int) 8))), s1.2.Ttl, s1.2.Proto, s1.2.Src, s1.2.Dst, s1.2.Options, s1.2.Data⟩ : TIp) fun y9 => some (x1, y9)) r2 ([], a1)).bind fun o2 => (idx o2.1 (IntKind.i64.wrap ((o2.1.length : Int) - 1))).bind fun x2 => lt (o2.1.set (IntKind.i64.wrap ((o2.1.length : Int) - 1)).toNat (⟨x2.Tos, x2.Id, o2.2.Flags, x2.Off, x2.Ttl, x2.Proto, x2.Src, x2.Dst, x2.Options, x2.Data⟩ : TIp)) fun y10 => some ((y10, 0)))))))
theorem ip_Cut.le (k_ : Nat) (a1 : TIp) (a2 : Int) : Le (ip_Cut.g k_ a1 a2) (ip_Cut.f a1 a2) := by
 unfold ip_Cut.g ip_Cut.f
 repeat' (first | with_reducible refine le_loop fun _ => ?_ | with_reducible refine le_bind ?_ fun _ => ?_ | with_reducible refine le_ite ?_ ?_ | with_reducible refine le_lt fun _ => ?_ | with_reducible refine le_rng (fun _ _ => ?_) _ _ | with_reducible refine le_elim (fun _ => ?_) (fun _ => ?_) _ | with_reducible apply ip_right.le | with_reducible apply slices_Chunk_s_byte_byte.le | with_reducible apply slices_Clone_s_byte_byte.le | with_reducible exact le_refl _)
/-! drawbridge/ip.Echo -/
noncomputable def ip_Echo.f (a1 : List Int) : Option ((List Int) × Bool) :=
  ((if decide ((a1.length : Int) < 8) = true then some (true) else (idx a1 0).bind fun x1 => (if (!decide (x1 = 8)) = true then some (true) else (idx a1 1).bind fun x2 => (if (!decide (x2 = 0)) = true then some (true) else (sum_Right.f a1).bind fun r1 => some ((!r1)))))).bind (fun j1 => (if j1 = true then some (([], false)) else (slices_Clone_s_byte_byte.f a1).bind fun r2 => (idx r2 0).bind fun x3 => lt (r2.set (0 : Int).toNat 0) fun y1 => (sum_Patch.f y1 2).bind fun r3 => some ((r3, true))))
set_option maxRecDepth 100000 in
set_option maxHeartbeats 4000000 in
theorem ip_Echo.spc (v1 : Value) (a1 : List Int) (r : (List Int) × Bool) (H : ip_Echo.f a1 = some r) : Spc Tryd.prog 16 [v1] [Val (Kd.sl (Kd.int .u8)) v1 a1] [] (fun (s : Value) => .tuple #[s, .bool r.2]) (fun s => [Val (Kd.osl (Kd.int .u8)) s r.1]) := by
 unfold ip_Echo.f at H
 refine Spc.go Tryd.func16 rfl (by kernel_rfl) rfl rfl (all_cons (Val.per Per_sl) all_nil) fun F a w h => ?_
 refine Go.seq ?_
 refine Go.reg ?_
 refine gs h (o_assign rfl) rfl fun _ _ _ h => ?_
 refine gs h (o_assign rfl) rfl fun _ _ _ h => ?_
 refine GoR.done ?_
 refine Go.seq ?_
 refine Go.seq ?_
 obtain ⟨o1, H, G1⟩ := bindE H
 refine g_cut (fun G => ∀ j1 (a : Act) (w : World), o1 = j1 → St Tryd.f16.ntmps F [(0, v1), (24, .bool j1)] [Val (Kd.sl (Kd.int .u8)) v1 a1] a w → G a w) 1 ?_ fun J1 => ?_
 ·intro j1 a w ho_ h
  rw [ho_] at G1
  have H := G1
  by_cases c4 : j1 = true
  ·have H := ifT c4 H
   refine g_t h rfl c4 ?_
   refine Go.seq ?_
   refine Go.reg ?_
   refine gs h (o_assign rfl) rfl fun _ _ _ h => ?_
   refine gs h (o_assign rfl) rfl fun _ _ _ h => ?_
   refine GoR.done ?_
   replace h := h.mm fun m => m.nilo (Kd.int .u8)
   rw [← som H]
   exact g_ret (vs := [.slice none 0 0, .bool false]) h Tryd.func16 ⟨rfl, ⟨rfl, trivial⟩⟩ ⟨.slice none 0 0, rfl, (h.mem.pick [0] (by decide) rfl)⟩
  ·have H := ifF c4 H
   refine g_f h rfl c4 ?_
   refine Go.skip ?_
   refine Go.seq ?_
   refine Go.reg ?_
   refine gs h (o_move rfl) rfl fun _ _ _ h => ?_
   obtain ⟨r2, er2, H⟩ := bindE H
   refine gs h (o_call (slices_Clone_s_byte_byte.spc v1 a1 r2 er2) rfl [0] [] (by decide) rfl rfl) rfl fun v2 _ _ h => ?_
   refine gs h (o_assign rfl) rfl fun _ _ _ h => ?_
   refine GoR.done ?_
   refine Go.seq ?_
   refine Go.reg ?_
   refine gs h (o_move rfl) rfl fun _ _ _ h => ?_
   obtain ⟨x3, ex3, H⟩ := bindE H
   refine gs h (o_ix rfl rfl (rd_own 0 rfl) ex3 t_v23) rfl fun _ _ _ h => ?_
   obtain ⟨y1, ey1, H⟩ := ltE H
   refine gs0 h (o_ste 0 rfl rfl rfl (pv_int (show InR .u8 0 by decide)) ex3 t_w5 (by decide)) fun _ _ _ h => ?_
   rw [ey1] at h
   refine GoR.done ?_
   refine Go.seq ?_
   refine Go.reg ?_
   refine gs h (o_move rfl) rfl fun _ _ _ h => ?_
   replace h := h.mm fun m => m.freeze 0 rfl
   obtain ⟨r3, er3, H⟩ := bindE H
   refine gs h (o_call (sum_Patch.spc v2 y1 2 (show InR .i64 2 by decide) r3 er3) rfl [0] [] (by decide) rfl rfl) rfl fun v3 _ _ h => ?_
   refine gs h (o_assign rfl) rfl fun _ _ _ h => ?_
   refine gs h (o_assign rfl) rfl fun _ _ _ h => ?_
   refine GoR.done ?_
   rw [← som H]
   exact g_ret (vs := [v3, .bool true]) h Tryd.func16 ⟨rfl, ⟨rfl, trivial⟩⟩ ⟨v3, rfl, (h.mem.pick [0] (by decide) rfl)⟩
 refine Go.reg ?_
 refine gs h (o_move rfl) rfl fun _ _ _ h => ?_
 have g1 := (len_at 0 rfl h.mem)
 refine gs h (o_ln rfl (rd_at 0 rfl) t_v23) rfl fun _ _ _ h => ?_
 refine gs h (o_bin rfl rfl rfl) rfl fun _ _ _ h => ?_
 refine gs h (o_move rfl) rfl fun _ _ _ h => ?_
 by_cases c1 : decide ((a1.length : Int) < 8) = true
 ·have H := ifT c1 H
  iterate 4 (refine gk h rfl rfl (nb_t c1) rfl fun _ h => ?_)
  refine gs h (o_pickT rfl rfl c1) rfl fun _ _ _ h => ?_
  refine gs h (o_move rfl) rfl fun _ _ _ h => ?_
  iterate 4 (refine gk h rfl rfl (nb_t rfl) rfl fun _ h => ?_)
  refine gs h (o_pickT rfl rfl rfl) rfl fun _ _ _ h => ?_
  refine gs h (o_move rfl) rfl fun _ _ _ h => ?_
  iterate 3 (refine gk h rfl rfl (nb_t rfl) rfl fun _ h => ?_)
  refine gs h (o_pickT rfl rfl rfl) rfl fun _ _ _ h => ?_
  refine GoR.done ?_
  exact J1 true _ _ (som H).symm (h.wk (by rfl) [0] (by decide) (by rfl))
 ·have H := ifF c1 H
  refine gg h rfl rfl (nbF c1) (o_move rfl) rfl fun _ _ _ h => ?_
  obtain ⟨x1, ex1, H⟩ := bindE H
  refine gg h rfl rfl (nbF c1) (o_ix rfl rfl (rd_at 0 rfl) ex1 t_v23) rfl fun _ _ _ h => ?_
  have g2 := (rd_inr (rd_at 0 rfl) ex1 h.mem)
  refine gg h rfl rfl (nbF c1) (o_lex rfl (rd_at 0 rfl) ex1 X_int t_y5 (by decide)) rfl fun _ _ _ h => ?_
  refine gg h rfl rfl (nbF c1) (o_bin rfl rfl rfl) rfl fun _ _ _ h => ?_
  refine gs h (o_pickF rfl rfl c1) rfl fun _ _ _ h => ?_
  refine gs h (o_move rfl) rfl fun _ _ _ h => ?_
  by_cases c2 : (!decide (x1 = 8)) = true
  ·have H := ifT c2 H
   iterate 4 (refine gk h rfl rfl (nb_t c2) rfl fun _ h => ?_)
   refine gs h (o_pickT rfl rfl c2) rfl fun _ _ _ h => ?_
   refine gs h (o_move rfl) rfl fun _ _ _ h => ?_
   iterate 3 (refine gk h rfl rfl (nb_t rfl) rfl fun _ h => ?_)
   refine gs h (o_pickT rfl rfl rfl) rfl fun _ _ _ h => ?_
   refine GoR.done ?_
   exact J1 true _ _ (som H).symm (h.wk (by rfl) [0] (by decide) (by rfl))
  ·have H := ifF c2 H
   refine gg h rfl rfl (nbF c2) (o_move rfl) rfl fun _ _ _ h => ?_
   obtain ⟨x2, ex2, H⟩ := bindE H
   refine gg h rfl rfl (nbF c2) (o_ix rfl rfl (rd_at 0 rfl) ex2 t_v23) rfl fun _ _ _ h => ?_
   have g3 := (rd_inr (rd_at 0 rfl) ex2 h.mem)
   refine gg h rfl rfl (nbF c2) (o_lex rfl (rd_at 0 rfl) ex2 X_int t_y5 (by decide)) rfl fun _ _ _ h => ?_
   refine gg h rfl rfl (nbF c2) (o_bin rfl rfl rfl) rfl fun _ _ _ h => ?_
   refine gs h (o_pickF rfl rfl c2) rfl fun _ _ _ h => ?_
   refine gs h (o_move rfl) rfl fun _ _ _ h => ?_
   by_cases c3 : (!decide (x2 = 0)) = true
   ·have H := ifT c3 H
    iterate 3 (refine gk h rfl rfl (nb_t c3) rfl fun _ h => ?_)
    refine gs h (o_pickT rfl rfl c3) rfl fun _ _ _ h => ?_
    refine GoR.done ?_
    exact J1 true _ _ (som H).symm (h.wk (by rfl) [0] (by decide) (by rfl))
   ·have H := ifF c3 H
    refine gg h rfl rfl (nbF c3) (o_move rfl) rfl fun _ _ _ h => ?_
    obtain ⟨r1, er1, H⟩ := bindE H
    refine gg h rfl rfl (nbF c3) (o_call (sum_Right.spc v1 a1 r1 er1) rfl [0] [] (by decide) rfl rfl) rfl fun _ _ _ h => ?_
    refine gg h rfl rfl (nbF c3) (o_not rfl) rfl fun _ _ _ h => ?_
    refine gs h (o_pickF rfl rfl c3) rfl fun _ _ _ h => ?_
    refine GoR.done ?_
    exact J1 (!r1) _ _ (som H).symm (h.wk (by rfl) [0] (by decide) (by rfl))
def ip_Echo.g (k_ : Nat) (a1 : List Int) : Option ((List Int) × Bool) :=
  ((if decide ((a1.length : Int) < 8) = true then some (true) else (idx a1 0).bind fun x1 => (if (!decide (x1 = 8)) = true then some (true) else (idx a1 1).bind fun x2 => (if (!decide (x2 = 0)) = true then some (true) else (sum_Right.g k_ a1).bind fun r1 => some ((!r1)))))).bind (fun j1 => (if j1 = true then some (([], false)) else (slices_Clone_s_byte_byte.g k_ a1).bind fun r2 => (idx r2 0).bind fun x3 => lt (r2.set (0 : Int).toNat 0) fun y1 => (sum_Patch.g k_ y1 2).bind fun r3 => some ((r3, true))))
theorem ip_Echo.le (k_ : Nat) (a1 : List Int) : Le (ip_Echo.g k_ a1) (ip_Echo.f a1) := by
 unfold ip_Echo.g ip_Echo.f
 repeat' (first | with_reducible refine le_loop fun _ => ?_ | with_reducible refine le_bind ?_ fun _ => ?_ | with_reducible refine le_ite ?_ ?_ | with_reducible refine le_lt fun _ => ?_ | with_reducible refine le_elim (fun _ => ?_) (fun _ => ?_) _ | with_reducible apply slices_Clone_s_byte_byte.le | with_reducible apply sum_Patch.le | with_reducible apply sum_Right.le | with_reducible exact le_refl _)
end Go.Proofs.YtaiadolmjmacfaaDoor.S
