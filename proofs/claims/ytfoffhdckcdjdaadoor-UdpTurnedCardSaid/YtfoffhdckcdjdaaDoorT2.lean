/- Contracts, printed by a program of this session. -/
import Derived.Test.YtfoffhdckcdjdaaDoorT1
namespace Go.Proofs.YtfoffhdckcdjdaaDoor.S
open Go Go.SL Go.RowKit
set_option linter.unusedVariables false
set_option linter.unusedSimpArgs false
/-! drawbridge/udp.Put -/
noncomputable def udp_Put.f (a1 : TUdp) (a2 : Int) (a3 : Int) : Option ((List Int) × Int) :=
  ((if (!decide ((ishr .i64 a1.Src 16) = 0)) = true then some (true) else (if (!decide ((ishr .i64 a1.Dst 16) = 0)) = true then some (true) else some (decide (65507 < (a1.Data.length : Int)))))).bind (fun j1 => (if j1 = true then some (([], 2)) else (loop (fun s1 => (if decide (s1.2 < 4) = true then (idx ([a1.Src, a1.Dst, IntKind.i64.wrap (8 + (a1.Data.length : Int)), 0] : List Int) s1.2).bind fun x1 => (bits_Put.f (IntKind.u64.wrap x1) 2 true).bind fun r1 => (app s1.1 r1).bind fun x2 => some (.inl (x2, IntKind.i64.wrap (s1.2 + 1))) else some (.inr (s1.1)))) (([] : List Int), 0)).bind (fun j2 => (app j2 a1.Data).bind fun x3 => (udp_covered.f x3 a2 a3).bind fun r2 => (sum_Sum.f r2).bind fun r3 => ((if decide (r3 = 0) = true then some (65535) else some (r3))).bind (fun j3 => if inB x3 6 (x3.length : Int) then ((bits_Put.f (IntKind.u64.wrap j3) 2 true).bind fun r4 => lt (ovr x3 6 (x3.length : Int) r4) fun y1 => some ((y1, 0))) else none))))
set_option maxRecDepth 100000 in
set_option maxHeartbeats 4000000 in
theorem udp_Put.spc (v1 : Value) (a1 : TUdp) (a2 : Int) (ha2 : InR .u32 a2) (a3 : Int) (ha3 : InR .u32 a3) (r : (List Int) × Int) (H : udp_Put.f a1 a2 a3 = some r) : Spc Tryd.prog 7 [v1, .int .u32 a2, .int .u32 a3] [Val KUdp v1 a1] [] (fun (s : Value) => .tuple #[s, .int .i64 r.2]) (fun s => [Ent.pur (InR .i64 r.2), Val (Kd.osl (Kd.int .u8)) s r.1]) := by
 unfold udp_Put.f at H
 refine Spc.go Tryd.func7 rfl (by kernel_rfl) rfl rfl (all_cons (Val.per PUdp) all_nil) fun F a w h => ?_
 refine Go.seq ?_
 refine Go.reg ?_
 refine gs h (o_box (K := KUdp) rfl (pv_at PUdp 0 rfl)) rfl fun b1 _ _ h => ?_
 refine gs h (o_assign rfl) rfl fun _ _ _ h => ?_
 refine gs h (o_assign rfl) rfl fun _ _ _ h => ?_
 refine GoR.done ?_
 refine Go.seq ?_
 refine Go.seq ?_
 obtain ⟨o1, H, G1⟩ := bindE H
 refine g_cut (fun G => ∀ j1 (a : Act) (w : World), o1 = j1 → St Tryd.f7.ntmps F [(1, .int .u32 a2), (2, .int .u32 a3), (3, .pointer (some ⟨b1, 0, none⟩)), (27, .bool j1)] [Fld KUdp b1 0 a1] a w → G a w) 1 ?_ fun J1 => ?_
 ·intro j1 a w ho_ h
  rw [ho_] at G1
  have H := G1
  by_cases c3 : j1 = true
  ·have H := ifT c3 H
   refine g_t h rfl c3 ?_
   refine Go.seq ?_
   refine Go.reg ?_
   refine gs h (o_assign rfl) rfl fun _ _ _ h => ?_
   refine gs h (o_assign rfl) rfl fun _ _ _ h => ?_
   refine GoR.done ?_
   replace h := h.mm fun m => m.nilo (Kd.int .u8)
   rw [← som H]
   exact g_ret (vs := [.slice none 0 0, .int .i64 2]) h Tryd.func7 ⟨rfl, ⟨rfl, trivial⟩⟩ ⟨.slice none 0 0, rfl, ((h.mem.pick [0] (by decide) rfl).addpur (show InR .i64 2 by decide))⟩
  ·have H := ifF c3 H
   refine g_f h rfl c3 ?_
   refine Go.skip ?_
   refine Go.seq ?_
   refine Go.reg ?_
   refine gs h (o_assign rfl) rfl fun _ _ _ h => ?_
   refine GoR.done ?_
   refine Go.seq ?_
   refine Go.seq ?_
   refine Go.reg ?_
   refine gs h (o_fa rfl t_f24_0 rfl rfl) rfl fun _ _ _ h => ?_
   have g4 := (in2 (fd_sub sUdp_Src 0 rfl h.mem))
   refine gs h (o_lfx 0 rfl rfl sUdp_Src rfl X_int t_y3) rfl fun _ _ _ h => ?_
   refine gs h (o_fa rfl t_f24_1 rfl rfl) rfl fun _ _ _ h => ?_
   have g5 := (in2 (fd_sub sUdp_Dst 0 rfl h.mem))
   refine gs h (o_lfx 0 rfl rfl sUdp_Dst rfl X_int t_y3) rfl fun _ _ _ h => ?_
   refine gs h (o_fa rfl t_f24_2 rfl rfl) rfl fun _ _ _ h => ?_
   refine gs h (o_lfv 0 rfl rfl sUdp_Data rfl Per_sl t_y22) rfl fun v3 _ _ h => ?_
   have g6 := (len_at 0 rfl h.mem)
   refine gs h (o_ln rfl (rd_at 0 rfl) t_v22) rfl fun _ _ _ h => ?_
   refine gs h (o_bin rfl rfl rfl) rfl fun _ _ _ h => ?_
   refine gs h (o_bar (K := (Kd.int .i64)) (vs := [.int .i64 a1.Src, .int .i64 a1.Dst, .int .i64 (IntKind.i64.wrap (8 + (a1.Data.length : Int))), .int .i64 0]) (xs := ([a1.Src, a1.Dst, IntKind.i64.wrap (8 + (a1.Data.length : Int)), 0] : List Int)) (zc := [.int .i64 0, .int .i64 0, .int .i64 0, .int .i64 0]) rfl rfl (pvs_cons (pv_int g4) (pvs_cons (pv_int g5) (pvs_cons (pv_int (wrap_in _ _)) (pvs_cons (pv_int (show InR .i64 0 by decide)) pvs_nil)))) t_zc41 rfl t_r41) rfl fun v4 _ _ h => ?_
   refine gs h (o_move rfl) rfl fun _ _ _ h => ?_
   refine GoR.done ?_
   refine Go.block ?_
   obtain ⟨o2, hl, G2⟩ := bindE H
   refine g_cut (fun G => ∀ j2 (v8 : Value) (a : Act) (w : World), o2 = j2 → St Tryd.f7.ntmps F [(1, .int .u32 a2), (2, .int .u32 a3), (3, .pointer (some ⟨b1, 0, none⟩)), (8, v8)] [Val (Kd.osl (Kd.int .u8)) v8 j2, Fld KUdp b1 0 a1] a w → G a w) 2 ?_ fun J2 => ?_
   ·intro j2 v8 a w ho_ h
    rw [ho_] at G2
    have H := G2
    refine Go.seq ?_
    refine Go.reg ?_
    refine gs h (o_move rfl) rfl fun _ _ _ h => ?_
    refine gs h (o_fa rfl t_f24_2 rfl rfl) rfl fun _ _ _ h => ?_
    refine gs h (o_lfv 1 rfl rfl sUdp_Data rfl Per_sl t_y22) rfl fun v9 _ _ h => ?_
    obtain ⟨x3, ex3, H⟩ := bindE H
    refine gs h (o_app (K := (Kd.int .u8)) 1 rfl rfl rfl (rd_at 0 rfl) ex3 t_a22 t_n22) rfl fun v10 _ _ h => ?_
    refine gs h (o_assign rfl) rfl fun _ _ _ h => ?_
    refine GoR.done ?_
    refine Go.seq ?_
    refine Go.reg ?_
    refine gs h (o_move rfl) rfl fun _ _ _ h => ?_
    refine gs h (o_move rfl) rfl fun _ _ _ h => ?_
    refine gs h (o_move rfl) rfl fun _ _ _ h => ?_
    obtain ⟨r2, er2, H⟩ := bindE H
    refine gs h (OpS.lend (Lp := [Val (Kd.sl (Kd.int .u8)) v10 x3]) (lent_cons (lent_own 1 rfl) lent_nil) (o_call (udp_covered.spc v10 x3 a2 ha2 a3 ha3 r2 er2) rfl [0] [] (by decide) rfl rfl) (fun _ => (clo_cons (cl_val (cl_osl cl_int)) clo_nil))) rfl fun v11 _ _ h => ?_
    replace h := h.mm fun m => m.freeze 0 rfl
    obtain ⟨r3, er3, H⟩ := bindE H
    refine gs h (o_call (sum_Sum.spc v11 r2 r3 er3) rfl [0] [] (by decide) rfl rfl) rfl fun _ _ _ h => ?_
    have g9 := h.mem.pur 0 rfl
    refine gs h (o_assign rfl) rfl fun _ _ _ h => ?_
    refine GoR.done ?_
    refine Go.seq ?_
    obtain ⟨o3, H, G3⟩ := bindE H
    refine g_cut (fun G => ∀ j3 (a : Act) (w : World), o3 = j3 → InR .i64 j3 → St Tryd.f7.ntmps F [(8, v10), (11, .int .i64 j3)] [Val (Kd.osl (Kd.int .u8)) v10 x3, Fld KUdp b1 0 a1] a w → G a w) 1 ?_ fun J3 => ?_
    ·intro j3 a w ho_ g10 h
     rw [ho_] at G3
     have H := G3
     refine Go.seq ?_
     replace h := h.mm fun m => m.isl 0 rfl
     replace h := h.wk (E' := [(8, v10), (11, .int .i64 j3)]) (L' := [Ent.pur (IsSl v10 x3.length), Val (Kd.osl (Kd.int .u8)) v10 x3, Fld KUdp b1 0 a1]) (by rfl) [0, 1, 2] (by decide) (by rfl)
     obtain ⟨q2, H⟩ := ifS H
     obtain ⟨r4, er4, H⟩ := bindE H
     refine Go.draw (L := [Ent.pur (IsSl v10 x3.length), Val (Kd.osl (Kd.int .u8)) v10 x3, Fld KUdp b1 0 a1]) h 5 [⟨[], [], [], false, .con (v10), none, fun u => []⟩, ⟨[0], [], [], false, .con (subV v10 (6 : Int).toNat (x3.length : Int).toNat (Kd.n (Kd.int .u8))), none, fun u => []⟩, ⟨[], [], [], false, .con (.int .i64 j3), none, fun u => []⟩, ⟨[2], [], [], false, .con (.int .u64 (IntKind.u64.wrap j3)), none, fun u => []⟩, ⟨[2, 3], [], [], false, .own, none, fun u => [Val (Kd.osl (Kd.int .u8)) u r4]⟩] rfl t_mxo (by kernel_rfl) (by rfl) ?_ fun f2 _ _ h => ?_
     ·exact obs_cons (ob_con rfl (gok_none rfl) rfl fun f2 => (o_move rfl)) (obs_cons (ob_con rfl (gok_none rfl) rfl fun f2 => (OpS.fact (fun F w m_ => (Mem.pur 0 rfl m_)) fun g11 => (o_ownlp (n := 1) g11 rfl rfl q2 t_v22))) (obs_cons (ob_con rfl (gok_none rfl) rfl fun f2 => (o_move rfl)) (obs_cons (ob_con rfl (gok_none rfl) rfl fun f2 => (o_conv rfl t_q3 t_u43)) (obs_cons (ob_own rfl (gok_none rfl) rfl fun f2 => (o_call (bits_Put.spc (IntKind.u64.wrap j3) (wrap_in _ _) 2 (show InR .i64 2 by decide) true r4 er4) rfl [] [] (by decide) rfl rfl)) (obs_nil)))))
     replace h := h.wk (E' := [(8, v10), (58, subV v10 (6 : Int).toNat (x3.length : Int).toNat (Kd.n (Kd.int .u8))), (61, (f2 4))]) (L' := [Val (Kd.osl (Kd.int .u8)) (f2 4) r4, Ent.pur (IsSl v10 x3.length), Val (Kd.osl (Kd.int .u8)) v10 x3, Fld KUdp b1 0 a1]) (by kernel_rfl) [0, 1, 2, 3] (by decide) (by kernel_rfl)
     obtain ⟨y1, ey1, H⟩ := ltE H
     refine gs h (o_cp 2 rfl rfl rfl (rd_own 0 rfl) q2 t_a22) rfl fun _ _ _ h => ?_
     rw [ey1] at h
     refine GoR.done ?_
     refine Go.seq ?_
     refine Go.reg ?_
     refine gs h (o_move rfl) rfl fun _ _ _ h => ?_
     refine gs h (o_assign rfl) rfl fun _ _ _ h => ?_
     refine gs h (o_assign rfl) rfl fun _ _ _ h => ?_
     refine GoR.done ?_
     rw [← som H]
     exact g_ret (vs := [v10, .int .i64 0]) h Tryd.func7 ⟨rfl, ⟨rfl, trivial⟩⟩ ⟨v10, rfl, ((h.mem.pick [2] (by decide) rfl).addpur (show InR .i64 0 by decide))⟩
    refine Go.seq ?_
    refine Go.reg ?_
    refine gs h (o_move rfl) rfl fun _ _ _ h => ?_
    refine gs h (o_bin rfl rfl rfl) rfl fun _ _ _ h => ?_
    refine GoR.done ?_
    by_cases c5 : decide (r3 = 0) = true
    ·have H := ifT c5 H
     refine g_t h rfl c5 ?_
     refine Go.reg ?_
     refine gs h (o_assign rfl) rfl fun _ _ _ h => ?_
     refine GoR.done ?_
     exact J3 65535 _ _ (som H).symm (show InR .i64 65535 by decide) (h.wk (by rfl) [3, 4] (by decide) (by rfl))
    ·have H := ifF c5 H
     refine g_f h rfl c5 ?_
     refine Go.skip ?_
     exact J3 r3 _ _ (som H).symm g9 (h.wk (by rfl) [3, 4] (by decide) (by rfl))
   refine g_loop (fun s1 G => ∀ (v5 : Value) (a : Act) (w : World), InR .i64 s1.2 → St Tryd.f7.ntmps F [(1, .int .u32 a2), (2, .int .u32 a3), (3, .pointer (some ⟨b1, 0, none⟩)), (8, v5), (36, v4), (37, .int .i64 s1.2)] [Val (Kd.osl (Kd.int .u8)) v5 s1.1, Val (Kd.arr (Kd.int .i64) 4) v4 ([a1.Src, a1.Dst, IntKind.i64.wrap (8 + (a1.Data.length : Int)), 0] : List Int), Fld KUdp b1 0 a1] a w → G a w) hl (fun s1 p1 H i1 => ?_) fun I_ => ?_
   ·intro v5 a w g7 h
    refine Go.seq ?_
    refine Go.reg ?_
    refine gs h (o_bin rfl rfl rfl) rfl fun _ _ _ h => ?_
    refine GoR.done ?_
    refine Go.seq ?_
    by_cases c4 : decide (s1.2 < 4) = true
    ·have H := ifT c4 H
     refine g_t h rfl c4 ?_
     refine Go.skip ?_
     refine Go.seq ?_
     refine Go.block ?_
     refine Go.seq ?_
     refine Go.reg ?_
     obtain ⟨x1, ex1, H⟩ := bindE H
     have g8 := (arr_inr 1 rfl ex1 h.mem)
     refine gs h (o_ixx 1 rfl rfl rfl ex1 t_u41 t_y3 X_int) rfl fun _ _ _ h => ?_
     refine gs h (o_assign rfl) rfl fun _ _ _ h => ?_
     refine GoR.done ?_
     refine Go.reg ?_
     refine gs h (o_move rfl) rfl fun _ _ _ h => ?_
     refine gs h (o_move rfl) rfl fun _ _ _ h => ?_
     refine gs h (o_conv rfl t_q3 t_u43) rfl fun _ _ _ h => ?_
     obtain ⟨r1, er1, H⟩ := bindE H
     refine gs h (o_call (bits_Put.spc (IntKind.u64.wrap x1) (wrap_in _ _) 2 (show InR .i64 2 by decide) true r1 er1) rfl [] [] (by decide) rfl rfl) rfl fun v6 _ _ h => ?_
     obtain ⟨x2, ex2, H⟩ := bindE H
     refine gs h (o_app (K := (Kd.int .u8)) 1 rfl rfl rfl (rd_own 0 rfl) ex2 t_a22 t_n22) rfl fun v7 _ _ h => ?_
     refine gs h (o_assign rfl) rfl fun _ _ _ h => ?_
     refine GoR.done ?_
     refine Go.inBlock ?_
     refine Go.reg ?_
     refine gs h (o_bin rfl rfl rfl) rfl fun _ _ _ h => ?_
     refine gs h (o_move rfl) rfl fun _ _ _ h => ?_
     refine GoR.done ?_
     have e_ := som H; subst e_
     exact Go.inLoop (nx_in i1 v7 _ _ (wrap_in _ _) (h.wk (by rfl) [1, 2, 3] (by decide) (by rfl)))
    ·have H := ifF c4 H
     refine g_f h rfl c4 ?_
     refine Go.exit rfl ?_
     have e_ := som H; subst e_
     exact J2 s1.1 v5 _ _ (nx_out i1).symm (h.wk (by rfl) [0, 2] (by decide) (by rfl))
   ·replace h := h.mm fun m => m.nilo (Kd.int .u8)
    exact I_ (.slice none 0 0) _ _ (show InR .i64 0 by decide) (h.wk (by rfl) [0, 1, 3] (by decide) (by rfl))
 refine Go.reg ?_
 refine gs h (o_fa rfl t_f24_0 rfl rfl) rfl fun _ _ _ h => ?_
 have g1 := (in2 (fd_sub sUdp_Src 0 rfl h.mem))
 refine gs h (o_lfx 0 rfl rfl sUdp_Src rfl X_int t_y3) rfl fun _ _ _ h => ?_
 refine gs h (o_shr rfl rfl (show (0 : Int) ≤ 16 by decide)) rfl fun _ _ _ h => ?_
 refine gs h (o_bin rfl rfl rfl) rfl fun _ _ _ h => ?_
 refine gs h (o_move rfl) rfl fun _ _ _ h => ?_
 by_cases c1 : (!decide ((ishr .i64 a1.Src 16) = 0)) = true
 ·have H := ifT c1 H
  refine gk h rfl rfl (nb_t c1) rfl fun _ h => ?_
  refine gk h rfl rfl (nb_t c1) rfl fun _ h => ?_
  refine gk h rfl rfl (nb_t c1) rfl fun _ h => ?_
  refine gk h rfl rfl (nb_t c1) rfl fun _ h => ?_
  refine gs h (o_pickT rfl rfl c1) rfl fun _ _ _ h => ?_
  refine gs h (o_move rfl) rfl fun _ _ _ h => ?_
  refine gk h rfl rfl (nb_t rfl) rfl fun _ h => ?_
  refine gk h rfl rfl (nb_t rfl) rfl fun _ h => ?_
  refine gk h rfl rfl (nb_t rfl) rfl fun _ h => ?_
  refine gk h rfl rfl (nb_t rfl) rfl fun _ h => ?_
  refine gs h (o_pickT rfl rfl rfl) rfl fun _ _ _ h => ?_
  refine GoR.done ?_
  exact J1 true _ _ (som H).symm (h.wk (by rfl) [0] (by decide) (by rfl))
 ·have H := ifF c1 H
  refine gg h rfl rfl (nbF c1) (o_fa rfl t_f24_1 rfl rfl) rfl fun _ _ _ h => ?_
  have g2 := (in2 (fd_sub sUdp_Dst 0 rfl h.mem))
  refine gg h rfl rfl (nbF c1) (o_lfx 0 rfl rfl sUdp_Dst rfl X_int t_y3) rfl fun _ _ _ h => ?_
  refine gg h rfl rfl (nbF c1) (o_shr rfl rfl (show (0 : Int) ≤ 16 by decide)) rfl fun _ _ _ h => ?_
  refine gg h rfl rfl (nbF c1) (o_bin rfl rfl rfl) rfl fun _ _ _ h => ?_
  refine gs h (o_pickF rfl rfl c1) rfl fun _ _ _ h => ?_
  refine gs h (o_move rfl) rfl fun _ _ _ h => ?_
  by_cases c2 : (!decide ((ishr .i64 a1.Dst 16) = 0)) = true
  ·have H := ifT c2 H
   refine gk h rfl rfl (nb_t c2) rfl fun _ h => ?_
   refine gk h rfl rfl (nb_t c2) rfl fun _ h => ?_
   refine gk h rfl rfl (nb_t c2) rfl fun _ h => ?_
   refine gk h rfl rfl (nb_t c2) rfl fun _ h => ?_
   refine gs h (o_pickT rfl rfl c2) rfl fun _ _ _ h => ?_
   refine GoR.done ?_
   exact J1 true _ _ (som H).symm (h.wk (by rfl) [0] (by decide) (by rfl))
  ·have H := ifF c2 H
   refine gg h rfl rfl (nbF c2) (o_fa rfl t_f24_2 rfl rfl) rfl fun _ _ _ h => ?_
   refine gg h rfl rfl (nbF c2) (o_lfv 0 rfl rfl sUdp_Data rfl Per_sl t_y22) rfl fun v2 _ _ h => ?_
   have g3 := (len_at 0 rfl h.mem)
   refine gg h rfl rfl (nbF c2) (o_ln rfl (rd_at 0 rfl) t_v22) rfl fun _ _ _ h => ?_
   refine gg h rfl rfl (nbF c2) (o_bin rfl rfl rfl) rfl fun _ _ _ h => ?_
   refine gs h (o_pickF rfl rfl c2) rfl fun _ _ _ h => ?_
   refine GoR.done ?_
   exact J1 (decide (65507 < (a1.Data.length : Int))) _ _ (som H).symm (h.wk (by rfl) [1] (by decide) (by rfl))
def udp_Put.g (k_ : Nat) (a1 : TUdp) (a2 : Int) (a3 : Int) : Option ((List Int) × Int) :=
  ((if (!decide ((ishr .i64 a1.Src 16) = 0)) = true then some (true) else (if (!decide ((ishr .i64 a1.Dst 16) = 0)) = true then some (true) else some (decide (65507 < (a1.Data.length : Int)))))).bind (fun j1 => (if j1 = true then some (([], 2)) else (loopK k_ (fun s1 => (if decide (s1.2 < 4) = true then (idx ([a1.Src, a1.Dst, IntKind.i64.wrap (8 + (a1.Data.length : Int)), 0] : List Int) s1.2).bind fun x1 => (bits_Put.g k_ (IntKind.u64.wrap x1) 2 true).bind fun r1 => (app s1.1 r1).bind fun x2 => some (.inl (x2, IntKind.i64.wrap (s1.2 + 1))) else some (.inr (s1.1)))) (([] : List Int), 0)).bind (fun j2 => (app j2 a1.Data).bind fun x3 => (udp_covered.g k_ x3 a2 a3).bind fun r2 => (sum_Sum.g k_ r2).bind fun r3 => ((if decide (r3 = 0) = true then some (65535) else some (r3))).bind (fun j3 => if inB x3 6 (x3.length : Int) then ((bits_Put.g k_ (IntKind.u64.wrap j3) 2 true).bind fun r4 => lt (ovr x3 6 (x3.length : Int) r4) fun y1 => some ((y1, 0))) else none))))
theorem udp_Put.le (k_ : Nat) (a1 : TUdp) (a2 : Int) (a3 : Int) : Le (udp_Put.g k_ a1 a2 a3) (udp_Put.f a1 a2 a3) := by
 unfold udp_Put.g udp_Put.f
 repeat' (first | with_reducible refine le_loop fun _ => ?_ | with_reducible refine le_bind ?_ fun _ => ?_ | with_reducible refine le_ite ?_ ?_ | with_reducible refine le_lt fun _ => ?_ | with_reducible refine le_elim (fun _ => ?_) (fun _ => ?_) _ | with_reducible apply bits_Put.le | with_reducible apply sum_Sum.le | with_reducible apply udp_covered.le | with_reducible exact le_refl _)
/-! drawbridge/bits.Get -/
noncomputable def bits_Get.f (a1 : List Int) (a2 : Bool) : Option (Int) :=
  lt (min (a1.length : Int) 8) fun y1 => (loop (fun s1 => (if decide (s1.2 < y1) = true then ((if a2 = true then lt (IntKind.i64.wrap ((IntKind.i64.wrap (y1 - 1)) - s1.2)) fun y2 => some (y2) else some (s1.2))).bind (fun j1 => (idx a1 j1).bind fun x1 => if 0 ≤ (IntKind.i64.wrap (8 * s1.2)) then (lt (bits .or .u64 s1.1 (ishl .u64 x1 (IntKind.i64.wrap (8 * s1.2)))) fun y3 => some (.inl (y3, IntKind.i64.wrap (s1.2 + 1)))) else none) else some (.inr (s1.1)))) (0, 0)).bind (fun j2 => some (j2))
set_option maxRecDepth 100000 in
set_option maxHeartbeats 4000000 in
theorem bits_Get.spc (v1 : Value) (a1 : List Int) (a2 : Bool) (r : Int) (H : bits_Get.f a1 a2 = some r) : Spc Tryd.prog 27 [v1, .bool a2] [Val (Kd.sl (Kd.int .u8)) v1 a1] [] (fun (s : Unit) => .int .u64 r) (fun s => [Ent.pur (InR .u64 r)]) := by
 unfold bits_Get.f at H
 refine Spc.go Tryd.func27 rfl (by kernel_rfl) rfl rfl (all_cons (Val.per Per_sl) all_nil) fun F a w h => ?_
 refine Go.seq ?_
 refine Go.reg ?_
 refine gs h (o_assign rfl) rfl fun _ _ _ h => ?_
 refine GoR.done ?_
 refine Go.seq ?_
 refine Go.reg ?_
 refine gs h (o_assign rfl) rfl fun _ _ _ h => ?_
 refine GoR.done ?_
 refine Go.seq ?_
 refine Go.reg ?_
 refine gs h (o_move rfl) rfl fun _ _ _ h => ?_
 have g1 := (len_at 0 rfl h.mem)
 refine gs h (o_ln rfl (rd_at 0 rfl) t_v22) rfl fun _ _ _ h => ?_
 refine gs h (o_min rfl rfl) rfl fun _ _ _ h => ?_
 obtain ⟨y1, ey1, H⟩ := ltE H
 refine gs h (o_assign' rfl (congrArg (fun z => Value.int .i64 z) ey1)) rfl fun _ _ _ h => ?_
 refine GoR.done ?_
 refine Go.seq ?_
 refine Go.seq ?_
 refine Go.reg ?_
 refine gs h (o_move rfl) rfl fun _ _ _ h => ?_
 refine gs h (o_move rfl) rfl fun _ _ _ h => ?_
 refine GoR.done ?_
 refine Go.block ?_
 obtain ⟨o1, hl, G1⟩ := bindE H
 refine g_cut (fun G => ∀ j2 (a : Act) (w : World), o1 = j2 → InR .u64 j2 → St Tryd.f27.ntmps F [(5, .int .u64 j2)] [] a w → G a w) 2 ?_ fun J2 => ?_
 ·intro j2 a w ho_ g6 h
  rw [ho_] at G1
  have H := G1
  refine Go.seq ?_
  refine Go.reg ?_
  refine gs h (o_move rfl) rfl fun _ _ _ h => ?_
  refine gs h (o_assign rfl) rfl fun _ _ _ h => ?_
  refine GoR.done ?_
  rw [← som H]
  exact g_ret (vs := [.int .u64 j2]) h Tryd.func27 ⟨rfl, trivial⟩ ⟨(), rfl, ((h.mem.pick [] (by decide) rfl).addpur g6)⟩
 refine g_loop (fun s1 G => ∀  (a : Act) (w : World), InR .u64 s1.1 → InR .i64 s1.2 → St Tryd.f27.ntmps F [(0, v1), (1, .bool a2), (5, .int .u64 s1.1), (6, .int .i64 y1), (12, .int .i64 y1), (13, .int .i64 s1.2)] [Val (Kd.sl (Kd.int .u8)) v1 a1] a w → G a w) hl (fun s1 p1 H i1 => ?_) fun I_ => ?_
 ·intro  a w g2 g3 h
  refine Go.seq ?_
  refine Go.reg ?_
  refine gs h (o_bin rfl rfl rfl) rfl fun _ _ _ h => ?_
  refine GoR.done ?_
  refine Go.seq ?_
  by_cases c1 : decide (s1.2 < y1) = true
  ·have H := ifT c1 H
   refine g_t h rfl c1 ?_
   refine Go.skip ?_
   refine Go.seq ?_
   refine Go.block ?_
   refine Go.seq ?_
   refine Go.reg ?_
   refine gs h (o_move rfl) rfl fun _ _ _ h => ?_
   refine gs h (o_assign rfl) rfl fun _ _ _ h => ?_
   refine GoR.done ?_
   refine Go.seq ?_
   refine Go.reg ?_
   refine gs h (o_move rfl) rfl fun _ _ _ h => ?_
   refine gs h (o_assign rfl) rfl fun _ _ _ h => ?_
   refine GoR.done ?_
   refine Go.seq ?_
   obtain ⟨o2, H, G2⟩ := bindE H
   refine g_cut (fun G => ∀ j1 (a : Act) (w : World), o2 = j1 → InR .i64 j1 → St Tryd.f27.ntmps F [(0, v1), (1, .bool a2), (5, .int .u64 s1.1), (6, .int .i64 y1), (7, .int .i64 s1.2), (8, .int .i64 j1), (12, .int .i64 y1), (13, .int .i64 s1.2)] [Val (Kd.sl (Kd.int .u8)) v1 a1] a w → G a w) 1 ?_ fun J1 => ?_
   ·intro j1 a w ho_ g4 h
    rw [ho_] at G2
    have H := G2
    refine Go.reg ?_
    refine gs h (o_move rfl) rfl fun _ _ _ h => ?_
    refine gs h (o_move rfl) rfl fun _ _ _ h => ?_
    refine gs h (o_move rfl) rfl fun _ _ _ h => ?_
    obtain ⟨x1, ex1, H⟩ := bindE H
    refine gs h (o_ix rfl rfl (rd_at 0 rfl) ex1 t_v22) rfl fun _ _ _ h => ?_
    have g5 := (rd_inr (rd_at 0 rfl) ex1 h.mem)
    refine gs h (o_lex rfl (rd_at 0 rfl) ex1 X_int t_y5 (by decide)) rfl fun _ _ _ h => ?_
    refine gs h (o_convw rfl t_q5 t_u43 g5 rfl) rfl fun _ _ _ h => ?_
    refine gs h (o_move rfl) rfl fun _ _ _ h => ?_
    refine gs h (o_bin rfl rfl rfl) rfl fun _ _ _ h => ?_
    obtain ⟨q1, H⟩ := ifS H
    refine gs h (o_shl rfl rfl q1) rfl fun _ _ _ h => ?_
    refine gs h (o_bin rfl rfl rfl) rfl fun _ _ _ h => ?_
    obtain ⟨y3, ey3, H⟩ := ltE H
    refine gs h (o_assign' rfl (congrArg (fun z => Value.int .u64 z) ey3)) rfl fun _ _ _ h => ?_
    refine GoR.done ?_
    refine Go.inBlock ?_
    refine Go.reg ?_
    refine gs h (o_bin rfl rfl rfl) rfl fun _ _ _ h => ?_
    refine gs h (o_move rfl) rfl fun _ _ _ h => ?_
    refine GoR.done ?_
    have e_ := som H; subst e_
    exact Go.inLoop (nx_in i1 _ _ (ey3 ▸ (wrap_in _ _)) (wrap_in _ _) (h.wk (by rfl) [0] (by decide) (by rfl)))
   refine Go.seq ?_
   refine Go.reg ?_
   refine gs h (o_move rfl) rfl fun _ _ _ h => ?_
   refine GoR.done ?_
   by_cases c2 : a2 = true
   ·have H := ifT c2 H
    refine g_t h rfl c2 ?_
    refine Go.reg ?_
    refine gs h (o_move rfl) rfl fun _ _ _ h => ?_
    refine gs h (o_bin rfl rfl rfl) rfl fun _ _ _ h => ?_
    refine gs h (o_move rfl) rfl fun _ _ _ h => ?_
    refine gs h (o_bin rfl rfl rfl) rfl fun _ _ _ h => ?_
    obtain ⟨y2, ey2, H⟩ := ltE H
    refine gs h (o_assign' rfl (congrArg (fun z => Value.int .i64 z) ey2)) rfl fun _ _ _ h => ?_
    refine GoR.done ?_
    exact J1 y2 _ _ (som H).symm (ey2 ▸ (wrap_in _ _)) (h.wk (by rfl) [0] (by decide) (by rfl))
   ·have H := ifF c2 H
    refine g_f h rfl c2 ?_
    refine Go.skip ?_
    exact J1 s1.2 _ _ (som H).symm g3 (h.wk (by rfl) [0] (by decide) (by rfl))
  ·have H := ifF c1 H
   refine g_f h rfl c1 ?_
   refine Go.exit rfl ?_
   have e_ := som H; subst e_
   exact J2 s1.1 _ _ (nx_out i1).symm g2 (h.wk (by rfl) [] (by decide) (by rfl))
 ·exact I_ _ _ (show InR .u64 0 by decide) (show InR .i64 0 by decide) (h.wk (by rfl) [0] (by decide) (by rfl))
def bits_Get.g (k_ : Nat) (a1 : List Int) (a2 : Bool) : Option (Int) :=
  lt (min (a1.length : Int) 8) fun y1 => (loopK k_ (fun s1 => (if decide (s1.2 < y1) = true then ((if a2 = true then lt (IntKind.i64.wrap ((IntKind.i64.wrap (y1 - 1)) - s1.2)) fun y2 => some (y2) else some (s1.2))).bind (fun j1 => (idx a1 j1).bind fun x1 => if 0 ≤ (IntKind.i64.wrap (8 * s1.2)) then (lt (bits .or .u64 s1.1 (ishl .u64 x1 (IntKind.i64.wrap (8 * s1.2)))) fun y3 => some (.inl (y3, IntKind.i64.wrap (s1.2 + 1)))) else none) else some (.inr (s1.1)))) (0, 0)).bind (fun j2 => some (j2))
theorem bits_Get.le (k_ : Nat) (a1 : List Int) (a2 : Bool) : Le (bits_Get.g k_ a1 a2) (bits_Get.f a1 a2) := by
 unfold bits_Get.g bits_Get.f
 repeat' (first | with_reducible refine le_loop fun _ => ?_ | with_reducible refine le_bind ?_ fun _ => ?_ | with_reducible refine le_ite ?_ ?_ | with_reducible refine le_lt fun _ => ?_ | with_reducible refine le_elim (fun _ => ?_) (fun _ => ?_) _ | with_reducible exact le_refl _)
/-! drawbridge/sum.Right -/
noncomputable def sum_Right.f (a1 : List Int) : Option (Bool) :=
  (sum_Sum.f a1).bind fun r1 => lt (decide (r1 = 0)) fun y1 => some (y1)
set_option maxRecDepth 100000 in
set_option maxHeartbeats 4000000 in
theorem sum_Right.spc (v1 : Value) (a1 : List Int) (r : Bool) (H : sum_Right.f a1 = some r) : Spc Tryd.prog 28 [v1] [Val (Kd.sl (Kd.int .u8)) v1 a1] [] (fun (s : Unit) => .bool r) (fun s => []) := by
 unfold sum_Right.f at H
 refine Spc.go Tryd.func28 rfl (by kernel_rfl) rfl rfl (all_cons (Val.per Per_sl) all_nil) fun F a w h => ?_
 refine Go.seq ?_
 refine Go.reg ?_
 refine gs h (o_assign rfl) rfl fun _ _ _ h => ?_
 refine GoR.done ?_
 refine Go.seq ?_
 refine Go.reg ?_
 refine gs h (o_move rfl) rfl fun _ _ _ h => ?_
 obtain ⟨r1, er1, H⟩ := bindE H
 refine gs h (o_call (sum_Sum.spc v1 a1 r1 er1) rfl [0] [] (by decide) rfl rfl) rfl fun _ _ _ h => ?_
 have g1 := h.mem.pur 0 rfl
 refine gs h (o_bin rfl rfl rfl) rfl fun _ _ _ h => ?_
 obtain ⟨y1, ey1, H⟩ := ltE H
 refine gs h (o_assign' rfl (congrArg Value.bool ey1)) rfl fun _ _ _ h => ?_
 refine GoR.done ?_
 rw [← som H]
 exact g_ret (vs := [.bool y1]) h Tryd.func28 ⟨rfl, trivial⟩ ⟨(), rfl, (h.mem.pick [] (by decide) rfl)⟩
def sum_Right.g (k_ : Nat) (a1 : List Int) : Option (Bool) :=
  (sum_Sum.g k_ a1).bind fun r1 => lt (decide (r1 = 0)) fun y1 => some (y1)
theorem sum_Right.le (k_ : Nat) (a1 : List Int) : Le (sum_Right.g k_ a1) (sum_Right.f a1) := by
 unfold sum_Right.g sum_Right.f
 repeat' (first | with_reducible refine le_loop fun _ => ?_ | with_reducible refine le_bind ?_ fun _ => ?_ | with_reducible refine le_ite ?_ ?_ | with_reducible refine le_lt fun _ => ?_ | with_reducible refine le_elim (fun _ => ?_) (fun _ => ?_) _ | with_reducible apply sum_Sum.le | with_reducible exact le_refl _)
/-! slices.Clone[[]byte,byte] -/
noncomputable def slices_Clone_s_byte_byte.f (a1 : List Int) : Option ((List Int)) :=
  (app ([] : List Int) a1).bind fun x1 => some (x1)
set_option maxRecDepth 100000 in
set_option maxHeartbeats 4000000 in
theorem slices_Clone_s_byte_byte.spc (v1 : Value) (a1 : List Int) (r : (List Int)) (H : slices_Clone_s_byte_byte.f a1 = some r) : Spc Tryd.prog 29 [v1] [Val (Kd.sl (Kd.int .u8)) v1 a1] [] (fun (s : Value) => s) (fun s => [Val (Kd.osl (Kd.int .u8)) s r]) := by
 unfold slices_Clone_s_byte_byte.f at H
 refine Spc.go Tryd.func29 rfl (by kernel_rfl) rfl rfl (all_cons (Val.per Per_sl) all_nil) fun F a w h => ?_
 refine Go.seq ?_
 refine Go.reg ?_
 refine gs h (o_assign rfl) rfl fun _ _ _ h => ?_
 refine GoR.done ?_
 refine Go.seq ?_
 refine Go.seq ?_
 refine Go.reg ?_
 refine gs h (o_move rfl) rfl fun _ _ _ h => ?_
 refine gs h (o_eqn rfl rfl (rd_at 0 rfl) t_v22) rfl fun t1 _ _ h => ?_
 refine GoR.done ?_
 by_cases c1 : t1 = true
 ·have q_ := h.mem.pur 0 rfl c1
  have H : (some ([])) = some r := by rw [q_] at H; simpa [app] using H
  refine g_t h rfl c1 ?_
  refine Go.seq ?_
  refine Go.reg ?_
  refine gs h (o_assign rfl) rfl fun _ _ _ h => ?_
  refine GoR.done ?_
  replace h := h.mm fun m => m.nilo (Kd.int .u8)
  rw [← som H]
  exact g_ret (vs := [.slice none 0 0]) h Tryd.func29 ⟨rfl, trivial⟩ ⟨.slice none 0 0, rfl, (h.mem.pick [0] (by decide) rfl)⟩
 ·refine g_f h rfl c1 ?_
  refine Go.skip ?_
  refine Go.seq ?_
  refine Go.reg ?_
  refine gs h (o_bs (K := (Kd.int .u8)) (vs := []) (xs := ([] : List Int)) rfl rfl pvs_nil t_a22 (by decide) (by decide)) rfl fun v2 _ _ h => ?_
  refine gs h (o_move rfl) rfl fun _ _ _ h => ?_
  obtain ⟨x1, ex1, H⟩ := bindE H
  refine gs h (o_app (K := (Kd.int .u8)) 0 rfl rfl rfl (rd_at 2 rfl) ex1 t_a22 t_n22) rfl fun v3 _ _ h => ?_
  refine gs h (o_assign rfl) rfl fun _ _ _ h => ?_
  refine GoR.done ?_
  rw [← som H]
  exact g_ret (vs := [v3]) h Tryd.func29 ⟨rfl, trivial⟩ ⟨v3, rfl, (h.mem.pick [0] (by decide) rfl)⟩
def slices_Clone_s_byte_byte.g (k_ : Nat) (a1 : List Int) : Option ((List Int)) :=
  (app ([] : List Int) a1).bind fun x1 => some (x1)
theorem slices_Clone_s_byte_byte.le (k_ : Nat) (a1 : List Int) : Le (slices_Clone_s_byte_byte.g k_ a1) (slices_Clone_s_byte_byte.f a1) := by
 unfold slices_Clone_s_byte_byte.g slices_Clone_s_byte_byte.f
 repeat' (first | with_reducible refine le_loop fun _ => ?_ | with_reducible refine le_bind ?_ fun _ => ?_ | with_reducible refine le_ite ?_ ?_ | with_reducible refine le_lt fun _ => ?_ | with_reducible refine le_elim (fun _ => ?_) (fun _ => ?_) _ | with_reducible exact le_refl _)
/-! drawbridge/udp.get -/
noncomputable def udp_get.f (a1 : List Int) (a2 : Int) (a3 : Int) : Option (TUdp × (Option Tfault)) :=
  (if decide ((a1.length : Int) < 8) = true then some (((⟨0, 0, []⟩ : TUdp), (some (⟨160⟩ : Tfault)))) else (loop (fun s1 => (if decide (s1.1 < 4) = true then (cut a1 (IntKind.i64.wrap (2 * s1.1)) (IntKind.i64.wrap ((IntKind.i64.wrap (2 * s1.1)) + 2))).bind fun x1 => (bits_Get.f x1 true).bind fun r1 => (idx s1.2 s1.1).bind fun x2 => lt (s1.2.set s1.1.toNat (IntKind.i64.wrap r1)) fun y1 => some (.inl (IntKind.i64.wrap (s1.1 + 1), y1)) else some (.inr (s1.2)))) (0, (List.replicate 4 0 : List Int))).bind (fun j1 => (idx j1 2).bind fun x3 => lt (decide (x3 < 8)) fun y2 => (if y2 = true then some (((⟨0, 0, []⟩ : TUdp), (some (⟨161⟩ : Tfault)))) else (idx j1 2).bind fun x4 => lt (decide ((a1.length : Int) < x4)) fun y3 => (if y3 = true then some (((⟨0, 0, []⟩ : TUdp), (some (⟨160⟩ : Tfault)))) else (idx j1 2).bind fun x5 => (cut a1 0 x5).bind fun x6 => ((idx j1 3).bind fun x7 => (if (!decide (x7 = 0)) = true then (udp_covered.f x6 a2 a3).bind fun r2 => (sum_Right.f r2).bind fun r3 => some ((!r3)) else some (false))).bind (fun j2 => (if j2 = true then some (((⟨0, 0, []⟩ : TUdp), (some (⟨162⟩ : Tfault)))) else (idx j1 0).bind fun x8 => (idx j1 1).bind fun x9 => (cut x6 8 (x6.length : Int)).bind fun x10 => (slices_Clone_s_byte_byte.f x10).bind fun r4 => some (((⟨x8, x9, r4⟩ : TUdp), none))))))))
set_option maxRecDepth 100000 in
set_option maxHeartbeats 4000000 in
theorem udp_get.spc (v1 : Value) (a1 : List Int) (a2 : Int) (ha2 : InR .u32 a2) (a3 : Int) (ha3 : InR .u32 a3) (r : TUdp × (Option Tfault)) (H : udp_get.f a1 a2 a3 = some r) : Spc Tryd.prog 20 [v1, .int .u32 a2, .int .u32 a3] [Val (Kd.sl (Kd.int .u8)) v1 a1] [] (fun (s : Value × Value) => .tuple #[s.1, s.2]) (fun s => [Val KUdp s.1 r.1, Val (Kd.erp 58 Kfault) s.2 r.2]) := by
 unfold udp_get.f at H
 refine Spc.go Tryd.func20 rfl (by kernel_rfl) rfl rfl (all_cons (Val.per Per_sl) all_nil) fun F a w h => ?_
 refine Go.seq ?_
 refine Go.reg ?_
 refine gs h (o_alloc (K := KUdp) (z := (.agg #[.int .i64 0, .int .i64 0, .slice none 0 0])) rfl ZUdp) rfl fun b1 _ _ h => ?_
 refine gs h (o_assign rfl) rfl fun _ _ _ h => ?_
 refine GoR.done ?_
 refine Go.seq ?_
 refine Go.seq ?_
 refine Go.reg ?_
 refine gs h (o_move rfl) rfl fun _ _ _ h => ?_
 have g1 := (len_at 1 rfl h.mem)
 refine gs h (o_ln rfl (rd_at 1 rfl) t_v22) rfl fun _ _ _ h => ?_
 refine gs h (o_bin rfl rfl rfl) rfl fun _ _ _ h => ?_
 refine GoR.done ?_
 by_cases c1 : decide ((a1.length : Int) < 8) = true
 ·have H := ifT c1 H
  refine g_t h rfl c1 ?_
  refine Go.seq ?_
  refine Go.reg ?_
  refine gs h (o_build (K := KUdp) (x := (⟨0, 0, []⟩ : TUdp)) (ps := []) rfl (zs := zsUdp) rfl t_b24 rfl (show PB (Kd.pair (Kd.int .i64) (Kd.pair (Kd.int .i64) (Kd.last (Kd.sl (Kd.int .u8))))) (0, 0, []) 0 zsUdp _ _ from (pb_zero z_int (pb_zero z_int (pb_lastz z_sl))))) rfl fun v2 _ _ h => ?_
  refine gs h (o_build (K := Kfault) (x := (⟨160⟩ : Tfault)) (ps := [(0, .int .i64 160)]) rfl (zs := zsfault) rfl t_b60 rfl (show PB (Kd.last (Kd.int .i64)) 160 0 zsfault _ _ from (pb_lastp (pv_int (show InR .i64 160 by decide)) rfl))) rfl fun v3 _ _ h => ?_
  refine gs h (o_box (K := Kfault) rfl (pv_at Pfault 0 rfl)) rfl fun b2 _ _ h => ?_
  replace h := h.mm fun m => m.frz Pfault 0 rfl
  refine gs h (o_ifc rfl (by kernel_rfl)) rfl fun _ _ _ h => ?_
  refine gs0 h (o_st 3 rfl rfl rfl (pv_at PUdp 2 rfl) rfl t_w24) fun _ _ _ h => ?_
  refine gs h (o_assign rfl) rfl fun _ _ _ h => ?_
  refine GoR.done ?_
  obtain ⟨v4, h, u1⟩ := h.peek 3 rfl PUdp t_y24
  replace h := h.mm fun m => (pv_ers 1 rfl (T := 58)).ent m
  rw [← som H]
  exact g_ret (vs := [v4, .iface 58 (.pointer (some ⟨b2, 0, none⟩))]) h Tryd.func20 ⟨⟨_, rfl, u1⟩, ⟨rfl, trivial⟩⟩ ⟨(v4, .iface 58 (.pointer (some ⟨b2, 0, none⟩))), rfl, (h.mem.pick [1, 0] (by decide) rfl)⟩
 ·have H := ifF c1 H
  refine g_f h rfl c1 ?_
  refine Go.skip ?_
  refine Go.seq ?_
  refine Go.reg ?_
  refine gs h (o_alloc (K := (Kd.arr (Kd.int .i64) 4)) (z := (.agg #[.int .i64 0, .int .i64 0, .int .i64 0, .int .i64 0])) rfl (z_arr z_int)) rfl fun b3 _ _ h => ?_
  refine GoR.done ?_
  refine Go.seq ?_
  refine Go.seq ?_
  refine Go.reg ?_
  refine gs h (o_move rfl) rfl fun _ _ _ h => ?_
  refine GoR.done ?_
  refine Go.block ?_
  obtain ⟨o1, hl, G1⟩ := bindE H
  refine g_cut (fun G => ∀ j1 (b3 : Nat) (a : Act) (w : World), o1 = j1 → St Tryd.f20.ntmps F [(0, v1), (1, .int .u32 a2), (2, .int .u32 a3), (6, .pointer (some ⟨b1, 0, none⟩)), (8, .pointer (some ⟨b3, 0, none⟩))] [Val (Kd.sl (Kd.int .u8)) v1 a1, Fld (Kd.arr (Kd.int .i64) 4) b3 0 j1, Fld KUdp b1 0 zUdp] a w → G a w) 2 ?_ fun J1 => ?_
  ·intro j1 b3 a w ho_ h
   rw [ho_] at G1
   have H := G1
   refine Go.seq ?_
   refine Go.block ?_
   refine Go.seq ?_
   refine Go.reg ?_
   obtain ⟨x3, ex3, H⟩ := bindE H
   refine gs h (o_ixf (K := (Kd.int .i64)) 1 rfl rfl rfl ex3 t_r41) rfl fun _ _ _ h => ?_
   have g4 := (fd_ari 1 rfl ex3 h.mem)
   refine gs h (o_lar (K := (Kd.int .i64)) 1 rfl rfl ex3 X_int t_y3) rfl fun _ _ _ h => ?_
   refine gs h (o_bin rfl rfl rfl) rfl fun _ _ _ h => ?_
   obtain ⟨y2, ey2, H⟩ := ltE H
   refine gs h (o_assign' rfl (congrArg Value.bool ey2)) rfl fun _ _ _ h => ?_
   refine GoR.done ?_
   by_cases c3 : y2 = true
   ·have H := ifT c3 H
    refine g_t h rfl c3 ?_
    refine Go.seq ?_
    refine Go.reg ?_
    refine gs h (o_build (K := KUdp) (x := (⟨0, 0, []⟩ : TUdp)) (ps := []) rfl (zs := zsUdp) rfl t_b24 rfl (show PB (Kd.pair (Kd.int .i64) (Kd.pair (Kd.int .i64) (Kd.last (Kd.sl (Kd.int .u8))))) (0, 0, []) 0 zsUdp _ _ from (pb_zero z_int (pb_zero z_int (pb_lastz z_sl))))) rfl fun v6 _ _ h => ?_
    refine gs h (o_build (K := Kfault) (x := (⟨161⟩ : Tfault)) (ps := [(0, .int .i64 161)]) rfl (zs := zsfault) rfl t_b60 rfl (show PB (Kd.last (Kd.int .i64)) 161 0 zsfault _ _ from (pb_lastp (pv_int (show InR .i64 161 by decide)) rfl))) rfl fun v7 _ _ h => ?_
    refine gs h (o_box (K := Kfault) rfl (pv_at Pfault 0 rfl)) rfl fun b4 _ _ h => ?_
    replace h := h.mm fun m => m.frz Pfault 0 rfl
    refine gs h (o_ifc rfl (by kernel_rfl)) rfl fun _ _ _ h => ?_
    refine gs0 h (o_st 5 rfl rfl rfl (pv_at PUdp 2 rfl) rfl t_w24) fun _ _ _ h => ?_
    refine gs h (o_assign rfl) rfl fun _ _ _ h => ?_
    refine GoR.done ?_
    obtain ⟨v8, h, u2⟩ := h.peek 5 rfl PUdp t_y24
    replace h := h.mm fun m => (pv_ers 1 rfl (T := 58)).ent m
    rw [← som H]
    exact g_ret (vs := [v8, .iface 58 (.pointer (some ⟨b4, 0, none⟩))]) h Tryd.func20 ⟨⟨_, rfl, u2⟩, ⟨rfl, trivial⟩⟩ ⟨(v8, .iface 58 (.pointer (some ⟨b4, 0, none⟩))), rfl, (h.mem.pick [1, 0] (by decide) rfl)⟩
   ·have H := ifF c3 H
    refine g_f h rfl c3 ?_
    refine Go.seq ?_
    refine Go.reg ?_
    obtain ⟨x4, ex4, H⟩ := bindE H
    refine gs h (o_ixf (K := (Kd.int .i64)) 1 rfl rfl rfl ex4 t_r41) rfl fun _ _ _ h => ?_
    have g5 := (fd_ari 1 rfl ex4 h.mem)
    refine gs h (o_lar (K := (Kd.int .i64)) 1 rfl rfl ex4 X_int t_y3) rfl fun _ _ _ h => ?_
    refine gs h (o_move rfl) rfl fun _ _ _ h => ?_
    have g6 := (len_at 0 rfl h.mem)
    refine gs h (o_ln rfl (rd_at 0 rfl) t_v22) rfl fun _ _ _ h => ?_
    refine gs h (o_bin rfl rfl rfl) rfl fun _ _ _ h => ?_
    obtain ⟨y3, ey3, H⟩ := ltE H
    refine gs h (o_assign' rfl (congrArg Value.bool ey3)) rfl fun _ _ _ h => ?_
    refine GoR.done ?_
    by_cases c4 : y3 = true
    ·have H := ifT c4 H
     refine g_t h rfl c4 ?_
     refine Go.seq ?_
     refine Go.reg ?_
     refine gs h (o_build (K := KUdp) (x := (⟨0, 0, []⟩ : TUdp)) (ps := []) rfl (zs := zsUdp) rfl t_b24 rfl (show PB (Kd.pair (Kd.int .i64) (Kd.pair (Kd.int .i64) (Kd.last (Kd.sl (Kd.int .u8))))) (0, 0, []) 0 zsUdp _ _ from (pb_zero z_int (pb_zero z_int (pb_lastz z_sl))))) rfl fun v9 _ _ h => ?_
     refine gs h (o_build (K := Kfault) (x := (⟨160⟩ : Tfault)) (ps := [(0, .int .i64 160)]) rfl (zs := zsfault) rfl t_b60 rfl (show PB (Kd.last (Kd.int .i64)) 160 0 zsfault _ _ from (pb_lastp (pv_int (show InR .i64 160 by decide)) rfl))) rfl fun v10 _ _ h => ?_
     refine gs h (o_box (K := Kfault) rfl (pv_at Pfault 0 rfl)) rfl fun b5 _ _ h => ?_
     replace h := h.mm fun m => m.frz Pfault 0 rfl
     refine gs h (o_ifc rfl (by kernel_rfl)) rfl fun _ _ _ h => ?_
     refine gs0 h (o_st 5 rfl rfl rfl (pv_at PUdp 2 rfl) rfl t_w24) fun _ _ _ h => ?_
     refine gs h (o_assign rfl) rfl fun _ _ _ h => ?_
     refine GoR.done ?_
     obtain ⟨v11, h, u3⟩ := h.peek 5 rfl PUdp t_y24
     replace h := h.mm fun m => (pv_ers 1 rfl (T := 58)).ent m
     rw [← som H]
     exact g_ret (vs := [v11, .iface 58 (.pointer (some ⟨b5, 0, none⟩))]) h Tryd.func20 ⟨⟨_, rfl, u3⟩, ⟨rfl, trivial⟩⟩ ⟨(v11, .iface 58 (.pointer (some ⟨b5, 0, none⟩))), rfl, (h.mem.pick [1, 0] (by decide) rfl)⟩
    ·have H := ifF c4 H
     refine g_f h rfl c4 ?_
     refine Go.skip ?_
     refine Go.inBlock ?_
     refine Go.seq ?_
     refine Go.reg ?_
     refine gs h (o_move rfl) rfl fun _ _ _ h => ?_
     obtain ⟨x5, ex5, H⟩ := bindE H
     refine gs h (o_ixf (K := (Kd.int .i64)) 1 rfl rfl rfl ex5 t_r41) rfl fun _ _ _ h => ?_
     have g7 := (fd_ari 1 rfl ex5 h.mem)
     refine gs h (o_lar (K := (Kd.int .i64)) 1 rfl rfl ex5 X_int t_y3) rfl fun _ _ _ h => ?_
     obtain ⟨x6, ex6, H⟩ := bindE H
     refine gs h (o_cuth rfl (pv_at Per_sl 0 rfl) rfl ex6 t_v22) rfl fun v12 _ _ h => ?_
     refine gs h (o_assign rfl) rfl fun _ _ _ h => ?_
     refine GoR.done ?_
     refine Go.seq ?_
     refine Go.seq ?_
     obtain ⟨o2, H, G2⟩ := bindE H
     refine g_cut (fun G => ∀ j2 (a : Act) (w : World), o2 = j2 → St Tryd.f20.ntmps F [(0, v12), (6, .pointer (some ⟨b1, 0, none⟩)), (8, .pointer (some ⟨b3, 0, none⟩)), (64, .bool j2)] [Val (Kd.sl (Kd.int .u8)) v12 x6, Fld (Kd.arr (Kd.int .i64) 4) b3 0 j1, Fld KUdp b1 0 zUdp] a w → G a w) 1 ?_ fun J2 => ?_
     ·intro j2 a w ho_ h
      rw [ho_] at G2
      have H := G2
      by_cases c6 : j2 = true
      ·have H := ifT c6 H
       refine g_t h rfl c6 ?_
       refine Go.seq ?_
       refine Go.reg ?_
       refine gs h (o_build (K := KUdp) (x := (⟨0, 0, []⟩ : TUdp)) (ps := []) rfl (zs := zsUdp) rfl t_b24 rfl (show PB (Kd.pair (Kd.int .i64) (Kd.pair (Kd.int .i64) (Kd.last (Kd.sl (Kd.int .u8))))) (0, 0, []) 0 zsUdp _ _ from (pb_zero z_int (pb_zero z_int (pb_lastz z_sl))))) rfl fun v14 _ _ h => ?_
       refine gs h (o_build (K := Kfault) (x := (⟨162⟩ : Tfault)) (ps := [(0, .int .i64 162)]) rfl (zs := zsfault) rfl t_b60 rfl (show PB (Kd.last (Kd.int .i64)) 162 0 zsfault _ _ from (pb_lastp (pv_int (show InR .i64 162 by decide)) rfl))) rfl fun v15 _ _ h => ?_
       refine gs h (o_box (K := Kfault) rfl (pv_at Pfault 0 rfl)) rfl fun b6 _ _ h => ?_
       replace h := h.mm fun m => m.frz Pfault 0 rfl
       refine gs h (o_ifc rfl (by kernel_rfl)) rfl fun _ _ _ h => ?_
       refine gs0 h (o_st 5 rfl rfl rfl (pv_at PUdp 2 rfl) rfl t_w24) fun _ _ _ h => ?_
       refine gs h (o_assign rfl) rfl fun _ _ _ h => ?_
       refine GoR.done ?_
       obtain ⟨v16, h, u4⟩ := h.peek 5 rfl PUdp t_y24
       replace h := h.mm fun m => (pv_ers 1 rfl (T := 58)).ent m
       rw [← som H]
       exact g_ret (vs := [v16, .iface 58 (.pointer (some ⟨b6, 0, none⟩))]) h Tryd.func20 ⟨⟨_, rfl, u4⟩, ⟨rfl, trivial⟩⟩ ⟨(v16, .iface 58 (.pointer (some ⟨b6, 0, none⟩))), rfl, (h.mem.pick [1, 0] (by decide) rfl)⟩
      ·have H := ifF c6 H
       refine g_f h rfl c6 ?_
       refine Go.skip ?_
       refine Go.seq ?_
       replace h := h.wk (E' := [(0, v12), (6, .pointer (some ⟨b1, 0, none⟩)), (8, .pointer (some ⟨b3, 0, none⟩))]) (L' := [Val (Kd.sl (Kd.int .u8)) v12 x6, Fld (Kd.arr (Kd.int .i64) 4) b3 0 j1, Fld KUdp b1 0 zUdp]) (by rfl) [0, 1, 2] (by decide) (by rfl)
       obtain ⟨x8, ex8, H⟩ := bindE H
       obtain ⟨x9, ex9, H⟩ := bindE H
       obtain ⟨x10, ex10, H⟩ := bindE H
       obtain ⟨r4, er4, H⟩ := bindE H
       refine Go.draw (L := [Val (Kd.sl (Kd.int .u8)) v12 x6, Fld (Kd.arr (Kd.int .i64) 4) b3 0 j1, Fld KUdp b1 0 zUdp]) h 7 [⟨[], [], [], false, .con (.pointer (some ⟨b3, 0 + (0 : Int).toNat * Kd.n (Kd.int .i64), none⟩)), none, fun u => []⟩, ⟨[0], [], [], false, .con (.int .i64 x8), none, fun u => [Ent.pur (InR .i64 x8)]⟩, ⟨[], [], [], false, .con (.pointer (some ⟨b3, 0 + (1 : Int).toNat * Kd.n (Kd.int .i64), none⟩)), none, fun u => []⟩, ⟨[2], [], [], false, .con (.int .i64 x9), none, fun u => [Ent.pur (InR .i64 x9)]⟩, ⟨[], [], [], false, .con (v12), none, fun u => []⟩, ⟨[4], [], [], false, .own, none, fun u => [Val (Kd.sl (Kd.int .u8)) u x10]⟩, ⟨[4, 5], [5], [], false, .own, none, fun u => [Val (Kd.osl (Kd.int .u8)) u r4]⟩] rfl t_mxo (by kernel_rfl) (by rfl) ?_ fun f1 _ _ h => ?_
       ·exact obs_cons (ob_con rfl (gok_none rfl) rfl fun f1 => (o_ixf (K := (Kd.int .i64)) 1 rfl rfl rfl ex8 t_r41)) (obs_cons (ob_con rfl (gok_none rfl) rfl fun f1 => (OpS.pur (fun F w m_ => (fd_ari 1 rfl ex8 m_)) (o_lar (K := (Kd.int .i64)) 1 rfl rfl ex8 X_int t_y3))) (obs_cons (ob_con rfl (gok_none rfl) rfl fun f1 => (o_ixf (K := (Kd.int .i64)) 1 rfl rfl rfl ex9 t_r41)) (obs_cons (ob_con rfl (gok_none rfl) rfl fun f1 => (OpS.pur (fun F w m_ => (fd_ari 1 rfl ex9 m_)) (o_lar (K := (Kd.int .i64)) 1 rfl rfl ex9 X_int t_y3))) (obs_cons (ob_con rfl (gok_none rfl) rfl fun f1 => (o_move rfl)) (obs_cons (ob_own rfl (gok_none rfl) rfl fun f1 => (o_cutl rfl (pv_at Per_sl 0 rfl) rfl ex10 t_v22)) (obs_cons (ob_own rfl (gok_none rfl) rfl fun f1 => (o_call (slices_Clone_s_byte_byte.spc (f1 5) x10 r4 er4) rfl [0] [] (by decide) rfl rfl)) (obs_nil)))))))
       replace h := h.wk (E' := [(6, .pointer (some ⟨b1, 0, none⟩)), (70, .int .i64 x8), (72, .int .i64 x9), (75, (f1 6))]) (L' := [Ent.pur (InR .i64 x8), Ent.pur (InR .i64 x9), Val (Kd.sl (Kd.int .u8)) (f1 5) x10, Val (Kd.osl (Kd.int .u8)) (f1 6) r4, Val (Kd.sl (Kd.int .u8)) v12 x6, Fld (Kd.arr (Kd.int .i64) 4) b3 0 j1, Fld KUdp b1 0 zUdp]) (by kernel_rfl) [0, 1, 2, 3, 4, 5, 6] (by decide) (by kernel_rfl)
       have g9 := (fun m_ => (Mem.pur 0 rfl m_)) h.mem
       have g10 := (fun m_ => (Mem.pur 1 rfl m_)) h.mem
       replace h := h.mm fun m => m.freeze 3 rfl
       refine gs h (o_build (K := KUdp) (x := (⟨x8, x9, r4⟩ : TUdp)) (ps := [(0, .int .i64 x8), (1, .int .i64 x9), (2, (f1 6))]) rfl (zs := zsUdp) rfl t_b24 rfl (show PB (Kd.pair (Kd.int .i64) (Kd.pair (Kd.int .i64) (Kd.last (Kd.sl (Kd.int .u8))))) (x8, x9, r4) 0 zsUdp _ _ from (pb_part (pv_int g9) rfl (pb_part (pv_int g10) rfl (pb_lastp (pv_at Per_sl 3 rfl) rfl))))) rfl fun v19 _ _ h => ?_
       refine gs0 h (o_st 7 rfl rfl rfl (pv_at PUdp 0 rfl) rfl t_w24) fun _ _ _ h => ?_
       refine gs h (o_assign rfl) rfl fun _ _ _ h => ?_
       refine GoR.done ?_
       obtain ⟨v20, h, u5⟩ := h.peek 7 rfl PUdp t_y24
       replace h := h.mm fun m => (pv_ern (T := 58) (K := Kfault)).ent m
       rw [← som H]
       exact g_ret (vs := [v20, .nilIface]) h Tryd.func20 ⟨⟨_, rfl, u5⟩, ⟨rfl, trivial⟩⟩ ⟨(v20, .nilIface), rfl, (h.mem.pick [1, 0] (by decide) rfl)⟩
     refine Go.reg ?_
     obtain ⟨x7, ex7, H⟩ := bindE H
     refine gs h (o_ixf (K := (Kd.int .i64)) 2 rfl rfl rfl ex7 t_r41) rfl fun _ _ _ h => ?_
     have g8 := (fd_ari 2 rfl ex7 h.mem)
     refine gs h (o_lar (K := (Kd.int .i64)) 2 rfl rfl ex7 X_int t_y3) rfl fun _ _ _ h => ?_
     refine gs h (o_bin rfl rfl rfl) rfl fun _ _ _ h => ?_
     refine gs h (o_move rfl) rfl fun _ _ _ h => ?_
     by_cases c5 : (!decide (x7 = 0)) = true
     ·have H := ifT c5 H
      refine gg h rfl rfl c5 (o_move rfl) rfl fun _ _ _ h => ?_
      refine gg h rfl rfl c5 (o_move rfl) rfl fun _ _ _ h => ?_
      refine gg h rfl rfl c5 (o_move rfl) rfl fun _ _ _ h => ?_
      obtain ⟨r2, er2, H⟩ := bindE H
      refine gg h rfl rfl c5 (o_call (udp_covered.spc v12 x6 a2 ha2 a3 ha3 r2 er2) rfl [0] [] (by decide) rfl rfl) rfl fun v13 _ _ h => ?_
      replace h := h.mm fun m => m.freeze 0 rfl
      obtain ⟨r3, er3, H⟩ := bindE H
      refine gg h rfl rfl c5 (o_call (sum_Right.spc v13 r2 r3 er3) rfl [0] [] (by decide) rfl rfl) rfl fun _ _ _ h => ?_
      refine gg h rfl rfl c5 (o_not rfl) rfl fun _ _ _ h => ?_
      refine gs h (o_pickT rfl rfl c5) rfl fun _ _ _ h => ?_
      refine GoR.done ?_
      exact J2 (!r3) _ _ (som H).symm (h.wk (by rfl) [1, 3, 4] (by decide) (by rfl))
     ·have H := ifF c5 H
      refine gk h rfl rfl (nb_f c5) rfl fun _ h => ?_
      refine gk h rfl rfl (nb_f c5) rfl fun _ h => ?_
      refine gk h rfl rfl (nb_f c5) rfl fun _ h => ?_
      refine gk h rfl rfl (nb_f c5) rfl fun _ h => ?_
      refine gk h rfl rfl (nb_f c5) rfl fun _ h => ?_
      refine gk h rfl rfl (nb_f c5) rfl fun _ h => ?_
      refine gs h (o_pickF rfl rfl c5) rfl fun _ _ _ h => ?_
      refine GoR.done ?_
      exact J2 false _ _ (som H).symm (h.wk (by rfl) [0, 2, 3] (by decide) (by rfl))
  refine g_loop (fun s1 G => ∀  (a : Act) (w : World), InR .i64 s1.1 → St Tryd.f20.ntmps F [(0, v1), (1, .int .u32 a2), (2, .int .u32 a3), (6, .pointer (some ⟨b1, 0, none⟩)), (8, .pointer (some ⟨b3, 0, none⟩)), (17, .int .i64 s1.1)] [Val (Kd.sl (Kd.int .u8)) v1 a1, Fld (Kd.arr (Kd.int .i64) 4) b3 0 s1.2, Fld KUdp b1 0 zUdp] a w → G a w) hl (fun s1 p1 H i1 => ?_) fun I_ => ?_
  ·intro  a w g2 h
   refine Go.seq ?_
   refine Go.reg ?_
   refine gs h (o_bin rfl rfl rfl) rfl fun _ _ _ h => ?_
   refine GoR.done ?_
   refine Go.seq ?_
   by_cases c2 : decide (s1.1 < 4) = true
   ·have H := ifT c2 H
    refine g_t h rfl c2 ?_
    refine Go.skip ?_
    refine Go.seq ?_
    refine Go.block ?_
    refine Go.seq ?_
    refine Go.reg ?_
    refine gs h (o_move rfl) rfl fun _ _ _ h => ?_
    refine gs h (o_assign rfl) rfl fun _ _ _ h => ?_
    refine GoR.done ?_
    refine Go.reg ?_
    refine gs h (o_move rfl) rfl fun _ _ _ h => ?_
    refine gs h (o_move rfl) rfl fun _ _ _ h => ?_
    refine gs h (o_move rfl) rfl fun _ _ _ h => ?_
    refine gs h (o_bin rfl rfl rfl) rfl fun _ _ _ h => ?_
    refine gs h (o_move rfl) rfl fun _ _ _ h => ?_
    refine gs h (o_bin rfl rfl rfl) rfl fun _ _ _ h => ?_
    refine gs h (o_bin rfl rfl rfl) rfl fun _ _ _ h => ?_
    obtain ⟨x1, ex1, H⟩ := bindE H
    refine gs h (o_cut rfl (pv_at Per_sl 0 rfl) rfl rfl ex1 t_v22) rfl fun v5 _ _ h => ?_
    obtain ⟨r1, er1, H⟩ := bindE H
    refine gs h (o_call (bits_Get.spc v5 x1 true r1 er1) rfl [0] [] (by decide) rfl rfl) rfl fun _ _ _ h => ?_
    have g3 := h.mem.pur 0 rfl
    refine gs h (o_conv rfl t_q43 t_u3) rfl fun _ _ _ h => ?_
    obtain ⟨x2, ex2, H⟩ := bindE H
    refine gs h (o_ixf (K := (Kd.int .i64)) 3 rfl rfl rfl ex2 t_r41) rfl fun _ _ _ h => ?_
    obtain ⟨y1, ey1, H⟩ := ltE H
    refine gs0 h (o_sar (K := (Kd.int .i64)) 3 rfl rfl rfl (pv_int (wrap_in _ _)) ex2 t_w3) fun _ _ _ h => ?_
    rw [ey1] at h
    refine GoR.done ?_
    refine Go.inBlock ?_
    refine Go.reg ?_
    refine gs h (o_bin rfl rfl rfl) rfl fun _ _ _ h => ?_
    refine gs h (o_move rfl) rfl fun _ _ _ h => ?_
    refine GoR.done ?_
    have e_ := som H; subst e_
    exact Go.inLoop (nx_in i1 _ _ (wrap_in _ _) (h.wk (by rfl) [2, 3, 4] (by decide) (by rfl)))
   ·have H := ifF c2 H
    refine g_f h rfl c2 ?_
    refine Go.exit rfl ?_
    have e_ := som H; subst e_
    exact J1 s1.2 b3 _ _ (nx_out i1).symm (h.wk (by rfl) [0, 1, 2] (by decide) (by rfl))
  ·exact I_ _ _ (show InR .i64 0 by decide) (h.wk (by rfl) [2, 0, 1] (by decide) (by rfl))
def udp_get.g (k_ : Nat) (a1 : List Int) (a2 : Int) (a3 : Int) : Option (TUdp × (Option Tfault)) :=
  (if decide ((a1.length : Int) < 8) = true then some (((⟨0, 0, []⟩ : TUdp), (some (⟨160⟩ : Tfault)))) else (loopK k_ (fun s1 => (if decide (s1.1 < 4) = true then (cut a1 (IntKind.i64.wrap (2 * s1.1)) (IntKind.i64.wrap ((IntKind.i64.wrap (2 * s1.1)) + 2))).bind fun x1 => (bits_Get.g k_ x1 true).bind fun r1 => (idx s1.2 s1.1).bind fun x2 => lt (s1.2.set s1.1.toNat (IntKind.i64.wrap r1)) fun y1 => some (.inl (IntKind.i64.wrap (s1.1 + 1), y1)) else some (.inr (s1.2)))) (0, (List.replicate 4 0 : List Int))).bind (fun j1 => (idx j1 2).bind fun x3 => lt (decide (x3 < 8)) fun y2 => (if y2 = true then some (((⟨0, 0, []⟩ : TUdp), (some (⟨161⟩ : Tfault)))) else (idx j1 2).bind fun x4 => lt (decide ((a1.length : Int) < x4)) fun y3 => (if y3 = true then some (((⟨0, 0, []⟩ : TUdp), (some (⟨160⟩ : Tfault)))) else (idx j1 2).bind fun x5 => (cut a1 0 x5).bind fun x6 => ((idx j1 3).bind fun x7 => (if (!decide (x7 = 0)) = true then (udp_covered.g k_ x6 a2 a3).bind fun r2 => (sum_Right.g k_ r2).bind fun r3 => some ((!r3)) else some (false))).bind (fun j2 => (if j2 = true then some (((⟨0, 0, []⟩ : TUdp), (some (⟨162⟩ : Tfault)))) else (idx j1 0).bind fun x8 => (idx j1 1).bind fun x9 => (cut x6 8 (x6.length : Int)).bind fun x10 => (slices_Clone_s_byte_byte.g k_ x10).bind fun r4 => some (((⟨x8, x9, r4⟩ : TUdp), none))))))))
theorem udp_get.le (k_ : Nat) (a1 : List Int) (a2 : Int) (a3 : Int) : Le (udp_get.g k_ a1 a2 a3) (udp_get.f a1 a2 a3) := by
 unfold udp_get.g udp_get.f
 repeat' (first | with_reducible refine le_loop fun _ => ?_ | with_reducible refine le_bind ?_ fun _ => ?_ | with_reducible refine le_ite ?_ ?_ | with_reducible refine le_lt fun _ => ?_ | with_reducible refine le_elim (fun _ => ?_) (fun _ => ?_) _ | with_reducible apply bits_Get.le | with_reducible apply slices_Clone_s_byte_byte.le | with_reducible apply sum_Right.le | with_reducible apply udp_covered.le | with_reducible exact le_refl _)
end Go.Proofs.YtfoffhdckcdjdaaDoor.S
