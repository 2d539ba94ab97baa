/- Contracts, printed by a program of this session. -/
import Derived.Test.YthjaancddmecpaaT6
import Derived.Test.YthjaancddmecpaaT8
namespace Go.Proofs.Ythjaancddmecpaa.S
open Go Go.SL Go.RowKit
set_option linter.unusedVariables false
set_option linter.unusedSimpArgs false
/-! drawbridge/drawbridgeref19.Put -/
noncomputable def ref19_Put.f (a1 : TSeg) (a2 : Int) (a3 : Int) : Option ((List Int) × Int) :=
  ((ref19_word.f a1.Src).bind fun r1 => (if (!r1) = true then some (true) else (ref19_word.f a1.Dst).bind fun r2 => (if (!r2) = true then some (true) else (ref19_word.f a1.Win).bind fun r3 => (if (!r3) = true then some (true) else (ref19_word.f a1.Mss).bind fun r4 => (if (!r4) = true then some (true) else (if decide (a1.Flags < 0) = true then some (true) else (if decide (63 < a1.Flags) = true then some (true) else some (decide (60000 < (a1.Data.length : Int)))))))))).bind (fun j1 => (if j1 = true then some (([], 2)) else ((if (!decide (a1.Mss = 0)) = true then (ref19_put.f (IntKind.u64.wrap a1.Mss) 2).bind fun r5 => (app ([2, 4] : List Int) r5).bind fun x1 => some (x1) else some ([]))).bind (fun j2 => (ref19_put.f (IntKind.u64.wrap a1.Src) 2).bind fun r6 => (ref19_put.f (IntKind.u64.wrap a1.Dst) 2).bind fun r7 => (app r6 r7).bind fun x2 => (ref19_put.f a1.Seq 4).bind fun r8 => (app x2 r8).bind fun x3 => (ref19_put.f a1.Ack 4).bind fun r9 => (app x3 r9).bind fun x4 => (app x4 ([IntKind.u8.wrap (IntKind.i64.wrap (80 + (IntKind.i64.wrap (4 * (j2.length : Int))))), IntKind.u8.wrap a1.Flags] : List Int)).bind fun x5 => (ref19_put.f (IntKind.u64.wrap a1.Win) 2).bind fun r10 => (app x5 r10).bind fun x6 => (app x6 ([0, 0, 0, 0] : List Int)).bind fun x7 => (app x7 j2).bind fun x8 => (app x8 a1.Data).bind fun x9 => (ref15_Pseudo.f a2 a3 6 (x9.length : Int)).bind fun r11 => (app r11 x9).bind fun x10 => (ref15_Sum.f x10).bind fun r12 => (idx x9 16).bind fun x11 => lt (x9.set (16 : Int).toNat (IntKind.u8.wrap (IntKind.i64.wrap (Int.tdiv r12 256)))) fun y1 => (idx y1 17).bind fun x12 => lt (y1.set (17 : Int).toNat (IntKind.u8.wrap (Int.tmod r12 256))) fun y2 => some ((y2, 0)))))
set_option maxRecDepth 100000 in
set_option maxHeartbeats 4000000 in
theorem ref19_Put.spc (v1 : Value) (a1 : TSeg) (a2 : Int) (ha2 : InR .u32 a2) (a3 : Int) (ha3 : InR .u32 a3) (r : (List Int) × Int) (H : ref19_Put.f a1 a2 a3 = some r) : Spc Try.prog 9 [v1, .int .u32 a2, .int .u32 a3] [Val KSeg v1 a1] [] (fun (s : Value) => .tuple #[s, .int .i64 r.2]) (fun s => [Ent.pur (InR .i64 r.2), Val (Kd.osl (Kd.int .u8)) s r.1]) := by
 unfold ref19_Put.f at H
 refine Spc.go Try.func9 rfl (by kernel_rfl) rfl rfl (all_cons (Val.per PSeg) all_nil) fun F a w h => ?_
 refine Go.seq ?_
 refine Go.reg ?_
 refine gs h (o_box (K := KSeg) rfl (pv_at PSeg 0 rfl)) rfl fun b1 _ _ h => ?_
 refine gs h (o_assign rfl) rfl fun _ _ _ h => ?_
 refine gs h (o_assign rfl) rfl fun _ _ _ h => ?_
 refine GoR.done ?_
 refine Go.seq ?_
 refine Go.seq ?_
 obtain ⟨o1, H, G1⟩ := bindE H
 refine g_cut (fun G => ∀ j1 (a : Act) (w : World), o1 = j1 → St Try.f9.ntmps F [(1, .int .u32 a2), (2, .int .u32 a3), (3, .pointer (some ⟨b1, 0, none⟩)), (48, .bool j1)] [Fld KSeg b1 0 a1] a w → G a w) 1 ?_ fun J1 => ?_
 ·intro j1 a w ho_ h
  rw [ho_] at G1
  have H := G1
  by_cases c7 : j1 = true
  ·have H := ifT c7 H
   refine g_t h rfl c7 ?_
   refine Go.seq ?_
   refine Go.reg ?_
   refine gs h (o_assign rfl) rfl fun _ _ _ h => ?_
   refine gs h (o_assign rfl) rfl fun _ _ _ h => ?_
   refine GoR.done ?_
   replace h := h.mm fun m => m.nilo (Kd.int .u8)
   rw [← som H]
   exact g_ret (vs := [.slice none 0 0, .int .i64 2]) h Try.func9 ⟨rfl, ⟨rfl, trivial⟩⟩ ⟨.slice none 0 0, rfl, ((h.mem.pick [0] (by decide) rfl).addpur (show InR .i64 2 by decide))⟩
  ·have H := ifF c7 H
   refine g_f h rfl c7 ?_
   refine Go.skip ?_
   refine Go.seq ?_
   refine Go.reg ?_
   refine gs h (o_assign rfl) rfl fun _ _ _ h => ?_
   refine GoR.done ?_
   refine Go.seq ?_
   obtain ⟨o2, H, G2⟩ := bindE H
   refine g_cut (fun G => ∀ j2 (v6 : Value) (a : Act) (w : World), o2 = j2 → St Try.f9.ntmps F [(1, .int .u32 a2), (2, .int .u32 a3), (3, .pointer (some ⟨b1, 0, none⟩)), (8, v6)] [Val (Kd.osl (Kd.int .u8)) v6 j2, Fld KSeg b1 0 a1] a w → G a w) 1 ?_ fun J2 => ?_
   ·intro j2 v6 a w ho_ h
    rw [ho_] at G2
    have H := G2
    refine Go.seq ?_
    replace h := h.wk (E' := [(1, .int .u32 a2), (2, .int .u32 a3), (3, .pointer (some ⟨b1, 0, none⟩)), (8, v6)]) (L' := [Val (Kd.osl (Kd.int .u8)) v6 j2, Fld KSeg b1 0 a1]) (by rfl) [0, 1] (by decide) (by rfl)
    obtain ⟨r6, er6, H⟩ := bindE H
    obtain ⟨r7, er7, H⟩ := bindE H
    obtain ⟨x2, ex2, H⟩ := bindE H
    obtain ⟨r8, er8, H⟩ := bindE H
    obtain ⟨x3, ex3, H⟩ := bindE H
    refine Go.draw (L := [Val (Kd.osl (Kd.int .u8)) v6 j2, Fld KSeg b1 0 a1]) h 17 [⟨[], [], [], false, .con (.pointer (some ⟨b1, 0, none⟩)), none, fun u => []⟩, ⟨[0], [], [], false, .con (.int .i64 a1.Src), none, fun u => [Ent.pur (InR .i64 a1.Src)]⟩, ⟨[0, 1], [], [], false, .con (.int .u64 (IntKind.u64.wrap a1.Src)), none, fun u => []⟩, ⟨[0, 1, 2], [], [], false, .own, none, fun u => [Val (Kd.osl (Kd.int .u8)) u r6]⟩, ⟨[], [], [], false, .con (.pointer (some ⟨b1, 1, none⟩)), none, fun u => []⟩, ⟨[4], [], [], false, .con (.int .i64 a1.Dst), none, fun u => [Ent.pur (InR .i64 a1.Dst)]⟩, ⟨[4, 5], [], [], false, .con (.int .u64 (IntKind.u64.wrap a1.Dst)), none, fun u => []⟩, ⟨[4, 5, 6], [], [], false, .own, none, fun u => [Val (Kd.osl (Kd.int .u8)) u r7]⟩, ⟨[0, 1, 2, 3, 4, 5, 6, 7], [3, 7], [3], false, .own, none, fun u => [Val (Kd.osl (Kd.int .u8)) u x2]⟩, ⟨[], [], [], false, .con (.pointer (some ⟨b1, 2, none⟩)), none, fun u => []⟩, ⟨[9], [], [], false, .con (.int .u32 a1.Seq), none, fun u => [Ent.pur (InR .u32 a1.Seq)]⟩, ⟨[9, 10], [10], [], false, .con (.int .u64 a1.Seq), none, fun u => []⟩, ⟨[9, 10, 11], [10], [], false, .own, none, fun u => [Val (Kd.osl (Kd.int .u8)) u r8]⟩, ⟨[0, 1, 2, 3, 4, 5, 6, 7, 8, 9, 10, 11, 12], [8, 12], [8], false, .own, none, fun u => [Val (Kd.osl (Kd.int .u8)) u x3]⟩, ⟨[], [], [], false, .con (.pointer (some ⟨b1, 3, none⟩)), none, fun u => []⟩, ⟨[14], [], [], false, .con (.int .u32 a1.Ack), none, fun u => [Ent.pur (InR .u32 a1.Ack)]⟩, ⟨[14, 15], [15], [], false, .con (.int .u64 a1.Ack), none, fun u => []⟩] rfl t_mxo (by kernel_rfl) (by rfl) ?_ fun f1 _ _ h => ?_
    ·exact obs_cons (ob_con rfl (gok_none rfl) rfl fun f1 => (o_fa rfl t_f25_0 rfl rfl)) (obs_cons (ob_con rfl (gok_none rfl) rfl fun f1 => (OpS.pur (fun F w m_ => (in2 (fd_sub sSeg_Src 1 rfl m_))) (o_lfx 1 rfl rfl sSeg_Src rfl X_int t_y3))) (obs_cons (ob_con rfl (gok_none rfl) rfl fun f1 => (o_conv rfl t_q3 t_u49)) (obs_cons (ob_own rfl (gok_none rfl) rfl fun f1 => (o_call (ref19_put.spc (IntKind.u64.wrap a1.Src) (wrap_in _ _) 2 (show InR .i64 2 by decide) r6 er6) rfl [] [] (by decide) rfl rfl)) (obs_cons (ob_con rfl (gok_none rfl) rfl fun f1 => (o_fa rfl t_f25_1 rfl rfl)) (obs_cons (ob_con rfl (gok_none rfl) rfl fun f1 => (OpS.pur (fun F w m_ => (in2 (fd_sub sSeg_Dst 1 rfl m_))) (o_lfx 1 rfl rfl sSeg_Dst rfl X_int t_y3))) (obs_cons (ob_con rfl (gok_none rfl) rfl fun f1 => (o_conv rfl t_q3 t_u49)) (obs_cons (ob_own rfl (gok_none rfl) rfl fun f1 => (o_call (ref19_put.spc (IntKind.u64.wrap a1.Dst) (wrap_in _ _) 2 (show InR .i64 2 by decide) r7 er7) rfl [] [] (by decide) rfl rfl)) (obs_cons (ob_own rfl (gok_none rfl) rfl fun f1 => (o_app (K := (Kd.int .u8)) 0 rfl rfl rfl (rd_own 1 rfl) ex2 t_a23 t_n23)) (obs_cons (ob_con rfl (gok_none rfl) rfl fun f1 => (o_fa rfl t_f25_2 rfl rfl)) (obs_cons (ob_con rfl (gok_none rfl) rfl fun f1 => (OpS.pur (fun F w m_ => (in2 (fd_sub sSeg_Seq 1 rfl m_))) (o_lfx 1 rfl rfl sSeg_Seq rfl X_int t_y22))) (obs_cons (ob_con rfl (gok_none rfl) rfl fun f1 => (OpS.fact (p := InR .u32 a1.Seq) (fun F w m_ => (Mem.pur 0 rfl m_)) fun g10 => (o_convw rfl t_q22 t_u49 g10 rfl))) (obs_cons (ob_own rfl (gok_none rfl) rfl fun f1 => (OpS.fact (p := InR .u64 a1.Seq) (fun F w m_ => (inr_wid (k := .u32) (k' := .u64) (Mem.pur 0 rfl m_) rfl)) fun g11 => (o_call (ref19_put.spc a1.Seq g11 4 (show InR .i64 4 by decide) r8 er8) rfl [] [] (by decide) rfl rfl))) (obs_cons (ob_own rfl (gok_none rfl) rfl fun f1 => (o_app (K := (Kd.int .u8)) 0 rfl rfl rfl (rd_own 1 rfl) ex3 t_a23 t_n23)) (obs_cons (ob_con rfl (gok_none rfl) rfl fun f1 => (o_fa rfl t_f25_3 rfl rfl)) (obs_cons (ob_con rfl (gok_none rfl) rfl fun f1 => (OpS.pur (fun F w m_ => (in2 (fd_sub sSeg_Ack 1 rfl m_))) (o_lfx 1 rfl rfl sSeg_Ack rfl X_int t_y22))) (obs_cons (ob_con rfl (gok_none rfl) rfl fun f1 => (OpS.fact (p := InR .u32 a1.Ack) (fun F w m_ => (Mem.pur 0 rfl m_)) fun g12 => (o_convw rfl t_q22 t_u49 g12 rfl))) (obs_nil)))))))))))))))))
    replace h := h.wk (E' := [(1, .int .u32 a2), (2, .int .u32 a3), (3, .pointer (some ⟨b1, 0, none⟩)), (8, v6), (71, (f1 13)), (74, .int .u64 a1.Ack)]) (L' := [Ent.pur (InR .i64 a1.Src), Ent.pur (InR .i64 a1.Dst), Val (Kd.osl (Kd.int .u8)) (f1 7) r7, Ent.pur (InR .u32 a1.Seq), Val (Kd.osl (Kd.int .u8)) (f1 12) r8, Val (Kd.osl (Kd.int .u8)) (f1 13) x3, Ent.pur (InR .u32 a1.Ack), Val (Kd.osl (Kd.int .u8)) v6 j2, Fld KSeg b1 0 a1]) (by kernel_rfl) [0, 1, 2, 3, 4, 5, 6, 7, 8] (by decide) (by kernel_rfl)
    have g13 := (fun m_ => (inr_wid (k := .u32) (k' := .u64) (Mem.pur 6 rfl m_) rfl)) h.mem
    obtain ⟨r9, er9, H⟩ := bindE H
    refine gs h (o_call (ref19_put.spc a1.Ack g13 4 (show InR .i64 4 by decide) r9 er9) rfl [] [] (by decide) rfl rfl) rfl fun v12 _ _ h => ?_
    obtain ⟨x4, ex4, H⟩ := bindE H
    refine gs h (o_app (K := (Kd.int .u8)) 6 rfl rfl rfl (rd_own 0 rfl) ex4 t_a23 t_n23) rfl fun v13 _ _ h => ?_
    refine gs h (o_assign rfl) rfl fun _ _ _ h => ?_
    refine GoR.done ?_
    refine Go.seq ?_
    replace h := h.wk (E' := [(1, .int .u32 a2), (2, .int .u32 a3), (3, .pointer (some ⟨b1, 0, none⟩)), (8, v6), (9, v13)]) (L' := [Val (Kd.osl (Kd.int .u8)) v13 x4, Val (Kd.osl (Kd.int .u8)) v12 r9, Ent.pur (InR .i64 a1.Src), Ent.pur (InR .i64 a1.Dst), Val (Kd.osl (Kd.int .u8)) (f1 7) r7, Ent.pur (InR .u32 a1.Seq), Val (Kd.osl (Kd.int .u8)) (f1 12) r8, Ent.pur (InR .u32 a1.Ack), Val (Kd.osl (Kd.int .u8)) v6 j2, Fld KSeg b1 0 a1]) (by rfl) [6, 0, 1, 2, 3, 4, 5, 7, 8, 9] (by decide) (by rfl)
    obtain ⟨x5, ex5, H⟩ := bindE H
    refine Go.draw (L := [Val (Kd.osl (Kd.int .u8)) v12 r9, Ent.pur (InR .i64 a1.Src), Ent.pur (InR .i64 a1.Dst), Val (Kd.osl (Kd.int .u8)) (f1 7) r7, Ent.pur (InR .u32 a1.Seq), Val (Kd.osl (Kd.int .u8)) (f1 12) r8, Ent.pur (InR .u32 a1.Ack), Val (Kd.osl (Kd.int .u8)) v6 j2, Fld KSeg b1 0 a1]) h 14 [⟨[], [], [], false, .con (v13), none, fun u => []⟩, ⟨[], [], [], false, .con (v6), none, fun u => []⟩, ⟨[1], [], [], false, .con (.int .i64 (j2.length : Int)), none, fun u => []⟩, ⟨[1, 2], [], [], false, .con (.int .i64 (IntKind.i64.wrap (4 * (j2.length : Int)))), none, fun u => []⟩, ⟨[1, 2, 3], [], [], false, .con (.int .i64 (IntKind.i64.wrap (80 + (IntKind.i64.wrap (4 * (j2.length : Int)))))), none, fun u => []⟩, ⟨[1, 2, 3, 4], [], [], false, .con (.int .u8 (IntKind.u8.wrap (IntKind.i64.wrap (80 + (IntKind.i64.wrap (4 * (j2.length : Int))))))), none, fun u => []⟩, ⟨[], [], [], false, .con (.pointer (some ⟨b1, 4, none⟩)), none, fun u => []⟩, ⟨[6], [], [], false, .con (.int .i64 a1.Flags), none, fun u => [Ent.pur (InR .i64 a1.Flags)]⟩, ⟨[6, 7], [], [], false, .con (.int .u8 (IntKind.u8.wrap a1.Flags)), none, fun u => []⟩, ⟨[1, 2, 3, 4, 5, 6, 7, 8], [], [], false, .own, none, fun u => [Val (Kd.osl (Kd.int .u8)) u ([IntKind.u8.wrap (IntKind.i64.wrap (80 + (IntKind.i64.wrap (4 * (j2.length : Int))))), IntKind.u8.wrap a1.Flags] : List Int)]⟩, ⟨[0, 1, 2, 3, 4, 5, 6, 7, 8, 9], [14, 9], [14], false, .own, none, fun u => [Val (Kd.osl (Kd.int .u8)) u x5]⟩, ⟨[], [], [], false, .con (.pointer (some ⟨b1, 5, none⟩)), none, fun u => []⟩, ⟨[11], [], [], false, .con (.int .i64 a1.Win), none, fun u => [Ent.pur (InR .i64 a1.Win)]⟩, ⟨[11, 12], [], [], false, .con (.int .u64 (IntKind.u64.wrap a1.Win)), none, fun u => []⟩, ⟨[], [], [], false, .con undef, none, fun u => [Val (Kd.osl (Kd.int .u8)) v13 x4]⟩] rfl t_mxo (by kernel_rfl) (by rfl) ?_ fun f2 _ _ h => ?_
    ·exact obs_cons (ob_con rfl (gok_none rfl) rfl fun f2 => (o_move rfl)) (obs_cons (ob_con rfl (gok_none rfl) rfl fun f2 => (o_move rfl)) (obs_cons (ob_con rfl (gok_none rfl) rfl fun f2 => (o_ln rfl (rd_own 7 rfl) t_v23)) (obs_cons (ob_con rfl (gok_none rfl) rfl fun f2 => (o_bin rfl rfl rfl)) (obs_cons (ob_con rfl (gok_none rfl) rfl fun f2 => (o_bin rfl rfl rfl)) (obs_cons (ob_con rfl (gok_none rfl) rfl fun f2 => (o_conv rfl t_q3 t_u5)) (obs_cons (ob_con rfl (gok_none rfl) rfl fun f2 => (o_fa rfl t_f25_4 rfl rfl)) (obs_cons (ob_con rfl (gok_none rfl) rfl fun f2 => (OpS.pur (fun F w m_ => (in2 (fd_sub sSeg_Flags 8 rfl m_))) (o_lfx 8 rfl rfl sSeg_Flags rfl X_int t_y3))) (obs_cons (ob_con rfl (gok_none rfl) rfl fun f2 => (o_conv rfl t_q3 t_u5)) (obs_cons (ob_own rfl (gok_none rfl) rfl fun f2 => (o_bs (K := (Kd.int .u8)) (vs := [.int .u8 (IntKind.u8.wrap (IntKind.i64.wrap (80 + (IntKind.i64.wrap (4 * (j2.length : Int)))))), .int .u8 (IntKind.u8.wrap a1.Flags)]) (xs := ([IntKind.u8.wrap (IntKind.i64.wrap (80 + (IntKind.i64.wrap (4 * (j2.length : Int))))), IntKind.u8.wrap a1.Flags] : List Int)) rfl rfl (pvs_cons (pv_int (wrap_in _ _)) (pvs_cons (pv_int (wrap_in _ _)) pvs_nil)) t_a23 (by decide) (by decide))) (obs_cons (ob_own rfl (gok_none rfl) rfl fun f2 => (o_app (K := (Kd.int .u8)) 0 rfl rfl rfl (rd_own 1 rfl) ex5 t_a23 t_n23)) (obs_cons (ob_con rfl (gok_none rfl) rfl fun f2 => (o_fa rfl t_f25_5 rfl rfl)) (obs_cons (ob_con rfl (gok_none rfl) rfl fun f2 => (OpS.pur (fun F w m_ => (in2 (fd_sub sSeg_Win 8 rfl m_))) (o_lfx 8 rfl rfl sSeg_Win rfl X_int t_y3))) (obs_cons (ob_con rfl (gok_none rfl) rfl fun f2 => (o_conv rfl t_q3 t_u49)) (obs_nil))))))))))))))
    replace h := h.wk (E' := [(1, .int .u32 a2), (2, .int .u32 a3), (3, .pointer (some ⟨b1, 0, none⟩)), (8, v6), (9, v13), (87, (f2 10)), (90, .int .u64 (IntKind.u64.wrap a1.Win))]) (L' := [Ent.pur (InR .i64 a1.Flags), Val (Kd.osl (Kd.int .u8)) (f2 9) ([IntKind.u8.wrap (IntKind.i64.wrap (80 + (IntKind.i64.wrap (4 * (j2.length : Int))))), IntKind.u8.wrap a1.Flags] : List Int), Val (Kd.osl (Kd.int .u8)) (f2 10) x5, Ent.pur (InR .i64 a1.Win), Val (Kd.osl (Kd.int .u8)) v12 r9, Ent.pur (InR .i64 a1.Src), Ent.pur (InR .i64 a1.Dst), Val (Kd.osl (Kd.int .u8)) (f1 7) r7, Ent.pur (InR .u32 a1.Seq), Val (Kd.osl (Kd.int .u8)) (f1 12) r8, Ent.pur (InR .u32 a1.Ack), Val (Kd.osl (Kd.int .u8)) v6 j2, Fld KSeg b1 0 a1]) (by kernel_rfl) [0, 1, 2, 3, 4, 5, 6, 7, 8, 9, 10, 11, 12] (by decide) (by kernel_rfl)
    obtain ⟨r10, er10, H⟩ := bindE H
    refine gs h (o_call (ref19_put.spc (IntKind.u64.wrap a1.Win) (wrap_in _ _) 2 (show InR .i64 2 by decide) r10 er10) rfl [] [] (by decide) rfl rfl) rfl fun v16 _ _ h => ?_
    obtain ⟨x6, ex6, H⟩ := bindE H
    refine gs h (o_app (K := (Kd.int .u8)) 3 rfl rfl rfl (rd_own 0 rfl) ex6 t_a23 t_n23) rfl fun v17 _ _ h => ?_
    refine gs h (o_assign rfl) rfl fun _ _ _ h => ?_
    refine GoR.done ?_
    refine Go.seq ?_
    replace h := h.wk (E' := [(1, .int .u32 a2), (2, .int .u32 a3), (3, .pointer (some ⟨b1, 0, none⟩)), (8, v6), (9, v17)]) (L' := [Val (Kd.osl (Kd.int .u8)) v17 x6, Val (Kd.osl (Kd.int .u8)) v16 r10, Ent.pur (InR .i64 a1.Flags), Val (Kd.osl (Kd.int .u8)) (f2 9) ([IntKind.u8.wrap (IntKind.i64.wrap (80 + (IntKind.i64.wrap (4 * (j2.length : Int))))), IntKind.u8.wrap a1.Flags] : List Int), Ent.pur (InR .i64 a1.Win), Val (Kd.osl (Kd.int .u8)) v12 r9, Ent.pur (InR .i64 a1.Src), Ent.pur (InR .i64 a1.Dst), Val (Kd.osl (Kd.int .u8)) (f1 7) r7, Ent.pur (InR .u32 a1.Seq), Val (Kd.osl (Kd.int .u8)) (f1 12) r8, Ent.pur (InR .u32 a1.Ack), Val (Kd.osl (Kd.int .u8)) v6 j2, Fld KSeg b1 0 a1]) (by rfl) [3, 0, 1, 2, 4, 5, 6, 7, 8, 9, 10, 11, 12, 13] (by decide) (by rfl)
    obtain ⟨x7, ex7, H⟩ := bindE H
    obtain ⟨x8, ex8, H⟩ := bindE H
    refine Go.draw (L := [Val (Kd.osl (Kd.int .u8)) v16 r10, Ent.pur (InR .i64 a1.Flags), Val (Kd.osl (Kd.int .u8)) (f2 9) ([IntKind.u8.wrap (IntKind.i64.wrap (80 + (IntKind.i64.wrap (4 * (j2.length : Int))))), IntKind.u8.wrap a1.Flags] : List Int), Ent.pur (InR .i64 a1.Win), Val (Kd.osl (Kd.int .u8)) v12 r9, Ent.pur (InR .i64 a1.Src), Ent.pur (InR .i64 a1.Dst), Val (Kd.osl (Kd.int .u8)) (f1 7) r7, Ent.pur (InR .u32 a1.Seq), Val (Kd.osl (Kd.int .u8)) (f1 12) r8, Ent.pur (InR .u32 a1.Ack), Val (Kd.osl (Kd.int .u8)) v6 j2, Fld KSeg b1 0 a1]) h 7 [⟨[], [], [], false, .con (v17), none, fun u => []⟩, ⟨[], [], [], false, .own, none, fun u => [Val (Kd.osl (Kd.int .u8)) u ([0, 0, 0, 0] : List Int)]⟩, ⟨[0, 1], [7, 1], [7], false, .own, none, fun u => [Val (Kd.osl (Kd.int .u8)) u x7]⟩, ⟨[], [], [], false, .con (v6), none, fun u => []⟩, ⟨[0, 1, 2, 3], [2], [2], false, .own, none, fun u => [Val (Kd.osl (Kd.int .u8)) u x8]⟩, ⟨[], [], [], false, .con (.pointer (some ⟨b1, 7, none⟩)), none, fun u => []⟩, ⟨[5], [], [], false, .own, none, fun u => [Val (Kd.sl (Kd.int .u8)) u a1.Data]⟩, ⟨[], [], [], false, .con undef, none, fun u => [Val (Kd.osl (Kd.int .u8)) v17 x6]⟩] rfl t_mxo (by kernel_rfl) (by rfl) ?_ fun f3 _ _ h => ?_
    ·exact obs_cons (ob_con rfl (gok_none rfl) rfl fun f3 => (o_move rfl)) (obs_cons (ob_own rfl (gok_none rfl) rfl fun f3 => (o_bs (K := (Kd.int .u8)) (vs := [.int .u8 0, .int .u8 0, .int .u8 0, .int .u8 0]) (xs := ([0, 0, 0, 0] : List Int)) rfl rfl (pvs_cons (pv_int (show InR .u8 0 by decide)) (pvs_cons (pv_int (show InR .u8 0 by decide)) (pvs_cons (pv_int (show InR .u8 0 by decide)) (pvs_cons (pv_int (show InR .u8 0 by decide)) pvs_nil)))) t_a23 (by decide) (by decide))) (obs_cons (ob_own rfl (gok_none rfl) rfl fun f3 => (o_app (K := (Kd.int .u8)) 0 rfl rfl rfl (rd_own 1 rfl) ex7 t_a23 t_n23)) (obs_cons (ob_con rfl (gok_none rfl) rfl fun f3 => (o_move rfl)) (obs_cons (ob_own rfl (gok_none rfl) rfl fun f3 => (o_app (K := (Kd.int .u8)) 0 rfl rfl rfl (rd_own 12 rfl) ex8 t_a23 t_n23)) (obs_cons (ob_con rfl (gok_none rfl) rfl fun f3 => (o_fa rfl t_f25_7 rfl rfl)) (obs_cons (ob_own rfl (gok_none rfl) rfl fun f3 => (o_lfv 12 rfl rfl sSeg_Data rfl Per_sl t_y23)) (obs_nil)))))))
    replace h := h.wk (E' := [(1, .int .u32 a2), (2, .int .u32 a3), (9, v17), (97, (f3 4)), (99, (f3 6))]) (L' := [Val (Kd.osl (Kd.int .u8)) (f3 1) ([0, 0, 0, 0] : List Int), Val (Kd.osl (Kd.int .u8)) (f3 4) x8, Val (Kd.sl (Kd.int .u8)) (f3 6) a1.Data, Val (Kd.osl (Kd.int .u8)) v16 r10, Ent.pur (InR .i64 a1.Flags), Val (Kd.osl (Kd.int .u8)) (f2 9) ([IntKind.u8.wrap (IntKind.i64.wrap (80 + (IntKind.i64.wrap (4 * (j2.length : Int))))), IntKind.u8.wrap a1.Flags] : List Int), Ent.pur (InR .i64 a1.Win), Val (Kd.osl (Kd.int .u8)) v12 r9, Ent.pur (InR .i64 a1.Src), Ent.pur (InR .i64 a1.Dst), Val (Kd.osl (Kd.int .u8)) (f1 7) r7, Ent.pur (InR .u32 a1.Seq), Val (Kd.osl (Kd.int .u8)) (f1 12) r8, Ent.pur (InR .u32 a1.Ack), Val (Kd.osl (Kd.int .u8)) v6 j2, Fld KSeg b1 0 a1]) (by kernel_rfl) [0, 1, 2, 3, 4, 5, 6, 7, 8, 9, 10, 11, 12, 13, 14, 15] (by decide) (by kernel_rfl)
    obtain ⟨x9, ex9, H⟩ := bindE H
    refine gs h (o_app (K := (Kd.int .u8)) 1 rfl rfl rfl (rd_at 2 rfl) ex9 t_a23 t_n23) rfl fun v22 _ _ h => ?_
    refine gs h (o_assign rfl) rfl fun _ _ _ h => ?_
    refine GoR.done ?_
    refine Go.seq ?_
    refine Go.reg ?_
    refine gs h (o_move rfl) rfl fun _ _ _ h => ?_
    refine gs h (o_move rfl) rfl fun _ _ _ h => ?_
    refine gs h (o_move rfl) rfl fun _ _ _ h => ?_
    have g14 := (len_own 1 rfl h.mem)
    refine gs h (o_ln rfl (rd_own 1 rfl) t_v23) rfl fun _ _ _ h => ?_
    obtain ⟨r11, er11, H⟩ := bindE H
    refine gs h (o_call (ref15_Pseudo.spc a2 ha2 a3 ha3 6 (show InR .i64 6 by decide) (x9.length : Int) g14 r11 er11) rfl [] [] (by decide) rfl rfl) rfl fun v23 _ _ h => ?_
    refine gs h (o_move rfl) rfl fun _ _ _ h => ?_
    obtain ⟨x10, ex10, H⟩ := bindE H
    refine gs h (o_app (K := (Kd.int .u8)) 0 rfl rfl rfl (rd_own 2 rfl) ex10 t_a23 t_n23) rfl fun v24 _ _ h => ?_
    replace h := h.mm fun m => m.freeze 0 rfl
    obtain ⟨r12, er12, H⟩ := bindE H
    refine gs h (o_call (ref15_Sum.spc v24 x10 r12 er12) rfl [0] [] (by decide) rfl rfl) rfl fun _ _ _ h => ?_
    have g15 := h.mem.pur 0 rfl
    refine gs h (o_assign rfl) rfl fun _ _ _ h => ?_
    refine GoR.done ?_
    refine Go.seq ?_
    refine Go.reg ?_
    refine gs h (o_move rfl) rfl fun _ _ _ h => ?_
    refine gs h (o_move rfl) rfl fun _ _ _ h => ?_
    refine gs h (o_move rfl) rfl fun _ _ _ h => ?_
    refine gs h (o_quo rfl rfl (show (256 : Int) ≠ 0 by decide)) rfl fun _ _ _ h => ?_
    refine gs h (o_conv rfl t_q3 t_u5) rfl fun _ _ _ h => ?_
    refine gs h (o_move rfl) rfl fun _ _ _ h => ?_
    refine gs h (o_rem rfl rfl (show (256 : Int) ≠ 0 by decide)) rfl fun _ _ _ h => ?_
    refine gs h (o_conv rfl t_q3 t_u5) rfl fun _ _ _ h => ?_
    obtain ⟨x11, ex11, H⟩ := bindE H
    refine gs h (o_ix rfl rfl (rd_own 3 rfl) ex11 t_v23) rfl fun _ _ _ h => ?_
    obtain ⟨y1, ey1, H⟩ := ltE H
    refine gs0 h (o_ste 3 rfl rfl rfl (pv_int (wrap_in _ _)) ex11 t_w5 (by decide)) fun _ _ _ h => ?_
    rw [ey1] at h
    obtain ⟨x12, ex12, H⟩ := bindE H
    refine gs h (o_ix rfl rfl (rd_own 3 rfl) ex12 t_v23) rfl fun _ _ _ h => ?_
    obtain ⟨y2, ey2, H⟩ := ltE H
    refine gs0 h (o_ste 3 rfl rfl rfl (pv_int (wrap_in _ _)) ex12 t_w5 (by decide)) fun _ _ _ h => ?_
    rw [ey2] at h
    refine GoR.done ?_
    refine Go.seq ?_
    refine Go.reg ?_
    refine gs h (o_move rfl) rfl fun _ _ _ h => ?_
    refine gs h (o_assign rfl) rfl fun _ _ _ h => ?_
    refine gs h (o_assign rfl) rfl fun _ _ _ h => ?_
    refine GoR.done ?_
    rw [← som H]
    exact g_ret (vs := [v22, .int .i64 0]) h Try.func9 ⟨rfl, ⟨rfl, trivial⟩⟩ ⟨v22, rfl, ((h.mem.pick [3] (by decide) rfl).addpur (show InR .i64 0 by decide))⟩
   refine Go.seq ?_
   refine Go.reg ?_
   refine gs h (o_fa rfl t_f25_6 rfl rfl) rfl fun _ _ _ h => ?_
   have g8 := (in2 (fd_sub sSeg_Mss 0 rfl h.mem))
   refine gs h (o_lfx 0 rfl rfl sSeg_Mss rfl X_int t_y3) rfl fun _ _ _ h => ?_
   refine gs h (o_bin rfl rfl rfl) rfl fun _ _ _ h => ?_
   refine GoR.done ?_
   by_cases c8 : (!decide (a1.Mss = 0)) = true
   ·have H := ifT c8 H
    refine g_t h rfl c8 ?_
    refine Go.reg ?_
    refine gs h (o_bs (K := (Kd.int .u8)) (vs := [.int .u8 2, .int .u8 4]) (xs := ([2, 4] : List Int)) rfl rfl (pvs_cons (pv_int (show InR .u8 2 by decide)) (pvs_cons (pv_int (show InR .u8 4 by decide)) pvs_nil)) t_a23 (by decide) (by decide)) rfl fun v3 _ _ h => ?_
    refine gs h (o_fa rfl t_f25_6 rfl rfl) rfl fun _ _ _ h => ?_
    have g9 := (in2 (fd_sub sSeg_Mss 1 rfl h.mem))
    refine gs h (o_lfx 1 rfl rfl sSeg_Mss rfl X_int t_y3) rfl fun _ _ _ h => ?_
    refine gs h (o_conv rfl t_q3 t_u49) rfl fun _ _ _ h => ?_
    obtain ⟨r5, er5, H⟩ := bindE H
    refine gs h (o_call (ref19_put.spc (IntKind.u64.wrap a1.Mss) (wrap_in _ _) 2 (show InR .i64 2 by decide) r5 er5) rfl [] [] (by decide) rfl rfl) rfl fun v4 _ _ h => ?_
    obtain ⟨x1, ex1, H⟩ := bindE H
    refine gs h (o_app (K := (Kd.int .u8)) 1 rfl rfl rfl (rd_own 0 rfl) ex1 t_a23 t_n23) rfl fun v5 _ _ h => ?_
    refine gs h (o_assign rfl) rfl fun _ _ _ h => ?_
    refine GoR.done ?_
    exact J2 x1 v5 _ _ (som H).symm (h.wk (by rfl) [1, 2] (by decide) (by rfl))
   ·have H := ifF c8 H
    refine g_f h rfl c8 ?_
    refine Go.skip ?_
    replace h := h.mm fun m => m.nilo (Kd.int .u8)
    exact J2 [] (.slice none 0 0) _ _ (som H).symm (h.wk (by rfl) [0, 1] (by decide) (by rfl))
 refine Go.reg ?_
 refine gs h (o_fa rfl t_f25_0 rfl rfl) rfl fun _ _ _ h => ?_
 have g1 := (in2 (fd_sub sSeg_Src 0 rfl h.mem))
 refine gs h (o_lfx 0 rfl rfl sSeg_Src rfl X_int t_y3) rfl fun _ _ _ h => ?_
 obtain ⟨r1, er1, H⟩ := bindE H
 refine gs h (o_call (ref19_word.spc a1.Src g1 r1 er1) rfl [] [] (by decide) rfl rfl) rfl fun _ _ _ h => ?_
 refine gs h (o_not rfl) rfl fun _ _ _ h => ?_
 refine gs h (o_move rfl) rfl fun _ _ _ h => ?_
 by_cases c1 : (!r1) = true
 ·have H := ifT c1 H
  refine gk h rfl rfl (nb_t c1) rfl fun _ h => ?_
  refine gk h rfl rfl (nb_t c1) rfl fun _ h => ?_
  refine gk h rfl rfl (nb_t c1) rfl fun _ h => ?_
  refine gk h rfl rfl (nb_t c1) rfl fun _ h => ?_
  refine gs h (o_pickT rfl rfl c1) rfl fun _ _ _ h => ?_
  refine gs h (o_move rfl) rfl fun _ _ _ h => ?_
  refine gk h rfl rfl (nb_t rfl) rfl fun _ h => ?_
  refine gk h rfl rfl (nb_t rfl) rfl fun _ h => ?_
  refine gk h rfl rfl (nb_t rfl) rfl fun _ h => ?_
  refine gk h rfl rfl (nb_t rfl) rfl fun _ h => ?_
  refine gs h (o_pickT rfl rfl rfl) rfl fun _ _ _ h => ?_
  refine gs h (o_move rfl) rfl fun _ _ _ h => ?_
  refine gk h rfl rfl (nb_t rfl) rfl fun _ h => ?_
  refine gk h rfl rfl (nb_t rfl) rfl fun _ h => ?_
  refine gk h rfl rfl (nb_t rfl) rfl fun _ h => ?_
  refine gk h rfl rfl (nb_t rfl) rfl fun _ h => ?_
  refine gs h (o_pickT rfl rfl rfl) rfl fun _ _ _ h => ?_
  refine gs h (o_move rfl) rfl fun _ _ _ h => ?_
  refine gk h rfl rfl (nb_t rfl) rfl fun _ h => ?_
  refine gk h rfl rfl (nb_t rfl) rfl fun _ h => ?_
  refine gk h rfl rfl (nb_t rfl) rfl fun _ h => ?_
  refine gs h (o_pickT rfl rfl rfl) rfl fun _ _ _ h => ?_
  refine gs h (o_move rfl) rfl fun _ _ _ h => ?_
  refine gk h rfl rfl (nb_t rfl) rfl fun _ h => ?_
  refine gk h rfl rfl (nb_t rfl) rfl fun _ h => ?_
  refine gk h rfl rfl (nb_t rfl) rfl fun _ h => ?_
  refine gs h (o_pickT rfl rfl rfl) rfl fun _ _ _ h => ?_
  refine gs h (o_move rfl) rfl fun _ _ _ h => ?_
  refine gk h rfl rfl (nb_t rfl) rfl fun _ h => ?_
  refine gk h rfl rfl (nb_t rfl) rfl fun _ h => ?_
  refine gk h rfl rfl (nb_t rfl) rfl fun _ h => ?_
  refine gk h rfl rfl (nb_t rfl) rfl fun _ h => ?_
  refine gs h (o_pickT rfl rfl rfl) rfl fun _ _ _ h => ?_
  refine GoR.done ?_
  exact J1 true _ _ (som H).symm (h.wk (by rfl) [0] (by decide) (by rfl))
 ·have H := ifF c1 H
  refine gg h rfl rfl (nbF c1) (o_fa rfl t_f25_1 rfl rfl) rfl fun _ _ _ h => ?_
  have g2 := (in2 (fd_sub sSeg_Dst 0 rfl h.mem))
  refine gg h rfl rfl (nbF c1) (o_lfx 0 rfl rfl sSeg_Dst rfl X_int t_y3) rfl fun _ _ _ h => ?_
  obtain ⟨r2, er2, H⟩ := bindE H
  refine gg h rfl rfl (nbF c1) (o_call (ref19_word.spc a1.Dst g2 r2 er2) rfl [] [] (by decide) rfl rfl) rfl fun _ _ _ h => ?_
  refine gg h rfl rfl (nbF c1) (o_not rfl) rfl fun _ _ _ h => ?_
  refine gs h (o_pickF rfl rfl c1) rfl fun _ _ _ h => ?_
  refine gs h (o_move rfl) rfl fun _ _ _ h => ?_
  by_cases c2 : (!r2) = true
  ·have H := ifT c2 H
   refine gk h rfl rfl (nb_t c2) rfl fun _ h => ?_
   refine gk h rfl rfl (nb_t c2) rfl fun _ h => ?_
   refine gk h rfl rfl (nb_t c2) rfl fun _ h => ?_
   refine gk h rfl rfl (nb_t c2) rfl fun _ h => ?_
   refine gs h (o_pickT rfl rfl c2) rfl fun _ _ _ h => ?_
   refine gs h (o_move rfl) rfl fun _ _ _ h => ?_
   refine gk h rfl rfl (nb_t rfl) rfl fun _ h => ?_
   refine gk h rfl rfl (nb_t rfl) rfl fun _ h => ?_
   refine gk h rfl rfl (nb_t rfl) rfl fun _ h => ?_
   refine gk h rfl rfl (nb_t rfl) rfl fun _ h => ?_
   refine gs h (o_pickT rfl rfl rfl) rfl fun _ _ _ h => ?_
   refine gs h (o_move rfl) rfl fun _ _ _ h => ?_
   refine gk h rfl rfl (nb_t rfl) rfl fun _ h => ?_
   refine gk h rfl rfl (nb_t rfl) rfl fun _ h => ?_
   refine gk h rfl rfl (nb_t rfl) rfl fun _ h => ?_
   refine gs h (o_pickT rfl rfl rfl) rfl fun _ _ _ h => ?_
   refine gs h (o_move rfl) rfl fun _ _ _ h => ?_
   refine gk h rfl rfl (nb_t rfl) rfl fun _ h => ?_
   refine gk h rfl rfl (nb_t rfl) rfl fun _ h => ?_
   refine gk h rfl rfl (nb_t rfl) rfl fun _ h => ?_
   refine gs h (o_pickT rfl rfl rfl) rfl fun _ _ _ h => ?_
   refine gs h (o_move rfl) rfl fun _ _ _ h => ?_
   refine gk h rfl rfl (nb_t rfl) rfl fun _ h => ?_
   refine gk h rfl rfl (nb_t rfl) rfl fun _ h => ?_
   refine gk h rfl rfl (nb_t rfl) rfl fun _ h => ?_
   refine gk h rfl rfl (nb_t rfl) rfl fun _ h => ?_
   refine gs h (o_pickT rfl rfl rfl) rfl fun _ _ _ h => ?_
   refine GoR.done ?_
   exact J1 true _ _ (som H).symm (h.wk (by rfl) [0] (by decide) (by rfl))
  ·have H := ifF c2 H
   refine gg h rfl rfl (nbF c2) (o_fa rfl t_f25_5 rfl rfl) rfl fun _ _ _ h => ?_
   have g3 := (in2 (fd_sub sSeg_Win 0 rfl h.mem))
   refine gg h rfl rfl (nbF c2) (o_lfx 0 rfl rfl sSeg_Win rfl X_int t_y3) rfl fun _ _ _ h => ?_
   obtain ⟨r3, er3, H⟩ := bindE H
   refine gg h rfl rfl (nbF c2) (o_call (ref19_word.spc a1.Win g3 r3 er3) rfl [] [] (by decide) rfl rfl) rfl fun _ _ _ h => ?_
   refine gg h rfl rfl (nbF c2) (o_not rfl) rfl fun _ _ _ h => ?_
   refine gs h (o_pickF rfl rfl c2) rfl fun _ _ _ h => ?_
   refine gs h (o_move rfl) rfl fun _ _ _ h => ?_
   by_cases c3 : (!r3) = true
   ·have H := ifT c3 H
    refine gk h rfl rfl (nb_t c3) rfl fun _ h => ?_
    refine gk h rfl rfl (nb_t c3) rfl fun _ h => ?_
    refine gk h rfl rfl (nb_t c3) rfl fun _ h => ?_
    refine gk h rfl rfl (nb_t c3) rfl fun _ h => ?_
    refine gs h (o_pickT rfl rfl c3) rfl fun _ _ _ h => ?_
    refine gs h (o_move rfl) rfl fun _ _ _ h => ?_
    refine gk h rfl rfl (nb_t rfl) rfl fun _ h => ?_
    refine gk h rfl rfl (nb_t rfl) rfl fun _ h => ?_
    refine gk h rfl rfl (nb_t rfl) rfl fun _ h => ?_
    refine gs h (o_pickT rfl rfl rfl) rfl fun _ _ _ h => ?_
    refine gs h (o_move rfl) rfl fun _ _ _ h => ?_
    refine gk h rfl rfl (nb_t rfl) rfl fun _ h => ?_
    refine gk h rfl rfl (nb_t rfl) rfl fun _ h => ?_
    refine gk h rfl rfl (nb_t rfl) rfl fun _ h => ?_
    refine gs h (o_pickT rfl rfl rfl) rfl fun _ _ _ h => ?_
    refine gs h (o_move rfl) rfl fun _ _ _ h => ?_
    refine gk h rfl rfl (nb_t rfl) rfl fun _ h => ?_
    refine gk h rfl rfl (nb_t rfl) rfl fun _ h => ?_
    refine gk h rfl rfl (nb_t rfl) rfl fun _ h => ?_
    refine gk h rfl rfl (nb_t rfl) rfl fun _ h => ?_
    refine gs h (o_pickT rfl rfl rfl) rfl fun _ _ _ h => ?_
    refine GoR.done ?_
    exact J1 true _ _ (som H).symm (h.wk (by rfl) [0] (by decide) (by rfl))
   ·have H := ifF c3 H
    refine gg h rfl rfl (nbF c3) (o_fa rfl t_f25_6 rfl rfl) rfl fun _ _ _ h => ?_
    have g4 := (in2 (fd_sub sSeg_Mss 0 rfl h.mem))
    refine gg h rfl rfl (nbF c3) (o_lfx 0 rfl rfl sSeg_Mss rfl X_int t_y3) rfl fun _ _ _ h => ?_
    obtain ⟨r4, er4, H⟩ := bindE H
    refine gg h rfl rfl (nbF c3) (o_call (ref19_word.spc a1.Mss g4 r4 er4) rfl [] [] (by decide) rfl rfl) rfl fun _ _ _ h => ?_
    refine gg h rfl rfl (nbF c3) (o_not rfl) rfl fun _ _ _ h => ?_
    refine gs h (o_pickF rfl rfl c3) rfl fun _ _ _ h => ?_
    refine gs h (o_move rfl) rfl fun _ _ _ h => ?_
    by_cases c4 : (!r4) = true
    ·have H := ifT c4 H
     refine gk h rfl rfl (nb_t c4) rfl fun _ h => ?_
     refine gk h rfl rfl (nb_t c4) rfl fun _ h => ?_
     refine gk h rfl rfl (nb_t c4) rfl fun _ h => ?_
     refine gs h (o_pickT rfl rfl c4) rfl fun _ _ _ h => ?_
     refine gs h (o_move rfl) rfl fun _ _ _ h => ?_
     refine gk h rfl rfl (nb_t rfl) rfl fun _ h => ?_
     refine gk h rfl rfl (nb_t rfl) rfl fun _ h => ?_
     refine gk h rfl rfl (nb_t rfl) rfl fun _ h => ?_
     refine gs h (o_pickT rfl rfl rfl) rfl fun _ _ _ h => ?_
     refine gs h (o_move rfl) rfl fun _ _ _ h => ?_
     refine gk h rfl rfl (nb_t rfl) rfl fun _ h => ?_
     refine gk h rfl rfl (nb_t rfl) rfl fun _ h => ?_
     refine gk h rfl rfl (nb_t rfl) rfl fun _ h => ?_
     refine gk h rfl rfl (nb_t rfl) rfl fun _ h => ?_
     refine gs h (o_pickT rfl rfl rfl) rfl fun _ _ _ h => ?_
     refine GoR.done ?_
     exact J1 true _ _ (som H).symm (h.wk (by rfl) [0] (by decide) (by rfl))
    ·have H := ifF c4 H
     refine gg h rfl rfl (nbF c4) (o_fa rfl t_f25_4 rfl rfl) rfl fun _ _ _ h => ?_
     have g5 := (in2 (fd_sub sSeg_Flags 0 rfl h.mem))
     refine gg h rfl rfl (nbF c4) (o_lfx 0 rfl rfl sSeg_Flags rfl X_int t_y3) rfl fun _ _ _ h => ?_
     refine gg h rfl rfl (nbF c4) (o_bin rfl rfl rfl) rfl fun _ _ _ h => ?_
     refine gs h (o_pickF rfl rfl c4) rfl fun _ _ _ h => ?_
     refine gs h (o_move rfl) rfl fun _ _ _ h => ?_
     by_cases c5 : decide (a1.Flags < 0) = true
     ·have H := ifT c5 H
      refine gk h rfl rfl (nb_t c5) rfl fun _ h => ?_
      refine gk h rfl rfl (nb_t c5) rfl fun _ h => ?_
      refine gk h rfl rfl (nb_t c5) rfl fun _ h => ?_
      refine gs h (o_pickT rfl rfl c5) rfl fun _ _ _ h => ?_
      refine gs h (o_move rfl) rfl fun _ _ _ h => ?_
      refine gk h rfl rfl (nb_t rfl) rfl fun _ h => ?_
      refine gk h rfl rfl (nb_t rfl) rfl fun _ h => ?_
      refine gk h rfl rfl (nb_t rfl) rfl fun _ h => ?_
      refine gk h rfl rfl (nb_t rfl) rfl fun _ h => ?_
      refine gs h (o_pickT rfl rfl rfl) rfl fun _ _ _ h => ?_
      refine GoR.done ?_
      exact J1 true _ _ (som H).symm (h.wk (by rfl) [0] (by decide) (by rfl))
     ·have H := ifF c5 H
      refine gg h rfl rfl (nbF c5) (o_fa rfl t_f25_4 rfl rfl) rfl fun _ _ _ h => ?_
      have g6 := (in2 (fd_sub sSeg_Flags 0 rfl h.mem))
      refine gg h rfl rfl (nbF c5) (o_lfx 0 rfl rfl sSeg_Flags rfl X_int t_y3) rfl fun _ _ _ h => ?_
      refine gg h rfl rfl (nbF c5) (o_bin rfl rfl rfl) rfl fun _ _ _ h => ?_
      refine gs h (o_pickF rfl rfl c5) rfl fun _ _ _ h => ?_
      refine gs h (o_move rfl) rfl fun _ _ _ h => ?_
      by_cases c6 : decide (63 < a1.Flags) = true
      ·have H := ifT c6 H
       refine gk h rfl rfl (nb_t c6) rfl fun _ h => ?_
       refine gk h rfl rfl (nb_t c6) rfl fun _ h => ?_
       refine gk h rfl rfl (nb_t c6) rfl fun _ h => ?_
       refine gk h rfl rfl (nb_t c6) rfl fun _ h => ?_
       refine gs h (o_pickT rfl rfl c6) rfl fun _ _ _ h => ?_
       refine GoR.done ?_
       exact J1 true _ _ (som H).symm (h.wk (by rfl) [0] (by decide) (by rfl))
      ·have H := ifF c6 H
       refine gg h rfl rfl (nbF c6) (o_fa rfl t_f25_7 rfl rfl) rfl fun _ _ _ h => ?_
       refine gg h rfl rfl (nbF c6) (o_lfv 0 rfl rfl sSeg_Data rfl Per_sl t_y23) rfl fun v2 _ _ h => ?_
       have g7 := (len_at 0 rfl h.mem)
       refine gg h rfl rfl (nbF c6) (o_ln rfl (rd_at 0 rfl) t_v23) rfl fun _ _ _ h => ?_
       refine gg h rfl rfl (nbF c6) (o_bin rfl rfl rfl) rfl fun _ _ _ h => ?_
       refine gs h (o_pickF rfl rfl c6) rfl fun _ _ _ h => ?_
       refine GoR.done ?_
       exact J1 (decide (60000 < (a1.Data.length : Int))) _ _ (som H).symm (h.wk (by rfl) [1] (by decide) (by rfl))
def ref19_Put.g (k_ : Nat) (a1 : TSeg) (a2 : Int) (a3 : Int) : Option ((List Int) × Int) :=
  ((ref19_word.g k_ a1.Src).bind fun r1 => (if (!r1) = true then some (true) else (ref19_word.g k_ a1.Dst).bind fun r2 => (if (!r2) = true then some (true) else (ref19_word.g k_ a1.Win).bind fun r3 => (if (!r3) = true then some (true) else (ref19_word.g k_ a1.Mss).bind fun r4 => (if (!r4) = true then some (true) else (if decide (a1.Flags < 0) = true then some (true) else (if decide (63 < a1.Flags) = true then some (true) else some (decide (60000 < (a1.Data.length : Int)))))))))).bind (fun j1 => (if j1 = true then some (([], 2)) else ((if (!decide (a1.Mss = 0)) = true then (ref19_put.g k_ (IntKind.u64.wrap a1.Mss) 2).bind fun r5 => (app ([2, 4] : List Int) r5).bind fun x1 => some (x1) else some ([]))).bind (fun j2 => (ref19_put.g k_ (IntKind.u64.wrap a1.Src) 2).bind fun r6 => (ref19_put.g k_ (IntKind.u64.wrap a1.Dst) 2).bind fun r7 => (app r6 r7).bind fun x2 => (ref19_put.g k_ a1.Seq 4).bind fun r8 => (app x2 r8).bind fun x3 => (ref19_put.g k_ a1.Ack 4).bind fun r9 => (app x3 r9).bind fun x4 => (app x4 ([IntKind.u8.wrap (IntKind.i64.wrap (80 + (IntKind.i64.wrap (4 * (j2.length : Int))))), IntKind.u8.wrap a1.Flags] : List Int)).bind fun x5 => (ref19_put.g k_ (IntKind.u64.wrap a1.Win) 2).bind fun r10 => (app x5 r10).bind fun x6 => (app x6 ([0, 0, 0, 0] : List Int)).bind fun x7 => (app x7 j2).bind fun x8 => (app x8 a1.Data).bind fun x9 => (ref15_Pseudo.g k_ a2 a3 6 (x9.length : Int)).bind fun r11 => (app r11 x9).bind fun x10 => (ref15_Sum.g k_ x10).bind fun r12 => (idx x9 16).bind fun x11 => lt (x9.set (16 : Int).toNat (IntKind.u8.wrap (IntKind.i64.wrap (Int.tdiv r12 256)))) fun y1 => (idx y1 17).bind fun x12 => lt (y1.set (17 : Int).toNat (IntKind.u8.wrap (Int.tmod r12 256))) fun y2 => some ((y2, 0)))))
theorem ref19_Put.le (k_ : Nat) (a1 : TSeg) (a2 : Int) (a3 : Int) : Le (ref19_Put.g k_ a1 a2 a3) (ref19_Put.f a1 a2 a3) := by
 unfold ref19_Put.g ref19_Put.f
 repeat' (first | with_reducible refine le_loop fun _ => ?_ | with_reducible refine le_bind ?_ fun _ => ?_ | with_reducible refine le_ite ?_ ?_ | with_reducible refine le_lt fun _ => ?_ | with_reducible refine le_elim (fun _ => ?_) (fun _ => ?_) _ | with_reducible apply ref15_Pseudo.le | with_reducible apply ref15_Sum.le | with_reducible apply ref19_put.le | with_reducible apply ref19_word.le | with_reducible exact le_refl _)
/-! drawbridge/drawbridgeref01.Same -/
noncomputable def ref01_Same.f (a1 : List Int) (a2 : List Int) : Option (Bool) :=
  lt (decide (a1 = a2)) fun y1 => some (y1)
set_option maxRecDepth 100000 in
set_option maxHeartbeats 4000000 in
theorem ref01_Same.spc (v1 : Value) (a1 : List Int) (v2 : Value) (a2 : List Int) (r : Bool) (H : ref01_Same.f a1 a2 = some r) : Spc Try.prog 12 [v1, v2] [Val (Kd.sl (Kd.int .u8)) v1 a1, Val (Kd.sl (Kd.int .u8)) v2 a2] [] (fun (s : Unit) => .bool r) (fun s => []) := by
 unfold ref01_Same.f at H
 refine Spc.go Try.func12 rfl (by kernel_rfl) rfl rfl (all_cons (Val.per Per_sl) (all_cons (Val.per Per_sl) all_nil)) fun F a w h => ?_
 refine Go.seq ?_
 refine Go.reg ?_
 refine gs h (o_assign rfl) rfl fun _ _ _ h => ?_
 refine GoR.done ?_
 refine Go.seq ?_
 refine Go.reg ?_
 refine gs h (o_move rfl) rfl fun _ _ _ h => ?_
 have g1 := (rd_bs (rd_at 0 rfl) h.mem)
 refine gs h (o_b2s rfl (rd_at 0 rfl) t_u23 t_u5 t_u9) rfl fun _ _ _ h => ?_
 refine gs h (o_move rfl) rfl fun _ _ _ h => ?_
 have g2 := (rd_bs (rd_at 1 rfl) h.mem)
 refine gs h (o_b2s rfl (rd_at 1 rfl) t_u23 t_u5 t_u9) rfl fun _ _ _ h => ?_
 refine gs h (o_eqs rfl rfl g1 g2) rfl fun _ _ _ h => ?_
 obtain ⟨y1, ey1, H⟩ := ltE H
 refine gs h (o_assign' rfl (congrArg Value.bool ey1)) rfl fun _ _ _ h => ?_
 refine GoR.done ?_
 rw [← som H]
 exact g_ret (vs := [.bool y1]) h Try.func12 ⟨rfl, trivial⟩ ⟨(), rfl, (h.mem.pick [] (by decide) rfl)⟩
def ref01_Same.g (k_ : Nat) (a1 : List Int) (a2 : List Int) : Option (Bool) :=
  lt (decide (a1 = a2)) fun y1 => some (y1)
theorem ref01_Same.le (k_ : Nat) (a1 : List Int) (a2 : List Int) : Le (ref01_Same.g k_ a1 a2) (ref01_Same.f a1 a2) := by
 unfold ref01_Same.g ref01_Same.f
 repeat' (first | with_reducible refine le_loop fun _ => ?_ | with_reducible refine le_bind ?_ fun _ => ?_ | with_reducible refine le_ite ?_ ?_ | with_reducible refine le_lt fun _ => ?_ | with_reducible refine le_elim (fun _ => ?_) (fun _ => ?_) _ | with_reducible exact le_refl _)
/-! drawbridge/drawbridgeref19.Len -/
noncomputable def ref19_Len.f (a1 : TSeg) : Option (Int) :=
  lt (a1.Data.length : Int) fun y1 => ((if (!decide ((bits .and .i64 a1.Flags 2) = 0)) = true then lt (IntKind.i64.wrap (y1 + 1)) fun y2 => some (y2) else some (y1))).bind (fun j1 => ((if (!decide ((bits .and .i64 a1.Flags 1) = 0)) = true then lt (IntKind.i64.wrap (j1 + 1)) fun y3 => some (y3) else some (j1))).bind (fun j2 => some (j2)))
set_option maxRecDepth 100000 in
set_option maxHeartbeats 4000000 in
theorem ref19_Len.spc (v1 : Value) (a1 : TSeg) (r : Int) (H : ref19_Len.f a1 = some r) : Spc Try.prog 16 [v1] [Val KSeg v1 a1] [] (fun (s : Unit) => .int .i64 r) (fun s => [Ent.pur (InR .i64 r)]) := by
 unfold ref19_Len.f at H
 refine Spc.go Try.func16 rfl (by kernel_rfl) rfl rfl (all_cons (Val.per PSeg) all_nil) fun F a w h => ?_
 refine Go.seq ?_
 refine Go.reg ?_
 refine gs h (o_box (K := KSeg) rfl (pv_at PSeg 0 rfl)) rfl fun b1 _ _ h => ?_
 refine gs h (o_assign rfl) rfl fun _ _ _ h => ?_
 refine GoR.done ?_
 refine Go.seq ?_
 refine Go.reg ?_
 refine gs h (o_fa rfl t_f25_7 rfl rfl) rfl fun _ _ _ h => ?_
 refine gs h (o_lfv 0 rfl rfl sSeg_Data rfl Per_sl t_y23) rfl fun v2 _ _ h => ?_
 have g1 := (len_at 0 rfl h.mem)
 refine gs h (o_ln rfl (rd_at 0 rfl) t_v23) rfl fun _ _ _ h => ?_
 obtain ⟨y1, ey1, H⟩ := ltE H
 refine gs h (o_assign' rfl (congrArg (fun z => Value.int .i64 z) ey1)) rfl fun _ _ _ h => ?_
 refine GoR.done ?_
 refine Go.seq ?_
 obtain ⟨o1, H, G1⟩ := bindE H
 refine g_cut (fun G => ∀ j1 (a : Act) (w : World), o1 = j1 → InR .i64 j1 → St Try.f16.ntmps F [(1, .pointer (some ⟨b1, 0, none⟩)), (3, .int .i64 j1)] [Fld KSeg b1 0 a1] a w → G a w) 1 ?_ fun J1 => ?_
 ·intro j1 a w ho_ g3 h
  rw [ho_] at G1
  have H := G1
  refine Go.seq ?_
  obtain ⟨o2, H, G2⟩ := bindE H
  refine g_cut (fun G => ∀ j2 (a : Act) (w : World), o2 = j2 → InR .i64 j2 → St Try.f16.ntmps F [(3, .int .i64 j2)] [Fld KSeg b1 0 a1] a w → G a w) 1 ?_ fun J2 => ?_
  ·intro j2 a w ho_ g5 h
   rw [ho_] at G2
   have H := G2
   refine Go.seq ?_
   refine Go.reg ?_
   refine gs h (o_move rfl) rfl fun _ _ _ h => ?_
   refine gs h (o_assign rfl) rfl fun _ _ _ h => ?_
   refine GoR.done ?_
   rw [← som H]
   exact g_ret (vs := [.int .i64 j2]) h Try.func16 ⟨rfl, trivial⟩ ⟨(), rfl, ((h.mem.pick [] (by decide) rfl).addpur g5)⟩
  refine Go.seq ?_
  refine Go.reg ?_
  refine gs h (o_fa rfl t_f25_4 rfl rfl) rfl fun _ _ _ h => ?_
  have g4 := (in2 (fd_sub sSeg_Flags 0 rfl h.mem))
  refine gs h (o_lfx 0 rfl rfl sSeg_Flags rfl X_int t_y3) rfl fun _ _ _ h => ?_
  refine gs h (o_bin rfl rfl rfl) rfl fun _ _ _ h => ?_
  refine gs h (o_bin rfl rfl rfl) rfl fun _ _ _ h => ?_
  refine GoR.done ?_
  by_cases c2 : (!decide ((bits .and .i64 a1.Flags 1) = 0)) = true
  ·have H := ifT c2 H
   refine g_t h rfl c2 ?_
   refine Go.reg ?_
   refine gs h (o_move rfl) rfl fun _ _ _ h => ?_
   refine gs h (o_bin rfl rfl rfl) rfl fun _ _ _ h => ?_
   obtain ⟨y3, ey3, H⟩ := ltE H
   refine gs h (o_assign' rfl (congrArg (fun z => Value.int .i64 z) ey3)) rfl fun _ _ _ h => ?_
   refine GoR.done ?_
   exact J2 y3 _ _ (som H).symm (ey3 ▸ (wrap_in _ _)) (h.wk (by rfl) [0] (by decide) (by rfl))
  ·have H := ifF c2 H
   refine g_f h rfl c2 ?_
   refine Go.skip ?_
   exact J2 j1 _ _ (som H).symm g3 (h.wk (by rfl) [0] (by decide) (by rfl))
 refine Go.seq ?_
 refine Go.reg ?_
 refine gs h (o_fa rfl t_f25_4 rfl rfl) rfl fun _ _ _ h => ?_
 have g2 := (in2 (fd_sub sSeg_Flags 1 rfl h.mem))
 refine gs h (o_lfx 1 rfl rfl sSeg_Flags rfl X_int t_y3) rfl fun _ _ _ h => ?_
 refine gs h (o_bin rfl rfl rfl) rfl fun _ _ _ h => ?_
 refine gs h (o_bin rfl rfl rfl) rfl fun _ _ _ h => ?_
 refine GoR.done ?_
 by_cases c1 : (!decide ((bits .and .i64 a1.Flags 2) = 0)) = true
 ·have H := ifT c1 H
  refine g_t h rfl c1 ?_
  refine Go.reg ?_
  refine gs h (o_move rfl) rfl fun _ _ _ h => ?_
  refine gs h (o_bin rfl rfl rfl) rfl fun _ _ _ h => ?_
  obtain ⟨y2, ey2, H⟩ := ltE H
  refine gs h (o_assign' rfl (congrArg (fun z => Value.int .i64 z) ey2)) rfl fun _ _ _ h => ?_
  refine GoR.done ?_
  exact J1 y2 _ _ (som H).symm (ey2 ▸ (wrap_in _ _)) (h.wk (by rfl) [1] (by decide) (by rfl))
 ·have H := ifF c1 H
  refine g_f h rfl c1 ?_
  refine Go.skip ?_
  exact J1 y1 _ _ (som H).symm (ey1 ▸ g1) (h.wk (by rfl) [1] (by decide) (by rfl))
def ref19_Len.g (k_ : Nat) (a1 : TSeg) : Option (Int) :=
  lt (a1.Data.length : Int) fun y1 => ((if (!decide ((bits .and .i64 a1.Flags 2) = 0)) = true then lt (IntKind.i64.wrap (y1 + 1)) fun y2 => some (y2) else some (y1))).bind (fun j1 => ((if (!decide ((bits .and .i64 a1.Flags 1) = 0)) = true then lt (IntKind.i64.wrap (j1 + 1)) fun y3 => some (y3) else some (j1))).bind (fun j2 => some (j2)))
theorem ref19_Len.le (k_ : Nat) (a1 : TSeg) : Le (ref19_Len.g k_ a1) (ref19_Len.f a1) := by
 unfold ref19_Len.g ref19_Len.f
 repeat' (first | with_reducible refine le_loop fun _ => ?_ | with_reducible refine le_bind ?_ fun _ => ?_ | with_reducible refine le_ite ?_ ?_ | with_reducible refine le_lt fun _ => ?_ | with_reducible refine le_elim (fun _ => ?_) (fun _ => ?_) _ | with_reducible exact le_refl _)
/-! drawbridge/drawbridgeref19.Less -/
noncomputable def ref19_Less.f (a1 : Int) (a2 : Int) : Option (Bool) :=
  ((if decide (1 ≤ (IntKind.u32.wrap (a2 - a1))) = true then lt (decide ((IntKind.u32.wrap (a2 - a1)) < 2147483648)) fun y1 => some (y1) else some (false))).bind (fun j1 => some (j1))
set_option maxRecDepth 100000 in
set_option maxHeartbeats 4000000 in
theorem ref19_Less.spc (a1 : Int) (ha1 : InR .u32 a1) (a2 : Int) (ha2 : InR .u32 a2) (r : Bool) (H : ref19_Less.f a1 a2 = some r) : Spc Try.prog 18 [.int .u32 a1, .int .u32 a2] [] [] (fun (s : Unit) => .bool r) (fun s => []) := by
 unfold ref19_Less.f at H
 refine Spc.go Try.func18 rfl (by kernel_rfl) rfl rfl all_nil fun F a w h => ?_
 refine Go.seq ?_
 refine Go.reg ?_
 refine gs h (o_assign rfl) rfl fun _ _ _ h => ?_
 refine GoR.done ?_
 refine Go.seq ?_
 obtain ⟨o1, H, G1⟩ := bindE H
 refine g_cut (fun G => ∀ j1 (a : Act) (w : World), o1 = j1 → St Try.f18.ntmps F [(4, .bool j1)] [] a w → G a w) 1 ?_ fun J1 => ?_
 ·intro j1 a w ho_ h
  rw [ho_] at G1
  have H := G1
  rw [← som H]
  exact g_ret (vs := [.bool j1]) h Try.func18 ⟨rfl, trivial⟩ ⟨(), rfl, (h.mem.pick [] (by decide) rfl)⟩
 refine Go.reg ?_
 refine gs h (o_move rfl) rfl fun _ _ _ h => ?_
 refine gs h (o_move rfl) rfl fun _ _ _ h => ?_
 refine gs h (o_bin rfl rfl rfl) rfl fun _ _ _ h => ?_
 refine gs h (o_bin rfl rfl rfl) rfl fun _ _ _ h => ?_
 refine gs h (o_move rfl) rfl fun _ _ _ h => ?_
 by_cases c1 : decide (1 ≤ (IntKind.u32.wrap (a2 - a1))) = true
 ·have H := ifT c1 H
  refine gg h rfl rfl c1 (o_move rfl) rfl fun _ _ _ h => ?_
  refine gg h rfl rfl c1 (o_move rfl) rfl fun _ _ _ h => ?_
  refine gg h rfl rfl c1 (o_bin rfl rfl rfl) rfl fun _ _ _ h => ?_
  refine gg h rfl rfl c1 (o_bin rfl rfl rfl) rfl fun _ _ _ h => ?_
  refine gs h (o_pickT rfl rfl c1) rfl fun _ _ _ h => ?_
  obtain ⟨y1, ey1, H⟩ := ltE H
  refine gs h (o_assign' rfl (congrArg Value.bool ey1)) rfl fun _ _ _ h => ?_
  refine GoR.done ?_
  exact J1 y1 _ _ (som H).symm (h.wk (by rfl) [] (by decide) (by rfl))
 ·have H := ifF c1 H
  refine gk h rfl rfl (nb_f c1) rfl fun _ h => ?_
  refine gk h rfl rfl (nb_f c1) rfl fun _ h => ?_
  refine gk h rfl rfl (nb_f c1) rfl fun _ h => ?_
  refine gk h rfl rfl (nb_f c1) rfl fun _ h => ?_
  refine gs h (o_pickF rfl rfl c1) rfl fun _ _ _ h => ?_
  refine gs h (o_assign rfl) rfl fun _ _ _ h => ?_
  refine GoR.done ?_
  exact J1 false _ _ (som H).symm (h.wk (by rfl) [] (by decide) (by rfl))
def ref19_Less.g (k_ : Nat) (a1 : Int) (a2 : Int) : Option (Bool) :=
  ((if decide (1 ≤ (IntKind.u32.wrap (a2 - a1))) = true then lt (decide ((IntKind.u32.wrap (a2 - a1)) < 2147483648)) fun y1 => some (y1) else some (false))).bind (fun j1 => some (j1))
theorem ref19_Less.le (k_ : Nat) (a1 : Int) (a2 : Int) : Le (ref19_Less.g k_ a1 a2) (ref19_Less.f a1 a2) := by
 unfold ref19_Less.g ref19_Less.f
 repeat' (first | with_reducible refine le_loop fun _ => ?_ | with_reducible refine le_bind ?_ fun _ => ?_ | with_reducible refine le_ite ?_ ?_ | with_reducible refine le_lt fun _ => ?_ | with_reducible refine le_elim (fun _ => ?_) (fun _ => ?_) _ | with_reducible exact le_refl _)
end Go.Proofs.Ythjaancddmecpaa.S
