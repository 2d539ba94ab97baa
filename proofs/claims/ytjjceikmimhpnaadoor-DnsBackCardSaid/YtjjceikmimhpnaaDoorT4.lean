/- Contracts, printed by a program of this session. -/
import Derived.Test.YtjjceikmimhpnaaDoorT1
import Derived.Test.YtjjceikmimhpnaaDoorT3
namespace Go.Proofs.YtjjceikmimhpnaaDoor.S
open Go Go.SL Go.RowKit
set_option linter.unusedVariables false
set_option linter.unusedSimpArgs false
/-! strings.splitSeq$1 -/
set_option maxRecDepth 100000 in
set_option maxHeartbeats 4000000 in
theorem strings_splitSeq_1.it (b1 b2 b3 : Nat) (sep p : List Int) (z : Int) (hsep : (sep.length : Int) = 1) (hz : z = 0) (hlen : (p.length : Int) ≤ 68719476736) : Itr Tryd.prog 68 [pt b1, pt b2, pt b3] [Fld Kd.str b1 0 sep, Fld Kd.str b2 0 p, Fld (Kd.int .i64) b3 0 z] Kd.str (splitq sep p) := by
 subst hz
 obtain ⟨c, rfl⟩ : ∃ c, sep = [c] := by
  match sep, hsep with
  | [c], _ => exact ⟨c, rfl⟩
 unfold splitq
 show Itr Tryd.prog 68 _ _ _ (splitc c p)
 have hpos := List.length_pos_iff.2 (splitc_ne c p)
 refine ⟨⟨_, Tryd.func68, by kernel_rfl, rfl⟩, fun l r X N st Xo hN0 hN1 hX hO F w hm0 => ?_⟩
 refine Calls.of_go Tryd.func68 rfl (n := Tryd.f68.ntmps) rfl (Nat.le_of_ble_eq_true rfl) fun a ha => ?_
 have h : St Tryd.f68.ntmps F (slots0 0 [.func (.yield l) #[] #[], pt b1, pt b2, pt b3]) [Fld Kd.str b1 0 [c], Fld Kd.str b2 0 p, Fld (Kd.int .i64) b3 0 0, Obe l (.loop (r.lp .ready none)), X 0] a w := ⟨ha, hm0.pick [2, 3, 4, 0, 1] (by decide) rfl⟩
 refine Go.seq ?_
 refine Go.seq ?_
 refine Go.reg ?_
 refine ga h (o_ldx 0 rfl rfl X_str t_y9) rfl fun h => ?_
 refine ga h (o_lens rfl t_u9) rfl fun h => ?_
 refine ga h (o_bin rfl rfl rfl) rfl fun h => ?_
 refine GoR.done ?_
 refine g_f h rfl (by simp) ?_
 refine Go.skip ?_
 refine Go.seq ?_
 refine Go.block ?_
 refine Go.loopN ((splitc c p).length - 1) (fun j a w => St Tryd.f68.ntmps F [(0, .func (.yield l) #[] #[]), (1, pt b1), (2, pt b2), (3, pt b3)] [Fld Kd.str b1 0 [c], Fld Kd.str b2 0 (rstc c p j), Fld (Kd.int .i64) b3 0 0, Obe l (.loop (r.lp .ready none)), X j] a w ∧ (st = true → j ≤ N)) ?_ ?_
 · exact ⟨h.wk (by rfl) [0, 1, 2, 3, 4] (by decide) rfl, fun _ => Nat.zero_le _⟩
 · intro j hjN ih a w ⟨h, hjs⟩
   have hj : j < (splitc c p).length := by omega
   obtain ⟨hg1, hg2⟩ := rstc_get c p j hj
   have hmem := rstc_mem c p j hj
   have hsuc : rstc c p (j + 1) = aft c (rstc c p j) := rfl
   have hsl := rstc_len c p j
   generalize rstc c p j = s at *
   refine Go.block ?_
   refine Go.seq ?_
   refine Go.reg ?_
   refine ga h (o_ldx 1 rfl rfl X_str t_y9) rfl fun h => ?_
   refine ga h (o_ldx 0 rfl rfl X_str t_y9) rfl fun h => ?_
   have hb1 := fd_bs 0 rfl h.mem
   have hb2 := fd_bs 1 rfl h.mem
   refine ga h (o_call (strings_Index.spc s hb2 [c] hb1 (firstc c s) rfl) rfl [] [] (by decide) rfl rfl) rfl fun h => ?_
   have hi := h.mem.pur 0 rfl
   refine ga h (o_assign rfl) rfl fun h => ?_
   refine GoR.done ?_
   refine Go.seq ?_
   refine Go.seq ?_
   refine Go.reg ?_
   refine mv h rfl rfl fun h => ?_
   refine ga h (o_bin rfl rfl rfl) rfl fun h => ?_
   refine GoR.done ?_
   by_cases hc : c ∈ s
   · have hfc : firstc c s = ((bef c s).length : Int) := if_pos hc
     have hin : ((bef c s).length : Int) + 1 ≤ 9223372036854775807 := by
       have := congrArg List.length (bef_aft hc)
       rw [List.length_append] at this; omega
     obtain ⟨hc1, hc2⟩ := cut_bef hc
     have hlt := hmem.1 hc
     have hp := hg1 hc
     rw [hfc] at h
     refine g_f h rfl (by simp) ?_
     refine Go.skip ?_
     refine Go.seq ?_
     refine Go.reg ?_
     refine ga h (o_ldx 2 rfl rfl X_str t_y9) rfl fun h => ?_
     refine mv h rfl rfl fun h => ?_
     refine ga h (o_ldx 3 rfl rfl X_int t_y3) rfl fun h => ?_
     refine ga h (o_bin rfl rfl rfl) rfl fun h => ?_
     have ew : IntKind.i64.wrap (((bef c s).length : Int) + 0) = ((bef c s).length : Int) := in_i64 (by omega) (by omega)
     refine ga h (o_slsh rfl rfl (by rw [ew]; exact hc1) t_u9) rfl fun h => ?_
     refine ga h (o_assign rfl) rfl fun h => ?_
     refine GoR.done ?_
     refine Go.seq ?_
     refine Go.seq ?_
     refine Go.regI h.sl.df ?_
     refine gi h (o_move rfl) rfl fun _ _ _ h => ?_
     refine gi h (o_move rfl) rfl fun _ _ _ h => ?_
     have hbb : Bs (bef c s) := fun x hx => hb2 x (bef_mem hx)
     replace h := h.mm fun m => (pv_str hbb).ent m
     by_cases hst : st = true ∧ j = N
     · obtain ⟨hst, rfl⟩ := hst
       have hy := hO hst hj (.string (mkS (bef c s)))
       rw [hp] at hy
       refine gi_out h rfl rfl hy (Lr := [Fld Kd.str b1 0 [c], Fld Kd.str b2 0 s, Fld (Kd.int .i64) b3 0 0]) (fun m => m.pick [5, 6, 0, 2, 3, 4] (by decide) rfl) rfl fun _ _ h => ?_
       refine gi h (o_not rfl) rfl fun _ _ _ h => ?_
       refine GoI.done ?_
       refine g_t h rfl (by decide) ?_
       exact g_ret (vs := []) h Tryd.func68 trivial ⟨rfl, by rw [if_pos hst]; exact h.mem.pick [0, 1] (by decide) rfl⟩
     · have hjn : j < N := by
         cases hst2 : st with
         | true => have := hjs hst2; have : j ≠ N := fun e => hst ⟨hst2, e⟩; omega
         | false => have := hN0 hst2; omega
       have hy := hX j hj hjn (.string (mkS (bef c s)))
       rw [hp] at hy
       refine gi_yield h rfl rfl hy (Lr := [Fld Kd.str b1 0 [c], Fld Kd.str b2 0 s, Fld (Kd.int .i64) b3 0 0]) (fun m => m.pick [5, 6, 0, 2, 3, 4] (by decide) rfl) rfl fun _ _ h => ?_
       refine gi h (o_not rfl) rfl fun _ _ _ h => ?_
       refine GoI.done ?_
       refine g_f h rfl (by decide) ?_
       refine Go.skip ?_
       refine Go.reg ?_
       refine ga h (o_ldx 3 rfl rfl X_str t_y9) rfl fun h => ?_
       refine mv h rfl rfl fun h => ?_
       refine ga h (o_ldx 2 rfl rfl X_str t_y9) rfl fun h => ?_
       refine ga h (o_lens rfl t_u9) rfl fun h => ?_
       refine ga h (o_bin rfl rfl rfl) rfl fun h => ?_
       have ew2 : IntKind.i64.wrap (((bef c s).length : Int) + (([c] : List Int).length : Int)) = ((bef c s).length : Int) + 1 := in_i64 (by simp; omega) (by simp; omega)
       refine ga h (o_slsl rfl rfl (by rw [ew2]; exact hc2) t_u9) rfl fun h => ?_
       have hba : Bs (aft c s) := fun x hx => hb2 x (aft_mem hx)
       refine gs0 h (o_st 3 rfl rfl rfl (pv_str hba) rfl t_w9) fun _ _ _ h => ?_
       refine GoR.done ?_
       refine Go.inBlock ?_
       refine Go.inLoop (ih (by omega) _ _ ⟨?_, fun hs => ?_⟩)
       · rw [hsuc]
         exact h.wr [2, 3, 4, 0, 1]
       · have := hjs hs; omega
   · have hfc : firstc c s = -1 := if_neg hc
     rw [hfc] at h
     have hp := hg2 hc
     have hjl : ¬ (j + 1 < (splitc c p).length) := fun hh => hc (hmem.2 hh)
     refine g_t h rfl (by decide) ?_
     refine Go.exit rfl ?_
     refine Go.regI h.sl.df ?_
     refine gi h (o_move rfl) rfl fun _ _ _ h => ?_
     refine gi h (o_ldx 2 rfl rfl X_str t_y9) rfl fun _ _ _ h => ?_
     replace h := h.mm fun m => (pv_str hb2).ent m
     by_cases hst : st = true
     · have hjn : j = N := by have := hN1 hst; have := hjs hst; omega
       subst hjn
       have hy := hO hst hj (.string (mkS s))
       rw [hp] at hy
       refine gi_out h rfl rfl hy (Lr := [Fld Kd.str b1 0 [c], Fld Kd.str b2 0 s, Fld (Kd.int .i64) b3 0 0]) (fun m => m.pick [5, 6, 0, 2, 3, 4] (by decide) rfl) rfl fun _ _ h => ?_
       refine GoI.done ?_
       exact g_fin (vs := []) h Tryd.func68 trivial ⟨rfl, by rw [if_pos hst]; exact h.mem.pick [0, 1] (by decide) rfl⟩
     · have hst2 : st = false := by cases st with | false => rfl | true => exact absurd rfl hst
       have hy := hX j hj (by have := hN0 hst2; omega) (.string (mkS s))
       rw [hp] at hy
       refine gi_yield h rfl rfl hy (Lr := [Fld Kd.str b1 0 [c], Fld Kd.str b2 0 s, Fld (Kd.int .i64) b3 0 0]) (fun m => m.pick [5, 6, 0, 2, 3, 4] (by decide) rfl) rfl fun _ _ h => ?_
       refine GoI.done ?_
       have ej : j + 1 = (splitc c p).length := by omega
       rw [ej] at h
       exact g_fin (vs := []) h Tryd.func68 trivial ⟨rfl, by rw [if_neg hst]; exact h.mem.pick [0, 1] (by decide) rfl⟩
/-! strings.splitSeq -/
noncomputable def strings_splitSeq.f (a1 : List Int) (a2 : List Int) (a3 : Int) : Option ((List (List Int))) :=
  if (a2.length : Int) = 1 ∧ a3 = 0 ∧ (a1.length : Int) ≤ 68719476736 then (some ((splitq a2 a1))) else none
set_option maxRecDepth 100000 in
set_option maxHeartbeats 4000000 in
theorem strings_splitSeq.spc (a1 : List Int) (ha1 : Bs a1) (a2 : List Int) (ha2 : Bs a2) (a3 : Int) (ha3 : InR .i64 a3) (r : (List (List Int))) (H : strings_splitSeq.f a1 a2 a3 = some r) : Spc Tryd.prog 59 [.string (mkS a1), .string (mkS a2), .int .i64 a3] [] [] (fun (s : Value) => s) (fun s => [Val (Kd.itl Tryd.prog Kd.str) s r]) := by
 unfold strings_splitSeq.f at H
 refine Spc.go Tryd.func59 rfl (by kernel_rfl) rfl rfl all_nil fun F a w h => ?_
 refine Go.seq ?_
 refine Go.reg ?_
 refine gs h (o_box (K := Kd.str) rfl (pv_str ha1)) rfl fun b1 _ _ h => ?_
 refine gs h (o_box (K := Kd.str) rfl (pv_str ha2)) rfl fun b2 _ _ h => ?_
 refine gs h (o_box (K := (Kd.int .i64)) rfl (pv_int ha3)) rfl fun b3 _ _ h => ?_
 refine ga h (o_assign rfl) rfl fun h => ?_
 refine GoR.done ?_
 refine Go.seq ?_
 refine Go.reg ?_
 obtain ⟨q1, H⟩ := ifS H
 refine ga h (o_makeFunc (vs := [pt b2, pt b1, pt b3]) rfl) rfl fun h => ?_
 replace h := h.mm fun m => m.mkitl (strings_splitSeq_1.it b2 b1 b3 a2 a1 a3 q1.1 q1.2.1 q1.2.2) [1, 2, 0] (by decide) rfl
 refine ga h (o_assign rfl) rfl fun h => ?_
 refine GoR.done ?_
 rw [← som H]
 exact g_ret (vs := [.func (.func 68) #[] #[pt b2, pt b1, pt b3]]) h Tryd.func59 ⟨rfl, trivial⟩ ⟨.func (.func 68) #[] #[pt b2, pt b1, pt b3], rfl, (h.mem.pick [0] (by decide) rfl)⟩
def strings_splitSeq.g (k_ : Nat) (a1 : List Int) (a2 : List Int) (a3 : Int) : Option ((List (List Int))) :=
  if (a2.length : Int) = 1 ∧ a3 = 0 ∧ (a1.length : Int) ≤ 68719476736 then (some ((splitq a2 a1))) else none
theorem strings_splitSeq.le (k_ : Nat) (a1 : List Int) (a2 : List Int) (a3 : Int) : Le (strings_splitSeq.g k_ a1 a2 a3) (strings_splitSeq.f a1 a2 a3) := by
 unfold strings_splitSeq.g strings_splitSeq.f
 repeat' (first | with_reducible refine le_loop fun _ => ?_ | with_reducible refine le_bind ?_ fun _ => ?_ | with_reducible refine le_ite ?_ ?_ | with_reducible refine le_lt fun _ => ?_ | with_reducible refine le_elim (fun _ => ?_) (fun _ => ?_) _ | with_reducible exact le_refl _)
/-! strings.SplitSeq -/
noncomputable def strings_SplitSeq.f (a1 : List Int) (a2 : List Int) : Option ((List (List Int))) :=
  (strings_splitSeq.f a1 a2 0).bind fun r1 => some (r1)
set_option maxRecDepth 100000 in
set_option maxHeartbeats 4000000 in
theorem strings_SplitSeq.spc (a1 : List Int) (ha1 : Bs a1) (a2 : List Int) (ha2 : Bs a2) (r : (List (List Int))) (H : strings_SplitSeq.f a1 a2 = some r) : Spc Tryd.prog 42 [.string (mkS a1), .string (mkS a2)] [] [] (fun (s : Value) => s) (fun s => [Val (Kd.itl Tryd.prog Kd.str) s r]) := by
 unfold strings_SplitSeq.f at H
 refine Spc.go Tryd.func42 rfl (by kernel_rfl) rfl rfl all_nil fun F a w h => ?_
 refine Go.seq ?_
 refine Go.reg ?_
 refine ga h (o_assign rfl) rfl fun h => ?_
 refine GoR.done ?_
 refine Go.seq ?_
 refine Go.reg ?_
 refine mv h rfl rfl fun h => ?_
 refine mv h rfl rfl fun h => ?_
 obtain ⟨r1, er1, H⟩ := bindE H
 refine gs h (o_call (strings_splitSeq.spc a1 ha1 a2 ha2 0 (show InR .i64 0 by decide) r1 er1) rfl [] [] (by decide) rfl rfl) rfl fun v1 _ _ h => ?_
 refine ga h (o_assign rfl) rfl fun h => ?_
 refine GoR.done ?_
 rw [← som H]
 exact g_ret (vs := [v1]) h Tryd.func42 ⟨rfl, trivial⟩ ⟨v1, rfl, (h.mem.pick [0] (by decide) rfl)⟩
def strings_SplitSeq.g (k_ : Nat) (a1 : List Int) (a2 : List Int) : Option ((List (List Int))) :=
  (strings_splitSeq.g k_ a1 a2 0).bind fun r1 => some (r1)
theorem strings_SplitSeq.le (k_ : Nat) (a1 : List Int) (a2 : List Int) : Le (strings_SplitSeq.g k_ a1 a2) (strings_SplitSeq.f a1 a2) := by
 unfold strings_SplitSeq.g strings_SplitSeq.f
 repeat' (first | with_reducible refine le_loop fun _ => ?_ | with_reducible refine le_bind ?_ fun _ => ?_ | with_reducible refine le_ite ?_ ?_ | with_reducible refine le_lt fun _ => ?_ | with_reducible refine le_elim (fun _ => ?_) (fun _ => ?_) _ | with_reducible apply strings_splitSeq.le | with_reducible exact le_refl _)
/-! drawbridge/dns.letter -/
noncomputable def dns_letter.f (a1 : Int) : Option (Int × Bool) :=
  ((if decide (65 ≤ a1) = true then lt (decide (a1 ≤ 90)) fun y1 => some (y1) else some (false))).bind (fun j1 => (if j1 = true then lt (bits .or .u8 a1 32) fun y2 => some ((y2, true)) else (((if decide (97 ≤ a1) = true then lt (decide (a1 ≤ 122)) fun y3 => some (y3) else some (false))).bind (fun j2 => (if j2 = true then some (j2) else ((if decide (48 ≤ a1) = true then lt (decide (a1 ≤ 57)) fun y4 => some (y4) else some (false))).bind (fun j3 => (if j3 = true then some (j3) else lt (decide (a1 = 45)) fun y5 => (if y5 = true then some (y5) else lt (decide (a1 = 95)) fun y6 => some (y6))))))).bind (fun j4 => (if j4 = true then some ((a1, true)) else some ((0, false))))))
set_option maxRecDepth 100000 in
set_option maxHeartbeats 4000000 in
theorem dns_letter.spc (a1 : Int) (ha1 : InR .u8 a1) (r : Int × Bool) (H : dns_letter.f a1 = some r) : Spc Tryd.prog 45 [.int .u8 a1] [] [] (fun (s : Unit) => .tuple #[.int .u8 r.1, .bool r.2]) (fun s => [Ent.pur (InR .u8 r.1)]) := by
 unfold dns_letter.f at H
 refine Spc.go Tryd.func45 rfl (by kernel_rfl) rfl rfl all_nil fun F a w h => ?_
 refine Go.seq ?_
 refine Go.reg ?_
 refine ga h (o_assign rfl) rfl fun h => ?_
 refine ga h (o_assign rfl) rfl fun h => ?_
 refine GoR.done ?_
 refine Go.seq ?_
 refine Go.block ?_
 refine Go.seq ?_
 obtain ⟨o1, H, G1⟩ := bindE H
 refine g_cut (fun G => ∀ j1 (a : Act) (w : World), o1 = j1 → St Tryd.f45.ntmps F [(0, .int .u8 a1), (4, .bool j1)] [] a w → G a w) 1 ?_ fun J1 => ?_
 ·intro j1 a w ho_ h
  rw [ho_] at G1
  have H := G1
  by_cases c2 : j1 = true
  ·have H := ifT c2 H
   refine g_t h rfl c2 ?_
   refine Go.seq ?_
   refine Go.reg ?_
   refine mv h rfl rfl fun h => ?_
   refine ga h (o_bin rfl rfl rfl) rfl fun h => ?_
   obtain ⟨y2, ey2, H⟩ := ltE H
   refine ga h (o_assign' rfl (congrArg (fun z => Value.int .u8 z) ey2)) rfl fun h => ?_
   refine ga h (o_assign rfl) rfl fun h => ?_
   refine GoR.done ?_
   rw [← som H]
   exact g_ret (vs := [.int .u8 y2, .bool true]) h Tryd.func45 ⟨rfl, ⟨rfl, trivial⟩⟩ ⟨(), rfl, ((h.mem.pick [] (by decide) rfl).addpur (ey2 ▸ (wrap_in _ _)))⟩
  ·have H := ifF c2 H
   refine g_f h rfl c2 ?_
   refine Go.seq ?_
   obtain ⟨o2, H, G2⟩ := bindE H
   refine g_cut (fun G => ∀ j4 (a : Act) (w : World), o2 = j4 → St Tryd.f45.ntmps F [(0, .int .u8 a1), (13, .bool j4)] [] a w → G a w) 1 ?_ fun J4 => ?_
   ·intro j4 a w ho_ h
    rw [ho_] at G2
    have H := G2
    by_cases c8 : j4 = true
    ·have H := ifT c8 H
     refine g_t h rfl c8 ?_
     refine Go.seq ?_
     refine Go.reg ?_
     refine mv h rfl rfl fun h => ?_
     refine ga h (o_assign rfl) rfl fun h => ?_
     refine ga h (o_assign rfl) rfl fun h => ?_
     refine GoR.done ?_
     rw [← som H]
     exact g_ret (vs := [.int .u8 a1, .bool true]) h Tryd.func45 ⟨rfl, ⟨rfl, trivial⟩⟩ ⟨(), rfl, ((h.mem.pick [] (by decide) rfl).addpur ha1)⟩
    ·have H := ifF c8 H
     refine g_f h rfl c8 ?_
     refine Go.skip ?_
     refine Go.inBlock ?_
     refine Go.seq ?_
     refine Go.reg ?_
     refine ga h (o_assign rfl) rfl fun h => ?_
     refine ga h (o_assign rfl) rfl fun h => ?_
     refine GoR.done ?_
     rw [← som H]
     exact g_ret (vs := [.int .u8 0, .bool false]) h Tryd.func45 ⟨rfl, ⟨rfl, trivial⟩⟩ ⟨(), rfl, ((h.mem.pick [] (by decide) rfl).addpur (show InR .u8 0 by decide))⟩
   refine Go.seq ?_
   obtain ⟨o3, H, G3⟩ := bindE H
   refine g_cut (fun G => ∀ j2 (a : Act) (w : World), o3 = j2 → St Tryd.f45.ntmps F [(0, .int .u8 a1), (13, .bool j2)] [] a w → G a w) 1 ?_ fun J2 => ?_
   ·intro j2 a w ho_ h
    rw [ho_] at G3
    have H := G3
    by_cases c4 : j2 = true
    ·have H := ifT c4 H
     refine g_t h rfl c4 ?_
     refine Go.skip ?_
     exact J4 j2 _ _ (som H).symm (h.wr [])
    ·have H := ifF c4 H
     refine g_f h rfl c4 ?_
     refine Go.seq ?_
     obtain ⟨o4, H, G4⟩ := bindE H
     refine g_cut (fun G => ∀ j3 (a : Act) (w : World), o4 = j3 → St Tryd.f45.ntmps F [(0, .int .u8 a1), (13, .bool j3)] [] a w → G a w) 1 ?_ fun J3 => ?_
     ·intro j3 a w ho_ h
      rw [ho_] at G4
      have H := G4
      by_cases c6 : j3 = true
      ·have H := ifT c6 H
       refine g_t h rfl c6 ?_
       refine Go.skip ?_
       exact J4 j3 _ _ (som H).symm (h.wr [])
      ·have H := ifF c6 H
       refine g_f h rfl c6 ?_
       refine Go.seq ?_
       refine Go.reg ?_
       refine mv h rfl rfl fun h => ?_
       refine ga h (o_bin rfl rfl rfl) rfl fun h => ?_
       obtain ⟨y5, ey5, H⟩ := ltE H
       refine ga h (o_assign' rfl (congrArg Value.bool ey5)) rfl fun h => ?_
       refine GoR.done ?_
       by_cases c7 : y5 = true
       ·have H := ifT c7 H
        refine g_t h rfl c7 ?_
        refine Go.skip ?_
        exact J4 y5 _ _ (som H).symm (h.wr [])
       ·have H := ifF c7 H
        refine g_f h rfl c7 ?_
        refine Go.reg ?_
        refine mv h rfl rfl fun h => ?_
        refine ga h (o_bin rfl rfl rfl) rfl fun h => ?_
        obtain ⟨y6, ey6, H⟩ := ltE H
        refine ga h (o_assign' rfl (congrArg Value.bool ey6)) rfl fun h => ?_
        refine GoR.done ?_
        exact J4 y6 _ _ (som H).symm (h.wr [])
     refine Go.reg ?_
     refine mv h rfl rfl fun h => ?_
     refine ga h (o_bin rfl rfl rfl) rfl fun h => ?_
     refine mv h rfl rfl fun h => ?_
     by_cases c5 : decide (48 ≤ a1) = true
     ·have H := ifT c5 H
      refine gg h rfl rfl c5 (o_move rfl) rfl fun _ _ _ h => ?_
      refine gg h rfl rfl c5 (o_bin rfl rfl rfl) rfl fun _ _ _ h => ?_
      refine ga h (o_pickT rfl rfl c5) rfl fun h => ?_
      obtain ⟨y4, ey4, H⟩ := ltE H
      refine ga h (o_assign' rfl (congrArg Value.bool ey4)) rfl fun h => ?_
      refine GoR.done ?_
      exact J3 y4 _ _ (som H).symm (h.wr [])
     ·have H := ifF c5 H
      refine gk h rfl rfl (nb_f c5) rfl fun _ h => ?_
      refine gk h rfl rfl (nb_f c5) rfl fun _ h => ?_
      refine ga h (o_pickF rfl rfl c5) rfl fun h => ?_
      refine ga h (o_assign rfl) rfl fun h => ?_
      refine GoR.done ?_
      exact J3 false _ _ (som H).symm (h.wr [])
   refine Go.reg ?_
   refine mv h rfl rfl fun h => ?_
   refine ga h (o_bin rfl rfl rfl) rfl fun h => ?_
   refine mv h rfl rfl fun h => ?_
   by_cases c3 : decide (97 ≤ a1) = true
   ·have H := ifT c3 H
    refine gg h rfl rfl c3 (o_move rfl) rfl fun _ _ _ h => ?_
    refine gg h rfl rfl c3 (o_bin rfl rfl rfl) rfl fun _ _ _ h => ?_
    refine ga h (o_pickT rfl rfl c3) rfl fun h => ?_
    obtain ⟨y3, ey3, H⟩ := ltE H
    refine ga h (o_assign' rfl (congrArg Value.bool ey3)) rfl fun h => ?_
    refine GoR.done ?_
    exact J2 y3 _ _ (som H).symm (h.wr [])
   ·have H := ifF c3 H
    refine gk h rfl rfl (nb_f c3) rfl fun _ h => ?_
    refine gk h rfl rfl (nb_f c3) rfl fun _ h => ?_
    refine ga h (o_pickF rfl rfl c3) rfl fun h => ?_
    refine ga h (o_assign rfl) rfl fun h => ?_
    refine GoR.done ?_
    exact J2 false _ _ (som H).symm (h.wr [])
 refine Go.reg ?_
 refine mv h rfl rfl fun h => ?_
 refine ga h (o_bin rfl rfl rfl) rfl fun h => ?_
 refine mv h rfl rfl fun h => ?_
 by_cases c1 : decide (65 ≤ a1) = true
 ·have H := ifT c1 H
  refine gg h rfl rfl c1 (o_move rfl) rfl fun _ _ _ h => ?_
  refine gg h rfl rfl c1 (o_bin rfl rfl rfl) rfl fun _ _ _ h => ?_
  refine ga h (o_pickT rfl rfl c1) rfl fun h => ?_
  obtain ⟨y1, ey1, H⟩ := ltE H
  refine ga h (o_assign' rfl (congrArg Value.bool ey1)) rfl fun h => ?_
  refine GoR.done ?_
  exact J1 y1 _ _ (som H).symm (h.wr [])
 ·have H := ifF c1 H
  refine gk h rfl rfl (nb_f c1) rfl fun _ h => ?_
  refine gk h rfl rfl (nb_f c1) rfl fun _ h => ?_
  refine ga h (o_pickF rfl rfl c1) rfl fun h => ?_
  refine ga h (o_assign rfl) rfl fun h => ?_
  refine GoR.done ?_
  exact J1 false _ _ (som H).symm (h.wr [])
def dns_letter.g (k_ : Nat) (a1 : Int) : Option (Int × Bool) :=
  ((if decide (65 ≤ a1) = true then lt (decide (a1 ≤ 90)) fun y1 => some (y1) else some (false))).bind (fun j1 => (if j1 = true then lt (bits .or .u8 a1 32) fun y2 => some ((y2, true)) else (((if decide (97 ≤ a1) = true then lt (decide (a1 ≤ 122)) fun y3 => some (y3) else some (false))).bind (fun j2 => (if j2 = true then some (j2) else ((if decide (48 ≤ a1) = true then lt (decide (a1 ≤ 57)) fun y4 => some (y4) else some (false))).bind (fun j3 => (if j3 = true then some (j3) else lt (decide (a1 = 45)) fun y5 => (if y5 = true then some (y5) else lt (decide (a1 = 95)) fun y6 => some (y6))))))).bind (fun j4 => (if j4 = true then some ((a1, true)) else some ((0, false))))))
theorem dns_letter.le (k_ : Nat) (a1 : Int) : Le (dns_letter.g k_ a1) (dns_letter.f a1) := by
 unfold dns_letter.g dns_letter.f
 repeat' (first | with_reducible refine le_loop fun _ => ?_ | with_reducible refine le_bind ?_ fun _ => ?_ | with_reducible refine le_ite ?_ ?_ | with_reducible refine le_lt fun _ => ?_ | with_reducible refine le_elim (fun _ => ?_) (fun _ => ?_) _ | with_reducible exact le_refl _)
/-! drawbridge/dns.name$1 -/
noncomputable def dns_name_1.f (a1 : Int) : Option (Bool) :=
  (dns_letter.f a1).bind fun r1 => some ((!r1.2))
set_option maxRecDepth 100000 in
set_option maxHeartbeats 4000000 in
theorem dns_name_1.spc (a1 : Int) (ha1 : InR .u8 a1) (r : Bool) (H : dns_name_1.f a1 = some r) : Spc Tryd.prog 44 [.int .u8 a1] [] [] (fun (s : Unit) => .bool r) (fun s => []) := by
 unfold dns_name_1.f at H
 refine Spc.go Tryd.func44 rfl (by kernel_rfl) rfl rfl all_nil fun F a w h => ?_
 refine Go.seq ?_
 refine Go.reg ?_
 refine ga h (o_assign rfl) rfl fun h => ?_
 refine GoR.done ?_
 refine Go.seq ?_
 refine Go.reg ?_
 refine mv h rfl rfl fun h => ?_
 obtain ⟨r1, er1, H⟩ := bindE H
 refine ga h (o_call (dns_letter.spc a1 ha1 r1 er1) rfl [] [] (by decide) rfl rfl) rfl fun h => ?_
 have g1 := h.mem.pur 0 rfl
 refine mv h rfl rfl fun h => ?_
 refine ga h (o_extract rfl rfl) rfl fun h => ?_
 refine ga h (o_extract rfl rfl) rfl fun h => ?_
 refine ga h (o_assign rfl) rfl fun h => ?_
 refine ga h (o_assign rfl) rfl fun h => ?_
 refine GoR.done ?_
 refine Go.seq ?_
 refine Go.reg ?_
 refine mv h rfl rfl fun h => ?_
 refine ga h (o_not rfl) rfl fun h => ?_
 refine ga h (o_assign rfl) rfl fun h => ?_
 refine GoR.done ?_
 rw [← som H]
 exact g_ret (vs := [.bool (!r1.2)]) h Tryd.func44 ⟨rfl, trivial⟩ ⟨(), rfl, (h.mem.pick [] (by decide) rfl)⟩
def dns_name_1.g (k_ : Nat) (a1 : Int) : Option (Bool) :=
  (dns_letter.g k_ a1).bind fun r1 => some ((!r1.2))
theorem dns_name_1.le (k_ : Nat) (a1 : Int) : Le (dns_name_1.g k_ a1) (dns_name_1.f a1) := by
 unfold dns_name_1.g dns_name_1.f
 repeat' (first | with_reducible refine le_loop fun _ => ?_ | with_reducible refine le_bind ?_ fun _ => ?_ | with_reducible refine le_ite ?_ ?_ | with_reducible refine le_lt fun _ => ?_ | with_reducible refine le_elim (fun _ => ?_) (fun _ => ?_) _ | with_reducible apply dns_letter.le | with_reducible exact le_refl _)
/-! slices.IndexFunc[[]byte,byte] -/
noncomputable def slices_IndexFunc_s_byte_byte_at_dns_name_1.f (a1 : List Int) : Option (Int) :=
  (loop (fun s1 => (if decide (s1 < (a1.length : Int)) = true then (idx a1 s1).bind fun x1 => (dns_name_1.f x1).bind fun r1 => (if r1 = true then some (.inr (.inr (s1))) else some (.inl (IntKind.i64.wrap (s1 + 1)))) else some (.inr (.inl (()))))) 0).bind (Sum.elim (fun j1 => some ((-1))) (fun z_ => some (z_)))
set_option maxRecDepth 100000 in
set_option maxHeartbeats 4000000 in
theorem slices_IndexFunc_s_byte_byte_at_dns_name_1.spc (v1 : Value) (a1 : List Int) (r : Int) (H : slices_IndexFunc_s_byte_byte_at_dns_name_1.f a1 = some r) : Spc Tryd.prog 60 [v1, .func (.func 44) #[] #[]] [Val (Kd.sl (Kd.int .u8)) v1 a1] [] (fun (s : Unit) => .int .i64 r) (fun s => [Ent.pur (InR .i64 r)]) := by
 unfold slices_IndexFunc_s_byte_byte_at_dns_name_1.f at H
 refine Spc.go Tryd.func60 rfl (by kernel_rfl) rfl rfl (all_cons (Val.per Per_sl) all_nil) fun F a w h => ?_
 refine Go.seq ?_
 refine Go.reg ?_
 refine ga h (o_assign rfl) rfl fun h => ?_
 refine GoR.done ?_
 refine Go.seq ?_
 refine Go.seq ?_
 refine Go.reg ?_
 refine mv h rfl rfl fun h => ?_
 have g1 := (len_at 0 rfl h.mem)
 refine ga h (o_ln rfl (rd_at 0 rfl) t_v22) rfl fun h => ?_
 refine mv h rfl rfl fun h => ?_
 refine GoR.done ?_
 refine Go.block ?_
 obtain ⟨o1, hl, G1⟩ := bindE H
 refine g_cut (fun G => ∀ j1 (a : Act) (w : World), o1 = .inl (j1) → St Tryd.f60.ntmps F [] [] a w → G a w) 2 ?_ fun J1 => ?_
 ·intro j1 a w ho_ h
  rw [ho_] at G1
  have H := eInl G1
  refine Go.seq ?_
  refine Go.reg ?_
  refine ga h (o_assign rfl) rfl fun h => ?_
  refine GoR.done ?_
  rw [← som H]
  exact g_ret (vs := [.int .i64 (-1)]) h Tryd.func60 ⟨rfl, trivial⟩ ⟨(), rfl, ((h.mem.pick [] (by decide) rfl).addpur (show InR .i64 (-1) by decide))⟩
 refine g_loop (fun s1 G => ∀  (a : Act) (w : World), InR .i64 s1 → St Tryd.f60.ntmps F [(0, v1), (1, .func (.func 44) #[] #[]), (7, .int .i64 (a1.length : Int)), (8, .int .i64 s1)] [Val (Kd.sl (Kd.int .u8)) v1 a1] a w → G a w) hl (fun s1 p1 H i1 => ?_) fun I_ => ?_
 ·intro  a w g2 h
  refine Go.seq ?_
  refine Go.reg ?_
  refine ga h (o_bin rfl rfl rfl) rfl fun h => ?_
  refine GoR.done ?_
  refine Go.seq ?_
  by_cases c1 : decide (s1 < (a1.length : Int)) = true
  ·have H := ifT c1 H
   refine g_t h rfl c1 ?_
   refine Go.skip ?_
   refine Go.seq ?_
   refine Go.block ?_
   refine Go.seq ?_
   refine Go.reg ?_
   refine mv h rfl rfl fun h => ?_
   refine ga h (o_assign rfl) rfl fun h => ?_
   refine GoR.done ?_
   refine Go.seq ?_
   refine Go.reg ?_
   iterate 3 (refine ga h (o_move rfl) rfl fun h => ?_)
   obtain ⟨x1, ex1, H⟩ := bindE H
   refine ga h (o_ix rfl rfl (rd_at 0 rfl) ex1 t_v22) rfl fun h => ?_
   have g3 := (rd_inr (rd_at 0 rfl) ex1 h.mem)
   refine ga h (o_lex rfl (rd_at 0 rfl) ex1 X_int t_y5 (by decide)) rfl fun h => ?_
   obtain ⟨r1, er1, H⟩ := bindE H
   refine ga h (o_callv (vs := [.int .u8 x1]) (caps := []) rfl rfl (dns_name_1.spc x1 g3 r1 er1) [] [] (by decide) rfl rfl) rfl fun h => ?_
   refine GoR.done ?_
   by_cases c2 : r1 = true
   ·have H := ifT c2 H
    refine g_t h rfl c2 ?_
    refine Go.seq ?_
    refine Go.reg ?_
    refine mv h rfl rfl fun h => ?_
    refine ga h (o_assign rfl) rfl fun h => ?_
    refine GoR.done ?_
    have e_ := som H; subst e_
    rw [← nx_out i1] at G1
    have H := G1
    rw [← som H]
    exact g_ret (vs := [.int .i64 s1]) h Tryd.func60 ⟨rfl, trivial⟩ ⟨(), rfl, ((h.mem.pick [] (by decide) rfl).addpur g2)⟩
   ·have H := ifF c2 H
    refine g_f h rfl c2 ?_
    refine Go.skip ?_
    refine Go.inBlock ?_
    refine Go.reg ?_
    refine ga h (o_bin rfl rfl rfl) rfl fun h => ?_
    refine mv h rfl rfl fun h => ?_
    refine GoR.done ?_
    have e_ := som H; subst e_
    exact Go.inLoop (nx_in i1 _ _ (wrap_in _ _) (h.wr [0]))
  ·have H := ifF c1 H
   refine g_f h rfl c1 ?_
   refine Go.exit rfl ?_
   have e_ := som H; subst e_
   exact J1 () _ _ (nx_out i1).symm (h.wr [])
 ·exact I_ _ _ (show InR .i64 0 by decide) (h.wr [0])
def slices_IndexFunc_s_byte_byte_at_dns_name_1.g (k_ : Nat) (a1 : List Int) : Option (Int) :=
  (loopK k_ (fun s1 => (if decide (s1 < (a1.length : Int)) = true then (idx a1 s1).bind fun x1 => (dns_name_1.g k_ x1).bind fun r1 => (if r1 = true then some (.inr (.inr (s1))) else some (.inl (IntKind.i64.wrap (s1 + 1)))) else some (.inr (.inl (()))))) 0).bind (Sum.elim (fun j1 => some ((-1))) (fun z_ => some (z_)))
theorem slices_IndexFunc_s_byte_byte_at_dns_name_1.le (k_ : Nat) (a1 : List Int) : Le (slices_IndexFunc_s_byte_byte_at_dns_name_1.g k_ a1) (slices_IndexFunc_s_byte_byte_at_dns_name_1.f a1) := by
 unfold slices_IndexFunc_s_byte_byte_at_dns_name_1.g slices_IndexFunc_s_byte_byte_at_dns_name_1.f
 repeat' (first | with_reducible refine le_loop fun _ => ?_ | with_reducible refine le_bind ?_ fun _ => ?_ | with_reducible refine le_ite ?_ ?_ | with_reducible refine le_lt fun _ => ?_ | with_reducible refine le_elim (fun _ => ?_) (fun _ => ?_) _ | with_reducible apply dns_name_1.le | with_reducible exact le_refl _)
/-! slices.ContainsFunc[[]byte,byte] -/
noncomputable def slices_ContainsFunc_s_byte_byte_at_dns_name_1.f (a1 : List Int) : Option (Bool) :=
  (slices_IndexFunc_s_byte_byte_at_dns_name_1.f a1).bind fun r1 => lt (decide (0 ≤ r1)) fun y1 => some (y1)
set_option maxRecDepth 100000 in
set_option maxHeartbeats 4000000 in
theorem slices_ContainsFunc_s_byte_byte_at_dns_name_1.spc (v1 : Value) (a1 : List Int) (r : Bool) (H : slices_ContainsFunc_s_byte_byte_at_dns_name_1.f a1 = some r) : Spc Tryd.prog 43 [v1, .func (.func 44) #[] #[]] [Val (Kd.sl (Kd.int .u8)) v1 a1] [] (fun (s : Unit) => .bool r) (fun s => []) := by
 unfold slices_ContainsFunc_s_byte_byte_at_dns_name_1.f at H
 refine Spc.go Tryd.func43 rfl (by kernel_rfl) rfl rfl (all_cons (Val.per Per_sl) all_nil) fun F a w h => ?_
 refine Go.seq ?_
 refine Go.reg ?_
 refine ga h (o_assign rfl) rfl fun h => ?_
 refine GoR.done ?_
 refine Go.seq ?_
 refine Go.reg ?_
 refine mv h rfl rfl fun h => ?_
 refine mv h rfl rfl fun h => ?_
 obtain ⟨r1, er1, H⟩ := bindE H
 refine ga h (o_call (slices_IndexFunc_s_byte_byte_at_dns_name_1.spc v1 a1 r1 er1) rfl [0] [] (by decide) rfl rfl) rfl fun h => ?_
 have g1 := h.mem.pur 0 rfl
 refine ga h (o_bin rfl rfl rfl) rfl fun h => ?_
 obtain ⟨y1, ey1, H⟩ := ltE H
 refine ga h (o_assign' rfl (congrArg Value.bool ey1)) rfl fun h => ?_
 refine GoR.done ?_
 rw [← som H]
 exact g_ret (vs := [.bool y1]) h Tryd.func43 ⟨rfl, trivial⟩ ⟨(), rfl, (h.mem.pick [] (by decide) rfl)⟩
def slices_ContainsFunc_s_byte_byte_at_dns_name_1.g (k_ : Nat) (a1 : List Int) : Option (Bool) :=
  (slices_IndexFunc_s_byte_byte_at_dns_name_1.g k_ a1).bind fun r1 => lt (decide (0 ≤ r1)) fun y1 => some (y1)
theorem slices_ContainsFunc_s_byte_byte_at_dns_name_1.le (k_ : Nat) (a1 : List Int) : Le (slices_ContainsFunc_s_byte_byte_at_dns_name_1.g k_ a1) (slices_ContainsFunc_s_byte_byte_at_dns_name_1.f a1) := by
 unfold slices_ContainsFunc_s_byte_byte_at_dns_name_1.g slices_ContainsFunc_s_byte_byte_at_dns_name_1.f
 repeat' (first | with_reducible refine le_loop fun _ => ?_ | with_reducible refine le_bind ?_ fun _ => ?_ | with_reducible refine le_ite ?_ ?_ | with_reducible refine le_lt fun _ => ?_ | with_reducible refine le_elim (fun _ => ?_) (fun _ => ?_) _ | with_reducible apply slices_IndexFunc_s_byte_byte_at_dns_name_1.le | with_reducible exact le_refl _)
/-! drawbridge/dns.name -/
noncomputable def dns_name.f (a1 : List Int) : Option ((List Int) × Bool) :=
  (strings_TrimSuffix.f a1 [46]).bind fun r1 => (if (!decide (r1 = [])) = true then (strings_SplitSeq.f r1 [46]).bind fun r2 => (rnx (fun s1 y1 => (s2b y1).bind fun x1 => (slices_ContainsFunc_s_byte_byte_at_dns_name_1.f x1).bind fun r3 => ((if decide (y1 = []) = true then some (true) else (if decide (63 < (y1.length : Int)) = true then some (true) else some (r3)))).bind (fun j1 => (if j1 = true then some (.inr s1) else (app s1 ([IntKind.u8.wrap (y1.length : Int)] : List Int)).bind fun x2 => (app x2 y1).bind fun x3 => some (.inl x3)))) r2 []).bind (Sum.elim (fun o2i => (app o2i ([0] : List Int)).bind fun x4 => some ((x4, decide ((x4.length : Int) ≤ 255)))) (fun r4 => some (([], false)))) else (app [] ([0] : List Int)).bind fun x5 => some ((x5, decide ((x5.length : Int) ≤ 255))))
set_option maxRecDepth 100000 in
set_option maxHeartbeats 4000000 in
theorem dns_name.spc (a1 : List Int) (ha1 : Bs a1) (r : (List Int) × Bool) (H : dns_name.f a1 = some r) : Spc Tryd.prog 26 [.string (mkS a1)] [] [] (fun (s : Value) => .tuple #[s, .bool r.2]) (fun s => [Val (Kd.sl (Kd.int .u8)) s r.1]) := by
 unfold dns_name.f at H
 refine Spc.go Tryd.func26 rfl (by kernel_rfl) rfl rfl all_nil fun F a w h => ?_
 refine Go.seq ?_
 refine Go.reg ?_
 refine gs h (o_alloc (K := (Kd.sl (Kd.int .u8))) (z := (.slice none 0 0)) rfl z_sl) rfl fun b1 _ _ h => ?_
 refine gs h (o_alloc (K := Kd.bool) (z := (.bool false)) rfl z_bool) rfl fun b2 _ _ h => ?_
 refine GoR.done ?_
 refine Go.seq ?_
 refine Go.reg ?_
 refine mv h rfl rfl fun h => ?_
 obtain ⟨r1, er1, H⟩ := bindE H
 refine ga h (o_call (strings_TrimSuffix.spc a1 ha1 [46] (show Bs [46] by decide) r1 er1) rfl [] [] (by decide) rfl rfl) rfl fun h => ?_
 have g1 := h.mem.pur 0 rfl
 refine ga h (o_assign rfl) rfl fun h => ?_
 refine GoR.done ?_
 refine Go.seq ?_
 refine Go.reg ?_
 refine gs h (o_alloc (K := (Kd.osl (Kd.int .u8))) (z := (.slice none 0 0)) rfl z_osl) rfl fun b3 _ _ h => ?_
 refine GoR.done ?_
 refine Go.seq ?_
 refine Go.seq ?_
 refine Go.reg ?_
 refine mv h rfl rfl fun h => ?_
 refine ga h (o_nes rfl rfl g1 (show Bs [] by decide)) rfl fun h => ?_
 refine GoR.done ?_
 by_cases c1 : (!decide (r1 = [])) = true
 ·have H := ifT c1 H
  refine g_t h rfl c1 ?_
  refine Go.seq ?_
  refine Go.reg ?_
  refine mv h rfl rfl fun h => ?_
  obtain ⟨r2, er2, H⟩ := bindE H
  refine gs h (o_call (strings_SplitSeq.spc r1 g1 [46] (show Bs [46] by decide) r2 er2) rfl [] [] (by decide) rfl rfl) rfl fun v1 _ _ h => ?_
  refine GoR.done ?_
  refine Go.block ?_
  replace h := h.wq [(2, pt b1), (3, pt b2), (4, pt b3), (12, v1)] [Val (Kd.itl Tryd.prog Kd.str) v1 r2, Fld (Kd.osl (Kd.int .u8)) b3 0 [], Fld Kd.bool b2 0 false, Fld (Kd.sl (Kd.int .u8)) b1 0 []] [0, 1, 3, 4]
  obtain ⟨o2, i1, H⟩ := bindE H
  refine g_rangeL h rfl i1 (fun s1 => [Fld (Kd.osl (Kd.int .u8)) b3 0 s1, Fld Kd.bool b2 0 false, Fld (Kd.sl (Kd.int .u8)) b1 0 []]) (fun r4 => [Fld (Kd.osl (Kd.int .u8)) b3 0 r4, Fld Kd.bool b2 0 false, Fld (Kd.sl (Kd.int .u8)) b1 0 []]) [] [0, 1, 2, 3] (by decide) (by rfl) rfl rfl (fun s1 s2 y1 v2 l1 F a w H h => ?_) (fun o2i eo_ D_ w h => ?_) (fun r4 eo_ D_ w h => ?_)
  ·obtain ⟨rfl, g2⟩ := Mem.strv h.mem 0 rfl
   refine Go.block ?_
   refine Go.seq ?_
   refine Go.reg ?_
   refine mv h rfl rfl fun h => ?_
   obtain ⟨x1, ex1, H⟩ := bindE H
   refine gs h (o_s2b 5 rfl g2 ex1 t_u9 t_u22 t_u5) rfl fun v3 _ _ h => ?_
   replace h := h.mm fun m => m.freeze 0 rfl
   obtain ⟨r3, er3, H⟩ := bindE H
   refine ga h (o_call (slices_ContainsFunc_s_byte_byte_at_dns_name_1.spc v3 x1 r3 er3) rfl [0] [] (by decide) rfl rfl) rfl fun h => ?_
   refine ga h (o_assign rfl) rfl fun h => ?_
   refine GoR.done ?_
   refine Go.seq ?_
   refine Go.seq ?_
   obtain ⟨o4, H, G3⟩ := bindE H
   refine g_cut (fun G => ∀ j1 (a : Act) (w : World), o4 = j1 → St Tryd.f26.ntmps F [(2, pt b1), (3, pt b2), (4, pt b3), (5, .string (mkS y1)), (26, .bool j1)] [Fld (Kd.osl (Kd.int .u8)) b3 0 s1, Fld Kd.bool b2 0 false, Fld (Kd.sl (Kd.int .u8)) b1 0 []] a w → G a w) 1 ?_ fun J1 => ?_
   ·intro j1 a w ho_ h
    rw [ho_] at G3
    have H := G3
    by_cases c4 : j1 = true
    ·have H := ifT c4 H
     refine g_t h rfl c4 ?_
     refine Go.seq ?_
     refine Go.reg ?_
     refine gs0 h (o_st 2 rfl rfl rfl pv_nil rfl t_w22) fun _ _ _ h => ?_
     refine gs0 h (o_st 1 rfl rfl rfl pv_bool rfl t_w4) fun _ _ _ h => ?_
     refine GoR.done ?_
     have e_ := som H; subst e_
     exact Go.rret h.sl.df (.inr ⟨_, rfl, rfl, h.mem.pick [0, 1, 2] (by decide) (by rfl)⟩)
    ·have H := ifF c4 H
     refine g_f h rfl c4 ?_
     refine Go.skip ?_
     refine Go.reg ?_
     obtain ⟨v4, h⟩ := h.unp 0 rfl
     refine ga h (o_ldx 0 rfl rfl X_eq t_y22) rfl fun h => ?_
     refine mv h rfl rfl fun h => ?_
     refine ga h (o_lens rfl t_u9) rfl fun h => ?_
     refine ga h (o_conv rfl t_q3 t_u5) rfl fun h => ?_
     refine gs h (o_bs (K := (Kd.int .u8)) (vs := [.int .u8 (IntKind.u8.wrap (y1.length : Int))]) (xs := ([IntKind.u8.wrap (y1.length : Int)] : List Int)) rfl rfl (pvs_cons (pv_int (wrap_in _ _)) pvs_nil) t_a22 (by decide) (by decide)) rfl fun v5 _ _ h => ?_
     obtain ⟨x2, ex2, H⟩ := bindE H
     refine gs h (o_app (K := (Kd.int .u8)) 2 rfl rfl rfl (rd_own 0 rfl) ex2 t_a22 t_n22) rfl fun v6 _ _ h => ?_
     refine mv h rfl rfl fun h => ?_
     obtain ⟨x3, ex3, H⟩ := bindE H
     refine gs h (o_apps 2 rfl rfl g2 rfl ex3 t_a22 t_n9) rfl fun v7 _ _ h => ?_
     refine gs0 h (o_st 1 rfl rfl rfl (pv_eqo 2 rfl) rfl t_w22) fun _ _ _ h => ?_
     refine GoR.done ?_
     refine Go.inBlock ?_
     replace h := h.mm fun m => (m.pull (Lo := [Fld (Kd.eq v7) b3 0 (), Val (Kd.osl (Kd.int .u8)) v7 x3]) [1, 2] (by decide) rfl).pck
     have e_ := som H; subst e_
     exact Go.rend h.sl.df (.inl ⟨_, rfl, rfl, h.mem.pick [0, 4, 5] (by decide) (by rfl)⟩)
   refine Go.reg ?_
   refine mv h rfl rfl fun h => ?_
   refine ga h (o_eqs rfl rfl g2 (show Bs [] by decide)) rfl fun h => ?_
   refine mv h rfl rfl fun h => ?_
   by_cases c2 : decide (y1 = []) = true
   ·have H := ifT c2 H
    iterate 3 (refine gk h rfl rfl (nb_t c2) rfl fun _ h => ?_)
    refine ga h (o_pickT rfl rfl c2) rfl fun h => ?_
    refine mv h rfl rfl fun h => ?_
    refine gk h rfl rfl (nb_t rfl) rfl fun _ h => ?_
    refine ga h (o_pickT rfl rfl rfl) rfl fun h => ?_
    refine GoR.done ?_
    exact J1 true _ _ (som H).symm (h.wr [2, 3, 4])
   ·have H := ifF c2 H
    refine gg h rfl rfl (nbF c2) (o_move rfl) rfl fun _ _ _ h => ?_
    refine gg h rfl rfl (nbF c2) (o_lens rfl t_u9) rfl fun _ _ _ h => ?_
    refine gg h rfl rfl (nbF c2) (o_bin rfl rfl rfl) rfl fun _ _ _ h => ?_
    refine ga h (o_pickF rfl rfl c2) rfl fun h => ?_
    refine mv h rfl rfl fun h => ?_
    by_cases c3 : decide (63 < (y1.length : Int)) = true
    ·have H := ifT c3 H
     refine gk h rfl rfl (nb_t c3) rfl fun _ h => ?_
     refine ga h (o_pickT rfl rfl c3) rfl fun h => ?_
     refine GoR.done ?_
     exact J1 true _ _ (som H).symm (h.wr [2, 3, 4])
    ·have H := ifF c3 H
     refine gg h rfl rfl (nbF c3) (o_move rfl) rfl fun _ _ _ h => ?_
     refine ga h (o_pickF rfl rfl c3) rfl fun h => ?_
     refine GoR.done ?_
     exact J1 r3 _ _ (som H).symm (h.wr [2, 3, 4])
  ·rw [eo_] at H
   refine Go.inBlock ?_
   refine Go.seq ?_
   refine Go.reg ?_
   obtain ⟨v8, h⟩ := h.unp 1 rfl
   refine ga h (o_ldx 0 rfl rfl X_eq t_y22) rfl fun h => ?_
   refine gs h (o_bs (K := (Kd.int .u8)) (vs := [.int .u8 0]) (xs := ([0] : List Int)) rfl rfl (pvs_cons (pv_int (show InR .u8 0 by decide)) pvs_nil) t_a22 (by decide) (by decide)) rfl fun v9 _ _ h => ?_
   obtain ⟨x4, ex4, H⟩ := bindE H
   refine gs h (o_app (K := (Kd.int .u8)) 3 rfl rfl rfl (rd_own 0 rfl) ex4 t_a22 t_n22) rfl fun v10 _ _ h => ?_
   refine gs0 h (o_st 1 rfl rfl rfl (pv_eqo 3 rfl) rfl t_w22) fun _ _ _ h => ?_
   refine GoR.done ?_
   refine Go.seq ?_
   replace h := h.mm fun m => (m.pull (Lo := [Fld (Kd.eq v10) b3 0 (), Val (Kd.osl (Kd.int .u8)) v10 x4]) [1, 3] (by decide) rfl).pck
   replace h := h.mm fun m => m.rofrz ro_osl 0 rfl
   replace h := h.wq [(2, pt b1), (3, pt b2), (4, pt b3)] [Fld (Kd.sl (Kd.int .u8)) b1 0 [], Pfl (Kd.sl (Kd.int .u8)) b3 0 x4, Val (Kd.osl (Kd.int .u8)) v9 ([0] : List Int), Obe D_ (.deferred (some [])), Fld Kd.bool b2 0 false] [6, 0, 1, 3, 5]
   refine Go.draw (E := [(2, pt b1), (3, pt b2), (4, pt b3)]) [] (L := [Pfl (Kd.sl (Kd.int .u8)) b3 0 x4, Val (Kd.osl (Kd.int .u8)) v9 ([0] : List Int), Obe D_ (.deferred (some [])), Fld Kd.bool b2 0 false]) h rfl rfl 5 [cw [] [] [] fun u => [Val (Kd.sl (Kd.int .u8)) u x4], cw [] [] [] fun u => [Val (Kd.sl (Kd.int .u8)) u x4], cm [1] [1] [] (.int .i64 (x4.length : Int)) fun u => [], ce [1, 2] (.bool (decide ((x4.length : Int) ≤ 255))), cm [0] [5, 0] [5] (undef) fun u => [Fld (Kd.sl (Kd.int .u8)) b1 0 x4], cm [] [] [] undef fun u => [Fld (Kd.sl (Kd.int .u8)) b1 0 []]] rfl t_mxo (by kernel_rfl) (by rfl) ?_ fun f2 _ _ h => ?_
   ·exact oy rfl (p_ldv 0 rfl rfl t_y22) (oy rfl (p_ldv 0 rfl rfl t_y22) (ox rfl (o_ln rfl (rd_at 0 rfl) t_v22) (ox rfl (o_bin rfl rfl rfl) (ox rfl (o_st 0 rfl rfl rfl (pv_at Per_sl 1 rfl) rfl t_w22) (obs_nil)))))
   replace h := h.wk (E' := [(2, pt b1), (3, pt b2), (41, .bool (decide ((x4.length : Int) ≤ 255)))]) (L' := [Val (Kd.sl (Kd.int .u8)) (f2 0) x4, Val (Kd.sl (Kd.int .u8)) (f2 1) x4, Fld (Kd.sl (Kd.int .u8)) b1 0 x4, Pfl (Kd.sl (Kd.int .u8)) b3 0 x4, Val (Kd.osl (Kd.int .u8)) v9 ([0] : List Int), Obe D_ (.deferred (some [])), Fld Kd.bool b2 0 false]) (by kernel_rfl) [0, 1, 2, 3, 4, 5, 6] (by decide) (by kernel_rfl)
   refine gs0 h (o_st 6 rfl rfl rfl pv_bool rfl t_w4) fun _ _ _ h => ?_
   refine GoR.done ?_
   rw [← som H]
   refine g_retx h 5 rfl Tryd.func26 fun w h => ?_
   obtain ⟨v13, h, u1⟩ := h.peek 2 rfl Per_sl t_y22
   obtain ⟨v14, h, u2⟩ := h.peek 7 rfl Per_bool t_y4
   obtain rfl := Mem.boolv h.mem 0 rfl
   exact ⟨[v13, .bool (decide ((x4.length : Int) ≤ 255))], ⟨⟨_, rfl, u1⟩, ⟨⟨_, rfl, u2⟩, trivial⟩⟩, v13, rfl, (h.mem.pick [1] (by decide) rfl)⟩
  ·rw [eo_] at H
   rw [← som H]
   refine g_retx h 0 rfl Tryd.func26 fun w h => ?_
   obtain ⟨v15, h, u3⟩ := h.peek 3 rfl Per_sl t_y22
   obtain ⟨v16, h, u4⟩ := h.peek 3 rfl Per_bool t_y4
   obtain rfl := Mem.boolv h.mem 0 rfl
   exact ⟨[v15, .bool false], ⟨⟨_, rfl, u3⟩, ⟨⟨_, rfl, u4⟩, trivial⟩⟩, v15, rfl, (h.mem.pick [1] (by decide) rfl)⟩
 ·have H := ifF c1 H
  refine g_f h rfl c1 ?_
  refine Go.skip ?_
  refine Go.seq ?_
  refine Go.reg ?_
  obtain ⟨v17, h⟩ := h.unp 0 rfl
  refine ga h (o_ldx 0 rfl rfl X_eq t_y22) rfl fun h => ?_
  refine gs h (o_bs (K := (Kd.int .u8)) (vs := [.int .u8 0]) (xs := ([0] : List Int)) rfl rfl (pvs_cons (pv_int (show InR .u8 0 by decide)) pvs_nil) t_a22 (by decide) (by decide)) rfl fun v18 _ _ h => ?_
  obtain ⟨x5, ex5, H⟩ := bindE H
  refine gs h (o_app (K := (Kd.int .u8)) 2 rfl rfl rfl (rd_own 0 rfl) ex5 t_a22 t_n22) rfl fun v19 _ _ h => ?_
  refine gs0 h (o_st 1 rfl rfl rfl (pv_eqo 2 rfl) rfl t_w22) fun _ _ _ h => ?_
  refine GoR.done ?_
  refine Go.seq ?_
  replace h := h.mm fun m => (m.pull (Lo := [Fld (Kd.eq v19) b3 0 (), Val (Kd.osl (Kd.int .u8)) v19 x5]) [1, 2] (by decide) rfl).pck
  replace h := h.mm fun m => m.rofrz ro_osl 0 rfl
  replace h := h.wq [(2, pt b1), (3, pt b2), (4, pt b3)] [Fld (Kd.sl (Kd.int .u8)) b1 0 [], Pfl (Kd.sl (Kd.int .u8)) b3 0 x5, Val (Kd.osl (Kd.int .u8)) v18 ([0] : List Int), Ent.pur (Bs r1), Fld Kd.bool b2 0 false] [6, 0, 1, 4, 5]
  refine Go.draw (E := [(2, pt b1), (3, pt b2), (4, pt b3)]) [] (L := [Pfl (Kd.sl (Kd.int .u8)) b3 0 x5, Val (Kd.osl (Kd.int .u8)) v18 ([0] : List Int), Ent.pur (Bs r1), Fld Kd.bool b2 0 false]) h rfl rfl 5 [cw [] [] [] fun u => [Val (Kd.sl (Kd.int .u8)) u x5], cw [] [] [] fun u => [Val (Kd.sl (Kd.int .u8)) u x5], cm [1] [1] [] (.int .i64 (x5.length : Int)) fun u => [], ce [1, 2] (.bool (decide ((x5.length : Int) ≤ 255))), cm [0] [5, 0] [5] (undef) fun u => [Fld (Kd.sl (Kd.int .u8)) b1 0 x5], cm [] [] [] undef fun u => [Fld (Kd.sl (Kd.int .u8)) b1 0 []]] rfl t_mxo (by kernel_rfl) (by rfl) ?_ fun f4 _ _ h => ?_
  ·exact oy rfl (p_ldv 0 rfl rfl t_y22) (oy rfl (p_ldv 0 rfl rfl t_y22) (ox rfl (o_ln rfl (rd_at 0 rfl) t_v22) (ox rfl (o_bin rfl rfl rfl) (ox rfl (o_st 0 rfl rfl rfl (pv_at Per_sl 1 rfl) rfl t_w22) (obs_nil)))))
  replace h := h.wk (E' := [(2, pt b1), (3, pt b2), (41, .bool (decide ((x5.length : Int) ≤ 255)))]) (L' := [Val (Kd.sl (Kd.int .u8)) (f4 0) x5, Val (Kd.sl (Kd.int .u8)) (f4 1) x5, Fld (Kd.sl (Kd.int .u8)) b1 0 x5, Pfl (Kd.sl (Kd.int .u8)) b3 0 x5, Val (Kd.osl (Kd.int .u8)) v18 ([0] : List Int), Ent.pur (Bs r1), Fld Kd.bool b2 0 false]) (by kernel_rfl) [0, 1, 2, 3, 4, 5, 6] (by decide) (by kernel_rfl)
  refine gs0 h (o_st 6 rfl rfl rfl pv_bool rfl t_w4) fun _ _ _ h => ?_
  refine GoR.done ?_
  obtain ⟨v22, h, u5⟩ := h.peek 2 rfl Per_sl t_y22
  obtain ⟨v23, h, u6⟩ := h.peek 7 rfl Per_bool t_y4
  obtain rfl := Mem.boolv h.mem 0 rfl
  rw [← som H]
  exact g_ret (vs := [v22, .bool (decide ((x5.length : Int) ≤ 255))]) h Tryd.func26 ⟨⟨_, rfl, u5⟩, ⟨⟨_, rfl, u6⟩, trivial⟩⟩ ⟨v22, rfl, (h.mem.pick [1] (by decide) rfl)⟩
def dns_name.g (k_ : Nat) (a1 : List Int) : Option ((List Int) × Bool) :=
  (strings_TrimSuffix.g k_ a1 [46]).bind fun r1 => (if (!decide (r1 = [])) = true then (strings_SplitSeq.g k_ r1 [46]).bind fun r2 => (rnx (fun s1 y1 => (s2b y1).bind fun x1 => (slices_ContainsFunc_s_byte_byte_at_dns_name_1.g k_ x1).bind fun r3 => ((if decide (y1 = []) = true then some (true) else (if decide (63 < (y1.length : Int)) = true then some (true) else some (r3)))).bind (fun j1 => (if j1 = true then some (.inr s1) else (app s1 ([IntKind.u8.wrap (y1.length : Int)] : List Int)).bind fun x2 => (app x2 y1).bind fun x3 => some (.inl x3)))) r2 []).bind (Sum.elim (fun o2i => (app o2i ([0] : List Int)).bind fun x4 => some ((x4, decide ((x4.length : Int) ≤ 255)))) (fun r4 => some (([], false)))) else (app [] ([0] : List Int)).bind fun x5 => some ((x5, decide ((x5.length : Int) ≤ 255))))
theorem dns_name.le (k_ : Nat) (a1 : List Int) : Le (dns_name.g k_ a1) (dns_name.f a1) := by
 unfold dns_name.g dns_name.f
 repeat' (first | with_reducible refine le_loop fun _ => ?_ | with_reducible refine le_bind ?_ fun _ => ?_ | with_reducible refine le_ite ?_ ?_ | with_reducible refine le_lt fun _ => ?_ | with_reducible refine le_rnx (fun _ _ => ?_) _ _ | with_reducible refine le_elim (fun _ => ?_) (fun _ => ?_) _ | with_reducible apply slices_ContainsFunc_s_byte_byte_at_dns_name_1.le | with_reducible apply strings_SplitSeq.le | with_reducible apply strings_TrimSuffix.le | with_reducible exact le_refl _)
/-! slices.Reverse[[]byte,byte] -/
noncomputable def slices_Reverse_s_byte_byte.f (a1 : List Int) : Option ((List Int)) :=
  lt (IntKind.i64.wrap ((a1.length : Int) - 1)) fun y1 => (loop (fun s1 => (if decide (s1.2.1 < s1.2.2) = true then (idx s1.1 s1.2.2).bind fun x1 => (idx s1.1 s1.2.1).bind fun x2 => (idx s1.1 s1.2.1).bind fun x3 => (idx (s1.1.set s1.2.1.toNat x1) s1.2.2).bind fun x4 => lt ((s1.1.set s1.2.1.toNat x1).set s1.2.2.toNat x2) fun y2 => lt (IntKind.i64.wrap (s1.2.1 + 1)) fun y3 => lt (IntKind.i64.wrap (s1.2.2 - 1)) fun y4 => some (.inl (y2, y3, y4)) else some (.inr (s1.1)))) (a1, 0, y1)).bind (fun z_ => some (z_))
set_option maxRecDepth 100000 in
set_option maxHeartbeats 4000000 in
theorem slices_Reverse_s_byte_byte.spc (v1 : Value) (a1 : List Int) (r : (List Int)) (H : slices_Reverse_s_byte_byte.f a1 = some r) : Spc Tryd.prog 61 [v1] [] [Val (Kd.osl (Kd.int .u8)) v1 a1] (fun (s : Unit) => .tuple #[]) (fun s => [Val (Kd.osl (Kd.int .u8)) v1 r]) := by
 unfold slices_Reverse_s_byte_byte.f at H
 refine Spc.go Tryd.func61 rfl (by kernel_rfl) rfl rfl all_nil fun F a w h => ?_
 refine Go.seq ?_
 refine Go.reg ?_
 refine mv h rfl rfl fun h => ?_
 have g1 := (len_own 0 rfl h.mem)
 refine ga h (o_ln rfl (rd_own 0 rfl) t_v22) rfl fun h => ?_
 refine ga h (o_bin rfl rfl rfl) rfl fun h => ?_
 refine ga h (o_assign rfl) rfl fun h => ?_
 obtain ⟨y1, ey1, H⟩ := ltE H
 refine ga h (o_assign' rfl (congrArg (fun z => Value.int .i64 z) ey1)) rfl fun h => ?_
 refine GoR.done ?_
 refine Go.block ?_
 obtain ⟨o1, hl, G1⟩ := bindE H
 refine g_loop (fun s1 G => ∀  (a : Act) (w : World), InR .i64 s1.2.1 → InR .i64 s1.2.2 → St Tryd.f61.ntmps F [(0, v1), (2, .int .i64 s1.2.1), (3, .int .i64 s1.2.2)] [Val (Kd.osl (Kd.int .u8)) v1 s1.1] a w → G a w) hl (fun s1 p1 H i1 => ?_) fun I_ => ?_
 ·intro  a w g2 g3 h
  refine Go.seq ?_
  refine Go.seq ?_
  refine Go.reg ?_
  refine mv h rfl rfl fun h => ?_
  refine mv h rfl rfl fun h => ?_
  refine ga h (o_bin rfl rfl rfl) rfl fun h => ?_
  refine GoR.done ?_
  by_cases c1 : decide (s1.2.1 < s1.2.2) = true
  ·have H := ifT c1 H
   refine g_t h rfl c1 ?_
   refine Go.skip ?_
   refine Go.seq ?_
   refine Go.block ?_
   replace h := h.wq [(0, v1), (2, .int .i64 s1.2.1), (3, .int .i64 s1.2.2)] [Val (Kd.osl (Kd.int .u8)) v1 s1.1] [0]
   obtain ⟨x1, ex1, H⟩ := bindE H
   obtain ⟨x2, ex2, H⟩ := bindE H
   obtain ⟨x3, ex3, H⟩ := bindE H
   refine Go.draw (E := [(0, v1), (2, .int .i64 s1.2.1), (3, .int .i64 s1.2.2)]) [] (L := []) h rfl rfl 14 [cn (v1), cn (.int .i64 s1.2.1), cn (v1), cn (.int .i64 s1.2.2), cn (v1), cn (.int .i64 s1.2.2), cm [4, 5] [14] [] (elemP v1 (s1.2.2.toNat * Kd.n (Kd.int .u8))) fun u => [], cm [4, 5, 6] [14] [] (.int .u8 x1) fun u => [Ent.pur (InR .u8 x1)], cn (v1), cn (.int .i64 s1.2.1), cm [8, 9] [14] [] (elemP v1 (s1.2.1.toNat * Kd.n (Kd.int .u8))) fun u => [], cm [8, 9, 10] [14] [] (.int .u8 x2) fun u => [Ent.pur (InR .u8 x2)], cm [0, 1] [14] [] (elemP v1 (s1.2.1.toNat * Kd.n (Kd.int .u8))) fun u => [], cm [0, 1, 4, 5, 6, 7, 12] [14, 7] [14] (undef) fun u => [Val (Kd.osl (Kd.int .u8)) v1 (s1.1.set s1.2.1.toNat x1)], cm [] [] [] undef fun u => [Val (Kd.osl (Kd.int .u8)) v1 s1.1]] rfl t_mxo (by kernel_rfl) (by rfl) ?_ fun f1 _ _ h => ?_
   ·exact ox rfl (o_move rfl) (ox rfl (o_move rfl) (ox rfl (o_move rfl) (ox rfl (o_move rfl) (ox rfl (o_move rfl) (ox rfl (o_move rfl) (ox rfl (o_ix rfl rfl (rd_own 0 rfl) ex1 t_v22) (ox rfl (OpS.pur (fun F w m_ => (rd_inr (rd_own 0 rfl) ex1 m_)) (o_lex rfl (rd_own 0 rfl) ex1 X_int t_y5 (by decide))) (ox rfl (o_move rfl) (ox rfl (o_move rfl) (ox rfl (o_ix rfl rfl (rd_own 0 rfl) ex2 t_v22) (ox rfl (OpS.pur (fun F w m_ => (rd_inr (rd_own 0 rfl) ex2 m_)) (o_lex rfl (rd_own 0 rfl) ex2 X_int t_y5 (by decide))) (ox rfl (o_ix rfl rfl (rd_own 0 rfl) ex3 t_v22) (ox rfl (OpS.fact (p := InR .u8 x1) (fun F w m_ => (Mem.pur 1 rfl m_)) fun g4 => (o_ste 0 rfl rfl rfl (pv_int g4) ex3 t_w5 (by decide))) (obs_nil))))))))))))))
   replace h := h.wk (E' := [(0, v1), (2, .int .i64 s1.2.1), (3, .int .i64 s1.2.2), (16, v1), (17, .int .i64 s1.2.2), (25, .int .u8 x2)]) (L' := [Ent.pur (InR .u8 x1), Ent.pur (InR .u8 x2), Val (Kd.osl (Kd.int .u8)) v1 (s1.1.set s1.2.1.toNat x1)]) (by kernel_rfl) [0, 1, 2] (by decide) (by kernel_rfl)
   have g5 := (Mem.pur 1 rfl h.mem)
   obtain ⟨x4, ex4, H⟩ := bindE H
   refine ga h (o_ix rfl rfl (rd_own 2 rfl) ex4 t_v22) rfl fun h => ?_
   obtain ⟨y2, ey2, H⟩ := ltE H
   refine gs0 h (o_ste 2 rfl rfl rfl (pv_int g5) ex4 t_w5 (by decide)) fun _ _ _ h => ?_
   rw [ey2] at h
   refine GoR.done ?_
   refine Go.inBlock ?_
   refine Go.reg ?_
   refine mv h rfl rfl fun h => ?_
   refine ga h (o_bin rfl rfl rfl) rfl fun h => ?_
   refine mv h rfl rfl fun h => ?_
   refine ga h (o_bin rfl rfl rfl) rfl fun h => ?_
   obtain ⟨y3, ey3, H⟩ := ltE H
   refine ga h (o_assign' rfl (congrArg (fun z => Value.int .i64 z) ey3)) rfl fun h => ?_
   obtain ⟨y4, ey4, H⟩ := ltE H
   refine ga h (o_assign' rfl (congrArg (fun z => Value.int .i64 z) ey4)) rfl fun h => ?_
   refine GoR.done ?_
   have e_ := som H; subst e_
   exact Go.inLoop (nx_in i1 _ _ (ey3 ▸ (wrap_in _ _)) (ey4 ▸ (wrap_in _ _)) (h.wr [2]))
  ·have H := ifF c1 H
   refine g_f h rfl c1 ?_
   refine Go.exit rfl ?_
   have e_ := som H; subst e_
   rw [← nx_out i1] at G1
   have H := G1
   rw [← som H]
   exact g_fin (vs := []) h Tryd.func61 trivial ⟨(), rfl, (h.mem.pick [0] (by decide) rfl)⟩
 ·exact I_ _ _ (show InR .i64 0 by decide) (ey1 ▸ (wrap_in _ _)) (h.wr [0])
def slices_Reverse_s_byte_byte.g (k_ : Nat) (a1 : List Int) : Option ((List Int)) :=
  lt (IntKind.i64.wrap ((a1.length : Int) - 1)) fun y1 => (loopK k_ (fun s1 => (if decide (s1.2.1 < s1.2.2) = true then (idx s1.1 s1.2.2).bind fun x1 => (idx s1.1 s1.2.1).bind fun x2 => (idx s1.1 s1.2.1).bind fun x3 => (idx (s1.1.set s1.2.1.toNat x1) s1.2.2).bind fun x4 => lt ((s1.1.set s1.2.1.toNat x1).set s1.2.2.toNat x2) fun y2 => lt (IntKind.i64.wrap (s1.2.1 + 1)) fun y3 => lt (IntKind.i64.wrap (s1.2.2 - 1)) fun y4 => some (.inl (y2, y3, y4)) else some (.inr (s1.1)))) (a1, 0, y1)).bind (fun z_ => some (z_))
theorem slices_Reverse_s_byte_byte.le (k_ : Nat) (a1 : List Int) : Le (slices_Reverse_s_byte_byte.g k_ a1) (slices_Reverse_s_byte_byte.f a1) := by
 unfold slices_Reverse_s_byte_byte.g slices_Reverse_s_byte_byte.f
 repeat' (first | with_reducible refine le_loop fun _ => ?_ | with_reducible refine le_bind ?_ fun _ => ?_ | with_reducible refine le_ite ?_ ?_ | with_reducible refine le_lt fun _ => ?_ | with_reducible refine le_elim (fun _ => ?_) (fun _ => ?_) _ | with_reducible exact le_refl _)
/-! drawbridge/bits.Put -/
noncomputable def bits_Put.f (a1 : Int) (a2 : Int) (a3 : Bool) : Option ((List Int)) :=
  (mk (max 0 (min a2 8)) 0).bind fun x1 => (loop (fun s1 => (if decide (s1.2 < (x1.length : Int)) = true then if 0 ≤ (IntKind.i64.wrap (8 * s1.2)) then ((idx s1.1 s1.2).bind fun x2 => lt (s1.1.set s1.2.toNat (IntKind.u8.wrap (ishr .u64 a1 (IntKind.i64.wrap (8 * s1.2))))) fun y1 => some (.inl (y1, IntKind.i64.wrap (s1.2 + 1)))) else none else some (.inr (s1.1)))) (x1, 0)).bind (fun j1 => ((if a3 = true then (slices_Reverse_s_byte_byte.f j1).bind fun r1 => some (r1) else some (j1))).bind (fun j2 => some (j2)))
set_option maxRecDepth 100000 in
set_option maxHeartbeats 4000000 in
theorem bits_Put.spc (a1 : Int) (ha1 : InR .u64 a1) (a2 : Int) (ha2 : InR .i64 a2) (a3 : Bool) (r : (List Int)) (H : bits_Put.f a1 a2 a3 = some r) : Spc Tryd.prog 47 [.int .u64 a1, .int .i64 a2, .bool a3] [] [] (fun (s : Value) => s) (fun s => [Val (Kd.osl (Kd.int .u8)) s r]) := by
 unfold bits_Put.f at H
 refine Spc.go Tryd.func47 rfl (by kernel_rfl) rfl rfl all_nil fun F a w h => ?_
 refine Go.seq ?_
 refine Go.reg ?_
 refine ga h (o_assign rfl) rfl fun h => ?_
 refine GoR.done ?_
 refine Go.seq ?_
 refine Go.reg ?_
 refine mv h rfl rfl fun h => ?_
 refine ga h (o_min rfl rfl) rfl fun h => ?_
 refine ga h (o_max rfl rfl) rfl fun h => ?_
 obtain ⟨x1, ex1, H⟩ := bindE H
 refine gs h (o_mk (K := (Kd.int .u8)) rfl rfl ex1 t_a22 (by decide) (fun e he => ⟨[.int .u8 0], by cases he; exact t_zc5, z_int⟩)) rfl fun v1 _ _ h => ?_
 refine ga h (o_assign rfl) rfl fun h => ?_
 refine GoR.done ?_
 refine Go.seq ?_
 refine Go.seq ?_
 refine Go.reg ?_
 refine mv h rfl rfl fun h => ?_
 have g1 := (len_own 0 rfl h.mem)
 refine ga h (o_ln rfl (rd_own 0 rfl) t_v22) rfl fun h => ?_
 refine mv h rfl rfl fun h => ?_
 refine GoR.done ?_
 refine Go.block ?_
 obtain ⟨o1, hl, G1⟩ := bindE H
 refine g_cut (fun G => ∀ j1 (v2 : Value) (a : Act) (w : World), o1 = j1 → St Tryd.f47.ntmps F [(2, .bool a3), (7, v2)] [Val (Kd.osl (Kd.int .u8)) v2 j1] a w → G a w) 2 ?_ fun J1 => ?_
 ·intro j1 v2 a w ho_ h
  rw [ho_] at G1
  have H := G1
  refine Go.seq ?_
  obtain ⟨o2, H, G2⟩ := bindE H
  refine g_cut (fun G => ∀ j2 (a : Act) (w : World), o2 = j2 → St Tryd.f47.ntmps F [(7, v2)] [Val (Kd.osl (Kd.int .u8)) v2 j2] a w → G a w) 1 ?_ fun J2 => ?_
  ·intro j2 a w ho_ h
   rw [ho_] at G2
   have H := G2
   refine Go.seq ?_
   refine Go.reg ?_
   refine mv h rfl rfl fun h => ?_
   refine ga h (o_assign rfl) rfl fun h => ?_
   refine GoR.done ?_
   rw [← som H]
   exact g_ret (vs := [v2]) h Tryd.func47 ⟨rfl, trivial⟩ ⟨v2, rfl, (h.mem.pick [0] (by decide) rfl)⟩
  refine Go.seq ?_
  refine Go.reg ?_
  refine mv h rfl rfl fun h => ?_
  refine GoR.done ?_
  by_cases c2 : a3 = true
  ·have H := ifT c2 H
   refine g_t h rfl c2 ?_
   refine Go.reg ?_
   refine mv h rfl rfl fun h => ?_
   obtain ⟨r1, er1, H⟩ := bindE H
   refine ga h (o_call (slices_Reverse_s_byte_byte.spc v2 j1 r1 er1) rfl [] [0] (by decide) rfl rfl) rfl fun h => ?_
   refine GoR.done ?_
   exact J2 r1 _ _ (som H).symm (h.wr [0])
  ·have H := ifF c2 H
   refine g_f h rfl c2 ?_
   refine Go.skip ?_
   exact J2 j1 _ _ (som H).symm (h.wr [0])
 refine g_loop (fun s1 G => ∀  (a : Act) (w : World), InR .i64 s1.2 → St Tryd.f47.ntmps F [(0, .int .u64 a1), (2, .bool a3), (7, v1), (14, .int .i64 (x1.length : Int)), (15, .int .i64 s1.2)] [Val (Kd.osl (Kd.int .u8)) v1 s1.1] a w → G a w) hl (fun s1 p1 H i1 => ?_) fun I_ => ?_
 ·intro  a w g2 h
  refine Go.seq ?_
  refine Go.reg ?_
  refine ga h (o_bin rfl rfl rfl) rfl fun h => ?_
  refine GoR.done ?_
  refine Go.seq ?_
  by_cases c1 : decide (s1.2 < (x1.length : Int)) = true
  ·have H := ifT c1 H
   refine g_t h rfl c1 ?_
   refine Go.skip ?_
   refine Go.seq ?_
   refine Go.block ?_
   refine Go.seq ?_
   refine Go.reg ?_
   refine mv h rfl rfl fun h => ?_
   refine ga h (o_assign rfl) rfl fun h => ?_
   refine GoR.done ?_
   refine Go.reg ?_
   iterate 4 (refine ga h (o_move rfl) rfl fun h => ?_)
   refine ga h (o_bin rfl rfl rfl) rfl fun h => ?_
   obtain ⟨q1, H⟩ := ifS H
   refine ga h (o_shr rfl rfl q1) rfl fun h => ?_
   refine ga h (o_conv rfl t_q87 t_u5) rfl fun h => ?_
   obtain ⟨x2, ex2, H⟩ := bindE H
   refine ga h (o_ix rfl rfl (rd_own 0 rfl) ex2 t_v22) rfl fun h => ?_
   obtain ⟨y1, ey1, H⟩ := ltE H
   refine gs0 h (o_ste 0 rfl rfl rfl (pv_int (wrap_in _ _)) ex2 t_w5 (by decide)) fun _ _ _ h => ?_
   rw [ey1] at h
   refine GoR.done ?_
   refine Go.inBlock ?_
   refine Go.reg ?_
   refine ga h (o_bin rfl rfl rfl) rfl fun h => ?_
   refine mv h rfl rfl fun h => ?_
   refine GoR.done ?_
   have e_ := som H; subst e_
   exact Go.inLoop (nx_in i1 _ _ (wrap_in _ _) (h.wr [0]))
  ·have H := ifF c1 H
   refine g_f h rfl c1 ?_
   refine Go.exit rfl ?_
   have e_ := som H; subst e_
   exact J1 s1.1 v1 _ _ (nx_out i1).symm (h.wr [0])
 ·exact I_ _ _ (show InR .i64 0 by decide) (h.wr [0])
def bits_Put.g (k_ : Nat) (a1 : Int) (a2 : Int) (a3 : Bool) : Option ((List Int)) :=
  (mk (max 0 (min a2 8)) 0).bind fun x1 => (loopK k_ (fun s1 => (if decide (s1.2 < (x1.length : Int)) = true then if 0 ≤ (IntKind.i64.wrap (8 * s1.2)) then ((idx s1.1 s1.2).bind fun x2 => lt (s1.1.set s1.2.toNat (IntKind.u8.wrap (ishr .u64 a1 (IntKind.i64.wrap (8 * s1.2))))) fun y1 => some (.inl (y1, IntKind.i64.wrap (s1.2 + 1)))) else none else some (.inr (s1.1)))) (x1, 0)).bind (fun j1 => ((if a3 = true then (slices_Reverse_s_byte_byte.g k_ j1).bind fun r1 => some (r1) else some (j1))).bind (fun j2 => some (j2)))
theorem bits_Put.le (k_ : Nat) (a1 : Int) (a2 : Int) (a3 : Bool) : Le (bits_Put.g k_ a1 a2 a3) (bits_Put.f a1 a2 a3) := by
 unfold bits_Put.g bits_Put.f
 repeat' (first | with_reducible refine le_loop fun _ => ?_ | with_reducible refine le_bind ?_ fun _ => ?_ | with_reducible refine le_ite ?_ ?_ | with_reducible refine le_lt fun _ => ?_ | with_reducible refine le_elim (fun _ => ?_) (fun _ => ?_) _ | with_reducible apply slices_Reverse_s_byte_byte.le | with_reducible exact le_refl _)
/-! drawbridge/dns.two -/
noncomputable def dns_two.f (a1 : Int) : Option ((List Int)) :=
  (bits_Put.f (IntKind.u64.wrap a1) 2 true).bind fun r1 => some (r1)
set_option maxRecDepth 100000 in
set_option maxHeartbeats 4000000 in
theorem dns_two.spc (a1 : Int) (ha1 : InR .i64 a1) (r : (List Int)) (H : dns_two.f a1 = some r) : Spc Tryd.prog 28 [.int .i64 a1] [] [] (fun (s : Value) => s) (fun s => [Val (Kd.osl (Kd.int .u8)) s r]) := by
 unfold dns_two.f at H
 refine Spc.go Tryd.func28 rfl (by kernel_rfl) rfl rfl all_nil fun F a w h => ?_
 refine Go.seq ?_
 refine Go.reg ?_
 refine ga h (o_assign rfl) rfl fun h => ?_
 refine GoR.done ?_
 refine Go.seq ?_
 refine Go.reg ?_
 refine mv h rfl rfl fun h => ?_
 refine ga h (o_conv rfl t_q3 t_u87) rfl fun h => ?_
 obtain ⟨r1, er1, H⟩ := bindE H
 refine gs h (o_call (bits_Put.spc (IntKind.u64.wrap a1) (wrap_in _ _) 2 (show InR .i64 2 by decide) true r1 er1) rfl [] [] (by decide) rfl rfl) rfl fun v1 _ _ h => ?_
 refine ga h (o_assign rfl) rfl fun h => ?_
 refine GoR.done ?_
 rw [← som H]
 exact g_ret (vs := [v1]) h Tryd.func28 ⟨rfl, trivial⟩ ⟨v1, rfl, (h.mem.pick [0] (by decide) rfl)⟩
def dns_two.g (k_ : Nat) (a1 : Int) : Option ((List Int)) :=
  (bits_Put.g k_ (IntKind.u64.wrap a1) 2 true).bind fun r1 => some (r1)
theorem dns_two.le (k_ : Nat) (a1 : Int) : Le (dns_two.g k_ a1) (dns_two.f a1) := by
 unfold dns_two.g dns_two.f
 repeat' (first | with_reducible refine le_loop fun _ => ?_ | with_reducible refine le_bind ?_ fun _ => ?_ | with_reducible refine le_ite ?_ ?_ | with_reducible refine le_lt fun _ => ?_ | with_reducible refine le_elim (fun _ => ?_) (fun _ => ?_) _ | with_reducible apply bits_Put.le | with_reducible exact le_refl _)
end Go.Proofs.YtjjceikmimhpnaaDoor.S
