/- Contracts of functions of the seat, written by a program of this session (with the kit's print) for the laws of this claim; no condition beside what each states. -/
import Derived.Test.YthfokiabneflpaaPx0
import Derived.Test.YthfokiabneflpaaPx1
import Derived.Test.YthfokiabneflpaaPx2
import Derived.Test.YthfokiabneflpaaPx4
import Derived.Test.YthfokiabneflpaaPx5
namespace Go.Proofs.Ythfokiabneflpaa.P
open Go.Proofs.Ythfokiabneflpaa.Aux Go.RowKit Go.Proofs.YthfokiabneflpaaW.PrintWords Go.Proofs.YthfokiabneflpaaW.PrintLast Go.Proofs.YthfokiabneflpaaW.PrintMore
attribute [local go_sem] max2_int min2_int max_two min_two max_three min_three max_four min_four   -- for this text's walks alone
set_option linter.unusedVariables false
set_option linter.unusedSimpArgs false

/-! ### drawbridgelaw23_LinkOrder: function 4 -/
mutual
def drawbridgelaw23_LinkOrder.l0 : Nat → List (List Int) → List (List Int) → Int → List (List Int) → Int → Option (Bool)
 | 0, _, _, _, _, _ => none
 | k + 1, x0, x4, x5, x449000, x449001 => if x5 < (x0.length : Int) then (if 0 ≤ x5 then ((link_Push.f k x449000 x449001 (rd_L1 x0 x5)).bind fun bt450 => (if bt450.2.2 = true then (if x4.length < 5864062014805 then (drawbridgelaw23_LinkOrder.l0 k x0 (x4 ++ [rd_L1 x0 x5]) (wrap64 (x5 + 1)) bt450.1 bt450.2.1) else (none)) else (drawbridgelaw23_LinkOrder.l0 k x0 x4 (wrap64 (x5 + 1)) bt450.1 bt450.2.1))) else (none)) else (drawbridgelaw23_LinkOrder.l1 k x0 x4 x449001 ([] : List (List Int)) 0 x449000 x449001)
def drawbridgelaw23_LinkOrder.j2 : Nat → List (List Int) → List (List Int) → Int → List (List Int) → List (List Int) → Int → Option (Bool)
 | 0, _, _, _, _, _, _ => none
 | k + 1, x0, x4, x8, x9, x449000, x449001 => drawbridgelaw23_LinkOrder.l2 k x0 x4 x8 x9 0 0 x449000 x449001
def drawbridgelaw23_LinkOrder.l2 : Nat → List (List Int) → List (List Int) → Int → List (List Int) → Int → Int → List (List Int) → Int → Option (Bool)
 | 0, _, _, _, _, _, _, _, _ => none
 | k + 1, x0, x4, x8, x9, x14, x15, x449000, x449001 => if x15 < (x0.length : Int) then (if 0 ≤ x15 then (if ((rd_L1 x0 x15).length : Int) ≥ 14 then (if ((rd_L1 x0 x15).length : Int) ≤ 1514 then (drawbridgelaw23_LinkOrder.l2 k x0 x4 x8 x9 (wrap64 (x14 + 1)) (wrap64 (x15 + 1)) x449000 x449001) else (drawbridgelaw23_LinkOrder.l2 k x0 x4 x8 x9 x14 (wrap64 (x15 + 1)) x449000 x449001)) else (drawbridgelaw23_LinkOrder.l2 k x0 x4 x8 x9 x14 (wrap64 (x15 + 1)) x449000 x449001)) else (none)) else ((drawbridgeref23_Lists.f k x4 x9).bind fun t474 => (if t474 = true then (if (x4.length : Int) = (mn x14 32) then (if x8 = (wrap64 (x14 - (x4.length : Int))) then (if (x449000.length : Int) = 0 then ((drawbridgelaw23_heads.f k).bind fun t475 => (some t475)) else (some false)) else (some false)) else (some false)) else (some false)))
def drawbridgelaw23_LinkOrder.l1 : Nat → List (List Int) → List (List Int) → Int → List (List Int) → Int → List (List Int) → Int → Option (Bool)
 | 0, _, _, _, _, _, _, _ => none
 | k + 1, x0, x4, x8, x9, x10, x449000, x449001 => if x10 < 40 then ((link_Pop.f k x449000 x449001).bind fun bt460 => (if bt460.2.2.2 = true then (if x9.length < 5864062014805 then (drawbridgelaw23_LinkOrder.l1 k x0 x4 x8 (x9 ++ [bt460.2.2.1]) (wrap64 (x10 + 1)) bt460.1 bt460.2.1) else (none)) else (drawbridgelaw23_LinkOrder.j2 k x0 x4 x8 x9 x449000 x449001))) else (drawbridgelaw23_LinkOrder.j2 k x0 x4 x8 x9 x449000 x449001)
end
def drawbridgelaw23_LinkOrder.f (k : Nat) (l0 : List (List Int)) : Option (Bool) := if (l0.length : Int) > 60 then ((drawbridgelaw23_heads.f k).bind fun t447 => (some t447)) else (drawbridgelaw23_LinkOrder.l0 k l0 ([] : List (List Int)) 0 ([] : List (List Int)) 0)
theorem drawbridgelaw23_LinkOrder.mono_l : ∀ k, (∀ y0 y1 y2 y3 y4, LeO (drawbridgelaw23_LinkOrder.l0 k y0 y1 y2 y3 y4) (drawbridgelaw23_LinkOrder.l0 (k + 1) y0 y1 y2 y3 y4)) ∧ (∀ y0 y1 y2 y3 y4 y5, LeO (drawbridgelaw23_LinkOrder.j2 k y0 y1 y2 y3 y4 y5) (drawbridgelaw23_LinkOrder.j2 (k + 1) y0 y1 y2 y3 y4 y5)) ∧ (∀ y0 y1 y2 y3 y4 y5 y6 y7, LeO (drawbridgelaw23_LinkOrder.l2 k y0 y1 y2 y3 y4 y5 y6 y7) (drawbridgelaw23_LinkOrder.l2 (k + 1) y0 y1 y2 y3 y4 y5 y6 y7)) ∧ (∀ y0 y1 y2 y3 y4 y5 y6, LeO (drawbridgelaw23_LinkOrder.l1 k y0 y1 y2 y3 y4 y5 y6) (drawbridgelaw23_LinkOrder.l1 (k + 1) y0 y1 y2 y3 y4 y5 y6))
 | 0 => ⟨fun _ _ _ _ _ r h => by simp [drawbridgelaw23_LinkOrder.l0] at h, fun _ _ _ _ _ _ r h => by simp [drawbridgelaw23_LinkOrder.j2] at h, fun _ _ _ _ _ _ _ _ r h => by simp [drawbridgelaw23_LinkOrder.l2] at h, fun _ _ _ _ _ _ _ r h => by simp [drawbridgelaw23_LinkOrder.l1] at h⟩
 | k + 1 => by
  obtain ⟨ih0, ih1, ih2, ih3⟩ := drawbridgelaw23_LinkOrder.mono_l k
  refine ⟨?_, ?_, ?_, ?_⟩
  ·intro y0 y1 y2 y3 y4
   unfold drawbridgelaw23_LinkOrder.l0
   repeat' first
   | (with_reducible exact ih0 _ _ _ _ _)
   | (with_reducible exact ih1 _ _ _ _ _ _)
   | (with_reducible exact ih2 _ _ _ _ _ _ _ _)
   | (with_reducible exact ih3 _ _ _ _ _ _ _)
   | (with_reducible exact drawbridgelaw23_heads.mono _)
   | (with_reducible exact drawbridgeref23_Lists.mono _ _ _)
   | (with_reducible exact link_Pop.mono _ _ _)
   | (with_reducible exact link_Push.mono _ _ _ _)
   | (with_reducible exact LeO.refl _)
   | (with_reducible exact LeO.none _)
   | (with_reducible refine LeO.ite ?_ ?_)
   | (with_reducible refine LeO.bind ?_ (fun _ => ?_))
   | exact ih0 _ _ _ _ _
   | exact ih1 _ _ _ _ _ _
   | exact ih2 _ _ _ _ _ _ _ _
   | exact ih3 _ _ _ _ _ _ _
   | exact drawbridgelaw23_heads.mono _
   | exact drawbridgeref23_Lists.mono _ _ _
   | exact link_Pop.mono _ _ _
   | exact link_Push.mono _ _ _ _
   | exact LeO.none _
   | refine LeO.ite ?_ ?_
   | refine LeO.bind ?_ (fun _ => ?_)
  ·intro y0 y1 y2 y3 y4 y5
   unfold drawbridgelaw23_LinkOrder.j2
   repeat' first
   | (with_reducible exact ih0 _ _ _ _ _)
   | (with_reducible exact ih1 _ _ _ _ _ _)
   | (with_reducible exact ih2 _ _ _ _ _ _ _ _)
   | (with_reducible exact ih3 _ _ _ _ _ _ _)
   | (with_reducible exact drawbridgelaw23_heads.mono _)
   | (with_reducible exact drawbridgeref23_Lists.mono _ _ _)
   | (with_reducible exact link_Pop.mono _ _ _)
   | (with_reducible exact link_Push.mono _ _ _ _)
   | (with_reducible exact LeO.refl _)
   | (with_reducible exact LeO.none _)
   | (with_reducible refine LeO.ite ?_ ?_)
   | (with_reducible refine LeO.bind ?_ (fun _ => ?_))
   | exact ih0 _ _ _ _ _
   | exact ih1 _ _ _ _ _ _
   | exact ih2 _ _ _ _ _ _ _ _
   | exact ih3 _ _ _ _ _ _ _
   | exact drawbridgelaw23_heads.mono _
   | exact drawbridgeref23_Lists.mono _ _ _
   | exact link_Pop.mono _ _ _
   | exact link_Push.mono _ _ _ _
   | exact LeO.none _
   | refine LeO.ite ?_ ?_
   | refine LeO.bind ?_ (fun _ => ?_)
  ·intro y0 y1 y2 y3 y4 y5 y6 y7
   unfold drawbridgelaw23_LinkOrder.l2
   repeat' first
   | (with_reducible exact ih0 _ _ _ _ _)
   | (with_reducible exact ih1 _ _ _ _ _ _)
   | (with_reducible exact ih2 _ _ _ _ _ _ _ _)
   | (with_reducible exact ih3 _ _ _ _ _ _ _)
   | (with_reducible exact drawbridgelaw23_heads.mono _)
   | (with_reducible exact drawbridgeref23_Lists.mono _ _ _)
   | (with_reducible exact link_Pop.mono _ _ _)
   | (with_reducible exact link_Push.mono _ _ _ _)
   | (with_reducible exact LeO.refl _)
   | (with_reducible exact LeO.none _)
   | (with_reducible refine LeO.ite ?_ ?_)
   | (with_reducible refine LeO.bind ?_ (fun _ => ?_))
   | exact ih0 _ _ _ _ _
   | exact ih1 _ _ _ _ _ _
   | exact ih2 _ _ _ _ _ _ _ _
   | exact ih3 _ _ _ _ _ _ _
   | exact drawbridgelaw23_heads.mono _
   | exact drawbridgeref23_Lists.mono _ _ _
   | exact link_Pop.mono _ _ _
   | exact link_Push.mono _ _ _ _
   | exact LeO.none _
   | refine LeO.ite ?_ ?_
   | refine LeO.bind ?_ (fun _ => ?_)
  ·intro y0 y1 y2 y3 y4 y5 y6
   unfold drawbridgelaw23_LinkOrder.l1
   repeat' first
   | (with_reducible exact ih0 _ _ _ _ _)
   | (with_reducible exact ih1 _ _ _ _ _ _)
   | (with_reducible exact ih2 _ _ _ _ _ _ _ _)
   | (with_reducible exact ih3 _ _ _ _ _ _ _)
   | (with_reducible exact drawbridgelaw23_heads.mono _)
   | (with_reducible exact drawbridgeref23_Lists.mono _ _ _)
   | (with_reducible exact link_Pop.mono _ _ _)
   | (with_reducible exact link_Push.mono _ _ _ _)
   | (with_reducible exact LeO.refl _)
   | (with_reducible exact LeO.none _)
   | (with_reducible refine LeO.ite ?_ ?_)
   | (with_reducible refine LeO.bind ?_ (fun _ => ?_))
   | exact ih0 _ _ _ _ _
   | exact ih1 _ _ _ _ _ _
   | exact ih2 _ _ _ _ _ _ _ _
   | exact ih3 _ _ _ _ _ _ _
   | exact drawbridgelaw23_heads.mono _
   | exact drawbridgeref23_Lists.mono _ _ _
   | exact link_Pop.mono _ _ _
   | exact link_Push.mono _ _ _ _
   | exact LeO.none _
   | refine LeO.ite ?_ ?_
   | refine LeO.bind ?_ (fun _ => ?_)
theorem drawbridgelaw23_LinkOrder.mono : ∀ a0 k, LeO (drawbridgelaw23_LinkOrder.f k a0) (drawbridgelaw23_LinkOrder.f (k + 1) a0) := by
 intro a0 k
 obtain ⟨ih0, ih1, ih2, ih3⟩ := drawbridgelaw23_LinkOrder.mono_l k
 unfold drawbridgelaw23_LinkOrder.f
 repeat' first
   | (with_reducible exact ih0 _ _ _ _ _)
   | (with_reducible exact ih1 _ _ _ _ _ _)
   | (with_reducible exact ih2 _ _ _ _ _ _ _ _)
   | (with_reducible exact ih3 _ _ _ _ _ _ _)
   | (with_reducible exact drawbridgelaw23_heads.mono _)
   | (with_reducible exact drawbridgeref23_Lists.mono _ _ _)
   | (with_reducible exact link_Pop.mono _ _ _)
   | (with_reducible exact link_Push.mono _ _ _ _)
   | (with_reducible exact LeO.refl _)
   | (with_reducible exact LeO.none _)
   | (with_reducible refine LeO.ite ?_ ?_)
   | (with_reducible refine LeO.bind ?_ (fun _ => ?_))
   | exact ih0 _ _ _ _ _
   | exact ih1 _ _ _ _ _ _
   | exact ih2 _ _ _ _ _ _ _ _
   | exact ih3 _ _ _ _ _ _ _
   | exact drawbridgelaw23_heads.mono _
   | exact drawbridgeref23_Lists.mono _ _ _
   | exact link_Pop.mono _ _ _
   | exact link_Push.mono _ _ _ _
   | exact LeO.none _
   | refine LeO.ite ?_ ?_
   | refine LeO.bind ?_ (fun _ => ?_)
def drawbridgelaw23_LinkOrder.T8 : Bool × List (List Nat × List Nat) := (true, [([], []), ([], []), ([], []), ([1, 2], [1, 2]), ([3], [3]), ([0, 4], [0, 4]), ([5], [5]), ([6], [6]), ([6], [6]), ([], []), ([9, 7, 5, 0, 1, 2, 3, 4, 5, 6, 7, 9], [7, 9]), ([8, 10, 0, 1, 2, 3, 4, 5, 6, 7, 8, 9, 10], [8])])
def drawbridgelaw23_LinkOrder.B8 : List Nat := [0, 0, 0, 6, 14, 31, 63, 127, 127, 0, 767, 2047]
theorem drawbridgelaw23_LinkOrder.tab8 : rtab .any (opsOf Try.f4 8) = drawbridgelaw23_LinkOrder.T8 := by kernel_rfl
theorem drawbridgelaw23_LinkOrder.bits8 : waitsOk drawbridgelaw23_LinkOrder.T8.2 drawbridgelaw23_LinkOrder.B8 = true := by kernel_rfl
set_option maxHeartbeats 8000000 in
set_option maxRecDepth 100000 in
theorem drawbridgelaw23_LinkOrder.calls (k : Nat) (P0_ : Nat → Prop) (A0 : Option Addr) (c0 : Nat) (l0 : List (List Int)) (r : Bool) (w : World) (hs0 : Kd.V (Kd.slice 5 (Kd.int .u8)) 25 w w.heap.size (fun k_ => P0_ k_) (.slice A0 l0.length c0) l0) (hT_ : r = true) (h : drawbridgelaw23_LinkOrder.f k l0 = some r) :
  Calls Try.prog 4 #[.slice A0 l0.length c0] w fun e w' => e = .returned (.bool r) ∧ Below w.heap.size w w' := by
 have HTr_ := a0 hT_
 clear hT_
 have hu24 := Try.underlying24
 have HO0 := a0 (show Kd.V (Kd.slice 5 (Kd.int .u8)) 25 w w.heap.size (fun k_ => (P0_ k_ ∨ w.heap.size ≤ k_)) (.slice A0 l0.length c0) l0 from Kd.V_mono hs0 (fun k_ hk => .inl hk))
 have HB := a0 (Below.refl w.heap.size w)
 have H : (if (l0.length : Int) > 60 then ((drawbridgelaw23_heads.f k).bind fun t447 => (some t447)) else (drawbridgelaw23_LinkOrder.l0 k l0 ([] : List (List Int)) 0 ([] : List (List Int)) 0)) = some r := h
 clear h
 by_cases c2 : (l0.length : Int) > 60
 ·rw [if_pos c2] at H
  have c2b0 : decide (60 < (l0.length : Int)) = true := decide_eq_true c2
  have c2b1 : decide (60 < l0.length) = true := decide_eq_true (by omega)
  clear c2
  replace H := Option.bind_eq_some_iff.mp H
  obtain ⟨t447, A30, H⟩ := H
  replace H : (some t447) = some r := H
  have A3 := a0 A30
  clear A30
  obtain rfl := Option.some.inj H
  go_enter Try.func4, Try.ntmps4
  go_wp2_with (first | ((with_reducible refine gate_callee (f := 7) rfl ?_); refine goesL_ (some 19) rfl rfl Try.func7 (by kernel_rfl) rfl #[] rfl (by (try simp only [List.map_toArray, List.map_cons, List.map_nil]); first | done | rfl | (simp only [List.length_drop, List.length_take]; rfl)) ?_; (with_reducible refine (drawbridgelaw23_heads.calls k  t447 _ (by first | exact HTr_.out | assumption) A3.out).mono ?_); rintro e w4 ⟨rfl, hb⟩; refine ⟨_, rfl, ?_⟩; have n1_ := a0 (below_step (by repeat (first | (with_reducible first | exact HB.out | apply below_alloc | apply pw_below_drewN | apply below_drew1) | exact HB.out)) hb); clear HB; have HB := n1_; clear n1_; (try clear hb); (try clear hb2); (try clear hk); (try clear hi)))
  go_ret
  exact ⟨by first | rfl | (simp [errW_none, errW_some] <;> rfl) | (simp [*, errW_none, errW_some] <;> rfl), by repeat (first | (with_reducible first | exact HB.out | apply below_alloc | apply pw_below_drewN | apply below_drew1) | exact HB.out)⟩
 ·rw [if_neg c2] at H
  have c2b0 : decide (60 < (l0.length : Int)) = false := decide_eq_false c2
  have c2b1 : decide (60 < l0.length) = false := decide_eq_false (by omega)
  clear c2
  have H' := a0 H
  clear H
  go_enter Try.func4, Try.ntmps4
  go_wp2_with (first | ((with_reducible refine gate_dst (N := 3) rfl ?_); (try (refine gate_guard (by rfl) ?_; dsimp only)); refine box_event ?hg (N := 3) ?hd (cs := #[.slice none 0 0, .int .i64 0]) (t := 24) ?hr ?_; (case hd => rfl); (case hg => rfl); (case hr => first | (go_simp; done) | (go_simp; rfl)); intro gb448 hg w5 hbox hb; have n0_ := a0 (Kd.V_below (Kd.V_elderB (by (with_reducible repeat (first | apply vA | apply vN | apply vD)); exact HO0.out) gb448 (Nat.le_of_eq hg.symm)) hb); have n1_ := a0 (below_step (by repeat (first | (with_reducible first | exact HB.out | apply below_alloc | apply pw_below_drewN | apply below_drew1) | exact HB.out)) hb); have n2_ := a0 (hbox); have n3_ := a0 ((by rw [hg]; exact (below_size (by repeat (first | (with_reducible first | exact HB.out | apply below_alloc | apply pw_below_drewN | apply below_drew1) | exact HB.out))) : w.heap.size ≤ gb448)); have n4_ := a0 ((by rw [hg]; exact (below_size (by repeat (first | (with_reducible first | exact HB.out | apply below_alloc | apply pw_below_drewN | apply below_drew1) | exact HB.out))) : w.heap.size ≤ gb448)); clear HO0; clear HB; have HO0 := n0_; have HB := n1_; have BK448 := n2_; have GW448 := n3_; have GE448 := n4_; clear n0_ n1_ n2_ n3_ n4_; clear hb hbox hg; have hcz6_0 : w5.cell? ⟨gb448, 0, none⟩ = some (.slice none 0 0) := (blk_cell BK448.out 0).trans rfl; have hcz6_1 : w5.cell? ⟨gb448, 1, none⟩ = some (.int .i64 0) := (blk_cell BK448.out 1).trans rfl; have hfz6_0 := blk_frozen BK448.out 0; have hfz6_1 := blk_frozen BK448.out 1))
  go_loopg [4, 5] k (fun kq v4 v5 w' => ∃ (x4_1 : List (List Int)) (x5_1 : Int) (x449000_1 : List (List Int)) (x449001_1 : Int) (u449000 : Value), v5 = .int .i64 x5_1 ∧ Aside0 (drawbridgelaw23_LinkOrder.l0 kq l0 x4_1 x5_1 x449000_1 x449001_1 = some r) ∧ Aside0 (kq ≤ k) ∧ Aside0 (Kd.V (Kd.slice 5 (Kd.int .u8)) 25 w' w.heap.size (fun k_ => (P0_ k_ ∨ w.heap.size ≤ k_) ∧ some k_ ≠ (v4 : Value).ownBlock ∧ k_ ≠ gb448) (.slice A0 l0.length c0) l0) ∧ Aside0 (Kd.N (Kd.slice 5 (Kd.int .u8)) 25 w' w.heap.size (fun k_ => (P0_ k_ ∨ w.heap.size ≤ k_) ∧ k_ ≠ gb448) v4 x4_1) ∧ Aside0 (Kd.V (Kd.slice 5 (Kd.int .u8)) 25 w' w.heap.size (fun k_ => (P0_ k_ ∨ w.heap.size ≤ k_) ∧ some k_ ≠ (v4 : Value).ownBlock ∧ k_ ≠ gb448) u449000 x449000_1) ∧ Aside0 (w'.heap[gb448]? = some (.cells #[u449000, .int .i64 x449001_1] 24 (0, 0))) ∧ Aside0 (Below w.heap.size w w'))
  case atStart => exact ⟨(([] : List (List Int))), (0), (([] : List (List Int))), (0), (.slice none 0 0), (by first | rfl | (simp; done) | (simp [*]; done)), H', ⟨Nat.le_refl _⟩, ⟨by (with_reducible repeat (first | apply vA | apply vN | apply vD)); exact Kd.V_mono (Kd.V_far (p := ⟨gb448, 1, none⟩) (Kd.V_far (p := ⟨gb448, 0, none⟩) (Kd.V_mono HO0.out (fun k_ hk => (⟨hk, hk.2⟩ : _ ∧ k_ ≠ gb448))) (fun _ hk => hk.2) (.slice none 0 0)) (fun _ hk => hk.2) (.int .i64 0)) (fun _ hk => ⟨hk.1.1, ⟨(by simp [Value.ownBlock]), hk.1.2⟩⟩)⟩, ⟨by first | exact Kd.S_nil _ _ _ _ _ | exact Kd.N_nil _ _ _ _ _ | exact Kd.V_nil _ _ _ _ _ | exact Kd.Q_nil _ _ _ _ _ | exact Kd.R_nil _ _ _ _ _⟩, ⟨Kd.V_nil _ _ _ _ _⟩, ⟨by (with_reducible repeat (first | apply bN | apply bD | apply bA)); refine blk_put (cs := #[.slice none 0 0, .int .i64 0]) ?_ 1 _ rfl; (with_reducible repeat (first | apply bN | apply bD | apply bA)); refine blk_put (cs := #[.slice none 0 0, .int .i64 0]) ?_ 0 _ rfl; (with_reducible repeat (first | apply bN | apply bD | apply bA)); exact BK448.out⟩, ⟨by repeat (first | (with_reducible first | exact HB.out | apply below_alloc | apply pw_below_drewN | apply below_drew1 | refine below_set ?_ GE448.out) | exact HB.out)⟩⟩
  case round =>
   clear H'
   try clear c2
   try clear c2b0
   try clear c2b1
   try clear p2
   try clear c4
   try clear hcz6_0
   try clear hcz6_1
   try clear hfz6_0
   try clear hfz6_1
   obtain ⟨x4_1, x5_1, x449000_1, x449001_1, u449000, rfl, HA, HK1, HO_0, HO_4, HO_449000, BK448, HB⟩ := hrel
   cases gk with
   | zero => exact absurd HA.out (by simp [drawbridgelaw23_LinkOrder.l0])
   | succ k1 =>
    have H := HA.out
    clear HA
    simp only [drawbridgelaw23_LinkOrder.l0] at H
    by_cases c7 : x5_1 < (l0.length : Int)
    ·rw [if_pos c7] at H
     have c7b0 : decide (x5_1 < (l0.length : Int)) = true := decide_eq_true c7
     clear c7
     by_cases c8 : 0 ≤ x5_1
     ·rw [if_pos c8] at H
      have c8b0 : decide (0 ≤ x5_1) = true := decide_eq_true c8
      clear c8
      replace H := Option.bind_eq_some_iff.mp H
      obtain ⟨⟨t450, t453, t454⟩, A90, H⟩ := H
      replace H : (if t454 = true then (if x4_1.length < 5864062014805 then (drawbridgelaw23_LinkOrder.l0 k1 l0 (x4_1 ++ [rd_L1 l0 x5_1]) (wrap64 (x5_1 + 1)) t450 t453) else (none)) else (drawbridgelaw23_LinkOrder.l0 k1 l0 x4_1 (wrap64 (x5_1 + 1)) t450 t453)) = some r := H
      have A9 := a0 A90
      clear A90
      by_cases c10 : t454 = true
      ·subst c10
       have H1 : (if x4_1.length < 5864062014805 then (drawbridgelaw23_LinkOrder.l0 k1 l0 (x4_1 ++ [rd_L1 l0 x5_1]) (wrap64 (x5_1 + 1)) t450 t453) else (none)) = some r := by rw [if_pos rfl] at H; exact H
       clear H
       have H := H1
       clear H1
       by_cases c11 : x4_1.length < 5864062014805
       ·rw [if_pos c11] at H
        have LMc11 := a0 c11
        clear c11
        obtain ⟨y457, hy457⟩ : ∃ y_ : List (List Int), y_ = (x4_1 ++ [rd_L1 l0 x5_1]) := ⟨_, rfl⟩
        replace H : (drawbridgelaw23_LinkOrder.l0 k1 l0 y457 (wrap64 (x5_1 + 1)) t450 t453) = some r := by first | (rw [hy457]; with_reducible exact H) | (have H2_ := (Option.bind_some _ _).symm.trans H; rw [hy457]; with_reducible exact H2_) | (have H2_ := (Option.bind_some _ _).symm.trans H; with_reducible exact H2_) | with_reducible exact H | (rw [hy457]; exact H) | exact H
        have Ny457 := a0 hy457
        clear hy457
        have H' := a0 H
        clear H
        obtain ⟨Ao12, co12, eo12⟩ := Kd.V_slice HO_449000.out
        subst eo12
        try go_wp2
        have n0_ := a0 (Kd.V_drew HO_0.out)
        have n1_ := a0 (Kd.N_drew HO_4.out)
        have n2_ := a0 (Kd.V_drew HO_449000.out)
        have n3_ := a0 (blk_drew BK448.out)
        have n4_ := a0 (below_drew1 HB.out)
        clear HO_0
        clear HO_4
        clear HO_449000
        clear BK448
        clear HB
        have HO_0 := n0_
        have HO_4 := n1_
        have HO_449000 := n2_
        have BK448 := n3_
        have HB := n4_
        clear n0_ n1_ n2_ n3_ n4_
        have p449 : 0 ≤ (x5_1 : Int) := of_decide_eq_true (by first | (with_reducible assumption) | assumption)
        have q449 : x5_1 < (l0.length : Int) := of_decide_eq_true (by first | (with_reducible assumption) | assumption)
        obtain ⟨ad449, A449_0, c449_0, e449, hx449_0, hl449_0, hi449_0⟩ := at_L1 (Kd.V_reads' HO_0.out).2.2 x5_1 p449 q449
        cases e449
        obtain ⟨ce449, hce449, hMe449, hcc449⟩ := Kd.V_get HO_0.out [] x5_1 p449 (by first | exact q449 | exact of_decide_eq_true (by first | (with_reducible assumption) | assumption) | (have e_ := (Kd.V_reads' HO_0.out).1; omega))
        obtain ⟨ua449_0, uc449_0, rfl, ul449_0, ge449_0⟩ := Kd.FK_slice_open hMe449
        have hv449_0 := hcc449 0 _ rfl
        rw [Nat.add_zero, show ((Kd.slice 5 (Kd.int .u8))).sz = 1 from rfl, Nat.mul_one] at hv449_0
        replace hv449_0 := Option.some.inj (hv449_0.symm.trans hx449_0)
        injection hv449_0 with hva_ hvn_ hvc_
        rw [hva_] at ge449_0
        rw [hvc_] at ul449_0
        have HL449_0 := a0 (show Kd.V (Kd.int .u8) 5 _ w.heap.size _ _ (rd_L1 l0 x5_1) from Kd.V_mk ul449_0 ge449_0)
        clear hva_ hvn_ hvc_ ge449_0 ul449_0
        clear hcc449 hce449
        have HR449_0 := a0 hi449_0
        have HC449_0 := a0 hl449_0
        clear hi449_0 hl449_0
        replace p449 := eq_true p449
        replace q449 := eq_true q449
        refine start_ (n := 12) (S := fun w' => w'.cell? ⟨gb448, 0, none⟩ = some (.slice Ao12 x449000_1.length co12) ∧ w'.cell? ⟨gb448, 1, none⟩ = some (.int .i64 x449001_1) ∧ w'.cell? (ad449.add (x5_1).toNat) = some (.slice A449_0 (rd_L1 l0 x5_1).length c449_0)) (ds := []) #[φ, φ, φ, φ, φ, φ, φ, φ, φ, φ, φ, φ] (by kernel_rfl) rfl rfl ⟨(blk_cell BK448.out 0).trans rfl, (blk_cell BK448.out 1).trans rfl, hx449_0⟩ (fun hHeld => ?_); refine with_tabW drawbridgelaw23_LinkOrder.tab8 drawbridgelaw23_LinkOrder.bits8 (fun HT_ HW_ => ?_)
        generalize wr.drew = w13 at HO_0 HO_4 HO_449000 BK448 HB HL449_0 HR449_0 hx449_0 hHeld ⊢
        refine pure_ (i := 1) (N := some 29) (v := ?_) (a' := ?_) #[φ, τ, φ, φ, φ, φ, φ, φ, φ, φ, φ, φ] rfl rfl (any_of HT_.out (by kernel_rfl)) (fun _ _ _ h => h) (Or.inl ⟨by rfl, ?_⟩) ?_ ?_
        rotate_left
        ·intro w'
         go_simp
         with_reducible rfl
        rotate_left
        ·simp only [Act.put, sT, sZ, sS, i64_w, i32_w]
         rfl
        refine pure_ (i := 2) (N := some 30) (v := ?_) (a' := ?_) #[φ, τ, τ, φ, φ, φ, φ, φ, φ, φ, φ, φ] rfl rfl (any_of HT_.out (by kernel_rfl)) (fun _ _ _ h => h) (Or.inl ⟨by rfl, ?_⟩) ?_ ?_
        rotate_left
        ·intro w'
         go_simp
         with_reducible rfl
        rotate_left
        ·simp only [Act.put, sT, sZ, sS, i64_w, i32_w]
         rfl
        refine pure_ (i := 3) (N := some 31) (v := ?_) (a' := ?_) #[φ, τ, τ, τ, φ, φ, φ, φ, φ, φ, φ, φ] rfl rfl (any_of HT_.out (by kernel_rfl)) (fun _ _ _ h => h) (Or.inl ⟨by rfl, ?_⟩) ?_ ?_
        rotate_left
        ·intro w'
         go_simp
         with_reducible rfl
        rotate_left
        ·simp only [Act.put, sT, sZ, sS, i64_w, i32_w]
         rfl
        refine take_ (i := 0) (N := some 28) (v := ?_) (a' := ?_) #[τ, τ, τ, τ, φ, φ, φ, φ, φ, φ, φ, φ] rfl rfl (take_ofW HT_.out HW_.out (by kernel_rfl)) (fun _ _ _ h => h) (Or.inl ⟨by rfl, ?_⟩) hHeld ?_ ?_
        rotate_left
        ·rintro w' ⟨s0, s1, s2⟩
         go_simp
         with_reducible rfl
        rotate_left
        ·simp only [Act.put, sT, sZ, sS, i64_w, i32_w]
         rfl
        refine take_ (i := 4) (N := some 32) (v := ?_) (a' := ?_) #[τ, τ, τ, τ, τ, φ, φ, φ, φ, φ, φ, φ] rfl rfl (take_ofW HT_.out HW_.out (by kernel_rfl)) (fun _ _ _ h => h) (Or.inl ⟨by rfl, ?_⟩) hHeld ?_ ?_
        rotate_left
        ·rintro w' ⟨s0, s1, s2⟩
         go_simp
         with_reducible rfl
        rotate_left
        ·simp only [Act.put, sT, sZ, sS, i64_w, i32_w]
         rfl
        refine join_ (σ := Value × Nat) 2 #[τ, τ, τ, τ, τ, τ, τ, τ, τ, τ, φ, φ] (fun s_ => [(33, .tuple #[.agg #[s_.1, .int .i64 t453], .bool true]), (6, .pointer (some ⟨s_.2, 0, none⟩)), (27, .tuple #[.agg #[s_.1, .int .i64 t453], .bool true]), (34, .agg #[s_.1, .int .i64 t453]), (35, .bool true)]) (fun s_ w' => (w'.cell? ⟨gb448, 0, none⟩ = some (.slice Ao12 x449000_1.length co12) ∧ w'.cell? ⟨gb448, 1, none⟩ = some (.int .i64 x449001_1) ∧ w'.cell? (ad449.add (x5_1).toNat) = some (.slice A449_0 (rd_L1 l0 x5_1).length c449_0)) ∧ (Kd.V (Kd.int .u8) 5 w' w.heap.size (fun k_ => (P0_ k_ ∨ w.heap.size ≤ k_) ∧ some k_ ≠ (u4 : Value).ownBlock ∧ k_ ≠ gb448 ∧ k_ ≠ s_.2) (.slice A449_0 (rd_L1 l0 x5_1).length c449_0) (rd_L1 l0 x5_1)) ∧ (Kd.V (Kd.slice 5 (Kd.int .u8)) 25 w' w.heap.size (fun k_ => (P0_ k_ ∨ w.heap.size ≤ k_) ∧ some k_ ≠ (u4 : Value).ownBlock ∧ k_ ≠ gb448 ∧ k_ ≠ s_.2) s_.1 t450) ∧ (Kd.V (Kd.slice 5 (Kd.int .u8)) 25 w' w.heap.size (fun k_ => (P0_ k_ ∨ w.heap.size ≤ k_) ∧ some k_ ≠ (u4 : Value).ownBlock ∧ k_ ≠ gb448 ∧ k_ ≠ s_.2) (.slice (some ad449) l0.length c0) l0) ∧ (Kd.N (Kd.slice 5 (Kd.int .u8)) 25 w' w.heap.size (fun k_ => (P0_ k_ ∨ w.heap.size ≤ k_) ∧ k_ ≠ gb448 ∧ k_ ≠ s_.2) u4 x4_1) ∧ (Kd.V (Kd.slice 5 (Kd.int .u8)) 25 w' w.heap.size (fun k_ => (P0_ k_ ∨ w.heap.size ≤ k_) ∧ some k_ ≠ (u4 : Value).ownBlock ∧ k_ ≠ gb448 ∧ k_ ≠ s_.2) (.slice Ao12 x449000_1.length co12) x449000_1) ∧ (w'.heap[gb448]? = some (.cells #[.slice Ao12 x449000_1.length co12, .int .i64 x449001_1] 24 (0, 0))) ∧ (w'.heap[s_.2]? = some (.cells #[.slice none 0 0, .int .i64 0] 24 (0, 0))) ∧ (w.heap.size ≤ s_.2) ∧ (w.heap.size ≤ s_.2) ∧ (gb448 ≠ s_.2) ∧ (s_.2 ≠ gb448) ∧ (Below w.heap.size w w')) ?_ ?_
        rotate_left
        ·intro hCont
         refine two_ (i := 5) (j := 9) (Ni := some 33) (Nj := some 6) #[τ, τ, τ, τ, τ, τ, φ, φ, φ, φ, φ, φ] #[τ, τ, τ, τ, τ, φ, φ, φ, φ, τ, φ, φ] rfl rfl rfl rfl (two_of HT_.out (by kernel_rfl)) (by decide) (by decide) (fun K hK => ?_) (fun K hK => ?_)
         ·skip
          refine goes_ Try.func8 (by kernel_rfl) rfl #[.agg #[.slice Ao12 x449000_1.length co12, .int .i64 x449001_1], .slice A449_0 (rd_L1 l0 x5_1).length c449_0] (by rfl) rfl rfl (by (try simp only [List.map_toArray, List.map_cons, List.map_nil]); first | done | rfl | (simp only [List.length_drop, List.length_take]; rfl)) ?_
          with_reducible refine (link_Push.calls k1 (fun k_ => ((P0_ k_ ∨ w.heap.size ≤ k_) ∧ (some k_ ≠ (u4 : Value).ownBlock ∧ k_ ≠ gb448))) _ _ x449000_1 x449001_1 (fun k_ => ((P0_ k_ ∨ w.heap.size ≤ k_) ∧ (some k_ ≠ (u4 : Value).ownBlock ∧ k_ ≠ gb448))) _ _ (rd_L1 l0 x5_1) t450 t453 true _ ?side1 ?side2 A9.out).mono ?_
          (case side1 => exact HO_449000.out)
          (case side2 => exact HL449_0.out)
          rintro e w14 ⟨v451, rfl, ho0, hb⟩
          have HS2_ := (hb.cell (World.block_lt_of_cell? _ _ (hHeld.2.2))).trans (hHeld.2.2)
          refine ⟨_, rfl, ?_⟩
          have n0_ := a0 (Kd.V_below (by (with_reducible repeat (first | apply vA | apply vN | apply vD)); exact HO_0.out) hb)
          have n1_ := a0 (Kd.N_below (by (with_reducible repeat (first | apply Kd.N_alloc | apply Kd.N_drewN | apply Kd.N_drew)); exact HO_4.out) hb)
          have n2_ := a0 (Kd.V_below (by (with_reducible repeat (first | apply vA | apply vN | apply vD)); exact HO_449000.out) hb)
          have n3_ := a0 (Kd.V_below (by (with_reducible repeat (first | apply vA | apply vN | apply vD)); exact HL449_0.out) hb)
          have n4_ := a0 (Kd.V_lower (Kd.V_mono (ok' := fun k_ => (P0_ k_ ∨ w.heap.size ≤ k_) ∧ some k_ ≠ (u4 : Value).ownBlock ∧ k_ ≠ gb448) ho0 (fun k_ hk_ => ⟨Or.elim hk_ (fun hs_ => Or.elim hs_ (fun hs_ => hs_.1) (fun hs_ => hs_.1)) (fun hn_ => (.inr (Nat.le_trans (below_size (by repeat (first | (with_reducible first | exact HB.out | apply below_alloc | apply pw_below_drewN | apply below_drew1 | refine below_set ?_ GE448.out) | exact HB.out))) hn_))), Or.elim hk_ (fun hs_ => Or.elim hs_ (fun hs_ => hs_.2.1) (fun hs_ => hs_.2.1)) (fun hn_ => (Kd.fresh' (Kd.N_lt (by (with_reducible repeat (first | apply Kd.N_alloc | apply Kd.N_drewN | apply Kd.N_drew)); exact HO_4.out)) k_ hn_)), Or.elim hk_ (fun hs_ => Or.elim hs_ (fun hs_ => hs_.2.2) (fun hs_ => hs_.2.2)) (fun hn_ => (Kd.freshB (g := gb448) (o := .cells #[.slice Ao12 x449000_1.length co12, .int .i64 x449001_1] 24 (0, 0)) (by (with_reducible repeat (first | apply bN | apply bD | apply bA)); exact BK448.out) k_ hn_))⟩)) (below_size (by repeat (first | (with_reducible first | exact HB.out | apply below_alloc | apply pw_below_drewN | apply below_drew1 | refine below_set ?_ GE448.out) | exact HB.out))))
          have n5_ := a0 (blk_below (g := gb448) (o := .cells #[.slice Ao12 x449000_1.length co12, .int .i64 x449001_1] 24 (0, 0)) (by (with_reducible repeat (first | apply bN | apply bD | apply bA)); exact BK448.out) hb)
          have n7_ := a0 (below_step (by repeat (first | (with_reducible first | exact HB.out | apply below_alloc | apply pw_below_drewN | apply below_drew1 | refine below_set ?_ GE448.out) | exact HB.out)) hb)
          clear HO_0
          clear HO_4
          clear HO_449000
          clear HL449_0
          clear BK448
          clear HB
          have HO_0 := n0_
          have HO_4 := n1_
          have HO_449000 := n2_
          have HL449_0 := n3_
          have HO452 := n4_
          have BK448 := n5_
          have HB := n7_
          clear n0_ n1_ n2_ n3_ n4_ n5_ n7_
          (try clear hb)
          (try clear hb2)
          (try clear hk)
          (try clear hi)
          (try clear ho0)
          refine hK.out _ _ ⟨(blk_cell BK448.out 0).trans rfl, (blk_cell BK448.out 1).trans rfl, HS2_⟩ (fun hHeld => ?_)
          clear hK K
          refine norm_ (a' := ?_) ?_ ?_
          rotate_left
          ·show Act.put _ (some 33) _ = _
           simp only [Act.put, sT, sZ, sS, i64_w, i32_w]
           rfl
          refine pure_ (i := 6) (N := some 27) (v := ?_) (a' := ?_) #[τ, τ, τ, τ, τ, τ, τ, φ, φ, φ, φ, φ] rfl rfl (any_of HT_.out (by kernel_rfl)) (fun _ _ _ h => h) (Or.inl ⟨by rfl, ?_⟩) ?_ ?_
          rotate_left
          ·intro w'
           go_simp
           with_reducible rfl
          rotate_left
          ·simp only [Act.put, sT, sZ, sS, i64_w, i32_w]
           rfl
          refine pure_ (i := 7) (N := some 34) (v := ?_) (a' := ?_) #[τ, τ, τ, τ, τ, τ, τ, τ, φ, φ, φ, φ] rfl rfl (any_of HT_.out (by kernel_rfl)) (fun _ _ _ h => h) (Or.inl ⟨by rfl, ?_⟩) ?_ ?_
          rotate_left
          ·intro w'
           go_simp
           with_reducible rfl
          rotate_left
          ·simp only [Act.put, sT, sZ, sS, i64_w, i32_w]
           rfl
          refine pure_ (i := 8) (N := some 35) (v := ?_) (a' := ?_) #[τ, τ, τ, τ, τ, τ, τ, τ, τ, φ, φ, φ] rfl rfl (any_of HT_.out (by kernel_rfl)) (fun _ _ _ h => h) (Or.inl ⟨by rfl, ?_⟩) ?_ ?_
          rotate_left
          ·intro w'
           go_simp
           with_reducible rfl
          rotate_left
          ·simp only [Act.put, sT, sZ, sS, i64_w, i32_w]
           rfl
          refine one_ (i := 9) (N := some 6) #[τ, τ, τ, τ, τ, τ, τ, τ, τ, τ, φ, φ] rfl rfl (one_of HT_.out (by kernel_rfl)) (by decide) (fun K hK => ?_)
          refine box_step ?hg (N := 6) ?hd (cs := #[.slice none 0 0, .int .i64 0]) (t := 24) ?hr ?_; (case hd => rfl); (case hg => rfl); (case hr => first | (go_simp; done) | (go_simp; rfl))
          intro gb455 hg w15 hbox hb
          have HS2_ := (hb.cell (World.block_lt_of_cell? _ _ (hHeld.2.2))).trans (hHeld.2.2)
          have n0_ := a0 (Kd.V_below (Kd.V_elderB (by (with_reducible repeat (first | apply vA | apply vN | apply vD)); exact HO_0.out) gb455 (Nat.le_of_eq hg.symm)) hb)
          have n1_ := a0 (Kd.N_below (Kd.N_elderB (by (with_reducible repeat (first | apply Kd.N_alloc | apply Kd.N_drewN | apply Kd.N_drew)); exact HO_4.out) gb455 (Nat.le_of_eq hg.symm)) hb)
          have n2_ := a0 (Kd.V_below (Kd.V_elderB (by (with_reducible repeat (first | apply vA | apply vN | apply vD)); exact HO_449000.out) gb455 (Nat.le_of_eq hg.symm)) hb)
          have n3_ := a0 (Kd.V_below (Kd.V_elderB (by (with_reducible repeat (first | apply vA | apply vN | apply vD)); exact HL449_0.out) gb455 (Nat.le_of_eq hg.symm)) hb)
          have n4_ := a0 (Kd.V_below (Kd.V_elderB (by (with_reducible repeat (first | apply vA | apply vN | apply vD)); exact HO452.out) gb455 (Nat.le_of_eq hg.symm)) hb)
          have n5_ := a0 (blk_below (g := gb448) (o := .cells #[.slice Ao12 x449000_1.length co12, .int .i64 x449001_1] 24 (0, 0)) (by (with_reducible repeat (first | apply bN | apply bD | apply bA)); exact BK448.out) hb)
          have n7_ := a0 (below_step (by repeat (first | (with_reducible first | exact HB.out | apply below_alloc | apply pw_below_drewN | apply below_drew1 | refine below_set ?_ GE448.out) | exact HB.out)) hb)
          have n8_ := a0 (hbox)
          have n9_ := a0 ((by rw [hg]; exact (below_size (by repeat (first | (with_reducible first | exact HB.out | apply below_alloc | apply pw_below_drewN | apply below_drew1 | refine below_set ?_ GE448.out) | exact HB.out))) : w.heap.size ≤ gb455))
          have n10_ := a0 ((by rw [hg]; exact (below_size (by repeat (first | (with_reducible first | exact HB.out | apply below_alloc | apply pw_below_drewN | apply below_drew1 | refine below_set ?_ GE448.out) | exact HB.out))) : w.heap.size ≤ gb455))
          have n11_ := a0 ((by rw [hg]; exact Nat.ne_of_lt (blk_lt (g := gb448) (o := .cells #[.slice Ao12 x449000_1.length co12, .int .i64 x449001_1] 24 (0, 0)) (by (with_reducible repeat (first | apply bN | apply bD | apply bA)); exact BK448.out)) : gb448 ≠ gb455))
          have n12_ := a0 ((by rw [hg]; exact Nat.ne_of_gt (blk_lt (g := gb448) (o := .cells #[.slice Ao12 x449000_1.length co12, .int .i64 x449001_1] 24 (0, 0)) (by (with_reducible repeat (first | apply bN | apply bD | apply bA)); exact BK448.out)) : gb455 ≠ gb448))
          clear HO_0
          clear HO_4
          clear HO_449000
          clear HL449_0
          clear HO452
          clear BK448
          clear HB
          have HO_0 := n0_
          have HO_4 := n1_
          have HO_449000 := n2_
          have HL449_0 := n3_
          have HO452 := n4_
          have BK448 := n5_
          have HB := n7_
          have BK455 := n8_
          have GW455 := n9_
          have GE455 := n10_
          have NB448_455 := n11_
          have NB455_448 := n12_
          clear n0_ n1_ n2_ n3_ n4_ n5_ n7_ n8_ n9_ n10_ n11_ n12_
          clear hb hbox hg
          refine hK.out _ _ ⟨(blk_cell BK448.out 0).trans rfl, (blk_cell BK448.out 1).trans rfl, HS2_⟩ (fun hHeld => ?_)
          clear hK K
          refine norm_ (a' := ?_) ?_ ?_
          rotate_left
          ·show Act.put _ (some 6) _ = _
           simp only [Act.put, sT, sZ, sS, i64_w, i32_w]
           rfl
          exact norm_ (by simp only [putAll, Act.put, sT, sZ, sS]) (hCont (v451, gb455) _ ⟨hHeld, (by (with_reducible repeat (first | apply vA | apply vN | apply vD)); exact Kd.V_mono HL449_0.out (fun _ hk => ⟨hk.1.1, ⟨hk.1.2.1, ⟨hk.1.2.2, hk.2⟩⟩⟩)), (by (with_reducible repeat (first | apply vA | apply vN | apply vD)); exact Kd.V_mono HO452.out (fun _ hk => ⟨hk.1.1, ⟨hk.1.2.1, ⟨hk.1.2.2, hk.2⟩⟩⟩)), (by (with_reducible repeat (first | apply vA | apply vN | apply vD)); exact Kd.V_mono HO_0.out (fun _ hk => ⟨hk.1.1, ⟨hk.1.2.1, ⟨hk.1.2.2, hk.2⟩⟩⟩)), (by (with_reducible repeat (first | apply Kd.N_alloc | apply Kd.N_drewN | apply Kd.N_drew)); exact Kd.N_mono HO_4.out (fun _ hk => ⟨hk.1.1, ⟨hk.1.2, hk.2⟩⟩)), (by (with_reducible repeat (first | apply vA | apply vN | apply vD)); exact Kd.V_mono HO_449000.out (fun _ hk => ⟨hk.1.1, ⟨hk.1.2.1, ⟨hk.1.2.2, hk.2⟩⟩⟩)), (by (with_reducible repeat (first | apply bN | apply bD | apply bA)); exact BK448.out), (by (with_reducible repeat (first | apply bN | apply bD | apply bA)); exact BK455.out), GW455.out, GE455.out, NB448_455.out, NB455_448.out, (by repeat (first | (with_reducible first | exact HB.out | apply below_alloc | apply pw_below_drewN | apply below_drew1 | refine below_set ?_ GE448.out | refine below_set ?_ GE455.out) | exact HB.out))⟩)
         ·skip
          refine box_step ?hg (N := 6) ?hd (cs := #[.slice none 0 0, .int .i64 0]) (t := 24) ?hr ?_; (case hd => rfl); (case hg => rfl); (case hr => first | (go_simp; done) | (go_simp; rfl))
          intro gb455 hg w14 hbox hb
          have HS2_ := (hb.cell (World.block_lt_of_cell? _ _ (hHeld.2.2))).trans (hHeld.2.2)
          have n0_ := a0 (Kd.V_below (Kd.V_elderB (by (with_reducible repeat (first | apply vA | apply vN | apply vD)); exact HO_0.out) gb455 (Nat.le_of_eq hg.symm)) hb)
          have n1_ := a0 (Kd.N_below (Kd.N_elderB (by (with_reducible repeat (first | apply Kd.N_alloc | apply Kd.N_drewN | apply Kd.N_drew)); exact HO_4.out) gb455 (Nat.le_of_eq hg.symm)) hb)
          have n2_ := a0 (Kd.V_below (Kd.V_elderB (by (with_reducible repeat (first | apply vA | apply vN | apply vD)); exact HO_449000.out) gb455 (Nat.le_of_eq hg.symm)) hb)
          have n3_ := a0 (Kd.V_below (Kd.V_elderB (by (with_reducible repeat (first | apply vA | apply vN | apply vD)); exact HL449_0.out) gb455 (Nat.le_of_eq hg.symm)) hb)
          have n4_ := a0 (blk_below (g := gb448) (o := .cells #[.slice Ao12 x449000_1.length co12, .int .i64 x449001_1] 24 (0, 0)) (by (with_reducible repeat (first | apply bN | apply bD | apply bA)); exact BK448.out) hb)
          have n6_ := a0 (below_step (by repeat (first | (with_reducible first | exact HB.out | apply below_alloc | apply pw_below_drewN | apply below_drew1 | refine below_set ?_ GE448.out) | exact HB.out)) hb)
          have n7_ := a0 (hbox)
          have n8_ := a0 ((by rw [hg]; exact (below_size (by repeat (first | (with_reducible first | exact HB.out | apply below_alloc | apply pw_below_drewN | apply below_drew1 | refine below_set ?_ GE448.out) | exact HB.out))) : w.heap.size ≤ gb455))
          have n9_ := a0 ((by rw [hg]; exact (below_size (by repeat (first | (with_reducible first | exact HB.out | apply below_alloc | apply pw_below_drewN | apply below_drew1 | refine below_set ?_ GE448.out) | exact HB.out))) : w.heap.size ≤ gb455))
          have n10_ := a0 ((by rw [hg]; exact Nat.ne_of_lt (blk_lt (g := gb448) (o := .cells #[.slice Ao12 x449000_1.length co12, .int .i64 x449001_1] 24 (0, 0)) (by (with_reducible repeat (first | apply bN | apply bD | apply bA)); exact BK448.out)) : gb448 ≠ gb455))
          have n11_ := a0 ((by rw [hg]; exact Nat.ne_of_gt (blk_lt (g := gb448) (o := .cells #[.slice Ao12 x449000_1.length co12, .int .i64 x449001_1] 24 (0, 0)) (by (with_reducible repeat (first | apply bN | apply bD | apply bA)); exact BK448.out)) : gb455 ≠ gb448))
          clear HO_0
          clear HO_4
          clear HO_449000
          clear HL449_0
          clear BK448
          clear HB
          have HO_0 := n0_
          have HO_4 := n1_
          have HO_449000 := n2_
          have HL449_0 := n3_
          have BK448 := n4_
          have HB := n6_
          have BK455 := n7_
          have GW455 := n8_
          have GE455 := n9_
          have NB448_455 := n10_
          have NB455_448 := n11_
          clear n0_ n1_ n2_ n3_ n4_ n6_ n7_ n8_ n9_ n10_ n11_
          clear hb hbox hg
          refine hK.out _ _ ⟨(blk_cell BK448.out 0).trans rfl, (blk_cell BK448.out 1).trans rfl, HS2_⟩ (fun hHeld => ?_)
          clear hK K
          refine norm_ (a' := ?_) ?_ ?_
          rotate_left
          ·show Act.put _ (some 6) _ = _
           simp only [Act.put, sT, sZ, sS, i64_w, i32_w]
           rfl
          refine one_ (i := 5) (N := some 33) #[τ, τ, τ, τ, τ, τ, φ, φ, φ, τ, φ, φ] rfl rfl (one_of HT_.out (by kernel_rfl)) (by decide) (fun K hK => ?_)
          refine goes_ Try.func8 (by kernel_rfl) rfl #[.agg #[.slice Ao12 x449000_1.length co12, .int .i64 x449001_1], .slice A449_0 (rd_L1 l0 x5_1).length c449_0] (by rfl) rfl rfl (by (try simp only [List.map_toArray, List.map_cons, List.map_nil]); first | done | rfl | (simp only [List.length_drop, List.length_take]; rfl)) ?_
          with_reducible refine (link_Push.calls k1 (fun k_ => (((P0_ k_ ∨ w.heap.size ≤ k_) ∧ (some k_ ≠ (u4 : Value).ownBlock ∧ k_ ≠ gb448)) ∧ k_ ≠ gb455)) _ _ x449000_1 x449001_1 (fun k_ => (((P0_ k_ ∨ w.heap.size ≤ k_) ∧ (some k_ ≠ (u4 : Value).ownBlock ∧ k_ ≠ gb448)) ∧ k_ ≠ gb455)) _ _ (rd_L1 l0 x5_1) t450 t453 true _ ?side1 ?side2 A9.out).mono ?_
          (case side1 => exact HO_449000.out)
          (case side2 => exact HL449_0.out)
          rintro e w15 ⟨v451, rfl, ho0, hb⟩
          have HS2_ := (hb.cell (World.block_lt_of_cell? _ _ (hHeld.2.2))).trans (hHeld.2.2)
          refine ⟨_, rfl, ?_⟩
          have n0_ := a0 (Kd.V_below (by (with_reducible repeat (first | apply vA | apply vN | apply vD)); exact HO_0.out) hb)
          have n1_ := a0 (Kd.N_below (by (with_reducible repeat (first | apply Kd.N_alloc | apply Kd.N_drewN | apply Kd.N_drew)); exact HO_4.out) hb)
          have n2_ := a0 (Kd.V_below (by (with_reducible repeat (first | apply vA | apply vN | apply vD)); exact HO_449000.out) hb)
          have n3_ := a0 (Kd.V_below (by (with_reducible repeat (first | apply vA | apply vN | apply vD)); exact HL449_0.out) hb)
          have n4_ := a0 (Kd.V_lower (Kd.V_mono (ok' := fun k_ => (P0_ k_ ∨ w.heap.size ≤ k_) ∧ some k_ ≠ (u4 : Value).ownBlock ∧ k_ ≠ gb448 ∧ k_ ≠ gb455) ho0 (fun k_ hk_ => ⟨Or.elim hk_ (fun hs_ => Or.elim hs_ (fun hs_ => hs_.1.1) (fun hs_ => hs_.1.1)) (fun hn_ => (.inr (Nat.le_trans (below_size (by repeat (first | (with_reducible first | exact HB.out | apply below_alloc | apply pw_below_drewN | apply below_drew1 | refine below_set ?_ GE448.out | refine below_set ?_ GE455.out) | exact HB.out))) hn_))), Or.elim hk_ (fun hs_ => Or.elim hs_ (fun hs_ => hs_.1.2.1) (fun hs_ => hs_.1.2.1)) (fun hn_ => (Kd.fresh' (Kd.N_lt (by (with_reducible repeat (first | apply Kd.N_alloc | apply Kd.N_drewN | apply Kd.N_drew)); exact HO_4.out)) k_ hn_)), Or.elim hk_ (fun hs_ => Or.elim hs_ (fun hs_ => hs_.1.2.2) (fun hs_ => hs_.1.2.2)) (fun hn_ => (Kd.freshB (g := gb448) (o := .cells #[.slice Ao12 x449000_1.length co12, .int .i64 x449001_1] 24 (0, 0)) (by (with_reducible repeat (first | apply bN | apply bD | apply bA)); exact BK448.out) k_ hn_)), Or.elim hk_ (fun hs_ => Or.elim hs_ (fun hs_ => hs_.2) (fun hs_ => hs_.2)) (fun hn_ => (Kd.freshB (g := gb455) (o := .cells #[.slice none 0 0, .int .i64 0] 24 (0, 0)) (by (with_reducible repeat (first | apply bN | apply bD | apply bA)); exact BK455.out) k_ hn_))⟩)) (below_size (by repeat (first | (with_reducible first | exact HB.out | apply below_alloc | apply pw_below_drewN | apply below_drew1 | refine below_set ?_ GE448.out | refine below_set ?_ GE455.out) | exact HB.out))))
          have n5_ := a0 (blk_below (g := gb448) (o := .cells #[.slice Ao12 x449000_1.length co12, .int .i64 x449001_1] 24 (0, 0)) (by (with_reducible repeat (first | apply bN | apply bD | apply bA)); exact BK448.out) hb)
          have n7_ := a0 (blk_below (g := gb455) (o := .cells #[.slice none 0 0, .int .i64 0] 24 (0, 0)) (by (with_reducible repeat (first | apply bN | apply bD | apply bA)); exact BK455.out) hb)
          have n8_ := a0 (below_step (by repeat (first | (with_reducible first | exact HB.out | apply below_alloc | apply pw_below_drewN | apply below_drew1 | refine below_set ?_ GE448.out | refine below_set ?_ GE455.out) | exact HB.out)) hb)
          clear HO_0
          clear HO_4
          clear HO_449000
          clear HL449_0
          clear BK448
          clear BK455
          clear HB
          have HO_0 := n0_
          have HO_4 := n1_
          have HO_449000 := n2_
          have HL449_0 := n3_
          have HO452 := n4_
          have BK448 := n5_
          have BK455 := n7_
          have HB := n8_
          clear n0_ n1_ n2_ n3_ n4_ n5_ n7_ n8_
          (try clear hb)
          (try clear hb2)
          (try clear hk)
          (try clear hi)
          (try clear ho0)
          refine hK.out _ _ ⟨(blk_cell BK448.out 0).trans rfl, (blk_cell BK448.out 1).trans rfl, HS2_⟩ (fun hHeld => ?_)
          clear hK K
          refine norm_ (a' := ?_) ?_ ?_
          rotate_left
          ·show Act.put _ (some 33) _ = _
           simp only [Act.put, sT, sZ, sS, i64_w, i32_w]
           rfl
          refine pure_ (i := 6) (N := some 27) (v := ?_) (a' := ?_) #[τ, τ, τ, τ, τ, τ, τ, φ, φ, τ, φ, φ] rfl rfl (any_of HT_.out (by kernel_rfl)) (fun _ _ _ h => h) (Or.inl ⟨by rfl, ?_⟩) ?_ ?_
          rotate_left
          ·intro w'
           go_simp
           with_reducible rfl
          rotate_left
          ·simp only [Act.put, sT, sZ, sS, i64_w, i32_w]
           rfl
          refine pure_ (i := 7) (N := some 34) (v := ?_) (a' := ?_) #[τ, τ, τ, τ, τ, τ, τ, τ, φ, τ, φ, φ] rfl rfl (any_of HT_.out (by kernel_rfl)) (fun _ _ _ h => h) (Or.inl ⟨by rfl, ?_⟩) ?_ ?_
          rotate_left
          ·intro w'
           go_simp
           with_reducible rfl
          rotate_left
          ·simp only [Act.put, sT, sZ, sS, i64_w, i32_w]
           rfl
          refine pure_ (i := 8) (N := some 35) (v := ?_) (a' := ?_) #[τ, τ, τ, τ, τ, τ, τ, τ, τ, τ, φ, φ] rfl rfl (any_of HT_.out (by kernel_rfl)) (fun _ _ _ h => h) (Or.inl ⟨by rfl, ?_⟩) ?_ ?_
          rotate_left
          ·intro w'
           go_simp
           with_reducible rfl
          rotate_left
          ·simp only [Act.put, sT, sZ, sS, i64_w, i32_w]
           rfl
          exact norm_ (by simp only [putAll, Act.put, sT, sZ, sS]) (hCont (v451, gb455) _ ⟨hHeld, (by (with_reducible repeat (first | apply vA | apply vN | apply vD)); exact Kd.V_mono HL449_0.out (fun _ hk => ⟨hk.1.1, ⟨hk.1.2.1, ⟨hk.1.2.2, hk.2⟩⟩⟩)), (by (with_reducible repeat (first | apply vA | apply vN | apply vD)); exact HO452.out), (by (with_reducible repeat (first | apply vA | apply vN | apply vD)); exact Kd.V_mono HO_0.out (fun _ hk => ⟨hk.1.1, ⟨hk.1.2.1, ⟨hk.1.2.2, hk.2⟩⟩⟩)), (by (with_reducible repeat (first | apply Kd.N_alloc | apply Kd.N_drewN | apply Kd.N_drew)); exact Kd.N_mono HO_4.out (fun _ hk => ⟨hk.1.1, ⟨hk.1.2, hk.2⟩⟩)), (by (with_reducible repeat (first | apply vA | apply vN | apply vD)); exact Kd.V_mono HO_449000.out (fun _ hk => ⟨hk.1.1, ⟨hk.1.2.1, ⟨hk.1.2.2, hk.2⟩⟩⟩)), (by (with_reducible repeat (first | apply bN | apply bD | apply bA)); exact BK448.out), (by (with_reducible repeat (first | apply bN | apply bD | apply bA)); exact BK455.out), GW455.out, GE455.out, NB448_455.out, NB455_448.out, (by repeat (first | (with_reducible first | exact HB.out | apply below_alloc | apply pw_below_drewN | apply below_drew1 | refine below_set ?_ GE448.out | refine below_set ?_ GE455.out) | exact HB.out))⟩)
        rintro ⟨v451, gb455⟩ w16 ⟨hS_, h0_, h1_, h2_, h3_, h4_, h5_, h6_, h7_, h8_, h9_, h10_, h11_⟩
        have n0_ : Aside0 (Kd.V (Kd.int .u8) 5 w16 w.heap.size (fun k_ => (P0_ k_ ∨ w.heap.size ≤ k_) ∧ some k_ ≠ (u4 : Value).ownBlock ∧ k_ ≠ gb448 ∧ k_ ≠ gb455) (.slice A449_0 (rd_L1 l0 x5_1).length c449_0) (rd_L1 l0 x5_1)) := ⟨h0_⟩
        have n1_ : Aside0 (Kd.V (Kd.slice 5 (Kd.int .u8)) 25 w16 w.heap.size (fun k_ => (P0_ k_ ∨ w.heap.size ≤ k_) ∧ some k_ ≠ (u4 : Value).ownBlock ∧ k_ ≠ gb448 ∧ k_ ≠ gb455) v451 t450) := ⟨h1_⟩
        have n2_ : Aside0 (Kd.V (Kd.slice 5 (Kd.int .u8)) 25 w16 w.heap.size (fun k_ => (P0_ k_ ∨ w.heap.size ≤ k_) ∧ some k_ ≠ (u4 : Value).ownBlock ∧ k_ ≠ gb448 ∧ k_ ≠ gb455) (.slice (some ad449) l0.length c0) l0) := ⟨h2_⟩
        have n3_ : Aside0 (Kd.N (Kd.slice 5 (Kd.int .u8)) 25 w16 w.heap.size (fun k_ => (P0_ k_ ∨ w.heap.size ≤ k_) ∧ k_ ≠ gb448 ∧ k_ ≠ gb455) u4 x4_1) := ⟨h3_⟩
        have n4_ : Aside0 (Kd.V (Kd.slice 5 (Kd.int .u8)) 25 w16 w.heap.size (fun k_ => (P0_ k_ ∨ w.heap.size ≤ k_) ∧ some k_ ≠ (u4 : Value).ownBlock ∧ k_ ≠ gb448 ∧ k_ ≠ gb455) (.slice Ao12 x449000_1.length co12) x449000_1) := ⟨h4_⟩
        have n5_ : Aside0 (w16.heap[gb448]? = some (.cells #[.slice Ao12 x449000_1.length co12, .int .i64 x449001_1] 24 (0, 0))) := ⟨h5_⟩
        have n6_ : Aside0 (w16.heap[gb455]? = some (.cells #[.slice none 0 0, .int .i64 0] 24 (0, 0))) := ⟨h6_⟩
        have n7_ : Aside0 (w.heap.size ≤ gb455) := ⟨h7_⟩
        have n8_ : Aside0 (w.heap.size ≤ gb455) := ⟨h8_⟩
        have n9_ : Aside0 (gb448 ≠ gb455) := ⟨h9_⟩
        have n10_ : Aside0 (gb455 ≠ gb448) := ⟨h10_⟩
        have n11_ : Aside0 (Below w.heap.size w w16) := ⟨h11_⟩
        clear HO_0
        clear HO_4
        clear HO_449000
        clear BK448
        clear HB
        clear h0_ h1_ h2_ h3_ h4_ h5_ h6_ h7_ h8_ h9_ h10_ h11_
        have HL449_0 := n0_
        have HO452 := n1_
        have HO_0 := n2_
        have HO_4 := n3_
        have HO_449000 := n4_
        have BK448 := n5_
        have BK455 := n6_
        have GW455 := n7_
        have GE455 := n8_
        have NB448_455 := n9_
        have NB455_448 := n10_
        have HB := n11_
        clear n0_ n1_ n2_ n3_ n4_ n5_ n6_ n7_ n8_ n9_ n10_ n11_
        have hHeld : w16.cell? ⟨gb448, 0, none⟩ = some (.slice Ao12 x449000_1.length co12) ∧ w16.cell? ⟨gb448, 1, none⟩ = some (.int .i64 x449001_1) ∧ w16.cell? (ad449.add (x5_1).toNat) = some (.slice A449_0 (rd_L1 l0 x5_1).length c449_0) := hS_
        obtain ⟨Ao17, co17, eo17⟩ := Kd.V_slice HO452.out
        (first | subst eo17 | (injection eo17 with f1_ f2_ f3_; have f4_ := f1_.symm; have f5_ := f3_.symm; clear f1_ f2_ f3_; subst f4_; subst f5_))
        refine norm_ (a' := ?_) ?_ ?_
        rotate_left
        ·simp only [putAll, Act.put, sT, sZ, sS]
         rfl
        refine one_ (i := 10) (N := none) #[τ, τ, τ, τ, τ, τ, τ, τ, τ, τ, τ, φ] rfl rfl (one_of HT_.out (by kernel_rfl)) (by decide) (fun K hK => ?_)
        have hs18 : w16.cell? ⟨gb455, 0, none⟩ = some (.slice none 0 0) := (blk_cell BK455.out 0).trans rfl
        have hfs18 := blk_frozen BK455.out 0
        have hns18_0 := NB448_455.out
        have hms18_0 := NB455_448.out
        have hs19 : w16.cell? ⟨gb455, 1, none⟩ = some (.int .i64 0) := (blk_cell BK455.out 1).trans rfl
        have hfs19 := blk_frozen BK455.out 1
        have hns19_0 := NB448_455.out
        have hms19_0 := NB455_448.out
        refine skip_ (w1 := ?_) (by rfl) rfl ?_ ?_
        rotate_left
        ·go_simp
         rfl
        refine hK.out _ _ ⟨((cell_far (p := ⟨gb455, _, none⟩) NB448_455.out _).trans (((cell_far (p := ⟨gb455, _, none⟩) NB448_455.out _).trans (hHeld.1)))), ((cell_far (p := ⟨gb455, _, none⟩) NB448_455.out _).trans (((cell_far (p := ⟨gb455, _, none⟩) NB448_455.out _).trans (hHeld.2.1)))), ((cell_far (p := ⟨gb455, _, none⟩) (by first | exact Kd.own_blk (Kd.V_away HO_0.out (fun _ hk => hk.2.2.2) (by have hqa := of_decide_eq_true c7b0; have hqb := of_decide_eq_true c8b0; omega)) | (rw [add_block]; exact Kd.own_blk (Kd.V_away HO_0.out (fun _ hk => hk.2.2.2) (by have hqa := of_decide_eq_true c7b0; have hqb := of_decide_eq_true c8b0; omega))) | (show (Addr.add _ _).block ≠ _; rw [add_block]; exact Kd.own_blk (Kd.V_away HO_0.out (fun _ hk => hk.2.2.2) (by have hqa := of_decide_eq_true c7b0; have hqb := of_decide_eq_true c8b0; omega))) | (dsimp only; exact Kd.own_blk (Kd.V_away HO_0.out (fun _ hk => hk.2.2.2) (by have hqa := of_decide_eq_true c7b0; have hqb := of_decide_eq_true c8b0; omega)))) _).trans (((cell_far (p := ⟨gb455, _, none⟩) (by first | exact Kd.own_blk (Kd.V_away HO_0.out (fun _ hk => hk.2.2.2) (by have hqa := of_decide_eq_true c7b0; have hqb := of_decide_eq_true c8b0; omega)) | (rw [add_block]; exact Kd.own_blk (Kd.V_away HO_0.out (fun _ hk => hk.2.2.2) (by have hqa := of_decide_eq_true c7b0; have hqb := of_decide_eq_true c8b0; omega))) | (show (Addr.add _ _).block ≠ _; rw [add_block]; exact Kd.own_blk (Kd.V_away HO_0.out (fun _ hk => hk.2.2.2) (by have hqa := of_decide_eq_true c7b0; have hqb := of_decide_eq_true c8b0; omega))) | (dsimp only; exact Kd.own_blk (Kd.V_away HO_0.out (fun _ hk => hk.2.2.2) (by have hqa := of_decide_eq_true c7b0; have hqb := of_decide_eq_true c8b0; omega)))) _).trans (hHeld.2.2))))⟩ (fun hHeld => ?_)
        clear hK K
        refine pure_ (i := 11) (N := some 7) (v := ?_) (a' := ?_) #[τ, τ, τ, τ, τ, τ, τ, τ, τ, τ, τ, τ] rfl rfl (any_of HT_.out (by kernel_rfl)) (fun _ _ _ h => h) (Or.inl ⟨by rfl, ?_⟩) ?_ ?_
        rotate_left
        ·intro w'
         go_simp
         with_reducible rfl
        rotate_left
        ·simp only [Act.put, sT, sZ, sS, i64_w, i32_w]
         rfl
        refine done_ (done_of HT_.out (by kernel_rfl)) ?_
        have n0_ : Aside0 (Kd.V (Kd.slice 5 (Kd.int .u8)) 25 ((w16.setCell ⟨gb455, 0, none⟩ (.slice Ao17 t450.length co17)).setCell ⟨gb455, 1, none⟩ (.int .i64 t453)) w.heap.size (fun k_ => (P0_ k_ ∨ w.heap.size ≤ k_) ∧ some k_ ≠ (u4 : Value).ownBlock ∧ k_ ≠ gb448 ∧ k_ ≠ gb455) (.slice (some ad449) l0.length c0) l0) := ⟨by (with_reducible repeat (first | apply vA | apply vN | apply vD)); exact Kd.V_mono (Kd.V_far (p := ⟨gb455, 1, none⟩) (Kd.V_far (p := ⟨gb455, 0, none⟩) (Kd.V_mono HO_0.out (fun k_ hk => (⟨hk, hk.2.2.2⟩ : _ ∧ k_ ≠ gb455))) (fun _ hk => hk.2) (.slice Ao17 t450.length co17)) (fun _ hk => hk.2) (.int .i64 t453)) (fun _ hk => ⟨hk.1.1, ⟨hk.1.2.1, ⟨hk.1.2.2.1, hk.1.2.2.2⟩⟩⟩)⟩
        have n1_ : Aside0 (Kd.N (Kd.slice 5 (Kd.int .u8)) 25 ((w16.setCell ⟨gb455, 0, none⟩ (.slice Ao17 t450.length co17)).setCell ⟨gb455, 1, none⟩ (.int .i64 t453)) w.heap.size (fun k_ => (P0_ k_ ∨ w.heap.size ≤ k_) ∧ k_ ≠ gb448 ∧ k_ ≠ gb455) u4 x4_1) := ⟨by (with_reducible repeat (first | apply Kd.N_alloc | apply Kd.N_drewN | apply Kd.N_drew)); exact Kd.N_mono (Kd.N_far (p := ⟨gb455, 1, none⟩) (Kd.N_far (p := ⟨gb455, 0, none⟩) (Kd.N_mono HO_4.out (fun k_ hk => (⟨hk, hk.2.2⟩ : _ ∧ k_ ≠ gb455))) (fun _ hk => hk.2) (.slice Ao17 t450.length co17)) (fun _ hk => hk.2) (.int .i64 t453)) (fun _ hk => ⟨hk.1.1, ⟨hk.1.2.1, hk.1.2.2⟩⟩)⟩
        have n2_ : Aside0 (Kd.V (Kd.slice 5 (Kd.int .u8)) 25 ((w16.setCell ⟨gb455, 0, none⟩ (.slice Ao17 t450.length co17)).setCell ⟨gb455, 1, none⟩ (.int .i64 t453)) w.heap.size (fun k_ => (P0_ k_ ∨ w.heap.size ≤ k_) ∧ some k_ ≠ (u4 : Value).ownBlock ∧ k_ ≠ gb448 ∧ k_ ≠ gb455) (.slice Ao12 x449000_1.length co12) x449000_1) := ⟨by (with_reducible repeat (first | apply vA | apply vN | apply vD)); exact Kd.V_mono (Kd.V_far (p := ⟨gb455, 1, none⟩) (Kd.V_far (p := ⟨gb455, 0, none⟩) (Kd.V_mono HO_449000.out (fun k_ hk => (⟨hk, hk.2.2.2⟩ : _ ∧ k_ ≠ gb455))) (fun _ hk => hk.2) (.slice Ao17 t450.length co17)) (fun _ hk => hk.2) (.int .i64 t453)) (fun _ hk => ⟨hk.1.1, ⟨hk.1.2.1, ⟨hk.1.2.2.1, hk.1.2.2.2⟩⟩⟩)⟩
        have n3_ : Aside0 (Kd.V (Kd.int .u8) 5 ((w16.setCell ⟨gb455, 0, none⟩ (.slice Ao17 t450.length co17)).setCell ⟨gb455, 1, none⟩ (.int .i64 t453)) w.heap.size (fun k_ => (P0_ k_ ∨ w.heap.size ≤ k_) ∧ some k_ ≠ (u4 : Value).ownBlock ∧ k_ ≠ gb448 ∧ k_ ≠ gb455) (.slice A449_0 (rd_L1 l0 x5_1).length c449_0) (rd_L1 l0 x5_1)) := ⟨by (with_reducible repeat (first | apply vA | apply vN | apply vD)); exact Kd.V_mono (Kd.V_far (p := ⟨gb455, 1, none⟩) (Kd.V_far (p := ⟨gb455, 0, none⟩) (Kd.V_mono HL449_0.out (fun k_ hk => (⟨hk, hk.2.2.2⟩ : _ ∧ k_ ≠ gb455))) (fun _ hk => hk.2) (.slice Ao17 t450.length co17)) (fun _ hk => hk.2) (.int .i64 t453)) (fun _ hk => ⟨hk.1.1, ⟨hk.1.2.1, ⟨hk.1.2.2.1, hk.1.2.2.2⟩⟩⟩)⟩
        have n4_ : Aside0 (Kd.V (Kd.slice 5 (Kd.int .u8)) 25 ((w16.setCell ⟨gb455, 0, none⟩ (.slice Ao17 t450.length co17)).setCell ⟨gb455, 1, none⟩ (.int .i64 t453)) w.heap.size (fun k_ => (P0_ k_ ∨ w.heap.size ≤ k_) ∧ some k_ ≠ (u4 : Value).ownBlock ∧ k_ ≠ gb448 ∧ k_ ≠ gb455) (.slice Ao17 t450.length co17) t450) := ⟨by (with_reducible repeat (first | apply vA | apply vN | apply vD)); exact Kd.V_mono (Kd.V_far (p := ⟨gb455, 1, none⟩) (Kd.V_far (p := ⟨gb455, 0, none⟩) (Kd.V_mono HO452.out (fun k_ hk => (⟨hk, hk.2.2.2⟩ : _ ∧ k_ ≠ gb455))) (fun _ hk => hk.2) (.slice Ao17 t450.length co17)) (fun _ hk => hk.2) (.int .i64 t453)) (fun _ hk => ⟨hk.1.1, ⟨hk.1.2.1, ⟨hk.1.2.2.1, hk.1.2.2.2⟩⟩⟩)⟩
        have n5_ : Aside0 (((w16.setCell ⟨gb455, 0, none⟩ (.slice Ao17 t450.length co17)).setCell ⟨gb455, 1, none⟩ (.int .i64 t453)).heap[gb448]? = some (.cells #[.slice Ao12 x449000_1.length co12, .int .i64 x449001_1] 24 (0, 0))) := ⟨by (with_reducible repeat (first | apply bN | apply bD | apply bA)); refine blk_far ?_ NB448_455.out _; (with_reducible repeat (first | apply bN | apply bD | apply bA)); refine blk_far ?_ NB448_455.out _; (with_reducible repeat (first | apply bN | apply bD | apply bA)); exact BK448.out⟩
        have n6_ : Aside0 (((w16.setCell ⟨gb455, 0, none⟩ (.slice Ao17 t450.length co17)).setCell ⟨gb455, 1, none⟩ (.int .i64 t453)).heap[gb455]? = some (.cells #[.slice Ao17 t450.length co17, .int .i64 t453] 24 (0, 0))) := ⟨by (with_reducible repeat (first | apply bN | apply bD | apply bA)); refine blk_put (cs := #[.slice Ao17 t450.length co17, .int .i64 0]) ?_ 1 _ rfl; (with_reducible repeat (first | apply bN | apply bD | apply bA)); refine blk_put (cs := #[.slice none 0 0, .int .i64 0]) ?_ 0 _ rfl; (with_reducible repeat (first | apply bN | apply bD | apply bA)); exact BK455.out⟩
        have n7_ : Aside0 (Below w.heap.size w ((w16.setCell ⟨gb455, 0, none⟩ (.slice Ao17 t450.length co17)).setCell ⟨gb455, 1, none⟩ (.int .i64 t453))) := ⟨by repeat (first | (with_reducible first | exact HB.out | apply below_alloc | apply pw_below_drewN | apply below_drew1 | refine below_set ?_ GE448.out | refine below_set ?_ GE455.out) | exact HB.out)⟩
        (try clear HO_0)
        (try clear HO_4)
        (try clear HO_449000)
        (try clear HL449_0)
        (try clear HO452)
        (try clear BK448)
        (try clear BK455)
        (try clear HB)
        generalize ((w16.setCell ⟨gb455, 0, none⟩ (.slice Ao17 t450.length co17)).setCell ⟨gb455, 1, none⟩ (.int .i64 t453)) = w20 at n0_ n1_ n2_ n3_ n4_ n5_ n6_ n7_ ⊢
        have HO_0 := n0_
        have HO_4 := n1_
        have HO_449000 := n2_
        have HL449_0 := n3_
        have HO452 := n4_
        have BK448 := n5_
        have BK455 := n6_
        have HB := n7_
        clear n0_ n1_ n2_ n3_ n4_ n5_ n6_ n7_
        have p456 : 0 ≤ (x5_1 : Int) := of_decide_eq_true (by first | (with_reducible assumption) | assumption)
        have q456 : x5_1 < (l0.length : Int) := of_decide_eq_true (by first | (with_reducible assumption) | assumption)
        obtain ⟨ad456, A456_0, c456_0, e456, hx456_0, hl456_0, hi456_0⟩ := at_L1 (Kd.V_reads' HO_0.out).2.2 x5_1 p456 q456
        obtain rfl : ad449 = ad456 := (by injection e456)
        obtain ⟨ce456, hce456, hMe456, hcc456⟩ := Kd.V_get HO_0.out [] x5_1 p456 (by first | exact q456 | exact of_decide_eq_true (by first | (with_reducible assumption) | assumption) | (have e_ := (Kd.V_reads' HO_0.out).1; omega))
        obtain ⟨ua456_0, uc456_0, rfl, ul456_0, ge456_0⟩ := Kd.FK_slice_open hMe456
        have hv456_0 := hcc456 0 _ rfl
        rw [Nat.add_zero, show ((Kd.slice 5 (Kd.int .u8))).sz = 1 from rfl, Nat.mul_one] at hv456_0
        replace hv456_0 := Option.some.inj (hv456_0.symm.trans hx456_0)
        injection hv456_0 with hva_ hvn_ hvc_
        rw [hva_] at ge456_0
        rw [hvc_] at ul456_0
        have HL456_0 := a0 (show Kd.V (Kd.int .u8) 5 _ w.heap.size _ _ (rd_L1 l0 x5_1) from Kd.V_mk ul456_0 ge456_0)
        clear hva_ hvn_ hvc_ ge456_0 ul456_0
        clear hcc456 hce456
        have HR456_0 := a0 hi456_0
        have HC456_0 := a0 hl456_0
        clear hi456_0 hl456_0
        replace p456 := eq_true p456
        replace q456 := eq_true q456
        try go_wp2_with (first | ((with_reducible refine gate_builtin (b := .append) (xs := #[.tmp 37, .tmp 42]) rfl ?_); (try (refine gate_guard (by rfl) ?_; dsimp only)); at_builtin; refine Kd.N_append (Kd.slice 5 (Kd.int .u8)) (w0 := w) w.heap.size rfl (.tmp 37) (.tmp 42) 22 25 (.slice none 0 0) 24 rfl Try.underlying22 info25 rfl (by decide) (by omega) u4 x4_1 (rd_L1 l0 x5_1) [.slice A456_0 (rd_L1 l0 x5_1).length c456_0] (fun k_ => (P0_ k_ ∨ w.heap.size ≤ k_) ∧ k_ ≠ gb448 ∧ k_ ≠ gb455) (fun k_ => ((fun k_ => (P0_ k_ ∨ w.heap.size ≤ k_) ∧ k_ ≠ gb448 ∧ k_ ≠ gb455)) k_ ∧ some k_ ≠ (u4 : Value).ownBlock) rfl rfl ?aP (fun _ hk => hk) ?aF ?aO ?aB ?aS ?aL ?_; (case aP => exact (Kd.FK_slice_mk (Kd.V_reads' (Kd.V_mono (ok' := (fun k_ => ((fun k_ => (P0_ k_ ∨ w.heap.size ≤ k_) ∧ k_ ≠ gb448 ∧ k_ ≠ gb455)) k_ ∧ some k_ ≠ (u4 : Value).ownBlock)) (HL456_0.out) (fun k_ hk => ⟨⟨hk.1, ⟨hk.2.2.1, hk.2.2.2⟩⟩, hk.2.1⟩))).2.1 (Kd.V_F (Kd.V_mono (ok' := (fun k_ => ((fun k_ => (P0_ k_ ∨ w.heap.size ≤ k_) ∧ k_ ≠ gb448 ∧ k_ ≠ gb455)) k_ ∧ some k_ ≠ (u4 : Value).ownBlock)) (HL456_0.out) (fun k_ hk => ⟨⟨hk.1, ⟨hk.2.2.1, hk.2.2.2⟩⟩, hk.2.1⟩))))); (case aB => exact (by repeat (first | (with_reducible first | exact HB.out | apply below_alloc | apply pw_below_drewN | apply below_drew1 | refine below_set ?_ GE448.out | refine below_set ?_ GE455.out) | exact HB.out))); (case aF => exact (fun k_ hk => ⟨(.inr (Nat.le_trans (below_size (by repeat (first | (with_reducible first | exact HB.out | apply below_alloc | apply pw_below_drewN | apply below_drew1 | refine below_set ?_ GE448.out | refine below_set ?_ GE455.out) | exact HB.out))) hk)), Kd.freshB (g := gb448) (o := .cells #[.slice Ao12 x449000_1.length co12, .int .i64 x449001_1] 24 (0, 0)) (by (with_reducible repeat (first | apply bN | apply bD | apply bA)); exact BK448.out) k_ hk, Kd.freshB (g := gb455) (o := .cells #[.slice Ao17 t450.length co17, .int .i64 t453] 24 (0, 0)) (by (with_reducible repeat (first | apply bN | apply bD | apply bA)); exact BK455.out) k_ hk⟩)); (case aO => exact (by (with_reducible repeat (first | apply Kd.N_alloc | apply Kd.N_drewN | apply Kd.N_drew)); exact HO_4.out)); (case aS => exact (below_size (by repeat (first | (with_reducible first | exact HB.out | apply below_alloc | apply pw_below_drewN | apply below_drew1 | refine below_set ?_ GE448.out | refine below_set ?_ GE455.out) | exact HB.out)))); (case aL => have := LMc11.out; omega); intro v458 w21 ho hb hg hat; rw [← Ny457.out] at ho; have n0_ := a0 (Kd.V_afterv (ok := (fun k_ => (P0_ k_ ∨ w.heap.size ≤ k_) ∧ k_ ≠ gb448 ∧ k_ ≠ gb455)) (by (with_reducible repeat (first | apply vA | apply vN | apply vD)); exact Kd.V_mono HO_0.out (fun _ hk => ⟨⟨hk.1, ⟨hk.2.2.1, hk.2.2.2⟩⟩, hk.2.1⟩)) hg hat); have n2_ := a0 (blk_grown (g := gb448) (o := .cells #[.slice Ao12 x449000_1.length co12, .int .i64 x449001_1] 24 (0, 0)) (by (with_reducible repeat (first | apply bN | apply bD | apply bA)); exact BK448.out) hg (Kd.N_ne HO_4.out BK448.out (by decide))); have n4_ := a0 (Kd.V_afterv (ok := (fun k_ => (P0_ k_ ∨ w.heap.size ≤ k_) ∧ k_ ≠ gb448 ∧ k_ ≠ gb455)) (by (with_reducible repeat (first | apply vA | apply vN | apply vD)); exact Kd.V_mono HO452.out (fun _ hk => ⟨⟨hk.1, ⟨hk.2.2.1, hk.2.2.2⟩⟩, hk.2.1⟩)) hg hat); have n5_ := a0 (blk_grown (g := gb455) (o := .cells #[.slice Ao17 t450.length co17, .int .i64 t453] 24 (0, 0)) (by (with_reducible repeat (first | apply bN | apply bD | apply bA)); exact BK455.out) hg (Kd.N_ne HO_4.out BK455.out (by decide))); have n7_ := a0 (hb); have n8_ := a0 (ho); clear HO_0; clear BK448; clear HO452; clear BK455; clear HB; clear HO_4; have HO_0 := n0_; have BK448 := n2_; have HO452 := n4_; have BK455 := n5_; have HB := n7_; have HO459 := n8_; clear n0_ n2_ n4_ n5_ n7_ n8_; clear ho hb hg hat; have hnb22 := NB455_448.out; have hnc22 := NB448_455.out; have hcz23_0 : w21.cell? ⟨gb455, 0, none⟩ = some (.slice Ao17 t450.length co17) := (blk_cell BK455.out 0).trans rfl; have hcz23_1 : w21.cell? ⟨gb455, 1, none⟩ = some (.int .i64 t453) := (blk_cell BK455.out 1).trans rfl; have hfz23_0 := blk_frozen BK455.out 0; have hfz23_1 := blk_frozen BK455.out 1; have hcz24_0 : w21.cell? ⟨gb448, 0, none⟩ = some (.slice Ao12 x449000_1.length co12) := (blk_cell BK448.out 0).trans rfl; have hcz24_1 : w21.cell? ⟨gb448, 1, none⟩ = some (.int .i64 x449001_1) := (blk_cell BK448.out 1).trans rfl; have hfz24_0 := blk_frozen BK448.out 0; have hfz24_1 := blk_frozen BK448.out 1))
        go_roundg k1
        case measure => have := HK1.out; omega
        case rel => exact ⟨(y457), (wrap64 (x5_1 + 1)), (t450), (t453), (.slice Ao17 t450.length co17), (by first | rfl | (simp; done) | (simp [*]; done)), H', ⟨by have := HK1.out; omega⟩, ⟨by (with_reducible repeat (first | apply vA | apply vN | apply vD)); exact Kd.V_mono (Kd.V_far (p := ⟨gb448, 1, none⟩) (Kd.V_far (p := ⟨gb448, 0, none⟩) (Kd.V_mono HO_0.out (fun k_ hk => (⟨hk, hk.1.2.1⟩ : _ ∧ k_ ≠ gb448))) (fun _ hk => hk.2) (.slice Ao17 t450.length co17)) (fun _ hk => hk.2) (.int .i64 t453)) (fun _ hk => ⟨hk.1.1.1, ⟨hk.1.2, hk.1.1.2.1⟩⟩)⟩, ⟨by (with_reducible repeat (first | apply Kd.N_alloc | apply Kd.N_drewN | apply Kd.N_drew)); exact Kd.N_mono (Kd.N_far (p := ⟨gb448, 1, none⟩) (Kd.N_far (p := ⟨gb448, 0, none⟩) (Kd.N_mono HO459.out (fun k_ hk => (⟨hk, hk.2.1⟩ : _ ∧ k_ ≠ gb448))) (fun _ hk => hk.2) (.slice Ao17 t450.length co17)) (fun _ hk => hk.2) (.int .i64 t453)) (fun _ hk => ⟨hk.1.1, hk.1.2.1⟩)⟩, ⟨by (with_reducible repeat (first | apply vA | apply vN | apply vD)); exact Kd.V_mono (Kd.V_far (p := ⟨gb448, 1, none⟩) (Kd.V_far (p := ⟨gb448, 0, none⟩) (Kd.V_mono HO452.out (fun k_ hk => (⟨hk, hk.1.2.1⟩ : _ ∧ k_ ≠ gb448))) (fun _ hk => hk.2) (.slice Ao17 t450.length co17)) (fun _ hk => hk.2) (.int .i64 t453)) (fun _ hk => ⟨hk.1.1.1, ⟨hk.1.2, hk.1.1.2.1⟩⟩)⟩, ⟨by (with_reducible repeat (first | apply bN | apply bD | apply bA)); refine blk_put (cs := #[.slice Ao17 t450.length co17, .int .i64 x449001_1]) ?_ 1 _ rfl; (with_reducible repeat (first | apply bN | apply bD | apply bA)); refine blk_put (cs := #[.slice Ao12 x449000_1.length co12, .int .i64 x449001_1]) ?_ 0 _ rfl; (with_reducible repeat (first | apply bN | apply bD | apply bA)); exact BK448.out⟩, ⟨by repeat (first | (with_reducible first | exact HB.out | apply below_alloc | apply pw_below_drewN | apply below_drew1 | refine below_set ?_ GE448.out | refine below_set ?_ GE455.out) | exact HB.out)⟩⟩
       ·rw [if_neg c11] at H
        exact absurd H (by simp)
      ·replace c10 := Bool.eq_false_iff.mpr c10
       subst c10
       have H1 : (drawbridgelaw23_LinkOrder.l0 k1 l0 x4_1 (wrap64 (x5_1 + 1)) t450 t453) = some r := by rw [if_neg (show ¬ (false = true) by decide)] at H; exact H
       clear H
       have H := H1
       clear H1
       have H' := a0 H
       clear H
       obtain ⟨Ao25, co25, eo25⟩ := Kd.V_slice HO_449000.out
       subst eo25
       try go_wp2
       have n0_ := a0 (Kd.V_drew HO_0.out)
       have n1_ := a0 (Kd.N_drew HO_4.out)
       have n2_ := a0 (Kd.V_drew HO_449000.out)
       have n3_ := a0 (blk_drew BK448.out)
       have n4_ := a0 (below_drew1 HB.out)
       clear HO_0
       clear HO_4
       clear HO_449000
       clear BK448
       clear HB
       have HO_0 := n0_
       have HO_4 := n1_
       have HO_449000 := n2_
       have BK448 := n3_
       have HB := n4_
       clear n0_ n1_ n2_ n3_ n4_
       have p449 : 0 ≤ (x5_1 : Int) := of_decide_eq_true (by first | (with_reducible assumption) | assumption)
       have q449 : x5_1 < (l0.length : Int) := of_decide_eq_true (by first | (with_reducible assumption) | assumption)
       obtain ⟨ad449, A449_0, c449_0, e449, hx449_0, hl449_0, hi449_0⟩ := at_L1 (Kd.V_reads' HO_0.out).2.2 x5_1 p449 q449
       cases e449
       obtain ⟨ce449, hce449, hMe449, hcc449⟩ := Kd.V_get HO_0.out [] x5_1 p449 (by first | exact q449 | exact of_decide_eq_true (by first | (with_reducible assumption) | assumption) | (have e_ := (Kd.V_reads' HO_0.out).1; omega))
       obtain ⟨ua449_0, uc449_0, rfl, ul449_0, ge449_0⟩ := Kd.FK_slice_open hMe449
       have hv449_0 := hcc449 0 _ rfl
       rw [Nat.add_zero, show ((Kd.slice 5 (Kd.int .u8))).sz = 1 from rfl, Nat.mul_one] at hv449_0
       replace hv449_0 := Option.some.inj (hv449_0.symm.trans hx449_0)
       injection hv449_0 with hva_ hvn_ hvc_
       rw [hva_] at ge449_0
       rw [hvc_] at ul449_0
       have HL449_0 := a0 (show Kd.V (Kd.int .u8) 5 _ w.heap.size _ _ (rd_L1 l0 x5_1) from Kd.V_mk ul449_0 ge449_0)
       clear hva_ hvn_ hvc_ ge449_0 ul449_0
       clear hcc449 hce449
       have HR449_0 := a0 hi449_0
       have HC449_0 := a0 hl449_0
       clear hi449_0 hl449_0
       replace p449 := eq_true p449
       replace q449 := eq_true q449
       refine start_ (n := 12) (S := fun w' => w'.cell? ⟨gb448, 0, none⟩ = some (.slice Ao25 x449000_1.length co25) ∧ w'.cell? ⟨gb448, 1, none⟩ = some (.int .i64 x449001_1) ∧ w'.cell? (ad449.add (x5_1).toNat) = some (.slice A449_0 (rd_L1 l0 x5_1).length c449_0)) (ds := []) #[φ, φ, φ, φ, φ, φ, φ, φ, φ, φ, φ, φ] (by kernel_rfl) rfl rfl ⟨(blk_cell BK448.out 0).trans rfl, (blk_cell BK448.out 1).trans rfl, hx449_0⟩ (fun hHeld => ?_); refine with_tabW drawbridgelaw23_LinkOrder.tab8 drawbridgelaw23_LinkOrder.bits8 (fun HT_ HW_ => ?_)
       generalize wr.drew = w26 at HO_0 HO_4 HO_449000 BK448 HB HL449_0 HR449_0 hx449_0 hHeld ⊢
       refine pure_ (i := 1) (N := some 29) (v := ?_) (a' := ?_) #[φ, τ, φ, φ, φ, φ, φ, φ, φ, φ, φ, φ] rfl rfl (any_of HT_.out (by kernel_rfl)) (fun _ _ _ h => h) (Or.inl ⟨by rfl, ?_⟩) ?_ ?_
       rotate_left
       ·intro w'
        go_simp
        with_reducible rfl
       rotate_left
       ·simp only [Act.put, sT, sZ, sS, i64_w, i32_w]
        rfl
       refine pure_ (i := 2) (N := some 30) (v := ?_) (a' := ?_) #[φ, τ, τ, φ, φ, φ, φ, φ, φ, φ, φ, φ] rfl rfl (any_of HT_.out (by kernel_rfl)) (fun _ _ _ h => h) (Or.inl ⟨by rfl, ?_⟩) ?_ ?_
       rotate_left
       ·intro w'
        go_simp
        with_reducible rfl
       rotate_left
       ·simp only [Act.put, sT, sZ, sS, i64_w, i32_w]
        rfl
       refine pure_ (i := 3) (N := some 31) (v := ?_) (a' := ?_) #[φ, τ, τ, τ, φ, φ, φ, φ, φ, φ, φ, φ] rfl rfl (any_of HT_.out (by kernel_rfl)) (fun _ _ _ h => h) (Or.inl ⟨by rfl, ?_⟩) ?_ ?_
       rotate_left
       ·intro w'
        go_simp
        with_reducible rfl
       rotate_left
       ·simp only [Act.put, sT, sZ, sS, i64_w, i32_w]
        rfl
       refine take_ (i := 0) (N := some 28) (v := ?_) (a' := ?_) #[τ, τ, τ, τ, φ, φ, φ, φ, φ, φ, φ, φ] rfl rfl (take_ofW HT_.out HW_.out (by kernel_rfl)) (fun _ _ _ h => h) (Or.inl ⟨by rfl, ?_⟩) hHeld ?_ ?_
       rotate_left
       ·rintro w' ⟨s0, s1, s2⟩
        go_simp
        with_reducible rfl
       rotate_left
       ·simp only [Act.put, sT, sZ, sS, i64_w, i32_w]
        rfl
       refine take_ (i := 4) (N := some 32) (v := ?_) (a' := ?_) #[τ, τ, τ, τ, τ, φ, φ, φ, φ, φ, φ, φ] rfl rfl (take_ofW HT_.out HW_.out (by kernel_rfl)) (fun _ _ _ h => h) (Or.inl ⟨by rfl, ?_⟩) hHeld ?_ ?_
       rotate_left
       ·rintro w' ⟨s0, s1, s2⟩
        go_simp
        with_reducible rfl
       rotate_left
       ·simp only [Act.put, sT, sZ, sS, i64_w, i32_w]
        rfl
       refine join_ (σ := Value × Nat) 2 #[τ, τ, τ, τ, τ, τ, τ, τ, τ, τ, φ, φ] (fun s_ => [(33, .tuple #[.agg #[s_.1, .int .i64 t453], .bool false]), (6, .pointer (some ⟨s_.2, 0, none⟩)), (27, .tuple #[.agg #[s_.1, .int .i64 t453], .bool false]), (34, .agg #[s_.1, .int .i64 t453]), (35, .bool false)]) (fun s_ w' => (w'.cell? ⟨gb448, 0, none⟩ = some (.slice Ao25 x449000_1.length co25) ∧ w'.cell? ⟨gb448, 1, none⟩ = some (.int .i64 x449001_1) ∧ w'.cell? (ad449.add (x5_1).toNat) = some (.slice A449_0 (rd_L1 l0 x5_1).length c449_0)) ∧ (Kd.V (Kd.int .u8) 5 w' w.heap.size (fun k_ => (P0_ k_ ∨ w.heap.size ≤ k_) ∧ some k_ ≠ (u4 : Value).ownBlock ∧ k_ ≠ gb448 ∧ k_ ≠ s_.2) (.slice A449_0 (rd_L1 l0 x5_1).length c449_0) (rd_L1 l0 x5_1)) ∧ (Kd.V (Kd.slice 5 (Kd.int .u8)) 25 w' w.heap.size (fun k_ => (P0_ k_ ∨ w.heap.size ≤ k_) ∧ some k_ ≠ (u4 : Value).ownBlock ∧ k_ ≠ gb448 ∧ k_ ≠ s_.2) s_.1 t450) ∧ (Kd.V (Kd.slice 5 (Kd.int .u8)) 25 w' w.heap.size (fun k_ => (P0_ k_ ∨ w.heap.size ≤ k_) ∧ some k_ ≠ (u4 : Value).ownBlock ∧ k_ ≠ gb448 ∧ k_ ≠ s_.2) (.slice (some ad449) l0.length c0) l0) ∧ (Kd.N (Kd.slice 5 (Kd.int .u8)) 25 w' w.heap.size (fun k_ => (P0_ k_ ∨ w.heap.size ≤ k_) ∧ k_ ≠ gb448 ∧ k_ ≠ s_.2) u4 x4_1) ∧ (Kd.V (Kd.slice 5 (Kd.int .u8)) 25 w' w.heap.size (fun k_ => (P0_ k_ ∨ w.heap.size ≤ k_) ∧ some k_ ≠ (u4 : Value).ownBlock ∧ k_ ≠ gb448 ∧ k_ ≠ s_.2) (.slice Ao25 x449000_1.length co25) x449000_1) ∧ (w'.heap[gb448]? = some (.cells #[.slice Ao25 x449000_1.length co25, .int .i64 x449001_1] 24 (0, 0))) ∧ (w'.heap[s_.2]? = some (.cells #[.slice none 0 0, .int .i64 0] 24 (0, 0))) ∧ (w.heap.size ≤ s_.2) ∧ (w.heap.size ≤ s_.2) ∧ (gb448 ≠ s_.2) ∧ (s_.2 ≠ gb448) ∧ (Below w.heap.size w w')) ?_ ?_
       rotate_left
       ·intro hCont
        refine two_ (i := 5) (j := 9) (Ni := some 33) (Nj := some 6) #[τ, τ, τ, τ, τ, τ, φ, φ, φ, φ, φ, φ] #[τ, τ, τ, τ, τ, φ, φ, φ, φ, τ, φ, φ] rfl rfl rfl rfl (two_of HT_.out (by kernel_rfl)) (by decide) (by decide) (fun K hK => ?_) (fun K hK => ?_)
        ·skip
         refine goes_ Try.func8 (by kernel_rfl) rfl #[.agg #[.slice Ao25 x449000_1.length co25, .int .i64 x449001_1], .slice A449_0 (rd_L1 l0 x5_1).length c449_0] (by rfl) rfl rfl (by (try simp only [List.map_toArray, List.map_cons, List.map_nil]); first | done | rfl | (simp only [List.length_drop, List.length_take]; rfl)) ?_
         with_reducible refine (link_Push.calls k1 (fun k_ => ((P0_ k_ ∨ w.heap.size ≤ k_) ∧ (some k_ ≠ (u4 : Value).ownBlock ∧ k_ ≠ gb448))) _ _ x449000_1 x449001_1 (fun k_ => ((P0_ k_ ∨ w.heap.size ≤ k_) ∧ (some k_ ≠ (u4 : Value).ownBlock ∧ k_ ≠ gb448))) _ _ (rd_L1 l0 x5_1) t450 t453 false _ ?side1 ?side2 A9.out).mono ?_
         (case side1 => exact HO_449000.out)
         (case side2 => exact HL449_0.out)
         rintro e w27 ⟨v451, rfl, ho0, hb⟩
         have HS2_ := (hb.cell (World.block_lt_of_cell? _ _ (hHeld.2.2))).trans (hHeld.2.2)
         refine ⟨_, rfl, ?_⟩
         have n0_ := a0 (Kd.V_below (by (with_reducible repeat (first | apply vA | apply vN | apply vD)); exact HO_0.out) hb)
         have n1_ := a0 (Kd.N_below (by (with_reducible repeat (first | apply Kd.N_alloc | apply Kd.N_drewN | apply Kd.N_drew)); exact HO_4.out) hb)
         have n2_ := a0 (Kd.V_below (by (with_reducible repeat (first | apply vA | apply vN | apply vD)); exact HO_449000.out) hb)
         have n3_ := a0 (Kd.V_below (by (with_reducible repeat (first | apply vA | apply vN | apply vD)); exact HL449_0.out) hb)
         have n4_ := a0 (Kd.V_lower (Kd.V_mono (ok' := fun k_ => (P0_ k_ ∨ w.heap.size ≤ k_) ∧ some k_ ≠ (u4 : Value).ownBlock ∧ k_ ≠ gb448) ho0 (fun k_ hk_ => ⟨Or.elim hk_ (fun hs_ => Or.elim hs_ (fun hs_ => hs_.1) (fun hs_ => hs_.1)) (fun hn_ => (.inr (Nat.le_trans (below_size (by repeat (first | (with_reducible first | exact HB.out | apply below_alloc | apply pw_below_drewN | apply below_drew1 | refine below_set ?_ GE448.out) | exact HB.out))) hn_))), Or.elim hk_ (fun hs_ => Or.elim hs_ (fun hs_ => hs_.2.1) (fun hs_ => hs_.2.1)) (fun hn_ => (Kd.fresh' (Kd.N_lt (by (with_reducible repeat (first | apply Kd.N_alloc | apply Kd.N_drewN | apply Kd.N_drew)); exact HO_4.out)) k_ hn_)), Or.elim hk_ (fun hs_ => Or.elim hs_ (fun hs_ => hs_.2.2) (fun hs_ => hs_.2.2)) (fun hn_ => (Kd.freshB (g := gb448) (o := .cells #[.slice Ao25 x449000_1.length co25, .int .i64 x449001_1] 24 (0, 0)) (by (with_reducible repeat (first | apply bN | apply bD | apply bA)); exact BK448.out) k_ hn_))⟩)) (below_size (by repeat (first | (with_reducible first | exact HB.out | apply below_alloc | apply pw_below_drewN | apply below_drew1 | refine below_set ?_ GE448.out) | exact HB.out))))
         have n5_ := a0 (blk_below (g := gb448) (o := .cells #[.slice Ao25 x449000_1.length co25, .int .i64 x449001_1] 24 (0, 0)) (by (with_reducible repeat (first | apply bN | apply bD | apply bA)); exact BK448.out) hb)
         have n7_ := a0 (below_step (by repeat (first | (with_reducible first | exact HB.out | apply below_alloc | apply pw_below_drewN | apply below_drew1 | refine below_set ?_ GE448.out) | exact HB.out)) hb)
         clear HO_0
         clear HO_4
         clear HO_449000
         clear HL449_0
         clear BK448
         clear HB
         have HO_0 := n0_
         have HO_4 := n1_
         have HO_449000 := n2_
         have HL449_0 := n3_
         have HO452 := n4_
         have BK448 := n5_
         have HB := n7_
         clear n0_ n1_ n2_ n3_ n4_ n5_ n7_
         (try clear hb)
         (try clear hb2)
         (try clear hk)
         (try clear hi)
         (try clear ho0)
         refine hK.out _ _ ⟨(blk_cell BK448.out 0).trans rfl, (blk_cell BK448.out 1).trans rfl, HS2_⟩ (fun hHeld => ?_)
         clear hK K
         refine norm_ (a' := ?_) ?_ ?_
         rotate_left
         ·show Act.put _ (some 33) _ = _
          simp only [Act.put, sT, sZ, sS, i64_w, i32_w]
          rfl
         refine pure_ (i := 6) (N := some 27) (v := ?_) (a' := ?_) #[τ, τ, τ, τ, τ, τ, τ, φ, φ, φ, φ, φ] rfl rfl (any_of HT_.out (by kernel_rfl)) (fun _ _ _ h => h) (Or.inl ⟨by rfl, ?_⟩) ?_ ?_
         rotate_left
         ·intro w'
          go_simp
          with_reducible rfl
         rotate_left
         ·simp only [Act.put, sT, sZ, sS, i64_w, i32_w]
          rfl
         refine pure_ (i := 7) (N := some 34) (v := ?_) (a' := ?_) #[τ, τ, τ, τ, τ, τ, τ, τ, φ, φ, φ, φ] rfl rfl (any_of HT_.out (by kernel_rfl)) (fun _ _ _ h => h) (Or.inl ⟨by rfl, ?_⟩) ?_ ?_
         rotate_left
         ·intro w'
          go_simp
          with_reducible rfl
         rotate_left
         ·simp only [Act.put, sT, sZ, sS, i64_w, i32_w]
          rfl
         refine pure_ (i := 8) (N := some 35) (v := ?_) (a' := ?_) #[τ, τ, τ, τ, τ, τ, τ, τ, τ, φ, φ, φ] rfl rfl (any_of HT_.out (by kernel_rfl)) (fun _ _ _ h => h) (Or.inl ⟨by rfl, ?_⟩) ?_ ?_
         rotate_left
         ·intro w'
          go_simp
          with_reducible rfl
         rotate_left
         ·simp only [Act.put, sT, sZ, sS, i64_w, i32_w]
          rfl
         refine one_ (i := 9) (N := some 6) #[τ, τ, τ, τ, τ, τ, τ, τ, τ, τ, φ, φ] rfl rfl (one_of HT_.out (by kernel_rfl)) (by decide) (fun K hK => ?_)
         refine box_step ?hg (N := 6) ?hd (cs := #[.slice none 0 0, .int .i64 0]) (t := 24) ?hr ?_; (case hd => rfl); (case hg => rfl); (case hr => first | (go_simp; done) | (go_simp; rfl))
         intro gb455 hg w28 hbox hb
         have HS2_ := (hb.cell (World.block_lt_of_cell? _ _ (hHeld.2.2))).trans (hHeld.2.2)
         have n0_ := a0 (Kd.V_below (Kd.V_elderB (by (with_reducible repeat (first | apply vA | apply vN | apply vD)); exact HO_0.out) gb455 (Nat.le_of_eq hg.symm)) hb)
         have n1_ := a0 (Kd.N_below (Kd.N_elderB (by (with_reducible repeat (first | apply Kd.N_alloc | apply Kd.N_drewN | apply Kd.N_drew)); exact HO_4.out) gb455 (Nat.le_of_eq hg.symm)) hb)
         have n2_ := a0 (Kd.V_below (Kd.V_elderB (by (with_reducible repeat (first | apply vA | apply vN | apply vD)); exact HO_449000.out) gb455 (Nat.le_of_eq hg.symm)) hb)
         have n3_ := a0 (Kd.V_below (Kd.V_elderB (by (with_reducible repeat (first | apply vA | apply vN | apply vD)); exact HL449_0.out) gb455 (Nat.le_of_eq hg.symm)) hb)
         have n4_ := a0 (Kd.V_below (Kd.V_elderB (by (with_reducible repeat (first | apply vA | apply vN | apply vD)); exact HO452.out) gb455 (Nat.le_of_eq hg.symm)) hb)
         have n5_ := a0 (blk_below (g := gb448) (o := .cells #[.slice Ao25 x449000_1.length co25, .int .i64 x449001_1] 24 (0, 0)) (by (with_reducible repeat (first | apply bN | apply bD | apply bA)); exact BK448.out) hb)
         have n7_ := a0 (below_step (by repeat (first | (with_reducible first | exact HB.out | apply below_alloc | apply pw_below_drewN | apply below_drew1 | refine below_set ?_ GE448.out) | exact HB.out)) hb)
         have n8_ := a0 (hbox)
         have n9_ := a0 ((by rw [hg]; exact (below_size (by repeat (first | (with_reducible first | exact HB.out | apply below_alloc | apply pw_below_drewN | apply below_drew1 | refine below_set ?_ GE448.out) | exact HB.out))) : w.heap.size ≤ gb455))
         have n10_ := a0 ((by rw [hg]; exact (below_size (by repeat (first | (with_reducible first | exact HB.out | apply below_alloc | apply pw_below_drewN | apply below_drew1 | refine below_set ?_ GE448.out) | exact HB.out))) : w.heap.size ≤ gb455))
         have n11_ := a0 ((by rw [hg]; exact Nat.ne_of_lt (blk_lt (g := gb448) (o := .cells #[.slice Ao25 x449000_1.length co25, .int .i64 x449001_1] 24 (0, 0)) (by (with_reducible repeat (first | apply bN | apply bD | apply bA)); exact BK448.out)) : gb448 ≠ gb455))
         have n12_ := a0 ((by rw [hg]; exact Nat.ne_of_gt (blk_lt (g := gb448) (o := .cells #[.slice Ao25 x449000_1.length co25, .int .i64 x449001_1] 24 (0, 0)) (by (with_reducible repeat (first | apply bN | apply bD | apply bA)); exact BK448.out)) : gb455 ≠ gb448))
         clear HO_0
         clear HO_4
         clear HO_449000
         clear HL449_0
         clear HO452
         clear BK448
         clear HB
         have HO_0 := n0_
         have HO_4 := n1_
         have HO_449000 := n2_
         have HL449_0 := n3_
         have HO452 := n4_
         have BK448 := n5_
         have HB := n7_
         have BK455 := n8_
         have GW455 := n9_
         have GE455 := n10_
         have NB448_455 := n11_
         have NB455_448 := n12_
         clear n0_ n1_ n2_ n3_ n4_ n5_ n7_ n8_ n9_ n10_ n11_ n12_
         clear hb hbox hg
         refine hK.out _ _ ⟨(blk_cell BK448.out 0).trans rfl, (blk_cell BK448.out 1).trans rfl, HS2_⟩ (fun hHeld => ?_)
         clear hK K
         refine norm_ (a' := ?_) ?_ ?_
         rotate_left
         ·show Act.put _ (some 6) _ = _
          simp only [Act.put, sT, sZ, sS, i64_w, i32_w]
          rfl
         exact norm_ (by simp only [putAll, Act.put, sT, sZ, sS]) (hCont (v451, gb455) _ ⟨hHeld, (by (with_reducible repeat (first | apply vA | apply vN | apply vD)); exact Kd.V_mono HL449_0.out (fun _ hk => ⟨hk.1.1, ⟨hk.1.2.1, ⟨hk.1.2.2, hk.2⟩⟩⟩)), (by (with_reducible repeat (first | apply vA | apply vN | apply vD)); exact Kd.V_mono HO452.out (fun _ hk => ⟨hk.1.1, ⟨hk.1.2.1, ⟨hk.1.2.2, hk.2⟩⟩⟩)), (by (with_reducible repeat (first | apply vA | apply vN | apply vD)); exact Kd.V_mono HO_0.out (fun _ hk => ⟨hk.1.1, ⟨hk.1.2.1, ⟨hk.1.2.2, hk.2⟩⟩⟩)), (by (with_reducible repeat (first | apply Kd.N_alloc | apply Kd.N_drewN | apply Kd.N_drew)); exact Kd.N_mono HO_4.out (fun _ hk => ⟨hk.1.1, ⟨hk.1.2, hk.2⟩⟩)), (by (with_reducible repeat (first | apply vA | apply vN | apply vD)); exact Kd.V_mono HO_449000.out (fun _ hk => ⟨hk.1.1, ⟨hk.1.2.1, ⟨hk.1.2.2, hk.2⟩⟩⟩)), (by (with_reducible repeat (first | apply bN | apply bD | apply bA)); exact BK448.out), (by (with_reducible repeat (first | apply bN | apply bD | apply bA)); exact BK455.out), GW455.out, GE455.out, NB448_455.out, NB455_448.out, (by repeat (first | (with_reducible first | exact HB.out | apply below_alloc | apply pw_below_drewN | apply below_drew1 | refine below_set ?_ GE448.out | refine below_set ?_ GE455.out) | exact HB.out))⟩)
        ·skip
         refine box_step ?hg (N := 6) ?hd (cs := #[.slice none 0 0, .int .i64 0]) (t := 24) ?hr ?_; (case hd => rfl); (case hg => rfl); (case hr => first | (go_simp; done) | (go_simp; rfl))
         intro gb455 hg w27 hbox hb
         have HS2_ := (hb.cell (World.block_lt_of_cell? _ _ (hHeld.2.2))).trans (hHeld.2.2)
         have n0_ := a0 (Kd.V_below (Kd.V_elderB (by (with_reducible repeat (first | apply vA | apply vN | apply vD)); exact HO_0.out) gb455 (Nat.le_of_eq hg.symm)) hb)
         have n1_ := a0 (Kd.N_below (Kd.N_elderB (by (with_reducible repeat (first | apply Kd.N_alloc | apply Kd.N_drewN | apply Kd.N_drew)); exact HO_4.out) gb455 (Nat.le_of_eq hg.symm)) hb)
         have n2_ := a0 (Kd.V_below (Kd.V_elderB (by (with_reducible repeat (first | apply vA | apply vN | apply vD)); exact HO_449000.out) gb455 (Nat.le_of_eq hg.symm)) hb)
         have n3_ := a0 (Kd.V_below (Kd.V_elderB (by (with_reducible repeat (first | apply vA | apply vN | apply vD)); exact HL449_0.out) gb455 (Nat.le_of_eq hg.symm)) hb)
         have n4_ := a0 (blk_below (g := gb448) (o := .cells #[.slice Ao25 x449000_1.length co25, .int .i64 x449001_1] 24 (0, 0)) (by (with_reducible repeat (first | apply bN | apply bD | apply bA)); exact BK448.out) hb)
         have n6_ := a0 (below_step (by repeat (first | (with_reducible first | exact HB.out | apply below_alloc | apply pw_below_drewN | apply below_drew1 | refine below_set ?_ GE448.out) | exact HB.out)) hb)
         have n7_ := a0 (hbox)
         have n8_ := a0 ((by rw [hg]; exact (below_size (by repeat (first | (with_reducible first | exact HB.out | apply below_alloc | apply pw_below_drewN | apply below_drew1 | refine below_set ?_ GE448.out) | exact HB.out))) : w.heap.size ≤ gb455))
         have n9_ := a0 ((by rw [hg]; exact (below_size (by repeat (first | (with_reducible first | exact HB.out | apply below_alloc | apply pw_below_drewN | apply below_drew1 | refine below_set ?_ GE448.out) | exact HB.out))) : w.heap.size ≤ gb455))
         have n10_ := a0 ((by rw [hg]; exact Nat.ne_of_lt (blk_lt (g := gb448) (o := .cells #[.slice Ao25 x449000_1.length co25, .int .i64 x449001_1] 24 (0, 0)) (by (with_reducible repeat (first | apply bN | apply bD | apply bA)); exact BK448.out)) : gb448 ≠ gb455))
         have n11_ := a0 ((by rw [hg]; exact Nat.ne_of_gt (blk_lt (g := gb448) (o := .cells #[.slice Ao25 x449000_1.length co25, .int .i64 x449001_1] 24 (0, 0)) (by (with_reducible repeat (first | apply bN | apply bD | apply bA)); exact BK448.out)) : gb455 ≠ gb448))
         clear HO_0
         clear HO_4
         clear HO_449000
         clear HL449_0
         clear BK448
         clear HB
         have HO_0 := n0_
         have HO_4 := n1_
         have HO_449000 := n2_
         have HL449_0 := n3_
         have BK448 := n4_
         have HB := n6_
         have BK455 := n7_
         have GW455 := n8_
         have GE455 := n9_
         have NB448_455 := n10_
         have NB455_448 := n11_
         clear n0_ n1_ n2_ n3_ n4_ n6_ n7_ n8_ n9_ n10_ n11_
         clear hb hbox hg
         refine hK.out _ _ ⟨(blk_cell BK448.out 0).trans rfl, (blk_cell BK448.out 1).trans rfl, HS2_⟩ (fun hHeld => ?_)
         clear hK K
         refine norm_ (a' := ?_) ?_ ?_
         rotate_left
         ·show Act.put _ (some 6) _ = _
          simp only [Act.put, sT, sZ, sS, i64_w, i32_w]
          rfl
         refine one_ (i := 5) (N := some 33) #[τ, τ, τ, τ, τ, τ, φ, φ, φ, τ, φ, φ] rfl rfl (one_of HT_.out (by kernel_rfl)) (by decide) (fun K hK => ?_)
         refine goes_ Try.func8 (by kernel_rfl) rfl #[.agg #[.slice Ao25 x449000_1.length co25, .int .i64 x449001_1], .slice A449_0 (rd_L1 l0 x5_1).length c449_0] (by rfl) rfl rfl (by (try simp only [List.map_toArray, List.map_cons, List.map_nil]); first | done | rfl | (simp only [List.length_drop, List.length_take]; rfl)) ?_
         with_reducible refine (link_Push.calls k1 (fun k_ => (((P0_ k_ ∨ w.heap.size ≤ k_) ∧ (some k_ ≠ (u4 : Value).ownBlock ∧ k_ ≠ gb448)) ∧ k_ ≠ gb455)) _ _ x449000_1 x449001_1 (fun k_ => (((P0_ k_ ∨ w.heap.size ≤ k_) ∧ (some k_ ≠ (u4 : Value).ownBlock ∧ k_ ≠ gb448)) ∧ k_ ≠ gb455)) _ _ (rd_L1 l0 x5_1) t450 t453 false _ ?side1 ?side2 A9.out).mono ?_
         (case side1 => exact HO_449000.out)
         (case side2 => exact HL449_0.out)
         rintro e w28 ⟨v451, rfl, ho0, hb⟩
         have HS2_ := (hb.cell (World.block_lt_of_cell? _ _ (hHeld.2.2))).trans (hHeld.2.2)
         refine ⟨_, rfl, ?_⟩
         have n0_ := a0 (Kd.V_below (by (with_reducible repeat (first | apply vA | apply vN | apply vD)); exact HO_0.out) hb)
         have n1_ := a0 (Kd.N_below (by (with_reducible repeat (first | apply Kd.N_alloc | apply Kd.N_drewN | apply Kd.N_drew)); exact HO_4.out) hb)
         have n2_ := a0 (Kd.V_below (by (with_reducible repeat (first | apply vA | apply vN | apply vD)); exact HO_449000.out) hb)
         have n3_ := a0 (Kd.V_below (by (with_reducible repeat (first | apply vA | apply vN | apply vD)); exact HL449_0.out) hb)
         have n4_ := a0 (Kd.V_lower (Kd.V_mono (ok' := fun k_ => (P0_ k_ ∨ w.heap.size ≤ k_) ∧ some k_ ≠ (u4 : Value).ownBlock ∧ k_ ≠ gb448 ∧ k_ ≠ gb455) ho0 (fun k_ hk_ => ⟨Or.elim hk_ (fun hs_ => Or.elim hs_ (fun hs_ => hs_.1.1) (fun hs_ => hs_.1.1)) (fun hn_ => (.inr (Nat.le_trans (below_size (by repeat (first | (with_reducible first | exact HB.out | apply below_alloc | apply pw_below_drewN | apply below_drew1 | refine below_set ?_ GE448.out | refine below_set ?_ GE455.out) | exact HB.out))) hn_))), Or.elim hk_ (fun hs_ => Or.elim hs_ (fun hs_ => hs_.1.2.1) (fun hs_ => hs_.1.2.1)) (fun hn_ => (Kd.fresh' (Kd.N_lt (by (with_reducible repeat (first | apply Kd.N_alloc | apply Kd.N_drewN | apply Kd.N_drew)); exact HO_4.out)) k_ hn_)), Or.elim hk_ (fun hs_ => Or.elim hs_ (fun hs_ => hs_.1.2.2) (fun hs_ => hs_.1.2.2)) (fun hn_ => (Kd.freshB (g := gb448) (o := .cells #[.slice Ao25 x449000_1.length co25, .int .i64 x449001_1] 24 (0, 0)) (by (with_reducible repeat (first | apply bN | apply bD | apply bA)); exact BK448.out) k_ hn_)), Or.elim hk_ (fun hs_ => Or.elim hs_ (fun hs_ => hs_.2) (fun hs_ => hs_.2)) (fun hn_ => (Kd.freshB (g := gb455) (o := .cells #[.slice none 0 0, .int .i64 0] 24 (0, 0)) (by (with_reducible repeat (first | apply bN | apply bD | apply bA)); exact BK455.out) k_ hn_))⟩)) (below_size (by repeat (first | (with_reducible first | exact HB.out | apply below_alloc | apply pw_below_drewN | apply below_drew1 | refine below_set ?_ GE448.out | refine below_set ?_ GE455.out) | exact HB.out))))
         have n5_ := a0 (blk_below (g := gb448) (o := .cells #[.slice Ao25 x449000_1.length co25, .int .i64 x449001_1] 24 (0, 0)) (by (with_reducible repeat (first | apply bN | apply bD | apply bA)); exact BK448.out) hb)
         have n7_ := a0 (blk_below (g := gb455) (o := .cells #[.slice none 0 0, .int .i64 0] 24 (0, 0)) (by (with_reducible repeat (first | apply bN | apply bD | apply bA)); exact BK455.out) hb)
         have n8_ := a0 (below_step (by repeat (first | (with_reducible first | exact HB.out | apply below_alloc | apply pw_below_drewN | apply below_drew1 | refine below_set ?_ GE448.out | refine below_set ?_ GE455.out) | exact HB.out)) hb)
         clear HO_0
         clear HO_4
         clear HO_449000
         clear HL449_0
         clear BK448
         clear BK455
         clear HB
         have HO_0 := n0_
         have HO_4 := n1_
         have HO_449000 := n2_
         have HL449_0 := n3_
         have HO452 := n4_
         have BK448 := n5_
         have BK455 := n7_
         have HB := n8_
         clear n0_ n1_ n2_ n3_ n4_ n5_ n7_ n8_
         (try clear hb)
         (try clear hb2)
         (try clear hk)
         (try clear hi)
         (try clear ho0)
         refine hK.out _ _ ⟨(blk_cell BK448.out 0).trans rfl, (blk_cell BK448.out 1).trans rfl, HS2_⟩ (fun hHeld => ?_)
         clear hK K
         refine norm_ (a' := ?_) ?_ ?_
         rotate_left
         ·show Act.put _ (some 33) _ = _
          simp only [Act.put, sT, sZ, sS, i64_w, i32_w]
          rfl
         refine pure_ (i := 6) (N := some 27) (v := ?_) (a' := ?_) #[τ, τ, τ, τ, τ, τ, τ, φ, φ, τ, φ, φ] rfl rfl (any_of HT_.out (by kernel_rfl)) (fun _ _ _ h => h) (Or.inl ⟨by rfl, ?_⟩) ?_ ?_
         rotate_left
         ·intro w'
          go_simp
          with_reducible rfl
         rotate_left
         ·simp only [Act.put, sT, sZ, sS, i64_w, i32_w]
          rfl
         refine pure_ (i := 7) (N := some 34) (v := ?_) (a' := ?_) #[τ, τ, τ, τ, τ, τ, τ, τ, φ, τ, φ, φ] rfl rfl (any_of HT_.out (by kernel_rfl)) (fun _ _ _ h => h) (Or.inl ⟨by rfl, ?_⟩) ?_ ?_
         rotate_left
         ·intro w'
          go_simp
          with_reducible rfl
         rotate_left
         ·simp only [Act.put, sT, sZ, sS, i64_w, i32_w]
          rfl
         refine pure_ (i := 8) (N := some 35) (v := ?_) (a' := ?_) #[τ, τ, τ, τ, τ, τ, τ, τ, τ, τ, φ, φ] rfl rfl (any_of HT_.out (by kernel_rfl)) (fun _ _ _ h => h) (Or.inl ⟨by rfl, ?_⟩) ?_ ?_
         rotate_left
         ·intro w'
          go_simp
          with_reducible rfl
         rotate_left
         ·simp only [Act.put, sT, sZ, sS, i64_w, i32_w]
          rfl
         exact norm_ (by simp only [putAll, Act.put, sT, sZ, sS]) (hCont (v451, gb455) _ ⟨hHeld, (by (with_reducible repeat (first | apply vA | apply vN | apply vD)); exact Kd.V_mono HL449_0.out (fun _ hk => ⟨hk.1.1, ⟨hk.1.2.1, ⟨hk.1.2.2, hk.2⟩⟩⟩)), (by (with_reducible repeat (first | apply vA | apply vN | apply vD)); exact HO452.out), (by (with_reducible repeat (first | apply vA | apply vN | apply vD)); exact Kd.V_mono HO_0.out (fun _ hk => ⟨hk.1.1, ⟨hk.1.2.1, ⟨hk.1.2.2, hk.2⟩⟩⟩)), (by (with_reducible repeat (first | apply Kd.N_alloc | apply Kd.N_drewN | apply Kd.N_drew)); exact Kd.N_mono HO_4.out (fun _ hk => ⟨hk.1.1, ⟨hk.1.2, hk.2⟩⟩)), (by (with_reducible repeat (first | apply vA | apply vN | apply vD)); exact Kd.V_mono HO_449000.out (fun _ hk => ⟨hk.1.1, ⟨hk.1.2.1, ⟨hk.1.2.2, hk.2⟩⟩⟩)), (by (with_reducible repeat (first | apply bN | apply bD | apply bA)); exact BK448.out), (by (with_reducible repeat (first | apply bN | apply bD | apply bA)); exact BK455.out), GW455.out, GE455.out, NB448_455.out, NB455_448.out, (by repeat (first | (with_reducible first | exact HB.out | apply below_alloc | apply pw_below_drewN | apply below_drew1 | refine below_set ?_ GE448.out | refine below_set ?_ GE455.out) | exact HB.out))⟩)
       rintro ⟨v451, gb455⟩ w29 ⟨hS_, h0_, h1_, h2_, h3_, h4_, h5_, h6_, h7_, h8_, h9_, h10_, h11_⟩
       have n0_ : Aside0 (Kd.V (Kd.int .u8) 5 w29 w.heap.size (fun k_ => (P0_ k_ ∨ w.heap.size ≤ k_) ∧ some k_ ≠ (u4 : Value).ownBlock ∧ k_ ≠ gb448 ∧ k_ ≠ gb455) (.slice A449_0 (rd_L1 l0 x5_1).length c449_0) (rd_L1 l0 x5_1)) := ⟨h0_⟩
       have n1_ : Aside0 (Kd.V (Kd.slice 5 (Kd.int .u8)) 25 w29 w.heap.size (fun k_ => (P0_ k_ ∨ w.heap.size ≤ k_) ∧ some k_ ≠ (u4 : Value).ownBlock ∧ k_ ≠ gb448 ∧ k_ ≠ gb455) v451 t450) := ⟨h1_⟩
       have n2_ : Aside0 (Kd.V (Kd.slice 5 (Kd.int .u8)) 25 w29 w.heap.size (fun k_ => (P0_ k_ ∨ w.heap.size ≤ k_) ∧ some k_ ≠ (u4 : Value).ownBlock ∧ k_ ≠ gb448 ∧ k_ ≠ gb455) (.slice (some ad449) l0.length c0) l0) := ⟨h2_⟩
       have n3_ : Aside0 (Kd.N (Kd.slice 5 (Kd.int .u8)) 25 w29 w.heap.size (fun k_ => (P0_ k_ ∨ w.heap.size ≤ k_) ∧ k_ ≠ gb448 ∧ k_ ≠ gb455) u4 x4_1) := ⟨h3_⟩
       have n4_ : Aside0 (Kd.V (Kd.slice 5 (Kd.int .u8)) 25 w29 w.heap.size (fun k_ => (P0_ k_ ∨ w.heap.size ≤ k_) ∧ some k_ ≠ (u4 : Value).ownBlock ∧ k_ ≠ gb448 ∧ k_ ≠ gb455) (.slice Ao25 x449000_1.length co25) x449000_1) := ⟨h4_⟩
       have n5_ : Aside0 (w29.heap[gb448]? = some (.cells #[.slice Ao25 x449000_1.length co25, .int .i64 x449001_1] 24 (0, 0))) := ⟨h5_⟩
       have n6_ : Aside0 (w29.heap[gb455]? = some (.cells #[.slice none 0 0, .int .i64 0] 24 (0, 0))) := ⟨h6_⟩
       have n7_ : Aside0 (w.heap.size ≤ gb455) := ⟨h7_⟩
       have n8_ : Aside0 (w.heap.size ≤ gb455) := ⟨h8_⟩
       have n9_ : Aside0 (gb448 ≠ gb455) := ⟨h9_⟩
       have n10_ : Aside0 (gb455 ≠ gb448) := ⟨h10_⟩
       have n11_ : Aside0 (Below w.heap.size w w29) := ⟨h11_⟩
       clear HO_0
       clear HO_4
       clear HO_449000
       clear BK448
       clear HB
       clear h0_ h1_ h2_ h3_ h4_ h5_ h6_ h7_ h8_ h9_ h10_ h11_
       have HL449_0 := n0_
       have HO452 := n1_
       have HO_0 := n2_
       have HO_4 := n3_
       have HO_449000 := n4_
       have BK448 := n5_
       have BK455 := n6_
       have GW455 := n7_
       have GE455 := n8_
       have NB448_455 := n9_
       have NB455_448 := n10_
       have HB := n11_
       clear n0_ n1_ n2_ n3_ n4_ n5_ n6_ n7_ n8_ n9_ n10_ n11_
       have hHeld : w29.cell? ⟨gb448, 0, none⟩ = some (.slice Ao25 x449000_1.length co25) ∧ w29.cell? ⟨gb448, 1, none⟩ = some (.int .i64 x449001_1) ∧ w29.cell? (ad449.add (x5_1).toNat) = some (.slice A449_0 (rd_L1 l0 x5_1).length c449_0) := hS_
       obtain ⟨Ao30, co30, eo30⟩ := Kd.V_slice HO452.out
       (first | subst eo30 | (injection eo30 with f1_ f2_ f3_; have f4_ := f1_.symm; have f5_ := f3_.symm; clear f1_ f2_ f3_; subst f4_; subst f5_))
       refine norm_ (a' := ?_) ?_ ?_
       rotate_left
       ·simp only [putAll, Act.put, sT, sZ, sS]
        rfl
       refine one_ (i := 10) (N := none) #[τ, τ, τ, τ, τ, τ, τ, τ, τ, τ, τ, φ] rfl rfl (one_of HT_.out (by kernel_rfl)) (by decide) (fun K hK => ?_)
       have hs31 : w29.cell? ⟨gb455, 0, none⟩ = some (.slice none 0 0) := (blk_cell BK455.out 0).trans rfl
       have hfs31 := blk_frozen BK455.out 0
       have hns31_0 := NB448_455.out
       have hms31_0 := NB455_448.out
       have hs32 : w29.cell? ⟨gb455, 1, none⟩ = some (.int .i64 0) := (blk_cell BK455.out 1).trans rfl
       have hfs32 := blk_frozen BK455.out 1
       have hns32_0 := NB448_455.out
       have hms32_0 := NB455_448.out
       refine skip_ (w1 := ?_) (by rfl) rfl ?_ ?_
       rotate_left
       ·go_simp
        rfl
       refine hK.out _ _ ⟨((cell_far (p := ⟨gb455, _, none⟩) NB448_455.out _).trans (((cell_far (p := ⟨gb455, _, none⟩) NB448_455.out _).trans (hHeld.1)))), ((cell_far (p := ⟨gb455, _, none⟩) NB448_455.out _).trans (((cell_far (p := ⟨gb455, _, none⟩) NB448_455.out _).trans (hHeld.2.1)))), ((cell_far (p := ⟨gb455, _, none⟩) (by first | exact Kd.own_blk (Kd.V_away HO_0.out (fun _ hk => hk.2.2.2) (by have hqa := of_decide_eq_true c7b0; have hqb := of_decide_eq_true c8b0; omega)) | (rw [add_block]; exact Kd.own_blk (Kd.V_away HO_0.out (fun _ hk => hk.2.2.2) (by have hqa := of_decide_eq_true c7b0; have hqb := of_decide_eq_true c8b0; omega))) | (show (Addr.add _ _).block ≠ _; rw [add_block]; exact Kd.own_blk (Kd.V_away HO_0.out (fun _ hk => hk.2.2.2) (by have hqa := of_decide_eq_true c7b0; have hqb := of_decide_eq_true c8b0; omega))) | (dsimp only; exact Kd.own_blk (Kd.V_away HO_0.out (fun _ hk => hk.2.2.2) (by have hqa := of_decide_eq_true c7b0; have hqb := of_decide_eq_true c8b0; omega)))) _).trans (((cell_far (p := ⟨gb455, _, none⟩) (by first | exact Kd.own_blk (Kd.V_away HO_0.out (fun _ hk => hk.2.2.2) (by have hqa := of_decide_eq_true c7b0; have hqb := of_decide_eq_true c8b0; omega)) | (rw [add_block]; exact Kd.own_blk (Kd.V_away HO_0.out (fun _ hk => hk.2.2.2) (by have hqa := of_decide_eq_true c7b0; have hqb := of_decide_eq_true c8b0; omega))) | (show (Addr.add _ _).block ≠ _; rw [add_block]; exact Kd.own_blk (Kd.V_away HO_0.out (fun _ hk => hk.2.2.2) (by have hqa := of_decide_eq_true c7b0; have hqb := of_decide_eq_true c8b0; omega))) | (dsimp only; exact Kd.own_blk (Kd.V_away HO_0.out (fun _ hk => hk.2.2.2) (by have hqa := of_decide_eq_true c7b0; have hqb := of_decide_eq_true c8b0; omega)))) _).trans (hHeld.2.2))))⟩ (fun hHeld => ?_)
       clear hK K
       refine pure_ (i := 11) (N := some 7) (v := ?_) (a' := ?_) #[τ, τ, τ, τ, τ, τ, τ, τ, τ, τ, τ, τ] rfl rfl (any_of HT_.out (by kernel_rfl)) (fun _ _ _ h => h) (Or.inl ⟨by rfl, ?_⟩) ?_ ?_
       rotate_left
       ·intro w'
        go_simp
        with_reducible rfl
       rotate_left
       ·simp only [Act.put, sT, sZ, sS, i64_w, i32_w]
        rfl
       refine done_ (done_of HT_.out (by kernel_rfl)) ?_
       have hnb33 := NB455_448.out
       have hnc33 := NB448_455.out
       have hcz34_0 : w29.cell? ⟨gb455, 0, none⟩ = some (.slice none 0 0) := (blk_cell BK455.out 0).trans rfl
       have hcz34_1 : w29.cell? ⟨gb455, 1, none⟩ = some (.int .i64 0) := (blk_cell BK455.out 1).trans rfl
       have hfz34_0 := blk_frozen BK455.out 0
       have hfz34_1 := blk_frozen BK455.out 1
       have hcz35_0 : w29.cell? ⟨gb448, 0, none⟩ = some (.slice Ao25 x449000_1.length co25) := (blk_cell BK448.out 0).trans rfl
       have hcz35_1 : w29.cell? ⟨gb448, 1, none⟩ = some (.int .i64 x449001_1) := (blk_cell BK448.out 1).trans rfl
       have hfz35_0 := blk_frozen BK448.out 0
       have hfz35_1 := blk_frozen BK448.out 1
       try go_wp2
       go_roundg k1
       case measure => have := HK1.out; omega
       case rel => exact ⟨(x4_1), (wrap64 (x5_1 + 1)), (t450), (t453), (.slice Ao30 t450.length co30), (by first | rfl | (simp; done) | (simp [*]; done)), H', ⟨by have := HK1.out; omega⟩, ⟨by (with_reducible repeat (first | apply vA | apply vN | apply vD)); exact Kd.V_mono (Kd.V_far (p := ⟨gb448, 1, none⟩) (Kd.V_far (p := ⟨gb448, 0, none⟩) (Kd.V_far (p := ⟨gb455, 1, none⟩) (Kd.V_far (p := ⟨gb455, 0, none⟩) (Kd.V_mono (Kd.V_mono HO_0.out (fun k_ hk => (⟨hk, hk.2.2.2⟩ : _ ∧ k_ ≠ gb455))) (fun k_ hk => (⟨hk, hk.1.2.2.1⟩ : _ ∧ k_ ≠ gb448))) (fun _ hk => hk.1.2) (.slice Ao30 t450.length co30)) (fun _ hk => hk.1.2) (.int .i64 t453)) (fun _ hk => hk.2) (.slice Ao30 t450.length co30)) (fun _ hk => hk.2) (.int .i64 t453)) (fun _ hk => ⟨hk.1.1.1, ⟨hk.1.1.2.1, hk.1.1.2.2.1⟩⟩)⟩, ⟨by (with_reducible repeat (first | apply Kd.N_alloc | apply Kd.N_drewN | apply Kd.N_drew)); exact Kd.N_mono (Kd.N_far (p := ⟨gb448, 1, none⟩) (Kd.N_far (p := ⟨gb448, 0, none⟩) (Kd.N_far (p := ⟨gb455, 1, none⟩) (Kd.N_far (p := ⟨gb455, 0, none⟩) (Kd.N_mono (Kd.N_mono HO_4.out (fun k_ hk => (⟨hk, hk.2.2⟩ : _ ∧ k_ ≠ gb455))) (fun k_ hk => (⟨hk, hk.1.2.1⟩ : _ ∧ k_ ≠ gb448))) (fun _ hk => hk.1.2) (.slice Ao30 t450.length co30)) (fun _ hk => hk.1.2) (.int .i64 t453)) (fun _ hk => hk.2) (.slice Ao30 t450.length co30)) (fun _ hk => hk.2) (.int .i64 t453)) (fun _ hk => ⟨hk.1.1.1, hk.1.1.2.1⟩)⟩, ⟨by (with_reducible repeat (first | apply vA | apply vN | apply vD)); exact Kd.V_mono (Kd.V_far (p := ⟨gb448, 1, none⟩) (Kd.V_far (p := ⟨gb448, 0, none⟩) (Kd.V_far (p := ⟨gb455, 1, none⟩) (Kd.V_far (p := ⟨gb455, 0, none⟩) (Kd.V_mono (Kd.V_mono HO452.out (fun k_ hk => (⟨hk, hk.2.2.2⟩ : _ ∧ k_ ≠ gb455))) (fun k_ hk => (⟨hk, hk.1.2.2.1⟩ : _ ∧ k_ ≠ gb448))) (fun _ hk => hk.1.2) (.slice Ao30 t450.length co30)) (fun _ hk => hk.1.2) (.int .i64 t453)) (fun _ hk => hk.2) (.slice Ao30 t450.length co30)) (fun _ hk => hk.2) (.int .i64 t453)) (fun _ hk => ⟨hk.1.1.1, ⟨hk.1.1.2.1, hk.1.1.2.2.1⟩⟩)⟩, ⟨by (with_reducible repeat (first | apply bN | apply bD | apply bA)); refine blk_put (cs := #[.slice Ao30 t450.length co30, .int .i64 x449001_1]) ?_ 1 _ rfl; (with_reducible repeat (first | apply bN | apply bD | apply bA)); refine blk_put (cs := #[.slice Ao25 x449000_1.length co25, .int .i64 x449001_1]) ?_ 0 _ rfl; (with_reducible repeat (first | apply bN | apply bD | apply bA)); refine blk_far ?_ NB448_455.out _; (with_reducible repeat (first | apply bN | apply bD | apply bA)); refine blk_far ?_ NB448_455.out _; (with_reducible repeat (first | apply bN | apply bD | apply bA)); exact BK448.out⟩, ⟨by repeat (first | (with_reducible first | exact HB.out | apply below_alloc | apply pw_below_drewN | apply below_drew1 | refine below_set ?_ GE448.out | refine below_set ?_ GE455.out) | exact HB.out)⟩⟩
     ·rw [if_neg c8] at H
      exact absurd H (by simp)
    ·rw [if_neg c7] at H
     have c7b0 : decide (x5_1 < (l0.length : Int)) = false := decide_eq_false c7
     clear c7
     have HC36 := a0 H
     clear H
     have hcz37_0 : wr.cell? ⟨gb448, 0, none⟩ = some (u449000) := (blk_cell BK448.out 0).trans rfl
     have hcz37_1 : wr.cell? ⟨gb448, 1, none⟩ = some (.int .i64 x449001_1) := (blk_cell BK448.out 1).trans rfl
     have hfz37_0 := blk_frozen BK448.out 0
     have hfz37_1 := blk_frozen BK448.out 1
     go_upto_block 2 with (fail)
     go_cut [9] (fun v9 wc => ∃ (kq : Nat) (x9_35 : List (List Int)) (x449000_35 : List (List Int)) (x449001_35 : Int) (u449000 : Value), Aside0 (drawbridgelaw23_LinkOrder.j2 kq l0 x4_1 x449001_1 x9_35 x449000_35 x449001_35 = some r) ∧ Aside0 (kq ≤ k1) ∧ Aside0 (Kd.V (Kd.slice 5 (Kd.int .u8)) 25 wc w.heap.size (fun k_ => (P0_ k_ ∨ w.heap.size ≤ k_) ∧ some k_ ≠ (u4 : Value).ownBlock ∧ some k_ ≠ (v9 : Value).ownBlock ∧ k_ ≠ gb448) (.slice A0 l0.length c0) l0) ∧ Aside0 (Kd.N (Kd.slice 5 (Kd.int .u8)) 25 wc w.heap.size (fun k_ => (P0_ k_ ∨ w.heap.size ≤ k_) ∧ some k_ ≠ (v9 : Value).ownBlock ∧ k_ ≠ gb448) u4 x4_1) ∧ Aside0 (Kd.N (Kd.slice 5 (Kd.int .u8)) 25 wc w.heap.size (fun k_ => (P0_ k_ ∨ w.heap.size ≤ k_) ∧ some k_ ≠ (u4 : Value).ownBlock ∧ k_ ≠ gb448) v9 x9_35) ∧ Aside0 (Kd.V (Kd.slice 5 (Kd.int .u8)) 25 wc w.heap.size (fun k_ => (P0_ k_ ∨ w.heap.size ≤ k_) ∧ some k_ ≠ (u4 : Value).ownBlock ∧ some k_ ≠ (v9 : Value).ownBlock ∧ k_ ≠ gb448) u449000 x449000_35) ∧ Aside0 (wc.heap[gb448]? = some (.cells #[u449000, .int .i64 x449001_35] 24 (0, 0))) ∧ Aside0 (Below w.heap.size w wc))
     case first =>
      have H := HC36.out
      clear HC36
      have H' := a0 H
      clear H
      go_wp2
      go_loopg [9, 10] k1 (fun kq v9 v10 w' => ∃ (x9_2 : List (List Int)) (x10_2 : Int) (x449000_2 : List (List Int)) (x449001_2 : Int) (u449000 : Value), v10 = .int .i64 x10_2 ∧ Aside0 (drawbridgelaw23_LinkOrder.l1 kq l0 x4_1 x449001_1 x9_2 x10_2 x449000_2 x449001_2 = some r) ∧ Aside0 (kq ≤ k1) ∧ Aside0 (Kd.V (Kd.slice 5 (Kd.int .u8)) 25 w' w.heap.size (fun k_ => (P0_ k_ ∨ w.heap.size ≤ k_) ∧ some k_ ≠ (u4 : Value).ownBlock ∧ some k_ ≠ (v9 : Value).ownBlock ∧ k_ ≠ gb448) (.slice A0 l0.length c0) l0) ∧ Aside0 (Kd.N (Kd.slice 5 (Kd.int .u8)) 25 w' w.heap.size (fun k_ => (P0_ k_ ∨ w.heap.size ≤ k_) ∧ some k_ ≠ (v9 : Value).ownBlock ∧ k_ ≠ gb448) u4 x4_1) ∧ Aside0 (Kd.N (Kd.slice 5 (Kd.int .u8)) 25 w' w.heap.size (fun k_ => (P0_ k_ ∨ w.heap.size ≤ k_) ∧ some k_ ≠ (u4 : Value).ownBlock ∧ k_ ≠ gb448) v9 x9_2) ∧ Aside0 (Kd.V (Kd.slice 5 (Kd.int .u8)) 25 w' w.heap.size (fun k_ => (P0_ k_ ∨ w.heap.size ≤ k_) ∧ some k_ ≠ (u4 : Value).ownBlock ∧ some k_ ≠ (v9 : Value).ownBlock ∧ k_ ≠ gb448) u449000 x449000_2) ∧ Aside0 (w'.heap[gb448]? = some (.cells #[u449000, .int .i64 x449001_2] 24 (0, 0))) ∧ Aside0 (Below w.heap.size w w'))
      case atStart => exact ⟨(([] : List (List Int))), (0), (x449000_1), (x449001_1), (u449000), (by first | rfl | (simp; done) | (simp [*]; done)), H', ⟨Nat.le_refl _⟩, ⟨by (with_reducible repeat (first | apply vA | apply vN | apply vD)); exact Kd.V_mono HO_0.out (fun _ hk => ⟨hk.1, ⟨hk.2.1, ⟨(by simp [Value.ownBlock]), hk.2.2⟩⟩⟩)⟩, ⟨by (with_reducible repeat (first | apply Kd.N_alloc | apply Kd.N_drewN | apply Kd.N_drew)); exact Kd.N_mono HO_4.out (fun _ hk => ⟨hk.1, ⟨(by simp [Value.ownBlock]), hk.2⟩⟩)⟩, ⟨by first | exact Kd.S_nil _ _ _ _ _ | exact Kd.N_nil _ _ _ _ _ | exact Kd.V_nil _ _ _ _ _ | exact Kd.Q_nil _ _ _ _ _ | exact Kd.R_nil _ _ _ _ _⟩, ⟨by (with_reducible repeat (first | apply vA | apply vN | apply vD)); exact Kd.V_mono HO_449000.out (fun _ hk => ⟨hk.1, ⟨hk.2.1, ⟨(by simp [Value.ownBlock]), hk.2.2⟩⟩⟩)⟩, ⟨by (with_reducible repeat (first | apply bN | apply bD | apply bA)); exact BK448.out⟩, ⟨by repeat (first | (with_reducible first | exact HB.out | apply below_alloc | apply pw_below_drewN | apply below_drew1 | refine below_set ?_ GE448.out) | exact HB.out)⟩⟩
      case round =>
       clear H'
       try clear c1
       try clear c2
       try clear p2
       try clear c3
       try clear c4
       try clear p4
       try clear q4
       try clear hx4
       try clear p6
       try clear c7
       try clear c7b0
       try clear c8
       try clear c10
       try clear c11
       try clear c22
       try clear c33
       try clear hcz23_0
       try clear hcz23_1
       try clear hcz24_0
       try clear hcz24_1
       try clear hcz34_0
       try clear hcz34_1
       try clear hcz35_0
       try clear hcz35_1
       try clear hcz37_0
       try clear hcz37_1
       try clear hfz23_0
       try clear hfz23_1
       try clear hfz24_0
       try clear hfz24_1
       try clear hfz34_0
       try clear hfz34_1
       try clear hfz35_0
       try clear hfz35_1
       try clear hfz37_0
       try clear hfz37_1
       try clear hx449_0
       try clear hx456_0
       try clear p449
       try clear p456
       try clear q449
       try clear q456
       obtain ⟨x9_2, x10_2, x449000_2, x449001_2, u449000, rfl, HA, HK2, HO_0, HO_4, HO_9, HO_449000, BK448, HB⟩ := hrel
       cases gk with
       | zero => exact absurd HA.out (by simp [drawbridgelaw23_LinkOrder.l1])
       | succ k2 =>
        have H := HA.out
        clear HA
        simp only [drawbridgelaw23_LinkOrder.l1] at H
        by_cases c38 : x10_2 < 40
        ·rw [if_pos c38] at H
         have c38b0 : decide (x10_2 < 40) = true := decide_eq_true c38
         clear c38
         (first | rw [c38b0] | (simp only [i64_w, i32_w]; rw [c38b0]) | skip)
         replace H := Option.bind_eq_some_iff.mp H
         obtain ⟨⟨t460, t463, t464, t467⟩, A390, H⟩ := H
         replace H : (if t467 = true then (if x9_2.length < 5864062014805 then (drawbridgelaw23_LinkOrder.l1 k2 l0 x4_1 x449001_1 (x9_2 ++ [t464]) (wrap64 (x10_2 + 1)) t460 t463) else (none)) else (drawbridgelaw23_LinkOrder.j2 k2 l0 x4_1 x449001_1 x9_2 x449000_2 x449001_2)) = some r := H
         have A39 := a0 A390
         clear A390
         by_cases c40 : t467 = true
         ·subst c40
          have H1 : (if x9_2.length < 5864062014805 then (drawbridgelaw23_LinkOrder.l1 k2 l0 x4_1 x449001_1 (x9_2 ++ [t464]) (wrap64 (x10_2 + 1)) t460 t463) else (none)) = some r := by rw [if_pos rfl] at H; exact H
          clear H
          have H := H1
          clear H1
          by_cases c41 : x9_2.length < 5864062014805
          ·rw [if_pos c41] at H
           have LMc41 := a0 c41
           clear c41
           obtain ⟨y469, hy469⟩ : ∃ y_ : List (List Int), y_ = (x9_2 ++ [t464]) := ⟨_, rfl⟩
           replace H : (drawbridgelaw23_LinkOrder.l1 k2 l0 x4_1 x449001_1 y469 (wrap64 (x10_2 + 1)) t460 t463) = some r := by first | (rw [hy469]; with_reducible exact H) | (have H2_ := (Option.bind_some _ _).symm.trans H; rw [hy469]; with_reducible exact H2_) | (have H2_ := (Option.bind_some _ _).symm.trans H; with_reducible exact H2_) | with_reducible exact H | (rw [hy469]; exact H) | exact H
           have Ny469 := a0 hy469
           clear hy469
           have H' := a0 H
           clear H
           have hcz42_0 : wr.cell? ⟨gb448, 0, none⟩ = some (u449000) := (blk_cell BK448.out 0).trans rfl
           have hcz42_1 : wr.cell? ⟨gb448, 1, none⟩ = some (.int .i64 x449001_2) := (blk_cell BK448.out 1).trans rfl
           have hfz42_0 := blk_frozen BK448.out 0
           have hfz42_1 := blk_frozen BK448.out 1
           obtain ⟨Ao43, co43, eo43⟩ := Kd.V_slice HO_449000.out
           subst eo43
           go_wp2_with (first | ((with_reducible refine gate_callee (f := 10) rfl ?_); refine goesL_ (some 53) rfl rfl Try.func10 (by kernel_rfl) rfl #[.agg #[.slice Ao43 x449000_2.length co43, .int .i64 x449001_2]] rfl (by (try simp only [List.map_toArray, List.map_cons, List.map_nil]); first | done | rfl | (simp only [List.length_drop, List.length_take]; rfl)) ?_; (with_reducible refine (link_Pop.calls k2 (fun k_ => ((P0_ k_ ∨ w.heap.size ≤ k_) ∧ (some k_ ≠ (u4 : Value).ownBlock ∧ (some k_ ≠ (u9 : Value).ownBlock ∧ k_ ≠ gb448)))) _ _ x449000_2 x449001_2 t460 t463 t464 true _ ?side1 A39.out).mono ?_); (case side1 => exact HO_449000.out); rintro e w44 ⟨v461, v465, rfl, ho0, ho1, hb⟩; refine ⟨_, rfl, ?_⟩; have n0_ := a0 (Kd.V_elder' (by (with_reducible repeat (first | apply vA | apply vN | apply vD)); exact HO_0.out) (Kd.R_base ho1) hb); have n1_ := a0 (Kd.N_elder' (by (with_reducible repeat (first | apply Kd.N_alloc | apply Kd.N_drewN | apply Kd.N_drew)); exact HO_4.out) (Kd.R_base ho1) hb); have n2_ := a0 (Kd.N_elder' (by (with_reducible repeat (first | apply Kd.N_alloc | apply Kd.N_drewN | apply Kd.N_drew)); exact HO_9.out) (Kd.R_base ho1) hb); have n3_ := a0 (Kd.V_elder' (by (with_reducible repeat (first | apply vA | apply vN | apply vD)); exact HO_449000.out) (Kd.R_base ho1) hb); have n4_ := a0 (Kd.V_lower (Kd.V_mono (ok' := fun k_ => (P0_ k_ ∨ w.heap.size ≤ k_) ∧ some k_ ≠ (v465 : Value).ownBlock ∧ some k_ ≠ (u4 : Value).ownBlock ∧ some k_ ≠ (u9 : Value).ownBlock ∧ k_ ≠ gb448) ho0 (fun k_ hk_ => ⟨Or.elim hk_.1 (fun hs_ => hs_.1) (fun hn_ => (.inr (Nat.le_trans (below_size (by repeat (first | (with_reducible first | exact HB.out | apply below_alloc | apply pw_below_drewN | apply below_drew1 | refine below_set ?_ GE448.out) | exact HB.out))) hn_))), hk_.2, Or.elim hk_.1 (fun hs_ => hs_.2.1) (fun hn_ => (Kd.fresh' (Kd.N_lt (by (with_reducible repeat (first | apply Kd.N_alloc | apply Kd.N_drewN | apply Kd.N_drew)); exact HO_4.out)) k_ hn_)), Or.elim hk_.1 (fun hs_ => hs_.2.2.1) (fun hn_ => (Kd.fresh' (Kd.N_lt (by (with_reducible repeat (first | apply Kd.N_alloc | apply Kd.N_drewN | apply Kd.N_drew)); exact HO_9.out)) k_ hn_)), Or.elim hk_.1 (fun hs_ => hs_.2.2.2) (fun hn_ => (Kd.freshB (g := gb448) (o := .cells #[.slice Ao43 x449000_2.length co43, .int .i64 x449001_2] 24 (0, 0)) (by (with_reducible repeat (first | apply bN | apply bD | apply bA)); exact BK448.out) k_ hn_))⟩)) (below_size (by repeat (first | (with_reducible first | exact HB.out | apply below_alloc | apply pw_below_drewN | apply below_drew1 | refine below_set ?_ GE448.out) | exact HB.out)))); have n5_ := a0 (Kd.R_lower (Kd.R_newM (M := fun k_ => (w.heap.size ≤ k_)) (Kd.R_mono (ok' := fun k_ => True) ho1 (fun _ hk_ => trivial)) (below_size (by repeat (first | (with_reducible first | exact HB.out | apply below_alloc | apply pw_below_drewN | apply below_drew1 | refine below_set ?_ GE448.out) | exact HB.out))) (fun k_ h_ => h_)) (below_size (by repeat (first | (with_reducible first | exact HB.out | apply below_alloc | apply pw_below_drewN | apply below_drew1 | refine below_set ?_ GE448.out) | exact HB.out)))); have n6_ := a0 (blk_below (g := gb448) (o := .cells #[.slice Ao43 x449000_2.length co43, .int .i64 x449001_2] 24 (0, 0)) (by (with_reducible repeat (first | apply bN | apply bD | apply bA)); exact BK448.out) hb); have n7_ := a0 (below_step (by repeat (first | (with_reducible first | exact HB.out | apply below_alloc | apply pw_below_drewN | apply below_drew1 | refine below_set ?_ GE448.out) | exact HB.out)) hb); clear HO_0; clear HO_4; clear HO_9; clear HO_449000; clear BK448; clear HB; have HO_0 := n0_; have HO_4 := n1_; have HO_9 := n2_; have HO_449000 := n3_; have HO462 := n4_; have HO466 := n5_; have BK448 := n6_; have HB := n7_; clear n0_ n1_ n2_ n3_ n4_ n5_ n6_ n7_; (try clear hb); (try clear hb2); (try clear hk); (try clear hi); (try clear ho0); (try clear ho1)) | ((with_reducible refine gate_dst (N := 11) rfl ?_); (try (refine gate_guard (by rfl) ?_; dsimp only)); refine box_event ?hg (N := 11) ?hd (cs := #[.slice none 0 0, .int .i64 0]) (t := 24) ?hr ?_; (case hd => rfl); (case hg => rfl); (case hr => first | (go_simp; done) | (go_simp; rfl)); intro gb468 hg w45 hbox hb; have n0_ := a0 (Kd.V_below (Kd.V_elderB (by (with_reducible repeat (first | apply vA | apply vN | apply vD)); exact HO_0.out) gb468 (Nat.le_of_eq hg.symm)) hb); have n1_ := a0 (Kd.N_below (Kd.N_elderB (by (with_reducible repeat (first | apply Kd.N_alloc | apply Kd.N_drewN | apply Kd.N_drew)); exact HO_4.out) gb468 (Nat.le_of_eq hg.symm)) hb); have n2_ := a0 (Kd.N_below (Kd.N_elderB (by (with_reducible repeat (first | apply Kd.N_alloc | apply Kd.N_drewN | apply Kd.N_drew)); exact HO_9.out) gb468 (Nat.le_of_eq hg.symm)) hb); have n3_ := a0 (Kd.V_below (Kd.V_elderB (by (with_reducible repeat (first | apply vA | apply vN | apply vD)); exact HO_449000.out) gb468 (Nat.le_of_eq hg.symm)) hb); have n4_ := a0 (Kd.V_below (Kd.V_elderB (by (with_reducible repeat (first | apply vA | apply vN | apply vD)); exact HO462.out) gb468 (Nat.le_of_eq hg.symm)) hb); have n5_ := a0 (Kd.R_below (by (with_reducible repeat (first | apply rA | apply rN | apply rD)); exact HO466.out) hb); have n6_ := a0 (blk_below (g := gb448) (o := .cells #[.slice Ao43 x449000_2.length co43, .int .i64 x449001_2] 24 (0, 0)) (by (with_reducible repeat (first | apply bN | apply bD | apply bA)); exact BK448.out) hb); have n7_ := a0 (below_step (by repeat (first | (with_reducible first | exact HB.out | apply below_alloc | apply pw_below_drewN | apply below_drew1 | refine below_set ?_ GE448.out) | exact HB.out)) hb); have n8_ := a0 (hbox); have n9_ := a0 ((by rw [hg]; exact (below_size (by repeat (first | (with_reducible first | exact HB.out | apply below_alloc | apply pw_below_drewN | apply below_drew1 | refine below_set ?_ GE448.out) | exact HB.out))) : w.heap.size ≤ gb468)); have n10_ := a0 ((by rw [hg]; exact (below_size (by repeat (first | (with_reducible first | exact HB.out | apply below_alloc | apply pw_below_drewN | apply below_drew1 | refine below_set ?_ GE448.out) | exact HB.out))) : w.heap.size ≤ gb468)); have n11_ := a0 ((by rw [hg]; exact Nat.ne_of_lt (blk_lt (g := gb448) (o := .cells #[.slice Ao43 x449000_2.length co43, .int .i64 x449001_2] 24 (0, 0)) (by (with_reducible repeat (first | apply bN | apply bD | apply bA)); exact BK448.out)) : gb448 ≠ gb468)); have n12_ := a0 ((by rw [hg]; exact Nat.ne_of_gt (blk_lt (g := gb448) (o := .cells #[.slice Ao43 x449000_2.length co43, .int .i64 x449001_2] 24 (0, 0)) (by (with_reducible repeat (first | apply bN | apply bD | apply bA)); exact BK448.out)) : gb468 ≠ gb448)); clear HO_0; clear HO_4; clear HO_9; clear HO_449000; clear HO462; clear HO466; clear BK448; clear HB; have HO_0 := n0_; have HO_4 := n1_; have HO_9 := n2_; have HO_449000 := n3_; have HO462 := n4_; have HO466 := n5_; have BK448 := n6_; have HB := n7_; have BK468 := n8_; have GW468 := n9_; have GE468 := n10_; have NB448_468 := n11_; have NB468_448 := n12_; clear n0_ n1_ n2_ n3_ n4_ n5_ n6_ n7_ n8_ n9_ n10_ n11_ n12_; clear hb hbox hg; obtain ⟨Ao46, co46, eo46⟩ := Kd.V_slice HO462.out; subst eo46; have hnb47 := NB468_448.out; have hnc47 := NB448_468.out; have hcz48_0 : w45.cell? ⟨gb468, 0, none⟩ = some (.slice none 0 0) := (blk_cell BK468.out 0).trans rfl; have hcz48_1 : w45.cell? ⟨gb468, 1, none⟩ = some (.int .i64 0) := (blk_cell BK468.out 1).trans rfl; have hfz48_0 := blk_frozen BK468.out 0; have hfz48_1 := blk_frozen BK468.out 1) | ((with_reducible refine gate_store (t := 24) (p := 11) rfl ?_); refine store_event (t := 24) (p := 11) (v := ?vo_w49) (w1 := ((w45.setCell ⟨gb468, 0, none⟩ (.slice Ao46 t460.length co46)).setCell ⟨gb468, 1, none⟩ (.int .i64 t463))) ?hg ?ho ?hn ?hr ?_; (case ho => rfl); (case hg => rfl); (case hn => rfl); (case hr => first | (go_simp; done) | (go_simp; rfl)); intro w49 hw; have n0_ : Aside0 (Kd.V (Kd.slice 5 (Kd.int .u8)) 25 w49 w.heap.size (fun k_ => (P0_ k_ ∨ w.heap.size ≤ k_) ∧ some k_ ≠ (u4 : Value).ownBlock ∧ some k_ ≠ (u9 : Value).ownBlock ∧ some k_ ≠ (v465 : Value).ownBlock ∧ k_ ≠ gb448 ∧ k_ ≠ gb468) (.slice A0 l0.length c0) l0) := ⟨(by rw [hw]; exact (by (with_reducible repeat (first | apply vA | apply vN | apply vD)); exact Kd.V_mono (Kd.V_far (p := ⟨gb468, 1, none⟩) (Kd.V_far (p := ⟨gb468, 0, none⟩) (Kd.V_mono HO_0.out (fun k_ hk => (⟨hk, hk.2⟩ : _ ∧ k_ ≠ gb468))) (fun _ hk => hk.2) (.slice Ao46 t460.length co46)) (fun _ hk => hk.2) (.int .i64 t463)) (fun _ hk => ⟨hk.1.1.1.1, ⟨hk.1.1.1.2.1, ⟨hk.1.1.1.2.2.1, ⟨hk.1.1.2, ⟨hk.1.1.1.2.2.2, hk.1.2⟩⟩⟩⟩⟩)))⟩; have n1_ : Aside0 (Kd.N (Kd.slice 5 (Kd.int .u8)) 25 w49 w.heap.size (fun k_ => (P0_ k_ ∨ w.heap.size ≤ k_) ∧ some k_ ≠ (u9 : Value).ownBlock ∧ some k_ ≠ (v465 : Value).ownBlock ∧ k_ ≠ gb448 ∧ k_ ≠ gb468) u4 x4_1) := ⟨(by rw [hw]; exact (by (with_reducible repeat (first | apply Kd.N_alloc | apply Kd.N_drewN | apply Kd.N_drew)); exact Kd.N_mono (Kd.N_far (p := ⟨gb468, 1, none⟩) (Kd.N_far (p := ⟨gb468, 0, none⟩) (Kd.N_mono HO_4.out (fun k_ hk => (⟨hk, hk.2⟩ : _ ∧ k_ ≠ gb468))) (fun _ hk => hk.2) (.slice Ao46 t460.length co46)) (fun _ hk => hk.2) (.int .i64 t463)) (fun _ hk => ⟨hk.1.1.1.1, ⟨hk.1.1.1.2.1, ⟨hk.1.1.2, ⟨hk.1.1.1.2.2, hk.1.2⟩⟩⟩⟩)))⟩; have n2_ : Aside0 (Kd.N (Kd.slice 5 (Kd.int .u8)) 25 w49 w.heap.size (fun k_ => (P0_ k_ ∨ w.heap.size ≤ k_) ∧ some k_ ≠ (u4 : Value).ownBlock ∧ some k_ ≠ (v465 : Value).ownBlock ∧ k_ ≠ gb448 ∧ k_ ≠ gb468) u9 x9_2) := ⟨(by rw [hw]; exact (by (with_reducible repeat (first | apply Kd.N_alloc | apply Kd.N_drewN | apply Kd.N_drew)); exact Kd.N_mono (Kd.N_far (p := ⟨gb468, 1, none⟩) (Kd.N_far (p := ⟨gb468, 0, none⟩) (Kd.N_mono HO_9.out (fun k_ hk => (⟨hk, hk.2⟩ : _ ∧ k_ ≠ gb468))) (fun _ hk => hk.2) (.slice Ao46 t460.length co46)) (fun _ hk => hk.2) (.int .i64 t463)) (fun _ hk => ⟨hk.1.1.1.1, ⟨hk.1.1.1.2.1, ⟨hk.1.1.2, ⟨hk.1.1.1.2.2, hk.1.2⟩⟩⟩⟩)))⟩; have n3_ : Aside0 (Kd.V (Kd.slice 5 (Kd.int .u8)) 25 w49 w.heap.size (fun k_ => (P0_ k_ ∨ w.heap.size ≤ k_) ∧ some k_ ≠ (u4 : Value).ownBlock ∧ some k_ ≠ (u9 : Value).ownBlock ∧ some k_ ≠ (v465 : Value).ownBlock ∧ k_ ≠ gb448 ∧ k_ ≠ gb468) (.slice Ao43 x449000_2.length co43) x449000_2) := ⟨(by rw [hw]; exact (by (with_reducible repeat (first | apply vA | apply vN | apply vD)); exact Kd.V_mono (Kd.V_far (p := ⟨gb468, 1, none⟩) (Kd.V_far (p := ⟨gb468, 0, none⟩) (Kd.V_mono HO_449000.out (fun k_ hk => (⟨hk, hk.2⟩ : _ ∧ k_ ≠ gb468))) (fun _ hk => hk.2) (.slice Ao46 t460.length co46)) (fun _ hk => hk.2) (.int .i64 t463)) (fun _ hk => ⟨hk.1.1.1.1, ⟨hk.1.1.1.2.1, ⟨hk.1.1.1.2.2.1, ⟨hk.1.1.2, ⟨hk.1.1.1.2.2.2, hk.1.2⟩⟩⟩⟩⟩)))⟩; have n4_ : Aside0 (Kd.V (Kd.slice 5 (Kd.int .u8)) 25 w49 w.heap.size (fun k_ => (P0_ k_ ∨ w.heap.size ≤ k_) ∧ some k_ ≠ (u4 : Value).ownBlock ∧ some k_ ≠ (u9 : Value).ownBlock ∧ some k_ ≠ (v465 : Value).ownBlock ∧ k_ ≠ gb448 ∧ k_ ≠ gb468) (.slice Ao46 t460.length co46) t460) := ⟨(by rw [hw]; exact (by (with_reducible repeat (first | apply vA | apply vN | apply vD)); exact Kd.V_mono (Kd.V_far (p := ⟨gb468, 1, none⟩) (Kd.V_far (p := ⟨gb468, 0, none⟩) (Kd.V_mono HO462.out (fun k_ hk => (⟨hk, hk.2⟩ : _ ∧ k_ ≠ gb468))) (fun _ hk => hk.2) (.slice Ao46 t460.length co46)) (fun _ hk => hk.2) (.int .i64 t463)) (fun _ hk => ⟨hk.1.1.1, ⟨hk.1.1.2.2.1, ⟨hk.1.1.2.2.2.1, ⟨hk.1.1.2.1, ⟨hk.1.1.2.2.2.2, hk.1.2⟩⟩⟩⟩⟩)))⟩; have n5_ : Aside0 (Kd.R (Kd.int .u8) 5 w49 w.heap.size (fun k_ => (w.heap.size ≤ k_)) v465 t464) := ⟨(by rw [hw]; exact (by (with_reducible repeat (first | apply rA | apply rN | apply rD)); exact Kd.R_mono (Kd.R_far (p := ⟨gb468, 1, none⟩) (Kd.R_far (p := ⟨gb468, 0, none⟩) (Kd.R_types HO466.out BK468.out (by decide)) (fun _ hk => hk.2) (.slice Ao46 t460.length co46)) (fun _ hk => hk.2) (.int .i64 t463)) (fun _ hk => hk.1.1)))⟩; have n6_ : Aside0 (w49.heap[gb448]? = some (.cells #[.slice Ao43 x449000_2.length co43, .int .i64 x449001_2] 24 (0, 0))) := ⟨(by rw [hw]; exact (by (with_reducible repeat (first | apply bN | apply bD | apply bA)); refine blk_far ?_ NB448_468.out _; (with_reducible repeat (first | apply bN | apply bD | apply bA)); refine blk_far ?_ NB448_468.out _; (with_reducible repeat (first | apply bN | apply bD | apply bA)); exact BK448.out))⟩; have n7_ : Aside0 (w49.heap[gb468]? = some (.cells #[.slice Ao46 t460.length co46, .int .i64 t463] 24 (0, 0))) := ⟨(by rw [hw]; exact (by (with_reducible repeat (first | apply bN | apply bD | apply bA)); refine blk_put (cs := #[.slice Ao46 t460.length co46, .int .i64 0]) ?_ 1 _ rfl; (with_reducible repeat (first | apply bN | apply bD | apply bA)); refine blk_put (cs := #[.slice none 0 0, .int .i64 0]) ?_ 0 _ rfl; (with_reducible repeat (first | apply bN | apply bD | apply bA)); exact BK468.out))⟩; have n8_ : Aside0 (Below w.heap.size w w49) := ⟨(by rw [hw]; exact (by repeat (first | (with_reducible first | exact HB.out | apply below_alloc | apply pw_below_drewN | apply below_drew1 | refine below_set ?_ GE448.out | refine below_set ?_ GE468.out) | exact HB.out)))⟩; clear hw; clear HO_0; clear HO_4; clear HO_9; clear HO_449000; clear HO462; clear HO466; clear BK448; clear BK468; clear HB; have HO_0 := n0_; have HO_4 := n1_; have HO_9 := n2_; have HO_449000 := n3_; have HO462 := n4_; have HO466 := n5_; have BK448 := n6_; have BK468 := n7_; have HB := n8_; clear n0_ n1_ n2_ n3_ n4_ n5_ n6_ n7_ n8_; obtain ⟨Ao51, co51, eo51⟩ := Kd.R_slice HO466.out; subst eo51) | ((with_reducible refine gate_builtin (b := .append) (xs := #[.tmp 59, .tmp 61]) rfl ?_); (try (refine gate_guard (by rfl) ?_; dsimp only)); at_builtin; refine Kd.N_append (Kd.slice 5 (Kd.int .u8)) (w0 := w) w.heap.size rfl (.tmp 59) (.tmp 61) 22 25 (.slice none 0 0) 24 rfl Try.underlying22 info25 rfl (by decide) (by omega) u9 x9_2 t464 [.slice Ao51 t464.length co51] (fun k_ => (P0_ k_ ∨ w.heap.size ≤ k_) ∧ some k_ ≠ (u4 : Value).ownBlock ∧ k_ ≠ gb448 ∧ k_ ≠ gb468) (fun k_ => ((fun k_ => (P0_ k_ ∨ w.heap.size ≤ k_) ∧ some k_ ≠ (u4 : Value).ownBlock ∧ k_ ≠ gb448 ∧ k_ ≠ gb468)) k_ ∧ some k_ ≠ (u9 : Value).ownBlock) rfl rfl ?aP (fun _ hk => hk) ?aF ?aO ?aB ?aS ?aL ?_; (case aP => exact (Kd.FK_slice_mk (Kd.R_reads' (Kd.R_mono (ok' := (fun k_ => ((fun k_ => (P0_ k_ ∨ w.heap.size ≤ k_) ∧ some k_ ≠ (u4 : Value).ownBlock ∧ k_ ≠ gb448 ∧ k_ ≠ gb468)) k_ ∧ some k_ ≠ (u9 : Value).ownBlock)) (Kd.R_types (Kd.R_types (Kd.R_apart' (Kd.R_apart' (HO466.out) (Kd.N_typed HO_4.out) (by decide)) (Kd.N_typed HO_9.out) (by decide)) BK448.out (by decide)) BK468.out (by decide)) (fun k_ hk => ⟨⟨(.inr (hk.1.1.1.1)), ⟨hk.1.1.1.2, ⟨hk.1.2, hk.2⟩⟩⟩, hk.1.1.2⟩))).2.1 (Kd.R_F (Kd.R_mono (ok' := (fun k_ => ((fun k_ => (P0_ k_ ∨ w.heap.size ≤ k_) ∧ some k_ ≠ (u4 : Value).ownBlock ∧ k_ ≠ gb448 ∧ k_ ≠ gb468)) k_ ∧ some k_ ≠ (u9 : Value).ownBlock)) (Kd.R_types (Kd.R_types (Kd.R_apart' (Kd.R_apart' (HO466.out) (Kd.N_typed HO_4.out) (by decide)) (Kd.N_typed HO_9.out) (by decide)) BK448.out (by decide)) BK468.out (by decide)) (fun k_ hk => ⟨⟨(.inr (hk.1.1.1.1)), ⟨hk.1.1.1.2, ⟨hk.1.2, hk.2⟩⟩⟩, hk.1.1.2⟩))))); (case aB => exact (by repeat (first | (with_reducible first | exact HB.out | apply below_alloc | apply pw_below_drewN | apply below_drew1 | refine below_set ?_ GE448.out | refine below_set ?_ GE468.out) | exact HB.out))); (case aF => exact (fun k_ hk => ⟨(.inr (Nat.le_trans (below_size (by repeat (first | (with_reducible first | exact HB.out | apply below_alloc | apply pw_below_drewN | apply below_drew1 | refine below_set ?_ GE448.out | refine below_set ?_ GE468.out) | exact HB.out))) hk)), Kd.fresh' (Kd.N_lt (by (with_reducible repeat (first | apply Kd.N_alloc | apply Kd.N_drewN | apply Kd.N_drew)); exact HO_4.out)) k_ hk, Kd.freshB (g := gb448) (o := .cells #[.slice Ao43 x449000_2.length co43, .int .i64 x449001_2] 24 (0, 0)) (by (with_reducible repeat (first | apply bN | apply bD | apply bA)); exact BK448.out) k_ hk, Kd.freshB (g := gb468) (o := .cells #[.slice Ao46 t460.length co46, .int .i64 t463] 24 (0, 0)) (by (with_reducible repeat (first | apply bN | apply bD | apply bA)); exact BK468.out) k_ hk⟩)); (case aO => exact (by (with_reducible repeat (first | apply Kd.N_alloc | apply Kd.N_drewN | apply Kd.N_drew)); exact Kd.N_mono HO_9.out (fun _ hk => ⟨hk.1, ⟨hk.2.1, ⟨hk.2.2.2.1, hk.2.2.2.2⟩⟩⟩))); (case aS => exact (below_size (by repeat (first | (with_reducible first | exact HB.out | apply below_alloc | apply pw_below_drewN | apply below_drew1 | refine below_set ?_ GE448.out | refine below_set ?_ GE468.out) | exact HB.out)))); (case aL => have := LMc41.out; omega); intro v470 w50 ho hb hg hat; rw [← Ny469.out] at ho; have n0_ := a0 (Kd.V_afterv (ok := (fun k_ => (P0_ k_ ∨ w.heap.size ≤ k_) ∧ some k_ ≠ (u4 : Value).ownBlock ∧ some k_ ≠ (.slice Ao51 t464.length co51 : Value).ownBlock ∧ k_ ≠ gb448 ∧ k_ ≠ gb468)) (by (with_reducible repeat (first | apply vA | apply vN | apply vD)); exact Kd.V_mono HO_0.out (fun _ hk => ⟨⟨hk.1, ⟨hk.2.1, ⟨hk.2.2.2.1, ⟨hk.2.2.2.2.1, hk.2.2.2.2.2⟩⟩⟩⟩, hk.2.2.1⟩)) hg hat); have n1_ := a0 (Kd.N_afterv (ok := (fun k_ => (P0_ k_ ∨ w.heap.size ≤ k_) ∧ some k_ ≠ (.slice Ao51 t464.length co51 : Value).ownBlock ∧ k_ ≠ gb448 ∧ k_ ≠ gb468)) (by (with_reducible repeat (first | apply Kd.N_alloc | apply Kd.N_drewN | apply Kd.N_drew)); exact Kd.N_mono HO_4.out (fun _ hk => ⟨⟨hk.1, ⟨hk.2.2.1, ⟨hk.2.2.2.1, hk.2.2.2.2⟩⟩⟩, hk.2.1⟩)) hg hat); have n3_ := a0 (blk_grown (g := gb448) (o := .cells #[.slice Ao43 x449000_2.length co43, .int .i64 x449001_2] 24 (0, 0)) (by (with_reducible repeat (first | apply bN | apply bD | apply bA)); exact BK448.out) hg (Kd.N_ne HO_9.out BK448.out (by decide))); have n4_ := a0 (Kd.V_afterv (ok := (fun k_ => (P0_ k_ ∨ w.heap.size ≤ k_) ∧ some k_ ≠ (u4 : Value).ownBlock ∧ some k_ ≠ (.slice Ao51 t464.length co51 : Value).ownBlock ∧ k_ ≠ gb448 ∧ k_ ≠ gb468)) (by (with_reducible repeat (first | apply vA | apply vN | apply vD)); exact Kd.V_mono HO462.out (fun _ hk => ⟨⟨hk.1, ⟨hk.2.1, ⟨hk.2.2.2.1, ⟨hk.2.2.2.2.1, hk.2.2.2.2.2⟩⟩⟩⟩, hk.2.2.1⟩)) hg hat); have n5_ := a0 (blk_grown (g := gb468) (o := .cells #[.slice Ao46 t460.length co46, .int .i64 t463] 24 (0, 0)) (by (with_reducible repeat (first | apply bN | apply bD | apply bA)); exact BK468.out) hg (Kd.N_ne HO_9.out BK468.out (by decide))); have n6_ := a0 (hb); have n7_ := a0 (ho); clear HO_0; clear HO_4; clear BK448; clear HO462; clear BK468; clear HB; clear HO_9; clear HO466; have HO_0 := n0_; have HO_4 := n1_; have BK448 := n3_; have HO462 := n4_; have BK468 := n5_; have HB := n6_; have HO471 := n7_; clear n0_ n1_ n3_ n4_ n5_ n6_ n7_; clear ho hb hg hat; have hcz52_0 : w50.cell? ⟨gb468, 0, none⟩ = some (.slice Ao46 t460.length co46) := (blk_cell BK468.out 0).trans rfl; have hcz52_1 : w50.cell? ⟨gb468, 1, none⟩ = some (.int .i64 t463) := (blk_cell BK468.out 1).trans rfl; have hfz52_0 := blk_frozen BK468.out 0; have hfz52_1 := blk_frozen BK468.out 1; have hcz53_0 : w50.cell? ⟨gb448, 0, none⟩ = some (.slice Ao43 x449000_2.length co43) := (blk_cell BK448.out 0).trans rfl; have hcz53_1 : w50.cell? ⟨gb448, 1, none⟩ = some (.int .i64 x449001_2) := (blk_cell BK448.out 1).trans rfl; have hfz53_0 := blk_frozen BK448.out 0; have hfz53_1 := blk_frozen BK448.out 1))
           go_roundg k2
           case measure => have := HK1.out; have := HK2.out; omega
           case rel => exact ⟨(y469), (wrap64 (x10_2 + 1)), (t460), (t463), (.slice Ao46 t460.length co46), (by first | rfl | (simp; done) | (simp [*]; done)), H', ⟨by have := HK1.out; have := HK2.out; omega⟩, ⟨by (with_reducible repeat (first | apply vA | apply vN | apply vD)); exact Kd.V_mono (Kd.V_far (p := ⟨gb448, 1, none⟩) (Kd.V_far (p := ⟨gb448, 0, none⟩) (Kd.V_mono HO_0.out (fun k_ hk => (⟨hk, hk.1.2.2.2.1⟩ : _ ∧ k_ ≠ gb448))) (fun _ hk => hk.2) (.slice Ao46 t460.length co46)) (fun _ hk => hk.2) (.int .i64 t463)) (fun _ hk => ⟨hk.1.1.1, ⟨hk.1.1.2.1, ⟨hk.1.2, hk.1.1.2.2.2.1⟩⟩⟩)⟩, ⟨by (with_reducible repeat (first | apply Kd.N_alloc | apply Kd.N_drewN | apply Kd.N_drew)); exact Kd.N_mono (Kd.N_far (p := ⟨gb448, 1, none⟩) (Kd.N_far (p := ⟨gb448, 0, none⟩) (Kd.N_mono HO_4.out (fun k_ hk => (⟨hk, hk.1.2.2.1⟩ : _ ∧ k_ ≠ gb448))) (fun _ hk => hk.2) (.slice Ao46 t460.length co46)) (fun _ hk => hk.2) (.int .i64 t463)) (fun _ hk => ⟨hk.1.1.1, ⟨hk.1.2, hk.1.1.2.2.1⟩⟩)⟩, ⟨by (with_reducible repeat (first | apply Kd.N_alloc | apply Kd.N_drewN | apply Kd.N_drew)); exact Kd.N_mono (Kd.N_far (p := ⟨gb448, 1, none⟩) (Kd.N_far (p := ⟨gb448, 0, none⟩) (Kd.N_mono HO471.out (fun k_ hk => (⟨hk, hk.2.2.1⟩ : _ ∧ k_ ≠ gb448))) (fun _ hk => hk.2) (.slice Ao46 t460.length co46)) (fun _ hk => hk.2) (.int .i64 t463)) (fun _ hk => ⟨hk.1.1, ⟨hk.1.2.1, hk.1.2.2.1⟩⟩)⟩, ⟨by (with_reducible repeat (first | apply vA | apply vN | apply vD)); exact Kd.V_mono (Kd.V_far (p := ⟨gb448, 1, none⟩) (Kd.V_far (p := ⟨gb448, 0, none⟩) (Kd.V_mono HO462.out (fun k_ hk => (⟨hk, hk.1.2.2.2.1⟩ : _ ∧ k_ ≠ gb448))) (fun _ hk => hk.2) (.slice Ao46 t460.length co46)) (fun _ hk => hk.2) (.int .i64 t463)) (fun _ hk => ⟨hk.1.1.1, ⟨hk.1.1.2.1, ⟨hk.1.2, hk.1.1.2.2.2.1⟩⟩⟩)⟩, ⟨by (with_reducible repeat (first | apply bN | apply bD | apply bA)); refine blk_put (cs := #[.slice Ao46 t460.length co46, .int .i64 x449001_2]) ?_ 1 _ rfl; (with_reducible repeat (first | apply bN | apply bD | apply bA)); refine blk_put (cs := #[.slice Ao43 x449000_2.length co43, .int .i64 x449001_2]) ?_ 0 _ rfl; (with_reducible repeat (first | apply bN | apply bD | apply bA)); exact BK448.out⟩, ⟨by repeat (first | (with_reducible first | exact HB.out | apply below_alloc | apply pw_below_drewN | apply below_drew1 | refine below_set ?_ GE448.out | refine below_set ?_ GE468.out) | exact HB.out)⟩⟩
          ·rw [if_neg c41] at H
           exact absurd H (by simp)
         ·replace c40 := Bool.eq_false_iff.mpr c40
          subst c40
          have H1 : (drawbridgelaw23_LinkOrder.j2 k2 l0 x4_1 x449001_1 x9_2 x449000_2 x449001_2) = some r := by rw [if_neg (show ¬ (false = true) by decide)] at H; exact H
          clear H
          have H := H1
          clear H1
          have H' := a0 H
          clear H
          have hcz54_0 : wr.cell? ⟨gb448, 0, none⟩ = some (u449000) := (blk_cell BK448.out 0).trans rfl
          have hcz54_1 : wr.cell? ⟨gb448, 1, none⟩ = some (.int .i64 x449001_2) := (blk_cell BK448.out 1).trans rfl
          have hfz54_0 := blk_frozen BK448.out 0
          have hfz54_1 := blk_frozen BK448.out 1
          obtain ⟨Ao55, co55, eo55⟩ := Kd.V_slice HO_449000.out
          subst eo55
          go_wp2_with (first | ((with_reducible refine gate_callee (f := 10) rfl ?_); refine goesL_ (some 53) rfl rfl Try.func10 (by kernel_rfl) rfl #[.agg #[.slice Ao55 x449000_2.length co55, .int .i64 x449001_2]] rfl (by (try simp only [List.map_toArray, List.map_cons, List.map_nil]); first | done | rfl | (simp only [List.length_drop, List.length_take]; rfl)) ?_; (with_reducible refine (link_Pop.calls k2 (fun k_ => ((P0_ k_ ∨ w.heap.size ≤ k_) ∧ (some k_ ≠ (u4 : Value).ownBlock ∧ (some k_ ≠ (u9 : Value).ownBlock ∧ k_ ≠ gb448)))) _ _ x449000_2 x449001_2 t460 t463 t464 false _ ?side1 A39.out).mono ?_); (case side1 => exact HO_449000.out); rintro e w56 ⟨v461, v465, rfl, ho0, ho1, hb⟩; refine ⟨_, rfl, ?_⟩; have n0_ := a0 (Kd.V_elder' (by (with_reducible repeat (first | apply vA | apply vN | apply vD)); exact HO_0.out) (Kd.R_base ho1) hb); have n1_ := a0 (Kd.N_elder' (by (with_reducible repeat (first | apply Kd.N_alloc | apply Kd.N_drewN | apply Kd.N_drew)); exact HO_4.out) (Kd.R_base ho1) hb); have n2_ := a0 (Kd.N_elder' (by (with_reducible repeat (first | apply Kd.N_alloc | apply Kd.N_drewN | apply Kd.N_drew)); exact HO_9.out) (Kd.R_base ho1) hb); have n3_ := a0 (Kd.V_elder' (by (with_reducible repeat (first | apply vA | apply vN | apply vD)); exact HO_449000.out) (Kd.R_base ho1) hb); have n4_ := a0 (Kd.V_lower (Kd.V_mono (ok' := fun k_ => (P0_ k_ ∨ w.heap.size ≤ k_) ∧ some k_ ≠ (v465 : Value).ownBlock ∧ some k_ ≠ (u4 : Value).ownBlock ∧ some k_ ≠ (u9 : Value).ownBlock ∧ k_ ≠ gb448) ho0 (fun k_ hk_ => ⟨Or.elim hk_.1 (fun hs_ => hs_.1) (fun hn_ => (.inr (Nat.le_trans (below_size (by repeat (first | (with_reducible first | exact HB.out | apply below_alloc | apply pw_below_drewN | apply below_drew1 | refine below_set ?_ GE448.out) | exact HB.out))) hn_))), hk_.2, Or.elim hk_.1 (fun hs_ => hs_.2.1) (fun hn_ => (Kd.fresh' (Kd.N_lt (by (with_reducible repeat (first | apply Kd.N_alloc | apply Kd.N_drewN | apply Kd.N_drew)); exact HO_4.out)) k_ hn_)), Or.elim hk_.1 (fun hs_ => hs_.2.2.1) (fun hn_ => (Kd.fresh' (Kd.N_lt (by (with_reducible repeat (first | apply Kd.N_alloc | apply Kd.N_drewN | apply Kd.N_drew)); exact HO_9.out)) k_ hn_)), Or.elim hk_.1 (fun hs_ => hs_.2.2.2) (fun hn_ => (Kd.freshB (g := gb448) (o := .cells #[.slice Ao55 x449000_2.length co55, .int .i64 x449001_2] 24 (0, 0)) (by (with_reducible repeat (first | apply bN | apply bD | apply bA)); exact BK448.out) k_ hn_))⟩)) (below_size (by repeat (first | (with_reducible first | exact HB.out | apply below_alloc | apply pw_below_drewN | apply below_drew1 | refine below_set ?_ GE448.out) | exact HB.out)))); have n5_ := a0 (Kd.R_lower (Kd.R_newM (M := fun k_ => (w.heap.size ≤ k_)) (Kd.R_mono (ok' := fun k_ => True) ho1 (fun _ hk_ => trivial)) (below_size (by repeat (first | (with_reducible first | exact HB.out | apply below_alloc | apply pw_below_drewN | apply below_drew1 | refine below_set ?_ GE448.out) | exact HB.out))) (fun k_ h_ => h_)) (below_size (by repeat (first | (with_reducible first | exact HB.out | apply below_alloc | apply pw_below_drewN | apply below_drew1 | refine below_set ?_ GE448.out) | exact HB.out)))); have n6_ := a0 (blk_below (g := gb448) (o := .cells #[.slice Ao55 x449000_2.length co55, .int .i64 x449001_2] 24 (0, 0)) (by (with_reducible repeat (first | apply bN | apply bD | apply bA)); exact BK448.out) hb); have n7_ := a0 (below_step (by repeat (first | (with_reducible first | exact HB.out | apply below_alloc | apply pw_below_drewN | apply below_drew1 | refine below_set ?_ GE448.out) | exact HB.out)) hb); clear HO_0; clear HO_4; clear HO_9; clear HO_449000; clear BK448; clear HB; have HO_0 := n0_; have HO_4 := n1_; have HO_9 := n2_; have HO_449000 := n3_; have HO462 := n4_; have HO466 := n5_; have BK448 := n6_; have HB := n7_; clear n0_ n1_ n2_ n3_ n4_ n5_ n6_ n7_; (try clear hb); (try clear hb2); (try clear hk); (try clear hi); (try clear ho0); (try clear ho1)) | ((with_reducible refine gate_dst (N := 11) rfl ?_); (try (refine gate_guard (by rfl) ?_; dsimp only)); refine box_event ?hg (N := 11) ?hd (cs := #[.slice none 0 0, .int .i64 0]) (t := 24) ?hr ?_; (case hd => rfl); (case hg => rfl); (case hr => first | (go_simp; done) | (go_simp; rfl)); intro gb468 hg w57 hbox hb; have n0_ := a0 (Kd.V_below (Kd.V_elderB (by (with_reducible repeat (first | apply vA | apply vN | apply vD)); exact HO_0.out) gb468 (Nat.le_of_eq hg.symm)) hb); have n1_ := a0 (Kd.N_below (Kd.N_elderB (by (with_reducible repeat (first | apply Kd.N_alloc | apply Kd.N_drewN | apply Kd.N_drew)); exact HO_4.out) gb468 (Nat.le_of_eq hg.symm)) hb); have n2_ := a0 (Kd.N_below (Kd.N_elderB (by (with_reducible repeat (first | apply Kd.N_alloc | apply Kd.N_drewN | apply Kd.N_drew)); exact HO_9.out) gb468 (Nat.le_of_eq hg.symm)) hb); have n3_ := a0 (Kd.V_below (Kd.V_elderB (by (with_reducible repeat (first | apply vA | apply vN | apply vD)); exact HO_449000.out) gb468 (Nat.le_of_eq hg.symm)) hb); have n4_ := a0 (Kd.V_below (Kd.V_elderB (by (with_reducible repeat (first | apply vA | apply vN | apply vD)); exact HO462.out) gb468 (Nat.le_of_eq hg.symm)) hb); have n6_ := a0 (blk_below (g := gb448) (o := .cells #[.slice Ao55 x449000_2.length co55, .int .i64 x449001_2] 24 (0, 0)) (by (with_reducible repeat (first | apply bN | apply bD | apply bA)); exact BK448.out) hb); have n7_ := a0 (below_step (by repeat (first | (with_reducible first | exact HB.out | apply below_alloc | apply pw_below_drewN | apply below_drew1 | refine below_set ?_ GE448.out) | exact HB.out)) hb); have n8_ := a0 (hbox); have n9_ := a0 ((by rw [hg]; exact (below_size (by repeat (first | (with_reducible first | exact HB.out | apply below_alloc | apply pw_below_drewN | apply below_drew1 | refine below_set ?_ GE448.out) | exact HB.out))) : w.heap.size ≤ gb468)); have n10_ := a0 ((by rw [hg]; exact (below_size (by repeat (first | (with_reducible first | exact HB.out | apply below_alloc | apply pw_below_drewN | apply below_drew1 | refine below_set ?_ GE448.out) | exact HB.out))) : w.heap.size ≤ gb468)); have n11_ := a0 ((by rw [hg]; exact Nat.ne_of_lt (blk_lt (g := gb448) (o := .cells #[.slice Ao55 x449000_2.length co55, .int .i64 x449001_2] 24 (0, 0)) (by (with_reducible repeat (first | apply bN | apply bD | apply bA)); exact BK448.out)) : gb448 ≠ gb468)); have n12_ := a0 ((by rw [hg]; exact Nat.ne_of_gt (blk_lt (g := gb448) (o := .cells #[.slice Ao55 x449000_2.length co55, .int .i64 x449001_2] 24 (0, 0)) (by (with_reducible repeat (first | apply bN | apply bD | apply bA)); exact BK448.out)) : gb468 ≠ gb448)); clear HO_0; clear HO_4; clear HO_9; clear HO_449000; clear HO462; clear BK448; clear HB; have HO_0 := n0_; have HO_4 := n1_; have HO_9 := n2_; have HO_449000 := n3_; have HO462 := n4_; have BK448 := n6_; have HB := n7_; have BK468 := n8_; have GW468 := n9_; have GE468 := n10_; have NB448_468 := n11_; have NB468_448 := n12_; clear n0_ n1_ n2_ n3_ n4_ n6_ n7_ n8_ n9_ n10_ n11_ n12_; clear hb hbox hg; obtain ⟨Ao58, co58, eo58⟩ := Kd.V_slice HO462.out; subst eo58; have hnb59 := NB468_448.out; have hnc59 := NB448_468.out; have hcz60_0 : w57.cell? ⟨gb468, 0, none⟩ = some (.slice none 0 0) := (blk_cell BK468.out 0).trans rfl; have hcz60_1 : w57.cell? ⟨gb468, 1, none⟩ = some (.int .i64 0) := (blk_cell BK468.out 1).trans rfl; have hfz60_0 := blk_frozen BK468.out 0; have hfz60_1 := blk_frozen BK468.out 1))
          go_meet
          case rel => exact ⟨_, (x9_2), (x449000_2), (x449001_2), (.slice Ao55 x449000_2.length co55), H', ⟨by have := HK1.out; have := HK2.out; first | omega | exact Nat.le_refl _⟩, ⟨by (with_reducible repeat (first | apply vA | apply vN | apply vD)); exact Kd.V_mono (Kd.V_far (p := ⟨gb468, 1, none⟩) (Kd.V_far (p := ⟨gb468, 0, none⟩) (Kd.V_mono HO_0.out (fun k_ hk => (⟨hk, hk.2⟩ : _ ∧ k_ ≠ gb468))) (fun _ hk => hk.2) (.slice Ao58 t460.length co58)) (fun _ hk => hk.2) (.int .i64 t463)) (fun _ hk => ⟨hk.1.1.1.1, ⟨hk.1.1.1.2.1, ⟨hk.1.1.1.2.2.1, hk.1.1.1.2.2.2⟩⟩⟩)⟩, ⟨by (with_reducible repeat (first | apply Kd.N_alloc | apply Kd.N_drewN | apply Kd.N_drew)); exact Kd.N_mono (Kd.N_far (p := ⟨gb468, 1, none⟩) (Kd.N_far (p := ⟨gb468, 0, none⟩) (Kd.N_mono HO_4.out (fun k_ hk => (⟨hk, hk.2⟩ : _ ∧ k_ ≠ gb468))) (fun _ hk => hk.2) (.slice Ao58 t460.length co58)) (fun _ hk => hk.2) (.int .i64 t463)) (fun _ hk => ⟨hk.1.1.1.1, ⟨hk.1.1.1.2.1, hk.1.1.1.2.2⟩⟩)⟩, ⟨by (with_reducible repeat (first | apply Kd.N_alloc | apply Kd.N_drewN | apply Kd.N_drew)); exact Kd.N_mono (Kd.N_far (p := ⟨gb468, 1, none⟩) (Kd.N_far (p := ⟨gb468, 0, none⟩) (Kd.N_mono HO_9.out (fun k_ hk => (⟨hk, hk.2⟩ : _ ∧ k_ ≠ gb468))) (fun _ hk => hk.2) (.slice Ao58 t460.length co58)) (fun _ hk => hk.2) (.int .i64 t463)) (fun _ hk => ⟨hk.1.1.1.1, ⟨hk.1.1.1.2.1, hk.1.1.1.2.2⟩⟩)⟩, ⟨by (with_reducible repeat (first | apply vA | apply vN | apply vD)); exact Kd.V_mono (Kd.V_far (p := ⟨gb468, 1, none⟩) (Kd.V_far (p := ⟨gb468, 0, none⟩) (Kd.V_mono HO_449000.out (fun k_ hk => (⟨hk, hk.2⟩ : _ ∧ k_ ≠ gb468))) (fun _ hk => hk.2) (.slice Ao58 t460.length co58)) (fun _ hk => hk.2) (.int .i64 t463)) (fun _ hk => ⟨hk.1.1.1.1, ⟨hk.1.1.1.2.1, ⟨hk.1.1.1.2.2.1, hk.1.1.1.2.2.2⟩⟩⟩)⟩, ⟨by (with_reducible repeat (first | apply bN | apply bD | apply bA)); refine blk_far ?_ NB448_468.out _; (with_reducible repeat (first | apply bN | apply bD | apply bA)); refine blk_far ?_ NB448_468.out _; (with_reducible repeat (first | apply bN | apply bD | apply bA)); exact BK448.out⟩, ⟨by repeat (first | (with_reducible first | exact HB.out | apply below_alloc | apply pw_below_drewN | apply below_drew1 | refine below_set ?_ GE448.out | refine below_set ?_ GE468.out) | exact HB.out)⟩⟩
        ·rw [if_neg c38] at H
         have c38b0 : decide (x10_2 < 40) = false := decide_eq_false c38
         clear c38
         (first | rw [c38b0] | (simp only [i64_w, i32_w]; rw [c38b0]) | skip)
         have H' := a0 H
         clear H
         go_wp2
         go_meet
         case rel => exact ⟨_, (x9_2), (x449000_2), (x449001_2), (u449000), H', ⟨by have := HK1.out; have := HK2.out; first | omega | exact Nat.le_refl _⟩, ⟨by (with_reducible repeat (first | apply vA | apply vN | apply vD)); exact HO_0.out⟩, ⟨by (with_reducible repeat (first | apply Kd.N_alloc | apply Kd.N_drewN | apply Kd.N_drew)); exact HO_4.out⟩, ⟨by (with_reducible repeat (first | apply Kd.N_alloc | apply Kd.N_drewN | apply Kd.N_drew)); exact HO_9.out⟩, ⟨by (with_reducible repeat (first | apply vA | apply vN | apply vD)); exact HO_449000.out⟩, ⟨by (with_reducible repeat (first | apply bN | apply bD | apply bA)); exact BK448.out⟩, ⟨by repeat (first | (with_reducible first | exact HB.out | apply below_alloc | apply pw_below_drewN | apply below_drew1 | refine below_set ?_ GE448.out) | exact HB.out)⟩⟩
     case rest =>
      clear HC36
      try clear c1
      try clear c2
      try clear p2
      try clear c3
      try clear c4
      try clear p4
      try clear q4
      try clear hx4
      try clear c5
      try clear p6
      try clear c7
      try clear c7b0
      try clear c8
      try clear c10
      try clear c11
      try clear c22
      try clear c33
      try clear c38
      try clear c38b0
      try clear c40
      try clear c41
      try clear c44
      try clear p44
      try clear q44
      try clear hx44
      try clear c45
      try clear p45
      try clear q45
      try clear hx45
      try clear c47
      try clear c59
      try clear hcz23_0
      try clear hcz23_1
      try clear hcz24_0
      try clear hcz24_1
      try clear hcz34_0
      try clear hcz34_1
      try clear hcz35_0
      try clear hcz35_1
      try clear hcz37_0
      try clear hcz37_1
      try clear hcz42_0
      try clear hcz42_1
      try clear hcz48_0
      try clear hcz48_1
      try clear hcz52_0
      try clear hcz52_1
      try clear hcz53_0
      try clear hcz53_1
      try clear hcz54_0
      try clear hcz54_1
      try clear hcz60_0
      try clear hcz60_1
      try clear hfz23_0
      try clear hfz23_1
      try clear hfz24_0
      try clear hfz24_1
      try clear hfz34_0
      try clear hfz34_1
      try clear hfz35_0
      try clear hfz35_1
      try clear hfz37_0
      try clear hfz37_1
      try clear hfz42_0
      try clear hfz42_1
      try clear hfz48_0
      try clear hfz48_1
      try clear hfz52_0
      try clear hfz52_1
      try clear hfz53_0
      try clear hfz53_1
      try clear hfz54_0
      try clear hfz54_1
      try clear hfz60_0
      try clear hfz60_1
      try clear hx449_0
      try clear hx456_0
      try clear p2
      try clear p4
      try clear p449
      try clear p456
      try clear p6
      try clear q4
      try clear q449
      try clear q456
      obtain ⟨kq, x9_35, x449000_35, x449001_35, u449000, HA, HJ35, HO_0, HO_4, HO_9, HO_449000, BK448, HB⟩ := hcut
      cases kq with
      | zero => exact absurd HA.out (by simp [drawbridgelaw23_LinkOrder.j2])
      | succ kj35 =>
       have H := HA.out
       clear HA
       simp only [drawbridgelaw23_LinkOrder.j2] at H
       have H' := a0 H
       clear H
       go_wp2
       go_loopg [14, 15] kj35 (fun kq v14 v15 w' => ∃ (x14_3 : Int) (x15_3 : Int), v14 = .int .i64 x14_3 ∧ v15 = .int .i64 x15_3 ∧ Aside0 (drawbridgelaw23_LinkOrder.l2 kq l0 x4_1 x449001_1 x9_35 x14_3 x15_3 x449000_35 x449001_35 = some r) ∧ Aside0 (kq ≤ kj35) ∧ Aside0 (Kd.V (Kd.slice 5 (Kd.int .u8)) 25 w' w.heap.size (fun k_ => (P0_ k_ ∨ w.heap.size ≤ k_) ∧ some k_ ≠ (u4 : Value).ownBlock ∧ some k_ ≠ (u9 : Value).ownBlock ∧ k_ ≠ gb448) (.slice A0 l0.length c0) l0) ∧ Aside0 (Kd.N (Kd.slice 5 (Kd.int .u8)) 25 w' w.heap.size (fun k_ => (P0_ k_ ∨ w.heap.size ≤ k_) ∧ some k_ ≠ (u9 : Value).ownBlock ∧ k_ ≠ gb448) u4 x4_1) ∧ Aside0 (Kd.N (Kd.slice 5 (Kd.int .u8)) 25 w' w.heap.size (fun k_ => (P0_ k_ ∨ w.heap.size ≤ k_) ∧ some k_ ≠ (u4 : Value).ownBlock ∧ k_ ≠ gb448) u9 x9_35) ∧ Aside0 (Kd.V (Kd.slice 5 (Kd.int .u8)) 25 w' w.heap.size (fun k_ => (P0_ k_ ∨ w.heap.size ≤ k_) ∧ some k_ ≠ (u4 : Value).ownBlock ∧ some k_ ≠ (u9 : Value).ownBlock ∧ k_ ≠ gb448) u449000 x449000_35) ∧ Aside0 (w'.heap[gb448]? = some (.cells #[u449000, .int .i64 x449001_35] 24 (0, 0))) ∧ Aside0 (Below w.heap.size w w'))
       case atStart => exact ⟨(0), (0), (by first | rfl | (simp; done) | (simp [*]; done)), (by first | rfl | (simp; done) | (simp [*]; done)), H', ⟨Nat.le_refl _⟩, ⟨by (with_reducible repeat (first | apply vA | apply vN | apply vD)); exact HO_0.out⟩, ⟨by (with_reducible repeat (first | apply Kd.N_alloc | apply Kd.N_drewN | apply Kd.N_drew)); exact HO_4.out⟩, ⟨by (with_reducible repeat (first | apply Kd.N_alloc | apply Kd.N_drewN | apply Kd.N_drew)); exact HO_9.out⟩, ⟨by (with_reducible repeat (first | apply vA | apply vN | apply vD)); exact HO_449000.out⟩, ⟨by (with_reducible repeat (first | apply bN | apply bD | apply bA)); exact BK448.out⟩, ⟨by repeat (first | (with_reducible first | exact HB.out | apply below_alloc | apply pw_below_drewN | apply below_drew1 | refine below_set ?_ GE448.out) | exact HB.out)⟩⟩
       case round =>
        clear H'
        try clear c1
        try clear c2
        try clear p2
        try clear c3
        try clear c4
        try clear p4
        try clear q4
        try clear hx4
        try clear c5
        try clear p6
        try clear c7
        try clear c7b0
        try clear c8
        try clear c10
        try clear c11
        try clear c22
        try clear c33
        try clear c38
        try clear c38b0
        try clear c40
        try clear c41
        try clear c44
        try clear p44
        try clear q44
        try clear hx44
        try clear c45
        try clear p45
        try clear q45
        try clear hx45
        try clear c47
        try clear c59
        try clear hcz23_0
        try clear hcz23_1
        try clear hcz24_0
        try clear hcz24_1
        try clear hcz34_0
        try clear hcz34_1
        try clear hcz35_0
        try clear hcz35_1
        try clear hcz37_0
        try clear hcz37_1
        try clear hcz42_0
        try clear hcz42_1
        try clear hcz48_0
        try clear hcz48_1
        try clear hcz52_0
        try clear hcz52_1
        try clear hcz53_0
        try clear hcz53_1
        try clear hcz54_0
        try clear hcz54_1
        try clear hcz60_0
        try clear hcz60_1
        try clear hfz23_0
        try clear hfz23_1
        try clear hfz24_0
        try clear hfz24_1
        try clear hfz34_0
        try clear hfz34_1
        try clear hfz35_0
        try clear hfz35_1
        try clear hfz37_0
        try clear hfz37_1
        try clear hfz42_0
        try clear hfz42_1
        try clear hfz48_0
        try clear hfz48_1
        try clear hfz52_0
        try clear hfz52_1
        try clear hfz53_0
        try clear hfz53_1
        try clear hfz54_0
        try clear hfz54_1
        try clear hfz60_0
        try clear hfz60_1
        try clear hx449_0
        try clear hx456_0
        try clear p2
        try clear p4
        try clear p44
        try clear p449
        try clear p45
        try clear p456
        try clear p6
        try clear q4
        try clear q44
        try clear q449
        try clear q45
        try clear q456
        obtain ⟨x14_3, x15_3, rfl, rfl, HA, HK3, HO_0, HO_4, HO_9, HO_449000, BK448, HB⟩ := hrel
        cases gk with
        | zero => exact absurd HA.out (by simp [drawbridgelaw23_LinkOrder.l2])
        | succ k3 =>
         have H := HA.out
         clear HA
         simp only [drawbridgelaw23_LinkOrder.l2] at H
         by_cases c61 : x15_3 < (l0.length : Int)
         ·rw [if_pos c61] at H
          have c61b0 : decide (x15_3 < (l0.length : Int)) = true := decide_eq_true c61
          clear c61
          by_cases c62 : 0 ≤ x15_3
          ·rw [if_pos c62] at H
           have c62b0 : decide (0 ≤ x15_3) = true := decide_eq_true c62
           clear c62
           by_cases c63 : ((rd_L1 l0 x15_3).length : Int) ≥ 14
           ·rw [if_pos c63] at H
            have c63b0 : decide (14 ≤ ((rd_L1 l0 x15_3).length : Int)) = true := decide_eq_true c63
            have c63b1 : decide (14 ≤ (rd_L1 l0 x15_3).length) = true := decide_eq_true (by omega)
            clear c63
            by_cases c64 : ((rd_L1 l0 x15_3).length : Int) ≤ 1514
            ·rw [if_pos c64] at H
             have c64b0 : decide (((rd_L1 l0 x15_3).length : Int) ≤ 1514) = true := decide_eq_true c64
             have c64b1 : decide ((rd_L1 l0 x15_3).length ≤ 1514) = true := decide_eq_true (by omega)
             clear c64
             have H' := a0 H
             clear H
             have p472 : 0 ≤ (x15_3 : Int) := of_decide_eq_true (by first | (with_reducible assumption) | assumption)
             have q472 : x15_3 < (l0.length : Int) := of_decide_eq_true (by first | (with_reducible assumption) | assumption)
             obtain ⟨ad472, A472_0, c472_0, e472, hx472_0, hl472_0, hi472_0⟩ := at_L1 (Kd.V_reads' HO_0.out).2.2 x15_3 p472 q472
             cases e472
             obtain ⟨ce472, hce472, hMe472, hcc472⟩ := Kd.V_get HO_0.out [] x15_3 p472 (by first | exact q472 | exact of_decide_eq_true (by first | (with_reducible assumption) | assumption) | (have e_ := (Kd.V_reads' HO_0.out).1; omega))
             obtain ⟨ua472_0, uc472_0, rfl, ul472_0, ge472_0⟩ := Kd.FK_slice_open hMe472
             have hv472_0 := hcc472 0 _ rfl
             rw [Nat.add_zero, show ((Kd.slice 5 (Kd.int .u8))).sz = 1 from rfl, Nat.mul_one] at hv472_0
             replace hv472_0 := Option.some.inj (hv472_0.symm.trans hx472_0)
             injection hv472_0 with hva_ hvn_ hvc_
             rw [hva_] at ge472_0
             rw [hvc_] at ul472_0
             have HL472_0 := a0 (show Kd.V (Kd.int .u8) 5 _ w.heap.size _ _ (rd_L1 l0 x15_3) from Kd.V_mk ul472_0 ge472_0)
             clear hva_ hvn_ hvc_ ge472_0 ul472_0
             clear hcc472 hce472
             have HR472_0 := a0 hi472_0
             have HC472_0 := a0 hl472_0
             clear hi472_0 hl472_0
             replace p472 := eq_true p472
             replace q472 := eq_true q472
             have p473 : 0 ≤ (x15_3 : Int) := of_decide_eq_true (by first | (with_reducible assumption) | assumption)
             have q473 : x15_3 < (l0.length : Int) := of_decide_eq_true (by first | (with_reducible assumption) | assumption)
             obtain ⟨ad473, A473_0, c473_0, e473, hx473_0, hl473_0, hi473_0⟩ := at_L1 (Kd.V_reads' HO_0.out).2.2 x15_3 p473 q473
             obtain rfl : ad472 = ad473 := (by injection e473)
             obtain ⟨ce473, hce473, hMe473, hcc473⟩ := Kd.V_get HO_0.out [] x15_3 p473 (by first | exact q473 | exact of_decide_eq_true (by first | (with_reducible assumption) | assumption) | (have e_ := (Kd.V_reads' HO_0.out).1; omega))
             obtain ⟨ua473_0, uc473_0, rfl, ul473_0, ge473_0⟩ := Kd.FK_slice_open hMe473
             have hv473_0 := hcc473 0 _ rfl
             rw [Nat.add_zero, show ((Kd.slice 5 (Kd.int .u8))).sz = 1 from rfl, Nat.mul_one] at hv473_0
             replace hv473_0 := Option.some.inj (hv473_0.symm.trans hx473_0)
             injection hv473_0 with hva_ hvn_ hvc_
             rw [hva_] at ge473_0
             rw [hvc_] at ul473_0
             have HL473_0 := a0 (show Kd.V (Kd.int .u8) 5 _ w.heap.size _ _ (rd_L1 l0 x15_3) from Kd.V_mk ul473_0 ge473_0)
             clear hva_ hvn_ hvc_ ge473_0 ul473_0
             clear hcc473 hce473
             have HR473_0 := a0 hi473_0
             have HC473_0 := a0 hl473_0
             clear hi473_0 hl473_0
             replace p473 := eq_true p473
             replace q473 := eq_true q473
             have ea_ := Option.some.inj (hx472_0.symm.trans hx473_0)
             injection ea_ with ea_ en_ ec_
             subst ea_
             subst ec_
             clear en_
             go_wp2
             go_roundg k3
             case measure => have := HK1.out; have := HJ35.out; have := HK3.out; omega
             case rel => exact ⟨(wrap64 (x14_3 + 1)), (wrap64 (x15_3 + 1)), (by first | rfl | (simp; done) | (simp [*]; done)), (by first | rfl | (simp; done) | (simp [*]; done)), H', ⟨by have := HK1.out; have := HJ35.out; have := HK3.out; omega⟩, ⟨by (with_reducible repeat (first | apply vA | apply vN | apply vD)); exact HO_0.out⟩, ⟨by (with_reducible repeat (first | apply Kd.N_alloc | apply Kd.N_drewN | apply Kd.N_drew)); exact HO_4.out⟩, ⟨by (with_reducible repeat (first | apply Kd.N_alloc | apply Kd.N_drewN | apply Kd.N_drew)); exact HO_9.out⟩, ⟨by (with_reducible repeat (first | apply vA | apply vN | apply vD)); exact HO_449000.out⟩, ⟨by (with_reducible repeat (first | apply bN | apply bD | apply bA)); exact BK448.out⟩, ⟨by repeat (first | (with_reducible first | exact HB.out | apply below_alloc | apply pw_below_drewN | apply below_drew1 | refine below_set ?_ GE448.out) | exact HB.out)⟩⟩
            ·rw [if_neg c64] at H
             have c64b0 : decide (((rd_L1 l0 x15_3).length : Int) ≤ 1514) = false := decide_eq_false c64
             have c64b1 : decide ((rd_L1 l0 x15_3).length ≤ 1514) = false := decide_eq_false (by omega)
             clear c64
             have H' := a0 H
             clear H
             have p472 : 0 ≤ (x15_3 : Int) := of_decide_eq_true (by first | (with_reducible assumption) | assumption)
             have q472 : x15_3 < (l0.length : Int) := of_decide_eq_true (by first | (with_reducible assumption) | assumption)
             obtain ⟨ad472, A472_0, c472_0, e472, hx472_0, hl472_0, hi472_0⟩ := at_L1 (Kd.V_reads' HO_0.out).2.2 x15_3 p472 q472
             cases e472
             obtain ⟨ce472, hce472, hMe472, hcc472⟩ := Kd.V_get HO_0.out [] x15_3 p472 (by first | exact q472 | exact of_decide_eq_true (by first | (with_reducible assumption) | assumption) | (have e_ := (Kd.V_reads' HO_0.out).1; omega))
             obtain ⟨ua472_0, uc472_0, rfl, ul472_0, ge472_0⟩ := Kd.FK_slice_open hMe472
             have hv472_0 := hcc472 0 _ rfl
             rw [Nat.add_zero, show ((Kd.slice 5 (Kd.int .u8))).sz = 1 from rfl, Nat.mul_one] at hv472_0
             replace hv472_0 := Option.some.inj (hv472_0.symm.trans hx472_0)
             injection hv472_0 with hva_ hvn_ hvc_
             rw [hva_] at ge472_0
             rw [hvc_] at ul472_0
             have HL472_0 := a0 (show Kd.V (Kd.int .u8) 5 _ w.heap.size _ _ (rd_L1 l0 x15_3) from Kd.V_mk ul472_0 ge472_0)
             clear hva_ hvn_ hvc_ ge472_0 ul472_0
             clear hcc472 hce472
             have HR472_0 := a0 hi472_0
             have HC472_0 := a0 hl472_0
             clear hi472_0 hl472_0
             replace p472 := eq_true p472
             replace q472 := eq_true q472
             have p473 : 0 ≤ (x15_3 : Int) := of_decide_eq_true (by first | (with_reducible assumption) | assumption)
             have q473 : x15_3 < (l0.length : Int) := of_decide_eq_true (by first | (with_reducible assumption) | assumption)
             obtain ⟨ad473, A473_0, c473_0, e473, hx473_0, hl473_0, hi473_0⟩ := at_L1 (Kd.V_reads' HO_0.out).2.2 x15_3 p473 q473
             obtain rfl : ad472 = ad473 := (by injection e473)
             obtain ⟨ce473, hce473, hMe473, hcc473⟩ := Kd.V_get HO_0.out [] x15_3 p473 (by first | exact q473 | exact of_decide_eq_true (by first | (with_reducible assumption) | assumption) | (have e_ := (Kd.V_reads' HO_0.out).1; omega))
             obtain ⟨ua473_0, uc473_0, rfl, ul473_0, ge473_0⟩ := Kd.FK_slice_open hMe473
             have hv473_0 := hcc473 0 _ rfl
             rw [Nat.add_zero, show ((Kd.slice 5 (Kd.int .u8))).sz = 1 from rfl, Nat.mul_one] at hv473_0
             replace hv473_0 := Option.some.inj (hv473_0.symm.trans hx473_0)
             injection hv473_0 with hva_ hvn_ hvc_
             rw [hva_] at ge473_0
             rw [hvc_] at ul473_0
             have HL473_0 := a0 (show Kd.V (Kd.int .u8) 5 _ w.heap.size _ _ (rd_L1 l0 x15_3) from Kd.V_mk ul473_0 ge473_0)
             clear hva_ hvn_ hvc_ ge473_0 ul473_0
             clear hcc473 hce473
             have HR473_0 := a0 hi473_0
             have HC473_0 := a0 hl473_0
             clear hi473_0 hl473_0
             replace p473 := eq_true p473
             replace q473 := eq_true q473
             have ea_ := Option.some.inj (hx472_0.symm.trans hx473_0)
             injection ea_ with ea_ en_ ec_
             subst ea_
             subst ec_
             clear en_
             go_wp2
             go_roundg k3
             case measure => have := HK1.out; have := HJ35.out; have := HK3.out; omega
             case rel => exact ⟨(x14_3), (wrap64 (x15_3 + 1)), (by first | rfl | (simp; done) | (simp [*]; done)), (by first | rfl | (simp; done) | (simp [*]; done)), H', ⟨by have := HK1.out; have := HJ35.out; have := HK3.out; omega⟩, ⟨by (with_reducible repeat (first | apply vA | apply vN | apply vD)); exact HO_0.out⟩, ⟨by (with_reducible repeat (first | apply Kd.N_alloc | apply Kd.N_drewN | apply Kd.N_drew)); exact HO_4.out⟩, ⟨by (with_reducible repeat (first | apply Kd.N_alloc | apply Kd.N_drewN | apply Kd.N_drew)); exact HO_9.out⟩, ⟨by (with_reducible repeat (first | apply vA | apply vN | apply vD)); exact HO_449000.out⟩, ⟨by (with_reducible repeat (first | apply bN | apply bD | apply bA)); exact BK448.out⟩, ⟨by repeat (first | (with_reducible first | exact HB.out | apply below_alloc | apply pw_below_drewN | apply below_drew1 | refine below_set ?_ GE448.out) | exact HB.out)⟩⟩
           ·rw [if_neg c63] at H
            have c63b0 : decide (14 ≤ ((rd_L1 l0 x15_3).length : Int)) = false := decide_eq_false c63
            have c63b1 : decide (14 ≤ (rd_L1 l0 x15_3).length) = false := decide_eq_false (by omega)
            clear c63
            have H' := a0 H
            clear H
            have p472 : 0 ≤ (x15_3 : Int) := of_decide_eq_true (by first | (with_reducible assumption) | assumption)
            have q472 : x15_3 < (l0.length : Int) := of_decide_eq_true (by first | (with_reducible assumption) | assumption)
            obtain ⟨ad472, A472_0, c472_0, e472, hx472_0, hl472_0, hi472_0⟩ := at_L1 (Kd.V_reads' HO_0.out).2.2 x15_3 p472 q472
            cases e472
            obtain ⟨ce472, hce472, hMe472, hcc472⟩ := Kd.V_get HO_0.out [] x15_3 p472 (by first | exact q472 | exact of_decide_eq_true (by first | (with_reducible assumption) | assumption) | (have e_ := (Kd.V_reads' HO_0.out).1; omega))
            obtain ⟨ua472_0, uc472_0, rfl, ul472_0, ge472_0⟩ := Kd.FK_slice_open hMe472
            have hv472_0 := hcc472 0 _ rfl
            rw [Nat.add_zero, show ((Kd.slice 5 (Kd.int .u8))).sz = 1 from rfl, Nat.mul_one] at hv472_0
            replace hv472_0 := Option.some.inj (hv472_0.symm.trans hx472_0)
            injection hv472_0 with hva_ hvn_ hvc_
            rw [hva_] at ge472_0
            rw [hvc_] at ul472_0
            have HL472_0 := a0 (show Kd.V (Kd.int .u8) 5 _ w.heap.size _ _ (rd_L1 l0 x15_3) from Kd.V_mk ul472_0 ge472_0)
            clear hva_ hvn_ hvc_ ge472_0 ul472_0
            clear hcc472 hce472
            have HR472_0 := a0 hi472_0
            have HC472_0 := a0 hl472_0
            clear hi472_0 hl472_0
            replace p472 := eq_true p472
            replace q472 := eq_true q472
            go_wp2
            go_roundg k3
            case measure => have := HK1.out; have := HJ35.out; have := HK3.out; omega
            case rel => exact ⟨(x14_3), (wrap64 (x15_3 + 1)), (by first | rfl | (simp; done) | (simp [*]; done)), (by first | rfl | (simp; done) | (simp [*]; done)), H', ⟨by have := HK1.out; have := HJ35.out; have := HK3.out; omega⟩, ⟨by (with_reducible repeat (first | apply vA | apply vN | apply vD)); exact HO_0.out⟩, ⟨by (with_reducible repeat (first | apply Kd.N_alloc | apply Kd.N_drewN | apply Kd.N_drew)); exact HO_4.out⟩, ⟨by (with_reducible repeat (first | apply Kd.N_alloc | apply Kd.N_drewN | apply Kd.N_drew)); exact HO_9.out⟩, ⟨by (with_reducible repeat (first | apply vA | apply vN | apply vD)); exact HO_449000.out⟩, ⟨by (with_reducible repeat (first | apply bN | apply bD | apply bA)); exact BK448.out⟩, ⟨by repeat (first | (with_reducible first | exact HB.out | apply below_alloc | apply pw_below_drewN | apply below_drew1 | refine below_set ?_ GE448.out) | exact HB.out)⟩⟩
          ·rw [if_neg c62] at H
           exact absurd H (by simp)
         ·rw [if_neg c61] at H
          have c61b0 : decide (x15_3 < (l0.length : Int)) = false := decide_eq_false c61
          clear c61
          replace H := Option.bind_eq_some_iff.mp H
          obtain ⟨t474, A650, H⟩ := H
          replace H : (if t474 = true then (if (x4_1.length : Int) = (mn x14_3 32) then (if x449001_1 = (wrap64 (x14_3 - (x4_1.length : Int))) then (if (x449000_35.length : Int) = 0 then ((drawbridgelaw23_heads.f k3).bind fun t475 => (some t475)) else (some false)) else (some false)) else (some false)) else (some false)) = some r := H
          have A65 := a0 A650
          clear A650
          by_cases c66 : t474 = true
          ·subst c66
           have H1 : (if (x4_1.length : Int) = (mn x14_3 32) then (if x449001_1 = (wrap64 (x14_3 - (x4_1.length : Int))) then (if (x449000_35.length : Int) = 0 then ((drawbridgelaw23_heads.f k3).bind fun t475 => (some t475)) else (some false)) else (some false)) else (some false)) = some r := by rw [if_pos rfl] at H; exact H
           clear H
           have H := H1
           clear H1
           obtain ⟨ji67, hji67⟩ : ∃ j_ : Int, (mn x14_3 32) = j_ := ⟨_, rfl⟩
           replace H : (if (x4_1.length : Int) = (ji67) then (if x449001_1 = (wrap64 (x14_3 - (x4_1.length : Int))) then (if (x449000_35.length : Int) = 0 then ((drawbridgelaw23_heads.f k3).bind fun t475 => (some t475)) else (some false)) else (some false)) else (some false)) = some r := by first | (rw [hji67] at H; exact H) | (simp only [hji67] at H ⊢; exact H)
           (try rw [hji67] at A65)
           have hji67_ : (if 32 < x14_3 then 32 else x14_3) = ji67 := hji67
           by_cases c68 : (x4_1.length : Int) = (ji67)
           ·rw [if_pos c68] at H
            have c68b0 : ((x4_1.length : Int) == (ji67)) = true := beq_iff_eq.mpr c68
            have c68b1 : ((x4_1.length : Int) != (ji67)) = false := bne_eq_false_iff_eq.mpr c68
            clear c68
            by_cases c69 : x449001_1 = (wrap64 (x14_3 - (x4_1.length : Int)))
            ·rw [if_pos c69] at H
             have c69b0 : (x449001_1 == (wrap64 (x14_3 - (x4_1.length : Int)))) = true := beq_iff_eq.mpr c69
             have c69b1 : (x449001_1 != (wrap64 (x14_3 - (x4_1.length : Int)))) = false := bne_eq_false_iff_eq.mpr c69
             clear c69
             by_cases c70 : (x449000_35.length : Int) = 0
             ·rw [if_pos c70] at H
              have c70b0 : ((x449000_35.length : Int) == 0) = true := beq_iff_eq.mpr c70
              have c70b1 : ((x449000_35.length : Int) != 0) = false := bne_eq_false_iff_eq.mpr c70
              clear c70
              replace H := Option.bind_eq_some_iff.mp H
              obtain ⟨t475, A710, H⟩ := H
              replace H : (some t475) = some r := H
              have A71 := a0 A710
              clear A710
              obtain rfl := Option.some.inj H
              obtain ⟨Ao72, co72, eo72⟩ := Kd.N_slice HO_4.out
              subst eo72
              obtain ⟨Ao73, co73, eo73⟩ := Kd.N_slice HO_9.out
              subst eo73
              go_wp2_with (first | ((with_reducible refine gate_callee (f := 22) rfl ?_); refine goesL_ (some 88) rfl rfl Try.func22 (by kernel_rfl) rfl #[.slice Ao72 x4_1.length co72, .slice Ao73 x9_35.length co73] rfl (by (try simp only [List.map_toArray, List.map_cons, List.map_nil]); first | done | rfl | (simp only [List.length_drop, List.length_take]; rfl)) ?_; (with_reducible refine (drawbridgeref23_Lists.calls k3 _ _ x4_1 _ _ x9_35 true _ ?side1 ?side2 ?side3 ?side4 A65.out).mono ?_); (case side1 => repeat (first | exact (Kd.N_reads' HO_4.out).2.2 | (with_reducible refine Kd.C_alloc ?_ _) | (with_reducible refine Kd.C_drewN ?_ _) | (with_reducible refine Kd.C_drew ?_))); (case side2 => exact (Kd.N_reads' HO_4.out).2.1); (case side3 => repeat (first | exact (Kd.N_reads' HO_9.out).2.2 | (with_reducible refine Kd.C_alloc ?_ _) | (with_reducible refine Kd.C_drewN ?_ _) | (with_reducible refine Kd.C_drew ?_))); (case side4 => exact (Kd.N_reads' HO_9.out).2.1); rintro e w' ⟨rfl, ⟨nd, rfl⟩⟩; refine ⟨_, rfl, ?_⟩; have hcz74_0 : wr.cell? ⟨gb448, 0, none⟩ = some (u449000) := (blk_cell BK448.out 0).trans rfl; have hcz74_1 : wr.cell? ⟨gb448, 1, none⟩ = some (.int .i64 x449001_35) := (blk_cell BK448.out 1).trans rfl; have hfz74_0 := blk_frozen BK448.out 0; have hfz74_1 := blk_frozen BK448.out 1; obtain ⟨Ao75, co75, eo75⟩ := Kd.V_slice HO_449000.out; subst eo75) | (go_at_call 7; (with_reducible refine (drawbridgelaw23_heads.calls k3  t475 _ (by first | exact HTr_.out | assumption) A71.out).mono ?_); rintro e w76 ⟨rfl, hb⟩; have n5_ := a0 (below_step (by repeat (first | (with_reducible first | exact HB.out | apply below_alloc | apply pw_below_drewN | apply below_drew1 | refine below_set ?_ GE448.out) | exact HB.out)) hb); clear HB; have HB := n5_; clear n5_; (try clear hb); (try clear hb2); (try clear hk); (try clear hi)))
              go_ret
              exact ⟨by first | rfl | (simp [errW_none, errW_some] <;> rfl) | (simp only [← hji67]; first | rfl | (simp [errW_none, errW_some] <;> rfl)) | (simp [*, errW_none, errW_some] <;> rfl), by repeat (first | (with_reducible first | exact HB.out | apply below_alloc | apply pw_below_drewN | apply below_drew1 | refine below_set ?_ GE448.out) | exact HB.out)⟩
             ·rw [if_neg c70] at H
              have c70b0 : ((x449000_35.length : Int) == 0) = false := beq_eq_false_iff_ne.mpr c70
              have c70b1 : ((x449000_35.length : Int) != 0) = true := bne_iff_ne.mpr c70
              have c70b2 : ¬ (x449000_35 = []) := fun h_ => c70 (by rw [h_]; rfl)
              exact absurd (H.trans (congrArg some HTr_.out)) (by simp)
            ·rw [if_neg c69] at H
             have c69b0 : (x449001_1 == (wrap64 (x14_3 - (x4_1.length : Int)))) = false := beq_eq_false_iff_ne.mpr c69
             have c69b1 : (x449001_1 != (wrap64 (x14_3 - (x4_1.length : Int)))) = true := bne_iff_ne.mpr c69
             exact absurd (H.trans (congrArg some HTr_.out)) (by simp)
           ·rw [if_neg c68] at H
            have c68b0 : ((x4_1.length : Int) == (ji67)) = false := beq_eq_false_iff_ne.mpr c68
            have c68b1 : ((x4_1.length : Int) != (ji67)) = true := bne_iff_ne.mpr c68
            exact absurd (H.trans (congrArg some HTr_.out)) (by simp)
          ·replace c66 := Bool.eq_false_iff.mpr c66
           subst c66
           have H1 : (some false) = some r := by rw [if_neg (show ¬ (false = true) by decide)] at H; exact H
           clear H
           have H := H1
           clear H1
           exact absurd (H.trans (congrArg some HTr_.out)) (by simp)

end Go.Proofs.Ythfokiabneflpaa.P
