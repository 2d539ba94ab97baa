/- Contracts of functions of the seat, written by a program of this session (with the kit's print) for the laws of this claim; no condition beside what each states. -/
import Derived.Test.YthfokiabneflpaaPx0
import Derived.Test.YthfokiabneflpaaPx1
namespace Go.Proofs.Ythfokiabneflpaa.P
open Go.Proofs.Ythfokiabneflpaa.Aux Go.RowKit Go.Proofs.YthfokiabneflpaaW.PrintWords Go.Proofs.YthfokiabneflpaaW.PrintLast Go.Proofs.YthfokiabneflpaaW.PrintMore
attribute [local go_sem] max2_int min2_int max_two min_two max_three min_three max_four min_four   -- for this text's walks alone
set_option linter.unusedVariables false
set_option linter.unusedSimpArgs false

/-! ### link_Push: function 8 -/
def link_Push.j0 : Nat → List Int → Bool → List (List Int) → Int → Option ((List (List Int)) × Int × Bool)
 | 0, _, _, _, _ => none
 | k + 1, x1, x6, x115000, x115001 => if x6 = true then (some (x115000, x115001, false)) else (if (x115000.length : Int) = 32 then (some (x115000, mn 2147483648 (wrap64 (x115001 + 1)), false)) else ((some (x115000 : List (List Int))).bind fun y118 => (if y118.length < 5864062014805 then ((link_with.f k x115000 x115001 (y118 ++ [x1])).bind fun bt124 => (some (bt124.1, bt124.2, true))) else (none))))
def link_Push.f (k : Nat) (l0_0 : List (List Int)) (a0_1 : Int) (l1 : List Int) : Option ((List (List Int)) × Int × Bool) := (link_Check.f l0_0 a0_1).bind fun t116 => (if t116 = true then ((link_fits.f l1).bind fun t117 => (link_Push.j0 k l1 (!t117) l0_0 a0_1)) else (link_Push.j0 k l1 true l0_0 a0_1))
theorem link_Push.mono_l : ∀ k, (∀ y0 y1 y2 y3, LeO (link_Push.j0 k y0 y1 y2 y3) (link_Push.j0 (k + 1) y0 y1 y2 y3))
 | 0 => fun _ _ _ _ r h => by simp [link_Push.j0] at h
 | k + 1 => by
  have ih0 := link_Push.mono_l k
  ·intro y0 y1 y2 y3
   unfold link_Push.j0
   repeat' first
   | (with_reducible exact ih0 _ _ _ _)
   | (with_reducible exact link_with.mono _ _ _ _)
   | (with_reducible exact LeO.refl _)
   | (with_reducible exact LeO.none _)
   | (with_reducible refine LeO.ite ?_ ?_)
   | (with_reducible refine LeO.bind ?_ (fun _ => ?_))
   | exact ih0 _ _ _ _
   | exact link_with.mono _ _ _ _
   | exact LeO.none _
   | refine LeO.ite ?_ ?_
   | refine LeO.bind ?_ (fun _ => ?_)
theorem link_Push.mono : ∀ a0 a1 a2 k, LeO (link_Push.f k a0 a1 a2) (link_Push.f (k + 1) a0 a1 a2) := by
 intro a0 a1 a2 k
 have ih0 := link_Push.mono_l k
 unfold link_Push.f
 repeat' first
   | (with_reducible exact ih0 _ _ _ _)
   | (with_reducible exact link_with.mono _ _ _ _)
   | (with_reducible exact LeO.refl _)
   | (with_reducible exact LeO.none _)
   | (with_reducible refine LeO.ite ?_ ?_)
   | (with_reducible refine LeO.bind ?_ (fun _ => ?_))
   | exact ih0 _ _ _ _
   | exact link_with.mono _ _ _ _
   | exact LeO.none _
   | refine LeO.ite ?_ ?_
   | refine LeO.bind ?_ (fun _ => ?_)
/-- A slice without room, appended to: its elements and the new one lie in a new row. -/
theorem append_full_step {P : Program} {ops : Array Oper} {o : Oper} {a : Act} {Q : Exit → Act → World → Prop} {Kc : Act → World → Prop} {α : Type} {E : Prop} (d : Kd α) {w0 W : World} (base : Nat) (hgd : o.guard = none) (s x : Operand) (t e : TypeId) (z : Value) (bytes : Nat)
  (ho : o.op = .call { callee := .builtin .append, args := #[s, x], argTypes := #[t, t] })
  (ht : P.underlying t = some (.slice e)) (hinfo : (P.info? e).map (fun i => (i.zero, i.size, i.bytes)) = some (some z, d.sz, bytes)) (hz : z.cells.size = d.sz) (hs0 : 0 < d.sz) (hb0 : 0 < bytes)
  (A : Option Addr) (n : Nat) (xs : List α) (p : α) (cs : List Value) (ok : Nat → Prop) (hs : a.eval s = .slice A n n) (hx : a.eval x = .slice (some ⟨W.heap.size, 0, none⟩) 1 1) (hp : Kd.FK d W ok p cs) (hfresh : ∀ k, W.heap.size ≤ k → ok k)
  (HR : Kd.F d W ok A n xs) (HB : Below base w0 W) (hbase : base ≤ W.heap.size) (hl : (xs.length + 1) * bytes ≤ 140737488355328)
  (h : ∀ v1 w1, Kd.N d e w1 base ok v1 (xs ++ [p]) → Below base w0 w1 → W.grownBy w1 none → Kc (a.put o.dst v1) w1) :
  if Region.wanted o (yielded ops a.tmps) = true then Oper.wp P o a (W.alloc (.cells cs.toArray e)) Kc Q else E := by
 obtain ⟨i0, hi, hzz⟩ := Option.map_eq_some_iff.1 hinfo
 simp only [Prod.mk.injEq] at hzz
 obtain ⟨hz0, hz1, hz2⟩ := hzz
 have hn : xs.length = n := (Kd.F_now HR).1
 obtain ⟨rows, hrl, hrr, hrf⟩ := Kd.reads_raw (Kd.F_rows HR) (fun y c hk => ⟨d.K_len (Kd.FK_now hk), d.K_one (Kd.FK_now hk)⟩)
 have hcl : cs.length = d.sz := d.K_len (Kd.FK_now hp)
 have hc1 : ∀ u ∈ cs, u.oneCell' = true := d.K_one (Kd.FK_now hp)
 have hlen : n + 1 ≤ 140737488355328 := by rw [hn] at hl; exact Nat.le_trans (Nat.le_mul_of_pos_right _ hb0) hl
 obtain ⟨inner, hri, hin⟩ : ∃ inner, Reps ((Kd.raw d.sz).K W) d.sz rows inner ∧ ∀ b, A = some b → ∀ j u, inner[j]? = some u → W.cell? (b.add j) = some u := by
  cases A with
  | some ad => obtain ⟨inner, h1, h2⟩ := ReadsRow.inner_ hrr; exact ⟨inner, h1, fun b hb => by cases hb; exact h2⟩
  | none =>
   have h0 : rows = [] := by
    rcases Nat.eq_zero_or_pos n with h0 | h0
    ·exact List.eq_nil_of_length_eq_zero (by omega)
    ·obtain ⟨ad, he, _⟩ := hrr.2.2 h0; cases he
   subst h0
   exact ⟨[], Reps.none _ _, fun b hb => by cases hb⟩
 have hnone : A = none → n = 0 ∧ n = 0 := by
  intro hA
  rcases Nat.eq_zero_or_pos n with h0 | h0
  ·exact ⟨h0, h0⟩
  ·obtain ⟨ad, he, _⟩ := hrr.2.2 h0; rw [hA] at he; cases he
 refine step_append_grows hgd s x t ho e i0 z d.sz bytes ht hi hz0 hz1 hz2 hz hs0 A n n inner hs hnone (by rw [hri.1, hrl, hn]) (fun b hb j u hu => ?_) ⟨W.heap.size, 0, none⟩ 1 1 cs hx (by rw [hcl]; simp)
  (by simpa using World.news_of_block (cs := cs.toArray) (t := e) (fr := (0, 0)) (heap_alloc_new W (.cells cs.toArray e))) hc1 (by omega) (by simp only [maxLen]; omega) (by rw [hn] at hl; exact hl) ?_
 ·have h1 := hin b hb j u hu
  exact (below_alloc (Below.refl _ W) _).cell (World.block_lt_of_cell? _ _ h1) |>.trans h1
 intro v1 w1 hown hg
 have hg' : W.grownBy w1 none := World.grownBy.trans (World.grownBy_alloc W _ _) hg
 have hB' : Below base w0 w1 := (HB.alloc hbase _).grown hg (by simp; omega) (fun k hk => by cases hk)
 have hat : ∃ b, v1.ownBlock = some b ∧ W.heap.size ≤ b := by
  rcases own_base' hown with h0 | ⟨b, hb, hle⟩
  ·exfalso
   obtain ⟨_, hv | ⟨g, cap, cur, hv, _⟩⟩ := hown
   ·omega
   ·subst hv; simp [Value.ownBlock] at h0
  ·exact ⟨b, hb, by simp at hle; omega⟩
 have hR1 : (Kd.raw d.sz).R e w1 base (fun _ => True) v1 ([] ++ (rows ++ [cs])) := by
  refine ⟨fun _ _ => trivial, inner ++ cs, ?_, ?_⟩
  ·rw [show (([] : List (List Value)) ++ (rows ++ [cs])).length = n + 1 by simp [hrl, hn]]
   exact own_less hown (by simp; omega)
  ·exact (hri.imp_ (fun _ _ hh => hh)).snoc (p := cs) ⟨rfl, hcl, hc1⟩ hcl
 refine h v1 w1 (Kd.N_appended (v := .slice none 0 0) (xs := []) (rows := []) (ys := xs ++ [p]) (news := rows ++ [cs]) (okp := ok) (fun k hk => by simp [Value.ownBlock] at hk) rfl (fun j y c hy _ => by simp at hy) (by simp [hrl]) (fun j y c hy hc => ?_) (fun k hk => ⟨hk, by simp [Value.ownBlock]⟩) hfresh hR1 hg' (.inr hat)) hB' hg'
 rcases Nat.lt_or_ge j xs.length with hj | hj
 ·rw [List.getElem?_append_left hj] at hy
  rw [List.getElem?_append_left (by omega)] at hc
  exact hrf j y c hy hc
 ·rw [List.getElem?_append_right hj] at hy
  rw [List.getElem?_append_right (by omega)] at hc
  rcases Nat.eq_zero_or_pos (j - xs.length) with h0 | h0
  ·rw [h0] at hy; rw [hrl, h0] at hc
   simp only [List.getElem?_cons_zero, Option.some.injEq] at hy hc
   rw [← hy, ← hc]; exact hp
  ·obtain ⟨q, hq⟩ : ∃ q, j - xs.length = q + 1 := ⟨j - xs.length - 1, by omega⟩
   rw [hq] at hy; simp at hy
def link_Push.T6 : Bool × List (List Nat × List Nat) := (true, [([], []), ([], []), ([1], [1]), ([], []), ([3], [3]), ([4], [4]), ([], []), ([6], [6]), ([7], [7]), ([2, 5, 8], [2, 5, 8]), ([], []), ([10], [10]), ([9, 11], [9, 11]), ([0, 12, 12], [0, 12]), ([13, 13, 0, 1, 2, 3, 4, 5, 6, 7, 8, 9, 10, 11, 12, 13], [13]), ([14, 0, 1, 2, 3, 4, 5, 6, 7, 8, 9, 10, 11, 12, 13, 14], [])])
def link_Push.B6 : List Nat := [0, 0, 2, 0, 8, 24, 0, 64, 192, 510, 0, 1024, 4094, 8191, 16383, 32767]
theorem link_Push.tab6 : rtab .any (opsOf Try.f8 6) = link_Push.T6 := by kernel_rfl
theorem link_Push.bits6 : waitsOk link_Push.T6.2 link_Push.B6 = true := by kernel_rfl

set_option maxHeartbeats 8000000 in
set_option maxRecDepth 100000 in
theorem link_Push.calls (k : Nat) (P0_0_ : Nat → Prop) (A0_0 : Option Addr) (c0_0 : Nat) (l0_0 : List (List Int)) (a0_1 : Int) (P1_ : Nat → Prop) (A1 : Option Addr) (c1 : Nat) (l1 : List Int) (r1 : List (List Int)) (r2 : Int) (r3 : Bool) (w : World) (hs0_0 : Kd.V (Kd.slice 5 (Kd.int .u8)) 25 w w.heap.size (fun k_ => P0_0_ k_) (.slice A0_0 l0_0.length c0_0) l0_0) (hs1 : Kd.V (Kd.int .u8) 5 w w.heap.size (fun k_ => P1_ k_) (.slice A1 l1.length c1) l1) (h : link_Push.f k l0_0 a0_1 l1 = some (r1, r2, r3)) :
  Calls Try.prog 8 #[.agg #[.slice A0_0 l0_0.length c0_0, .int .i64 a0_1], .slice A1 l1.length c1] w fun e w' => ∃ v0_ : Value, e = .returned (.tuple #[.agg #[v0_, .int .i64 r2], .bool r3]) ∧ Kd.V (Kd.slice 5 (Kd.int .u8)) 25 w' w.heap.size (fun k_ => ((P0_0_ k_ ∨ P1_ k_) ∨ w.heap.size ≤ k_)) v0_ r1 ∧ Below w.heap.size w w' := by
 have hu24:=Try.underlying24
 have HO0_0:=mK (show Kd.V (Kd.slice 5 (Kd.int .u8)) 25 w w.heap.size (fun k_=>((P0_0_ k_ ∨ P1_ k_) ∨ w.heap.size ≤ k_)) (.slice A0_0 l0_0.length c0_0) l0_0 from Kd.V_mono hs0_0 (fun k_ hk=>.inl (.inl hk)))
 have HO1:=mK (show Kd.V (Kd.int .u8) 5 w w.heap.size (fun k_=>((P0_0_ k_ ∨ P1_ k_) ∨ w.heap.size ≤ k_)) (.slice A1 l1.length c1) l1 from Kd.V_mono hs1 (fun k_ hk=>.inl (.inr hk)))
 have HB:=mK (Below.refl w.heap.size w)
 have H : ((link_Check.f l0_0 a0_1).bind fun t116=>(if t116 = true then ((link_fits.f l1).bind fun t117=>(link_Push.j0 k l1 (!t117) l0_0 a0_1)) else (link_Push.j0 k l1 true l0_0 a0_1))) = some (r1,r2,r3):=h
 clear h
 have HC3:=mK H
 clear H
 go_enter Try.func8,Try.ntmps8
 go_upto_region 1 with (first|((with_reducible refine gate_dst (N:=2) rfl ?_);refine box_event ?hg (N:=2) ?hd (cs:=#[.slice A0_0 l0_0.length c0_0,.int .i64 a0_1]) (t:=24) ?hr ?_;(case hd=>rfl);(case hg=>rfl);(case hr=>first|(go_simp;done)|(go_simp;rfl));intro gb114 hg w4 hbox hb;have n0_:=mK (Kd.V_below (Kd.V_elderB (by (with_reducible repeat (first|apply vA|apply vN|apply vD));exact HO0_0.out) gb114 (Nat.le_of_eq hg.symm)) hb);have n1_:=mK (Kd.V_below (Kd.V_elderB (by (with_reducible repeat (first|apply vA|apply vN|apply vD));exact HO1.out) gb114 (Nat.le_of_eq hg.symm)) hb);have n2_:=mK (below_step (by repeat (first|(with_reducible first|exact HB.out|apply lA|apply lN|apply lD)|exact HB.out)) hb);have n3_:=mK (hbox);have n5_:=mK ((by rw [hg];exact (below_size (by repeat (first|(with_reducible first|exact HB.out|apply lA|apply lN|apply lD)|exact HB.out))) : w.heap.size ≤ gb114));clear HO0_0;clear HO1;clear HB;have HO0_0:=n0_;have HO1:=n1_;have HB:=n2_;have BK114:=n3_;have GE114:=n5_;clear n0_ n1_ n2_ n3_ n5_;clear hb hbox hg)|((with_reducible refine gate_dst (N:=4) rfl ?_);refine box_event ?hg (N:=4) ?hd (cs:=#[.slice none 0 0,.int .i64 0]) (t:=24) ?hr ?_;(case hd=>rfl);(case hg=>rfl);(case hr=>first|(go_simp;done)|(go_simp;rfl));intro gb115 hg w5 hbox hb;have n0_:=mK (Kd.V_below (Kd.V_elderB (by (with_reducible repeat (first|apply vA|apply vN|apply vD));exact HO0_0.out) gb115 (Nat.le_of_eq hg.symm)) hb);have n1_:=mK (Kd.V_below (Kd.V_elderB (by (with_reducible repeat (first|apply vA|apply vN|apply vD));exact HO1.out) gb115 (Nat.le_of_eq hg.symm)) hb);have n2_:=mK (blk_below (g:=gb114) (o:=.cells #[.slice A0_0 l0_0.length c0_0,.int .i64 a0_1] 24 (0,0)) (by (with_reducible repeat (first|apply bN|apply bD|apply bA));exact BK114.out) hb);have n3_:=mK (below_step (by repeat (first|(with_reducible first|exact HB.out|apply lA|apply lN|apply lD|refine lS ?_ GE114.out)|exact HB.out)) hb);have n4_:=mK (hbox);have n6_:=mK ((by rw [hg];exact (below_size (by repeat (first|(with_reducible first|exact HB.out|apply lA|apply lN|apply lD|refine lS ?_ GE114.out)|exact HB.out))) : w.heap.size ≤ gb115));have n7_:=mK ((by rw [hg];exact Nat.ne_of_lt (blk_lt (g:=gb114) (o:=.cells #[.slice A0_0 l0_0.length c0_0,.int .i64 a0_1] 24 (0,0)) (by (with_reducible repeat (first|apply bN|apply bD|apply bA));exact BK114.out)) : gb114 ≠ gb115));have n8_:=mK ((by rw [hg];exact Nat.ne_of_gt (blk_lt (g:=gb114) (o:=.cells #[.slice A0_0 l0_0.length c0_0,.int .i64 a0_1] 24 (0,0)) (by (with_reducible repeat (first|apply bN|apply bD|apply bA));exact BK114.out)) : gb115 ≠ gb114));clear HO0_0;clear HO1;clear BK114;clear HB;have HO0_0:=n0_;have HO1:=n1_;have BK114:=n2_;have HB:=n3_;have BK115:=n4_;have GE115:=n6_;have NB114_115:=n7_;have NB115_114:=n8_;clear n0_ n1_ n2_ n3_ n4_ n6_ n7_ n8_;clear hb hbox hg))
 (try simp only [Act.put,sT,sZ,sS])
 go_cut [6] (fun v6 wc=>∃ (kq : Nat) (x6_2 : Bool),v6 = .bool x6_2∧Aside0 (link_Push.j0 kq l1 x6_2 l0_0 a0_1 = some (r1,r2,r3))∧Aside0 (kq ≤ k)∧Aside0 (Kd.V (Kd.int .u8) 5 wc w.heap.size (fun k_=>((P0_0_ k_ ∨ P1_ k_) ∨ w.heap.size ≤ k_)∧k_ ≠ gb114∧k_ ≠ gb115) (.slice A1 l1.length c1) l1)∧Aside0 (Kd.V (Kd.slice 5 (Kd.int .u8)) 25 wc w.heap.size (fun k_=>((P0_0_ k_ ∨ P1_ k_) ∨ w.heap.size ≤ k_)∧k_ ≠ gb114∧k_ ≠ gb115) (.slice A0_0 l0_0.length c0_0) l0_0)∧Aside0 (wc.heap[gb114]? = some (.cells #[(.slice A0_0 l0_0.length c0_0),.int .i64 a0_1] 24 (0,0)))∧Aside0 (wc.heap[gb115]? = some (.cells #[(.slice none 0 0),.int .i64 0] 24 (0,0)))∧Aside0 (Below w.heap.size w wc))
 case first =>
  have H:=HC3.out
  clear HC3
  replace H:=Option.bind_eq_some_iff.mp H
  obtain ⟨t116,A60,H⟩:=H
  replace H : (if t116 = true then ((link_fits.f l1).bind fun t117=>(link_Push.j0 k l1 (!t117) l0_0 a0_1)) else (link_Push.j0 k l1 true l0_0 a0_1)) = some (r1,r2,r3):=H
  have A6:=mK A60
  clear A60
  by_cases c7 : t116 = true
  ·subst c7
   have H1 : ((link_fits.f l1).bind fun t117=>(link_Push.j0 k l1 (!t117) l0_0 a0_1)) = some (r1,r2,r3):= by rw [if_pos rfl] at H;exact H
   clear H
   have H:=H1
   clear H1
   replace H:=Option.bind_eq_some_iff.mp H
   obtain ⟨t117,A80,H⟩:=H
   replace H : (link_Push.j0 k l1 (!t117) l0_0 a0_1) = some (r1,r2,r3):=H
   have A8:=mK A80
   clear A80
   have H':=mK H
   clear H
   have hnb9:=NB114_115.out
   have hnc9:=NB115_114.out
   have hcz10_0 : w5.cell? ⟨gb114,0,none⟩ = some (.slice A0_0 l0_0.length c0_0):=(blk_cell BK114.out 0).trans rfl
   have hcz10_1 : w5.cell? ⟨gb114,1,none⟩ = some (.int .i64 a0_1):=(blk_cell BK114.out 1).trans rfl
   have hfz10_0:=blk_frozen BK114.out 0
   have hfz10_1:=blk_frozen BK114.out 1
   go_wp2_with (first|((with_reducible refine gate_callee (f:=20) rfl ?_);refine goesL_ (some 8) rfl rfl Try.func20 (by kernel_rfl) rfl #[.agg #[.slice A0_0 l0_0.length c0_0,.int .i64 a0_1]] rfl (by (try simp only [List.map_toArray,List.map_cons,List.map_nil]);first|done|rfl|(simp only [List.length_drop,List.length_take];rfl)) ?_;(with_reducible refine (link_Check.calls _ _ l0_0 a0_1 true _ ?side1 ?side2 A6.out).mono ?_);(case side1=>repeat (first|exact (Kd.V_reads' HO0_0.out).2.2|(with_reducible refine Kd.C_alloc ?_ _)|(with_reducible refine Kd.C_drewN ?_ _)|(with_reducible refine Kd.C_drew ?_)));(case side2=>exact (Kd.V_reads' HO0_0.out).2.1);rintro e w11 ⟨rfl,hb⟩;refine ⟨_,rfl,?_⟩;have n0_:=mK (Kd.V_below (by (with_reducible repeat (first|apply vA|apply vN|apply vD));exact HO0_0.out) hb);have n1_:=mK (Kd.V_below (by (with_reducible repeat (first|apply vA|apply vN|apply vD));exact HO1.out) hb);have n2_:=mK (blk_below (g:=gb114) (o:=.cells #[.slice A0_0 l0_0.length c0_0,.int .i64 a0_1] 24 (0,0)) (by (with_reducible repeat (first|apply bN|apply bD|apply bA));exact BK114.out) hb);have n3_:=mK (blk_below (g:=gb115) (o:=.cells #[.slice none 0 0,.int .i64 0] 24 (0,0)) (by (with_reducible repeat (first|apply bN|apply bD|apply bA));exact BK115.out) hb);have n4_:=mK (below_step (by repeat (first|(with_reducible first|exact HB.out|apply lA|apply lN|apply lD|refine lS ?_ GE114.out|refine lS ?_ GE115.out)|exact HB.out)) hb);clear HO0_0;clear HO1;clear BK114;clear BK115;clear HB;have HO0_0:=n0_;have HO1:=n1_;have BK114:=n2_;have BK115:=n3_;have HB:=n4_;clear n0_ n1_ n2_ n3_ n4_;(try clear hb);(try clear hb2);(try clear hk);(try clear hi))|(go_at_call 24;(with_reducible refine (link_fits.calls _ _ l1 t117 _ ?side1 ?side2 A8.out).mono ?_);(case side1=>repeat (first|exact (Kd.V_reads' HO1.out).2.2|(with_reducible refine Kd.C_alloc ?_ _)|(with_reducible refine Kd.C_drewN ?_ _)|(with_reducible refine Kd.C_drew ?_)));(case side2=>exact (Kd.V_reads' HO1.out).2.1);rintro e w' ⟨rfl,⟨nd,rfl⟩⟩))
   go_meet
   case rel=>exact ⟨_,(!t117),(by first|rfl|(simp;done)|(simp [*];done)),H',⟨by first|omega|exact Nat.le_refl _⟩,⟨by (with_reducible repeat (first|apply vA|apply vN|apply vD));exact Kd.V_mono HO1.out (fun _ hk=>⟨hk.1.1,⟨hk.1.2,hk.2⟩⟩)⟩,⟨by (with_reducible repeat (first|apply vA|apply vN|apply vD));exact Kd.V_mono HO0_0.out (fun _ hk=>⟨hk.1.1,⟨hk.1.2,hk.2⟩⟩)⟩,⟨by (with_reducible repeat (first|apply bN|apply bD|apply bA));exact BK114.out⟩,⟨by (with_reducible repeat (first|apply bN|apply bD|apply bA));exact BK115.out⟩,⟨by repeat (first|(with_reducible first|exact HB.out|apply lA|apply lN|apply lD|refine lS ?_ GE114.out|refine lS ?_ GE115.out)|exact HB.out)⟩⟩
  ·replace c7:=Bool.eq_false_iff.mpr c7
   subst c7
   have H1 : (link_Push.j0 k l1 true l0_0 a0_1) = some (r1,r2,r3):= by rw [if_neg (show ¬ (false = true) by decide)] at H;exact H
   clear H
   have H:=H1
   clear H1
   have H':=mK H
   clear H
   have hnb12:=NB114_115.out
   have hnc12:=NB115_114.out
   have hcz13_0 : w5.cell? ⟨gb114,0,none⟩ = some (.slice A0_0 l0_0.length c0_0):=(blk_cell BK114.out 0).trans rfl
   have hcz13_1 : w5.cell? ⟨gb114,1,none⟩ = some (.int .i64 a0_1):=(blk_cell BK114.out 1).trans rfl
   have hfz13_0:=blk_frozen BK114.out 0
   have hfz13_1:=blk_frozen BK114.out 1
   go_wp2_with (first|((with_reducible refine gate_callee (f:=20) rfl ?_);refine goesL_ (some 8) rfl rfl Try.func20 (by kernel_rfl) rfl #[.agg #[.slice A0_0 l0_0.length c0_0,.int .i64 a0_1]] rfl (by (try simp only [List.map_toArray,List.map_cons,List.map_nil]);first|done|rfl|(simp only [List.length_drop,List.length_take];rfl)) ?_;(with_reducible refine (link_Check.calls _ _ l0_0 a0_1 false _ ?side1 ?side2 A6.out).mono ?_);(case side1=>repeat (first|exact (Kd.V_reads' HO0_0.out).2.2|(with_reducible refine Kd.C_alloc ?_ _)|(with_reducible refine Kd.C_drewN ?_ _)|(with_reducible refine Kd.C_drew ?_)));(case side2=>exact (Kd.V_reads' HO0_0.out).2.1);rintro e w14 ⟨rfl,hb⟩;refine ⟨_,rfl,?_⟩;have n0_:=mK (Kd.V_below (by (with_reducible repeat (first|apply vA|apply vN|apply vD));exact HO0_0.out) hb);have n1_:=mK (Kd.V_below (by (with_reducible repeat (first|apply vA|apply vN|apply vD));exact HO1.out) hb);have n2_:=mK (blk_below (g:=gb114) (o:=.cells #[.slice A0_0 l0_0.length c0_0,.int .i64 a0_1] 24 (0,0)) (by (with_reducible repeat (first|apply bN|apply bD|apply bA));exact BK114.out) hb);have n3_:=mK (blk_below (g:=gb115) (o:=.cells #[.slice none 0 0,.int .i64 0] 24 (0,0)) (by (with_reducible repeat (first|apply bN|apply bD|apply bA));exact BK115.out) hb);have n4_:=mK (below_step (by repeat (first|(with_reducible first|exact HB.out|apply lA|apply lN|apply lD|refine lS ?_ GE114.out|refine lS ?_ GE115.out)|exact HB.out)) hb);clear HO0_0;clear HO1;clear BK114;clear BK115;clear HB;have HO0_0:=n0_;have HO1:=n1_;have BK114:=n2_;have BK115:=n3_;have HB:=n4_;clear n0_ n1_ n2_ n3_ n4_;(try clear hb);(try clear hb2);(try clear hk);(try clear hi)))
   go_meet
   case rel=>exact ⟨_,(true),(by first|rfl|(simp;done)|(simp [*];done)),H',⟨by first|omega|exact Nat.le_refl _⟩,⟨by (with_reducible repeat (first|apply vA|apply vN|apply vD));exact Kd.V_mono HO1.out (fun _ hk=>⟨hk.1.1,⟨hk.1.2,hk.2⟩⟩)⟩,⟨by (with_reducible repeat (first|apply vA|apply vN|apply vD));exact Kd.V_mono HO0_0.out (fun _ hk=>⟨hk.1.1,⟨hk.1.2,hk.2⟩⟩)⟩,⟨by (with_reducible repeat (first|apply bN|apply bD|apply bA));exact BK114.out⟩,⟨by (with_reducible repeat (first|apply bN|apply bD|apply bA));exact BK115.out⟩,⟨by repeat (first|(with_reducible first|exact HB.out|apply lA|apply lN|apply lD|refine lS ?_ GE114.out|refine lS ?_ GE115.out)|exact HB.out)⟩⟩
 case rest =>
  clear HC3
  try clear c1
  try clear c2
  try clear p2
  try clear c7
  try clear c8
  try clear c9
  try clear c12
  try clear hcz10_0
  try clear hcz10_1
  try clear hcz13_0
  try clear hcz13_1
  try clear hfz10_0
  try clear hfz10_1
  try clear hfz13_0
  try clear hfz13_1
  obtain ⟨kq,x6_2,rfl,HA,HJ2,HO_1,HO_115000,BK114,BK115,HB⟩:=hcut
  cases kq with
  |zero=>exact absurd HA.out (by simp [link_Push.j0])
  |succ kj2 =>
   have H:=HA.out
   clear HA
   simp only [link_Push.j0] at H
   by_cases c15 : x6_2 = true
   ·subst c15
    have H1 : (some (l0_0,a0_1,false)) = some (r1,r2,r3):= by rw [if_pos rfl] at H;exact H
    clear H
    have H:=H1
    clear H1
    simp only [Option.some.injEq,Prod.mk.injEq] at H
    obtain ⟨rfl,rfl,rfl⟩:=H
    have hnb16:=NB114_115.out
    have hnc16:=NB115_114.out
    have hcz17_0 : wc.cell? ⟨gb114,0,none⟩ = some (.slice A0_0 l0_0.length c0_0):=(blk_cell BK114.out 0).trans rfl
    have hcz17_1 : wc.cell? ⟨gb114,1,none⟩ = some (.int .i64 a0_1):=(blk_cell BK114.out 1).trans rfl
    have hfz17_0:=blk_frozen BK114.out 0
    have hfz17_1:=blk_frozen BK114.out 1
    have hcz18_0 : wc.cell? ⟨gb115,0,none⟩ = some (.slice none 0 0):=(blk_cell BK115.out 0).trans rfl
    have hcz18_1 : wc.cell? ⟨gb115,1,none⟩ = some (.int .i64 0):=(blk_cell BK115.out 1).trans rfl
    have hfz18_0:=blk_frozen BK115.out 0
    have hfz18_1:=blk_frozen BK115.out 1
    go_wp2
    refine bodyPost_ret (results_ct rfl _ _ gb115 24 #[.slice A0_0 l0_0.length c0_0,.int .i64 a0_1] (0,0) _ rfl (by (with_reducible repeat (first|apply bN|apply bD|apply bA));refine blk_put (cs:=#[.slice A0_0 l0_0.length c0_0,.int .i64 0]) ?_ 1 _ rfl;(with_reducible repeat (first|apply bN|apply bD|apply bA));refine blk_put (cs:=#[.slice none 0 0,.int .i64 0]) ?_ 0 _ rfl;(with_reducible repeat (first|apply bN|apply bD|apply bA));exact BK115.out) Try.underlying24 rfl (by kernel_rfl)) rfl ?_
    exact ⟨_,by first|rfl|(simp [errW_none,errW_some] <;> rfl)|(simp [*,errW_none,errW_some] <;> rfl),by (with_reducible repeat (first|apply vA|apply vN|apply vD));exact Kd.V_mono (Kd.V_far (p:=⟨gb115,1,none⟩) (Kd.V_far (p:=⟨gb115,0,none⟩) (Kd.V_mono HO_115000.out (fun k_ hk=>(⟨hk,hk.2.2⟩ : _∧k_ ≠ gb115))) (fun _ hk=>hk.2) (.slice A0_0 l0_0.length c0_0)) (fun _ hk=>hk.2) (.int .i64 a0_1)) (fun _ hk=>hk.1.1),by repeat (first|(with_reducible first|exact HB.out|apply lA|apply lN|apply lD|refine lS ?_ GE114.out|refine lS ?_ GE115.out)|exact HB.out)⟩
   ·replace c15:=Bool.eq_false_iff.mpr c15
    subst c15
    have H1 : (if (l0_0.length : Int) = 32 then (some (l0_0,mn 2147483648 (wrap64 (a0_1 + 1)),false)) else ((some (l0_0 : List (List Int))).bind fun y118=>(if y118.length < 5864062014805 then ((link_with.f kj2 l0_0 a0_1 (y118 ++ [l1])).bind fun bt124=>(some (bt124.1,bt124.2,true))) else (none)))) = some (r1,r2,r3):= by rw [if_neg (show ¬ (false = true) by decide)] at H;exact H
    clear H
    have H:=H1
    clear H1
    by_cases c19 : (l0_0.length : Int) = 32
    ·rw [if_pos c19] at H
     have c19b0 : ((l0_0.length : Int) == 32) = true:=beq_iff_eq.mpr c19
     have c19b1 : ((l0_0.length : Int) != 32) = false:=bne_eq_false_iff_eq.mpr c19
     clear c19
     obtain ⟨ji20,hji20⟩ : ∃ j_ : Int,(mn 2147483648 (wrap64 (a0_1 + 1))) = j_:=⟨_,rfl⟩
     replace H : (some (l0_0,ji20,false)) = some (r1,r2,r3):= by first|(rw [hji20] at H;exact H)|(simp only [hji20] at H ⊢; exact H)
     have hji20_ : (if (wrap64 (a0_1 + 1)) < 2147483648 then (wrap64 (a0_1 + 1)) else 2147483648) = ji20:=hji20
     simp only [Option.some.injEq,Prod.mk.injEq] at H
     obtain ⟨rfl,rfl,rfl⟩:=H
     have hnb21:=NB114_115.out
     have hnc21:=NB115_114.out
     have hcz22_0 : wc.cell? ⟨gb114,0,none⟩ = some (.slice A0_0 l0_0.length c0_0):=(blk_cell BK114.out 0).trans rfl
     have hcz22_1 : wc.cell? ⟨gb114,1,none⟩ = some (.int .i64 a0_1):=(blk_cell BK114.out 1).trans rfl
     have hfz22_0:=blk_frozen BK114.out 0
     have hfz22_1:=blk_frozen BK114.out 1
     have hcz23_0 : wc.cell? ⟨gb115,0,none⟩ = some (.slice none 0 0):=(blk_cell BK115.out 0).trans rfl
     have hcz23_1 : wc.cell? ⟨gb115,1,none⟩ = some (.int .i64 0):=(blk_cell BK115.out 1).trans rfl
     have hfz23_0:=blk_frozen BK115.out 0
     have hfz23_1:=blk_frozen BK115.out 1
     go_wp2
     refine bodyPost_ret (results_ct rfl _ _ gb115 24 #[.slice A0_0 l0_0.length c0_0,.int .i64 ji20] (0,0) _ rfl (by (with_reducible repeat (first|apply bN|apply bD|apply bA));refine blk_put (cs:=#[.slice A0_0 l0_0.length c0_0,.int .i64 0]) ?_ 1 _ rfl;(with_reducible repeat (first|apply bN|apply bD|apply bA));refine blk_put (cs:=#[.slice none 0 0,.int .i64 0]) ?_ 0 _ rfl;(with_reducible repeat (first|apply bN|apply bD|apply bA));refine blk_far ?_ NB115_114.out _;(with_reducible repeat (first|apply bN|apply bD|apply bA));exact BK115.out) Try.underlying24 rfl (by kernel_rfl)) rfl ?_
     exact ⟨_,by first|rfl|(simp [errW_none,errW_some] <;> rfl)|(simp only [← hji20];first|rfl|(simp [errW_none,errW_some] <;> rfl))|(simp [*,errW_none,errW_some] <;> rfl),by (with_reducible repeat (first|apply vA|apply vN|apply vD));exact Kd.V_mono (Kd.V_far (p:=⟨gb115,1,none⟩) (Kd.V_far (p:=⟨gb115,0,none⟩) (Kd.V_far (p:=⟨gb114,1,none⟩) (Kd.V_mono (Kd.V_mono HO_115000.out (fun k_ hk=>(⟨hk,hk.2.1⟩ : _∧k_ ≠ gb114))) (fun k_ hk=>(⟨hk,hk.1.2.2⟩ : _∧k_ ≠ gb115))) (fun _ hk=>hk.1.2) (.int .i64 ji20)) (fun _ hk=>hk.2) (.slice A0_0 l0_0.length c0_0)) (fun _ hk=>hk.2) (.int .i64 ji20)) (fun _ hk=>hk.1.1.1),by repeat (first|(with_reducible first|exact HB.out|apply lA|apply lN|apply lD|refine lS ?_ GE114.out|refine lS ?_ GE115.out)|exact HB.out)⟩
    ·rw [if_neg c19] at H
     have c19b0 : ((l0_0.length : Int) == 32) = false:=beq_eq_false_iff_ne.mpr c19
     have c19b1 : ((l0_0.length : Int) != 32) = true:=bne_iff_ne.mpr c19
     obtain ⟨y118,hy118⟩ : ∃ y_ : List (List Int),y_ = (l0_0):=⟨_,rfl⟩
     replace H : (if y118.length < 5864062014805 then ((link_with.f kj2 l0_0 a0_1 (y118 ++ [l1])).bind fun bt124=>(some (bt124.1,bt124.2,true))) else (none)) = some (r1,r2,r3):= by first|(rw [hy118];with_reducible exact H)|(have H2_:=(Option.bind_some _ _).symm.trans H;rw [hy118];with_reducible exact H2_)|(have H2_:=(Option.bind_some _ _).symm.trans H;with_reducible exact H2_)|with_reducible exact H|(rw [hy118];exact H)|exact H
     have Ny118:=mK hy118
     clear hy118
     by_cases c24 : y118.length < 5864062014805
     ·rw [if_pos c24] at H
      have LMc24:=mK c24
      clear c24
      obtain ⟨y121,hy121⟩ : ∃ y_ : List (List Int),y_ = (y118 ++ [l1]):=⟨_,rfl⟩
      replace H : ((link_with.f kj2 l0_0 a0_1 y121).bind fun bt124=>(some (bt124.1,bt124.2,true))) = some (r1,r2,r3):= by first|(rw [hy121];with_reducible exact H)|(have H2_:=(Option.bind_some _ _).symm.trans H;rw [hy121];with_reducible exact H2_)|(have H2_:=(Option.bind_some _ _).symm.trans H;with_reducible exact H2_)|with_reducible exact H|(rw [hy121];exact H)|exact H
      have Ny121:=mK hy121
      clear hy121
      replace H:=Option.bind_eq_some_iff.mp H
      obtain ⟨⟨t124,t127⟩,A250,H⟩:=H
      replace H : (some (t124,t127,true)) = some (r1,r2,r3):=H
      have A25:=mK A250
      clear A250
      simp only [Option.some.injEq,Prod.mk.injEq] at H
      obtain ⟨rfl,rfl,rfl⟩:=H
      have hnb26:=NB114_115.out
      have hnc26:=NB115_114.out
      have hcz27_0 : wc.cell? ⟨gb114,0,none⟩ = some (.slice A0_0 l0_0.length c0_0):=(blk_cell BK114.out 0).trans rfl
      have hcz27_1 : wc.cell? ⟨gb114,1,none⟩ = some (.int .i64 a0_1):=(blk_cell BK114.out 1).trans rfl
      have hfz27_0:=blk_frozen BK114.out 0
      have hfz27_1:=blk_frozen BK114.out 1
      try go_wp2
      have n0_:=mK (Kd.V_drew HO_1.out)
      have n1_:=mK (Kd.V_drew HO_115000.out)
      have n2_:=mK (blk_drew BK114.out)
      have n3_:=mK (blk_drew BK115.out)
      have n4_:=mK (below_drew1 HB.out)
      clear HO_1
      clear HO_115000
      clear BK114
      clear BK115
      clear HB
      have HO_1:=n0_
      have HO_115000:=n1_
      have BK114:=n2_
      have BK115:=n3_
      have HB:=n4_
      clear n0_ n1_ n2_ n3_ n4_
      refine start_ (n:=16) (S:= fun w'=>w'.cell? ⟨gb114,0,none⟩ = some (.slice A0_0 l0_0.length c0_0)∧w'.cell? ⟨gb114,1,none⟩ = some (.int .i64 a0_1)) (ds:=[]) #[φ,φ,φ,φ,φ,φ,φ,φ,φ,φ,φ,φ,φ,φ,φ,φ] (by kernel_rfl) rfl rfl ⟨(blk_cell BK114.out 0).trans rfl,(blk_cell BK114.out 1).trans rfl⟩ (fun hHeld=>?_);refine with_tabW link_Push.tab6 link_Push.bits6 (fun HT_ HW_=>?_)
      generalize wc.drew = w28 at HO_1 HO_115000 BK114 BK115 HB hHeld ⊢
      refine pure_ (i:=1) (N:=some 28) (v:=?_) (a':=?_) #[φ,τ,φ,φ,φ,φ,φ,φ,φ,φ,φ,φ,φ,φ,φ,φ] rfl rfl (any_of HT_.out (by kernel_rfl)) (fun _ _ _ h=>h) (Or.inl ⟨by rfl,?_⟩) ?_ ?_
      rotate_left
      ·intro w'
       go_simp
       with_reducible rfl
      rotate_left
      ·simp only [Act.put,sT,sZ,sS,i64_w,i32_w]
       rfl
      refine pure_ (i:=3) (N:=some 30) (v:=?_) (a':=?_) #[φ,τ,φ,τ,φ,φ,φ,φ,φ,φ,φ,φ,φ,φ,φ,φ] rfl rfl (any_of HT_.out (by kernel_rfl)) (fun _ _ _ h=>h) (Or.inl ⟨by rfl,?_⟩) ?_ ?_
      rotate_left
      ·intro w'
       go_simp
       with_reducible rfl
      rotate_left
      ·simp only [Act.put,sT,sZ,sS,i64_w,i32_w]
       rfl
      refine pure_ (i:=6) (N:=some 33) (v:=?_) (a':=?_) #[φ,τ,φ,τ,φ,φ,τ,φ,φ,φ,φ,φ,φ,φ,φ,φ] rfl rfl (any_of HT_.out (by kernel_rfl)) (fun _ _ _ h=>h) (Or.inl ⟨by rfl,?_⟩) ?_ ?_
      rotate_left
      ·intro w'
       go_simp
       with_reducible rfl
      rotate_left
      ·simp only [Act.put,sT,sZ,sS,i64_w,i32_w]
       rfl
      refine pure_ (i:=10) (N:=some 37) (v:=?_) (a':=?_) #[φ,τ,φ,τ,φ,φ,τ,φ,φ,φ,τ,φ,φ,φ,φ,φ] rfl rfl (any_of HT_.out (by kernel_rfl)) (fun _ _ _ h=>h) (Or.inl ⟨by rfl,?_⟩) ?_ ?_
      rotate_left
      ·intro w'
       go_simp
       with_reducible rfl
      rotate_left
      ·simp only [Act.put,sT,sZ,sS,i64_w,i32_w]
       rfl
      refine take_ (i:=0) (N:=some 27) (v:=?_) (a':=?_) #[τ,τ,φ,τ,φ,φ,τ,φ,φ,φ,τ,φ,φ,φ,φ,φ] rfl rfl (take_ofW HT_.out HW_.out (by kernel_rfl)) (fun _ _ _ h=>h) (Or.inl ⟨by rfl,?_⟩) hHeld ?_ ?_
      rotate_left
      ·rintro w' ⟨s0,s1⟩
       go_simp
       with_reducible rfl
      rotate_left
      ·simp only [Act.put,sT,sZ,sS,i64_w,i32_w]
       rfl
      refine take_ (i:=2) (N:=some 29) (v:=?_) (a':=?_) #[τ,τ,τ,τ,φ,φ,τ,φ,φ,φ,τ,φ,φ,φ,φ,φ] rfl rfl (take_ofW HT_.out HW_.out (by kernel_rfl)) (fun _ _ _ h=>h) (Or.inl ⟨by rfl,?_⟩) hHeld ?_ ?_
      rotate_left
      ·rintro w' ⟨s0,s1⟩
       go_simp
       with_reducible rfl
      rotate_left
      ·simp only [Act.put,sT,sZ,sS,i64_w,i32_w]
       rfl
      refine take_ (i:=4) (N:=some 31) (v:=?_) (a':=?_) #[τ,τ,τ,τ,τ,φ,τ,φ,φ,φ,τ,φ,φ,φ,φ,φ] rfl rfl (take_ofW HT_.out HW_.out (by kernel_rfl)) (fun _ _ _ h=>h) (Or.inl ⟨by rfl,?_⟩) hHeld ?_ ?_
      rotate_left
      ·rintro w' ⟨s0,s1⟩
       go_simp
       with_reducible rfl
      rotate_left
      ·simp only [Act.put,sT,sZ,sS,i64_w,i32_w]
       rfl
      refine pure_ (i:=5) (N:=some 32) (v:=?_) (a':=?_) #[τ,τ,τ,τ,τ,τ,τ,φ,φ,φ,τ,φ,φ,φ,φ,φ] rfl rfl (any_of HT_.out (by kernel_rfl)) (fun _ _ _ h=>h) (Or.inl ⟨by rfl,?_⟩) ?_ ?_
      rotate_left
      ·intro w'
       go_simp
       with_reducible rfl
      rotate_left
      ·simp only [Act.put,sT,sZ,sS,i64_w,i32_w]
       rfl
      refine take_ (i:=7) (N:=some 34) (v:=?_) (a':=?_) #[τ,τ,τ,τ,τ,τ,τ,τ,φ,φ,τ,φ,φ,φ,φ,φ] rfl rfl (take_ofW HT_.out HW_.out (by kernel_rfl)) (fun _ _ _ h=>h) (Or.inl ⟨by rfl,?_⟩) hHeld ?_ ?_
      rotate_left
      ·rintro w' ⟨s0,s1⟩
       go_simp
       with_reducible rfl
      rotate_left
      ·simp only [Act.put,sT,sZ,sS,i64_w,i32_w]
       rfl
      refine pure_ (i:=8) (N:=some 35) (v:=?_) (a':=?_) #[τ,τ,τ,τ,τ,τ,τ,τ,τ,φ,τ,φ,φ,φ,φ,φ] rfl rfl (any_of HT_.out (by kernel_rfl)) (fun _ _ _ h=>h) (Or.inl ⟨by rfl,?_⟩) ?_ ?_
      rotate_left
      ·intro w'
       go_simp
       with_reducible rfl
      rotate_left
      ·simp only [Act.put,sT,sZ,sS,i64_w,i32_w]
       rfl
      refine pure_ (i:=9) (N:=some 36) (v:=?_) (a':=?_) #[τ,τ,τ,τ,τ,τ,τ,τ,τ,τ,τ,φ,φ,φ,φ,φ] rfl rfl (any_of HT_.out (by kernel_rfl)) (fun _ _ _ h=>h) (Or.inl ⟨by rfl,?_⟩) ?_ ?_
      rotate_left
      ·intro w'
       go_simp
       rw [if_pos (Kd.V_reads' HO_115000.out).2.1]
      rotate_left
      ·simp only [Act.put,sT,sZ,sS,i64_w,i32_w]
       rfl
      refine one_ (i:=11) (N:=some 38) #[τ,τ,τ,τ,τ,τ,τ,τ,τ,τ,τ,τ,φ,φ,φ,φ] rfl rfl (one_of HT_.out (by kernel_rfl)) (by decide) (fun K hK=>?_)
      refine value_ (w1:=?_) (v:=?_) (by rfl) rfl ?_ ?_
      rotate_left 2
      ·go_simp
       constructor
       ·rfl
       ·rfl
      refine hK.out _ _ ⟨(blk_cell (blk_alloc BK114.out _) 0).trans rfl,(blk_cell (blk_alloc BK114.out _) 1).trans rfl⟩ (fun hHeld=>?_)
      clear hK K
      refine norm_ (a':=?_) ?_ ?_
      rotate_left
      ·show Act.put _ (some 38) _ = _
       simp only [Act.put,sT,sZ,sS,i64_w,i32_w]
       rfl
      refine one_ (i:=12) (N:=some 39) #[τ,τ,τ,τ,τ,τ,τ,τ,τ,τ,τ,τ,τ,φ,φ,φ] rfl rfl (one_of HT_.out (by kernel_rfl)) (by decide) (fun K hK=>?_)
      refine append_full_step (Kd.slice 5 (Kd.int .u8)) (w0:=w) w.heap.size rfl (.tmp 36) (.tmp 38) 22 25 (.slice none 0 0) 24 rfl Try.underlying22 info25 rfl (by decide) (by omega) A0_0 l0_0.length l0_0 l1 [.slice A1 l1.length c1] (fun k_=>((P0_0_ k_ ∨ P1_ k_) ∨ w.heap.size ≤ k_)∧k_ ≠ gb114∧k_ ≠ gb115) rfl rfl ?aP ?aF ?aO ?aB ?aS ?aL ?_
      (case aP=>exact (Kd.FK_slice_mk (Kd.V_reads' HO_1.out).2.1 (Kd.V_F HO_1.out)))
      (case aB=>exact (by repeat (first|(with_reducible first|exact HB.out|apply lA|apply lN|apply lD|refine lS ?_ GE114.out|refine lS ?_ GE115.out)|exact HB.out)))
      (case aF=>exact (fun k_ hk=>⟨(.inr (Nat.le_trans (below_size (by repeat (first|(with_reducible first|exact HB.out|apply lA|apply lN|apply lD|refine lS ?_ GE114.out|refine lS ?_ GE115.out)|exact HB.out))) hk)),Kd.freshB (g:=gb114) (o:=.cells #[.slice A0_0 l0_0.length c0_0,.int .i64 a0_1] 24 (0,0)) (by (with_reducible repeat (first|apply bN|apply bD|apply bA));exact BK114.out) k_ hk,Kd.freshB (g:=gb115) (o:=.cells #[.slice none 0 0,.int .i64 0] 24 (0,0)) (by (with_reducible repeat (first|apply bN|apply bD|apply bA));exact BK115.out) k_ hk⟩))
      (case aO=>exact Kd.V_F HO_115000.out)
      (case aS=>exact (below_size (by repeat (first|(with_reducible first|exact HB.out|apply lA|apply lN|apply lD|refine lS ?_ GE114.out|refine lS ?_ GE115.out)|exact HB.out))))
      (case aL=>have:=LMc24.out;rw [Ny118.out] at this;omega)
      intro v122 w29 ho hb hg
      have hat:=hb
      rw [← Ny118.out,← Ny121.out] at ho
      have n1_:=mK (Kd.V_grown (by (with_reducible repeat (first|apply vA|apply vN|apply vD));exact HO_115000.out) hg (by simp))
      have n2_:=mK (blk_grown (g:=gb114) (o:=.cells #[.slice A0_0 l0_0.length c0_0,.int .i64 a0_1] 24 (0,0)) (by (with_reducible repeat (first|apply bN|apply bD|apply bA));exact BK114.out) hg (by simp [Value.ownBlock]))
      have n3_:=mK (blk_grown (g:=gb115) (o:=.cells #[.slice none 0 0,.int .i64 0] 24 (0,0)) (by (with_reducible repeat (first|apply bN|apply bD|apply bA));exact BK115.out) hg (by simp [Value.ownBlock]))
      have n4_:=mK (hb)
      have n5_:=mK (ho)
      clear HO_115000
      clear BK114
      clear BK115
      clear HB
      have HO_115000:=n1_
      have BK114:=n2_
      have BK115:=n3_
      have HB:=n4_
      have HO123:=n5_
      clear n1_ n2_ n3_ n4_ n5_
      clear ho hb hg hat
      obtain ⟨Ao30,co30,eo30⟩:=Kd.N_slice HO123.out
      (first|subst eo30|(injection eo30 with f1_ f2_ f3_;have f4_:=f1_.symm;have f5_:=f3_.symm;clear f1_ f2_ f3_;subst f4_;subst f5_))
      refine hK.out _ _ ⟨(blk_cell BK114.out 0).trans rfl,(blk_cell BK114.out 1).trans rfl⟩ (fun hHeld=>?_)
      clear hK K
      refine norm_ (a':=?_) ?_ ?_
      rotate_left
      ·show Act.put _ (some 39) _ = _
       simp only [Act.put,sT,sZ,sS,i64_w,i32_w]
       rfl
      refine one_ (i:=13) (N:=some 40) #[τ,τ,τ,τ,τ,τ,τ,τ,τ,τ,τ,τ,τ,τ,φ,φ] rfl rfl (one_of HT_.out (by kernel_rfl)) (by decide) (fun K hK=>?_)
      refine goes_ Try.func25 (by kernel_rfl) rfl #[.agg #[.slice A0_0 l0_0.length c0_0,.int .i64 a0_1],.slice Ao30 y121.length co30] (by rfl) rfl rfl (by (try simp only [List.map_toArray,List.map_cons,List.map_nil]);first|done|rfl|(simp only [List.length_drop,List.length_take];rfl)) ?_
      with_reducible refine (link_with.calls kj2 _ _ l0_0 a0_1 _ _ y121 t124 t127 _ ?side1 ?side2 ?side3 ?side4 A25.out).mono ?_
      (case side1=>repeat (first|exact (Kd.V_reads' HO_115000.out).2.2|(with_reducible refine Kd.C_alloc ?_ _)|(with_reducible refine Kd.C_drewN ?_ _)|(with_reducible refine Kd.C_drew ?_)))
      (case side2=>exact (Kd.V_reads' HO_115000.out).2.1)
      (case side3=>repeat (first|exact (Kd.N_reads' HO123.out).2.2|(with_reducible refine Kd.C_alloc ?_ _)|(with_reducible refine Kd.C_drewN ?_ _)|(with_reducible refine Kd.C_drew ?_)))
      (case side4=>exact (Kd.N_reads' HO123.out).2.1)
      rintro e w31 ⟨v125,rfl,ho0,hb⟩
      refine ⟨_,rfl,?_⟩
      have n3_:=mK (Kd.N_lower (Kd.N_mono (ok':= fun k_=>((P0_0_ k_ ∨ P1_ k_) ∨ w.heap.size ≤ k_)∧some k_ ≠ (.slice Ao30 y121.length co30 : Value).ownBlock∧k_ ≠ gb114∧k_ ≠ gb115) (Kd.S_N (Kd.S_bound ho0)) (fun k_ hk_=>⟨(.inr (Nat.le_trans (below_size (by repeat (first|(with_reducible first|exact HB.out|apply lA|apply lN|apply lD|refine lS ?_ GE114.out|refine lS ?_ GE115.out)|exact HB.out))) hk_.2.1)),(Kd.fresh' (Kd.N_lt (by (with_reducible repeat (first|apply Kd.N_alloc|apply Kd.N_drewN|apply Kd.N_drew));exact HO123.out)) k_ hk_.2.1),(Kd.freshB (g:=gb114) (o:=.cells #[.slice A0_0 l0_0.length c0_0,.int .i64 a0_1] 24 (0,0)) (by (with_reducible repeat (first|apply bN|apply bD|apply bA));exact BK114.out) k_ hk_.2.1),(Kd.freshB (g:=gb115) (o:=.cells #[.slice none 0 0,.int .i64 0] 24 (0,0)) (by (with_reducible repeat (first|apply bN|apply bD|apply bA));exact BK115.out) k_ hk_.2.1)⟩)) (below_size (by repeat (first|(with_reducible first|exact HB.out|apply lA|apply lN|apply lD|refine lS ?_ GE114.out|refine lS ?_ GE115.out)|exact HB.out))))
      have n4_:=mK (blk_below (g:=gb114) (o:=.cells #[.slice A0_0 l0_0.length c0_0,.int .i64 a0_1] 24 (0,0)) (by (with_reducible repeat (first|apply bN|apply bD|apply bA));exact BK114.out) hb)
      have n5_:=mK (blk_below (g:=gb115) (o:=.cells #[.slice none 0 0,.int .i64 0] 24 (0,0)) (by (with_reducible repeat (first|apply bN|apply bD|apply bA));exact BK115.out) hb)
      have n6_:=mK (below_step (by repeat (first|(with_reducible first|exact HB.out|apply lA|apply lN|apply lD|refine lS ?_ GE114.out|refine lS ?_ GE115.out)|exact HB.out)) hb)
      clear BK114
      clear BK115
      clear HB
      have HO126:=n3_
      have BK114:=n4_
      have BK115:=n5_
      have HB:=n6_
      clear n3_ n4_ n5_ n6_
      (try clear hb)
      (try clear hb2)
      (try clear hk)
      (try clear hi)
      (try clear ho0)
      obtain ⟨Ao32,co32,eo32⟩:=Kd.N_slice HO126.out
      (first|subst eo32|(injection eo32 with f1_ f2_ f3_;have f4_:=f1_.symm;have f5_:=f3_.symm;clear f1_ f2_ f3_;subst f4_;subst f5_))
      refine hK.out _ _ ⟨(blk_cell BK114.out 0).trans rfl,(blk_cell BK114.out 1).trans rfl⟩ (fun hHeld=>?_)
      clear hK K
      refine norm_ (a':=?_) ?_ ?_
      rotate_left
      ·show Act.put _ (some 40) _ = _
       simp only [Act.put,sT,sZ,sS,i64_w,i32_w]
       rfl
      refine one_ (i:=14) (N:=none) #[τ,τ,τ,τ,τ,τ,τ,τ,τ,τ,τ,τ,τ,τ,τ,φ] rfl rfl (one_of HT_.out (by kernel_rfl)) (by decide) (fun K hK=>?_)
      have hs33 : w31.cell? ⟨gb115,0,none⟩ = some (.slice none 0 0):=(blk_cell BK115.out 0).trans rfl
      have hfs33:=blk_frozen BK115.out 0
      have hns33_0:=NB114_115.out
      have hms33_0:=NB115_114.out
      have hs34 : w31.cell? ⟨gb115,1,none⟩ = some (.int .i64 0):=(blk_cell BK115.out 1).trans rfl
      have hfs34:=blk_frozen BK115.out 1
      have hns34_0:=NB114_115.out
      have hms34_0:=NB115_114.out
      refine skip_ (w1:=?_) (by rfl) rfl ?_ ?_
      rotate_left
      ·go_simp
       rfl
      refine hK.out _ _ ⟨((cell_far (p:=⟨gb115,_,none⟩) NB114_115.out _).trans (((cell_far (p:=⟨gb115,_,none⟩) NB114_115.out _).trans (hHeld.1)))),((cell_far (p:=⟨gb115,_,none⟩) NB114_115.out _).trans (((cell_far (p:=⟨gb115,_,none⟩) NB114_115.out _).trans (hHeld.2))))⟩ (fun hHeld=>?_)
      clear hK K
      refine pure_ (i:=15) (N:=some 5) (v:=?_) (a':=?_) #[τ,τ,τ,τ,τ,τ,τ,τ,τ,τ,τ,τ,τ,τ,τ,τ] rfl rfl (any_of HT_.out (by kernel_rfl)) (fun _ _ _ h=>h) (Or.inl ⟨by rfl,?_⟩) ?_ ?_
      rotate_left
      ·intro w'
       go_simp
       with_reducible rfl
      rotate_left
      ·simp only [Act.put,sT,sZ,sS,i64_w,i32_w]
       rfl
      refine done_ (done_of HT_.out (by kernel_rfl)) ?_
      try go_wp2
      refine bodyPost_ret (results_ct rfl _ _ gb115 24 #[.slice Ao32 t124.length co32,.int .i64 t127] (0,0) _ rfl (by (with_reducible repeat (first|apply bN|apply bD|apply bA));refine blk_put (cs:=#[.slice Ao32 t124.length co32,.int .i64 0]) ?_ 1 _ rfl;(with_reducible repeat (first|apply bN|apply bD|apply bA));refine blk_put (cs:=#[.slice none 0 0,.int .i64 0]) ?_ 0 _ rfl;(with_reducible repeat (first|apply bN|apply bD|apply bA));exact BK115.out) Try.underlying24 rfl (by kernel_rfl)) rfl ?_
      exact ⟨_,by first|rfl|(simp [errW_none,errW_some] <;> rfl)|(simp [*,errW_none,errW_some] <;> rfl),Kd.N_V (by (with_reducible repeat (first|apply Kd.N_alloc|apply Kd.N_drewN|apply Kd.N_drew));exact Kd.N_mono (Kd.N_far (p:=⟨gb115,1,none⟩) (Kd.N_far (p:=⟨gb115,0,none⟩) (Kd.N_mono HO126.out (fun k_ hk=>(⟨hk,hk.2.2.2⟩ : _∧k_ ≠ gb115))) (fun _ hk=>hk.2) (.slice Ao32 t124.length co32)) (fun _ hk=>hk.2) (.int .i64 t127)) (fun _ hk=>hk.1.1)),by repeat (first|(with_reducible first|exact HB.out|apply lA|apply lN|apply lD|refine lS ?_ GE114.out|refine lS ?_ GE115.out)|exact HB.out)⟩
     ·rw [if_neg c24] at H
      exact absurd H (by simp)

end Go.Proofs.Ythfokiabneflpaa.P
