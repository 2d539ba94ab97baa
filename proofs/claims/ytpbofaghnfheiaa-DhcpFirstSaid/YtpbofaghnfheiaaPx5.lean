/- Contracts of functions of the seat, written by a program of this session (with the kit's print) for the laws of this claim; no condition beside what each states. -/
import Derived.Test.YtpbofaghnfheiaaPx0
import Derived.Test.YtpbofaghnfheiaaPx3
import Derived.Test.YtpbofaghnfheiaaPx4
namespace Go.Proofs.Ytpbofaghnfheiaa.P
open Go.Proofs.Ytpbofaghnfheiaa.Aux Go.RowKit Go.Proofs.YtpbofaghnfheiaaW.PrintWords Go.Proofs.YtpbofaghnfheiaaW.PrintLast Go.Proofs.YtpbofaghnfheiaaW.PrintMore
attribute [local go_sem] max2_int min2_int max_two min_two max_three min_three max_four min_four   -- for this text's walks alone
set_option linter.unusedVariables false
set_option linter.unusedSimpArgs false

/-! ### dhcp_Put_2: function 20 -/
def dhcp_Put_2.f (k : Nat) (a0 : Int) (a1 : Int) (l2 : List Int) : Option (List Int) := if a1 > 0 then ((bits_Put.f k (IntKind.u64.wrap (a1)) 4 true).bind fun t125 => ((slices_Concat_byte_byte.f k (([l2, (([a0, 4] : List Int)), t125] : List (List Int)))).bind fun t131 => (some t131))) else (some l2)
theorem dhcp_Put_2.mono : ∀ a0 a1 a2 k, LeO (dhcp_Put_2.f k a0 a1 a2) (dhcp_Put_2.f (k + 1) a0 a1 a2) := by
 intro a0 a1 a2 k
 unfold dhcp_Put_2.f
 repeat' first
   | (with_reducible exact bits_Put.mono _ _ _ _)
   | (with_reducible exact slices_Concat_byte_byte.mono _ _)
   | (with_reducible exact LeO.refl _)
   | (with_reducible exact LeO.none _)
   | (with_reducible refine LeO.ite ?_ ?_)
   | (with_reducible refine LeO.bind ?_ (fun _ => ?_))
   | exact bits_Put.mono _ _ _ _
   | exact slices_Concat_byte_byte.mono _ _
   | exact LeO.none _
   | refine LeO.ite ?_ ?_
   | refine LeO.bind ?_ (fun _ => ?_)
def dhcp_Put_2.T1 : Bool × List (List Nat × List Nat) := (true, [([], []), ([], []), ([1], [1]), ([], []), ([3], [3]), ([4], [4]), ([0, 2, 5], [0, 2, 5]), ([6, 5], [6]), ([7, 7, 0, 1, 2, 3, 4, 5, 6, 7], [7])])
def dhcp_Put_2.B1 : List Nat := [0, 0, 2, 0, 8, 24, 63, 127, 255]
theorem dhcp_Put_2.tab1 : rtab .any (opsOf Try.f20 1) = dhcp_Put_2.T1 := by kernel_rfl
theorem dhcp_Put_2.bits1 : waitsOk dhcp_Put_2.T1.2 dhcp_Put_2.B1 = true := by kernel_rfl
set_option maxHeartbeats 8000000 in
set_option maxRecDepth 100000 in
theorem dhcp_Put_2.calls (k : Nat) (a0 : Int) (a1 : Int) (gb base : Nat) (v : Value) (l2 : List Int) (r : List Int) (w0 w : World) (hB0 : Below base w0 w) (hgb : base ≤ gb) (hb0 : w.heap[gb]? = some (.cells #[v] 22 (0, 0))) (ho0 : Kd.R (Kd.int .u8) 5 w base (fun _ => True) v l2) (h : dhcp_Put_2.f k a0 a1 l2 = some r) :
  Calls Try.prog 20 #[.int .u8 a0, .int .u32 a1, .pointer (some ⟨gb, 0, none⟩)] w fun e w' => ∃ v' : Value, e = .returned (.tuple #[]) ∧ w'.heap[gb]? = some (.cells #[v'] 22 (0, 0)) ∧ (∀ g', g' < w.heap.size → g' ≠ gb → w'.heap[g']? = w.heap[g']?) ∧ Kd.R (Kd.int .u8) 5 w' base (fun _ => True) v' r ∧ Below base w0 w' := by
 obtain ⟨A2,c2,ev⟩:=Kd.R_slice ho0
 subst ev
 have hlt:=blk_lt hb0
 have hbs : base ≤ w.heap.size:= by omega
 have HO2:=mK (show Kd.V (Kd.int .u8) 5 w w.heap.size (fun k_=>(k_ ≠ gb ∨ w.heap.size ≤ k_)) (.slice A2 l2.length c2) l2 from Kd.V_mono (Kd.R_V (Kd.R_types ho0 hb0 (by decide))) (fun k_ hk=>.inl hk.2))
 have far : ∀ k_,(k_ ≠ gb ∨ w.heap.size ≤ k_) → k_ ≠ gb:= fun k_ hk=>by rcases hk with hk|hk;exact hk;omega
 have HBK:=mK hb0
 have HR0:=mK ho0
 have HB0:=mK hB0
 have HFar:=mK far
 have HLt:=mK (And.intro hlt (And.intro hbs hgb))
 clear hb0 ho0 hB0 far hlt hbs hgb
 have HB:=mK (Below.refl w.heap.size w)
 have H : (if a1 > 0 then ((bits_Put.f k (IntKind.u64.wrap (a1)) 4 true).bind fun t125=>((slices_Concat_byte_byte.f k (([l2,(([a0,4] : List Int)),t125] : List (List Int)))).bind fun t131=>(some t131))) else (some l2)) = some r:=h
 clear h
 by_cases c4 : a1 > 0
 ·rw [if_pos c4] at H
  have c4b0 : decide (0 < a1) = true:=decide_eq_true c4
  clear c4
  obtain ⟨y122,hy122⟩ : ∃ y_ : List Int,y_ = (([a0,4] : List Int)):=⟨_,rfl⟩
  replace H : ((bits_Put.f k (IntKind.u64.wrap (a1)) 4 true).bind fun t125=>((slices_Concat_byte_byte.f k (([l2,y122,t125] : List (List Int)))).bind fun t131=>(some t131))) = some r:= by first|(rw [hy122];with_reducible exact H)|(have H2_:=(Option.bind_some _ _).symm.trans H;rw [hy122];with_reducible exact H2_)|(have H2_:=(Option.bind_some _ _).symm.trans H;with_reducible exact H2_)|with_reducible exact H|(rw [hy122];exact H)|exact H
  have Ny122:=mK hy122
  clear hy122
  replace H:=Option.bind_eq_some_iff.mp H
  obtain ⟨t125,A50,H⟩:=H
  replace H : ((slices_Concat_byte_byte.f k (([l2,y122,t125] : List (List Int)))).bind fun t131=>(some t131)) = some r:=H
  have A5:=mK A50
  clear A50
  obtain ⟨y128,hy128⟩ : ∃ y_ : List (List Int),y_ = (([l2,y122,t125] : List (List Int))):=⟨_,rfl⟩
  replace H : ((slices_Concat_byte_byte.f k y128).bind fun t131=>(some t131)) = some r:= by first|(rw [hy128];with_reducible exact H)|(have H2_:=(Option.bind_some _ _).symm.trans H;rw [hy128];with_reducible exact H2_)|(have H2_:=(Option.bind_some _ _).symm.trans H;with_reducible exact H2_)|with_reducible exact H|(rw [hy128];exact H)|exact H
  have Ny128:=mK hy128
  clear hy128
  replace H:=Option.bind_eq_some_iff.mp H
  obtain ⟨t131,A60,H⟩:=H
  replace H : (some t131) = some r:=H
  have A6:=mK A60
  clear A60
  obtain rfl:=Option.some.inj H
  go_enter Try.func20,Try.ntmps20
  try go_wp2
  have n0_:=mK (Kd.V_drew HO2.out)
  have n1_:=mK (below_drew1 HB.out)
  have n2_:=mK (blk_drew HBK.out)
  clear HO2
  clear HB
  have HO2:=n0_
  have HB:=n1_
  have HBK1:=n2_
  clear n0_ n1_ n2_
  refine start_ (n:=9) (S:= fun w'=>True) (ds:=[]) #[φ,φ,φ,φ,φ,φ,φ,φ,φ] (by kernel_rfl) rfl rfl trivial (fun hHeld=>?_);refine with_tabW dhcp_Put_2.tab1 dhcp_Put_2.bits1 (fun HT_ HW_=>?_)
  generalize w.drew = w7 at HO2 HB HBK1 hHeld ⊢
  refine pure_ (i:=1) (N:=some 8) (v:=?_) (a':=?_) #[φ,τ,φ,φ,φ,φ,φ,φ,φ] rfl rfl (any_of HT_.out (by kernel_rfl)) (fun _ _ _ h=>h) (Or.inl ⟨by rfl,?_⟩) ?_ ?_
  rotate_left
  ·intro w'
   go_simp
   with_reducible rfl
  rotate_left
  ·simp only [Act.put,sT,sZ,sS,i64_w,i32_w]
   rfl
  refine pure_ (i:=3) (N:=some 10) (v:=?_) (a':=?_) #[φ,τ,φ,τ,φ,φ,φ,φ,φ] rfl rfl (any_of HT_.out (by kernel_rfl)) (fun _ _ _ h=>h) (Or.inl ⟨by rfl,?_⟩) ?_ ?_
  rotate_left
  ·intro w'
   go_simp
   with_reducible rfl
  rotate_left
  ·simp only [Act.put,sT,sZ,sS,i64_w,i32_w]
   rfl
  refine inv_at [0,2,4,5,6,7,8] (fun a0_ b a w'=>∃ (v123 : Value) (v126 : Value) (v129 : Value) (v132 : Value),a = putSel a0_ b [(0,7,.slice A2 l2.length c2),(2,9,v123),(4,11,.int .u64 (IntKind.u64.wrap (a1))),(5,12,v126),(6,13,v129),(7,14,v132)]∧(Kd.V (Kd.int .u8) 5 w' w.heap.size (fun k_=>(k_ ≠ gb ∨ w.heap.size ≤ k_)) (.slice A2 l2.length c2) l2)∧(b 8 = false → Below w.heap.size w w')∧(b 2 = true → b 6 = false → Kd.R (Kd.int .u8) 5 w' w.heap.size (fun k_=>(w.heap.size ≤ k_)) v123 y122)∧(b 5 = true → b 6 = false → Kd.R (Kd.int .u8) 5 w' w.heap.size (fun k_=>(w.heap.size ≤ k_)) v126 t125)∧(b 6 = true → Kd.N (Kd.slice 5 (Kd.int .u8)) 22 w' w.heap.size (fun k_=>(k_ ≠ gb ∨ w.heap.size ≤ k_)) v129 y128)∧(b 7 = true → Kd.R (Kd.int .u8) 5 w' w.heap.size (fun k_=>(w.heap.size ≤ k_)) v132 t131)∧(b 8 = false → w'.heap[gb]? = some (.cells #[.slice A2 l2.length c2] 22 (0,0)))∧(b 8 = true → w'.heap[gb]? = some (.cells #[v132] 22 (0,0))∧(∀ g',g' < w.heap.size → g' ≠ gb → w'.heap[g']? = w.heap[g']?)∧(∀ B_ w0_,Below B_ w0_ w → B_ ≤ gb → B_ ≤ w.heap.size → Below B_ w0_ w'))) HT_.out HW_.out (by kernel_rfl) (by kernel_rfl) ?_ ?_ ?_
  ·exact ⟨.bool false,.bool false,.bool false,.bool false,by simp only [putSel,Bool.false_eq_true,if_false],HO2.out,fun _=>HB.out,fun h_=>absurd h_ (by decide),fun h_=>absurd h_ (by decide),fun h_=>absurd h_ (by decide),fun h_=>absurd h_ (by decide),fun _=>HBK1.out,fun h_=>absurd h_ (by decide)⟩
  ·skip
   clear HB HO2
   refine steps_cons ?_ ?_
   ·rintro b a w' ⟨v123,v126,v129,v132,ha,Q_HO2,Q_HB,Q_HO124,Q_HO127,Q_HO130,Q_HO133,Q_X8_,Q_X9_⟩ hb_ hon hoff
    refine ⟨_,rfl,fun K hK=>?_⟩
    have e2 : a.tmps[2]? = some (.pointer (some ⟨gb,0,none⟩)):= by rw [ha];exact (putSel_off rfl).trans rfl
    replace ha:=mK ha
    have hs_ : w'.cell? ⟨gb,0,none⟩ = some (.slice A2 l2.length c2):=(blk_cell (Q_X8_ (hoff 8 (by kernel_rfl))) 0).trans rfl
    refine value_ (w1:=w') (v:=.slice A2 l2.length c2) (by rfl) rfl ?_ ?_
    ·go_simp
     try rfl
    refine hK.out _ _ ⟨v123,v126,v129,v132,(by rw [ha.out];exact putSel_upk 0 hb_ rfl rfl rfl),Q_HO2,fun _=>Q_HB (hoff 8 (by kernel_rfl)),Q_HO124,Q_HO127,Q_HO130,Q_HO133,fun _=>Q_X8_ (hoff 8 (by kernel_rfl)),fun h0_=>absurd ((hoff 8 (by kernel_rfl)).symm.trans h0_) (by decide)⟩
   refine steps_cons ?_ ?_
   ·rintro b a w' ⟨v123,v126,v129,v132,ha,Q_HO2,Q_HB,Q_HO124,Q_HO127,Q_HO130,Q_HO133,Q_X8_,Q_X9_⟩ hb_ hon hoff
    refine ⟨_,rfl,fun K hK=>?_⟩
    have e8 : a.tmps[8]? = some (.int .u8 a0):= by rw [ha];exact (putSel_off rfl).trans rfl
    replace ha:=mK ha
    have HO2:=mK Q_HO2
    have HB:=mK (Q_HB (hoff 8 (by kernel_rfl)))
    refine Kd.R_lit_step (Kd.int .u8) _ 5 ?hg (N:=9) ?hd (xs:=([a0,4] : List Int)) (inner:=[.int .u8 a0,.int .u8 4]) (ok:= fun _=>True) (okp:= fun _=>True) ?hr ?hp (fun _ hk=>hk) trivial (Below.refl _ _) (Nat.le_refl _) (by simp) ?_;(case hd=>rfl);(case hg=>rfl);(case hr=>first|(go_simp;done)|(go_simp;rfl));(case hp=>exact (Reps.one (show Kd.M (Kd.int .u8) _ _ _ a0 [.int .u8 a0] from rfl) (Reps.one (show Kd.M (Kd.int .u8) _ _ _ 4 [.int .u8 4] from rfl) (Reps.none _ _))))
    intro v123 w8 ho9 hb hg_ hnew_
    have QX:=mK (blk_below (Q_X8_ (hoff 8 (by kernel_rfl))) hb)
    clear hg_ hnew_
    (first|rw [← Ny122.out] at ho9|(simp only [Int.reduceToNat] at ho9;rw [← Ny122.out] at ho9))
    have n0_:=mK (Kd.V_elder' (by (with_reducible repeat (first|apply vA|apply vN|apply vD));exact HO2.out) (Kd.R_base ho9) hb)
    have n1_:=mK (Kd.R_lower (Kd.R_newM (M:= fun k_=>(w.heap.size ≤ k_)) ho9 (below_size (by repeat (first|(with_reducible first|exact HB.out|apply lA|apply lN|apply lD)|exact HB.out))) (fun k_ h_=>h_)) (below_size (by repeat (first|(with_reducible first|exact HB.out|apply lA|apply lN|apply lD)|exact HB.out))))
    have n2_:=mK (below_step (by repeat (first|(with_reducible first|exact HB.out|apply lA|apply lN|apply lD)|exact HB.out)) hb)
    have z_HO127:= fun (h0_ : b 5 = true) (h1_ : b 6 = false)=>(show Kd.R (Kd.int .u8) 5 w8 w.heap.size (fun k_=>(w.heap.size ≤ k_)) v126 t125 from by first|exact (Kd.R_elder' (by (with_reducible repeat (first|apply rA|apply rN|apply rD));exact (Q_HO127 h0_ h1_)) (Kd.R_base ho9) hb)|exact Kd.R_mono (Kd.R_elder' (by (with_reducible repeat (first|apply rA|apply rN|apply rD));exact (Q_HO127 h0_ h1_)) (Kd.R_base ho9) hb) (fun _ h_=>by first|trivial|exact h_|exact h_.1))
    clear HO2
    clear HB
    have HO2:=n0_
    have HO124:=n1_
    have HB:=n2_
    clear n0_ n1_ n2_
    clear hb ho9
    refine hK.out _ _ ⟨v123,v126,v129,v132,(by rw [ha.out];exact putSel_upk 1 hb_ rfl rfl rfl),(by (with_reducible repeat (first|apply vA|apply vN|apply vD));exact Kd.V_mono HO2.out (fun _ hk=>by first|exact hk|exact hk.1|exact hk.1.1|exact .inr hk|exact .inr hk.1|exact .inr hk.1.1|trivial)),fun _=>(by repeat (first|(with_reducible first|exact HB.out|apply lA|apply lN|apply lD)|exact HB.out)),fun _ _=>(by (with_reducible repeat (first|apply rA|apply rN|apply rD));exact Kd.R_mono HO124.out (fun _ hk=>by first|exact hk|exact hk.1|exact hk.1.1|exact .inr hk|exact .inr hk.1|exact .inr hk.1.1|trivial)),z_HO127,fun h0_=>absurd ((hoff 6 (by kernel_rfl)).symm.trans h0_) (by decide),fun h0_=>absurd ((hoff 7 (by kernel_rfl)).symm.trans h0_) (by decide),fun _=>QX.out,fun h0_=>absurd ((hoff 8 (by kernel_rfl)).symm.trans h0_) (by decide)⟩
   refine steps_cons ?_ ?_
   ·rintro b a w' ⟨v123,v126,v129,v132,ha,Q_HO2,Q_HB,Q_HO124,Q_HO127,Q_HO130,Q_HO133,Q_X8_,Q_X9_⟩ hb_ hon hoff
    refine ⟨_,rfl,fun K hK=>?_⟩
    have e10 : a.tmps[10]? = some (.int .u32 a1):= by rw [ha];exact (putSel_off rfl).trans rfl
    replace ha:=mK ha
    have HO2:=mK Q_HO2
    have HB:=mK (Q_HB (hoff 8 (by kernel_rfl)))
    refine value_ (w1:=w') (v:=.int .u64 (IntKind.u64.wrap (a1))) (by rfl) rfl ?_ ?_
    ·go_simp
     (try simp only [i64_w])
     try rfl
    refine hK.out _ _ ⟨v123,v126,v129,v132,(by rw [ha.out];exact putSel_upk 2 hb_ rfl rfl rfl),Q_HO2,fun _=>Q_HB (hoff 8 (by kernel_rfl)),Q_HO124,fun h0_ _=>absurd ((hoff 5 (by kernel_rfl)).symm.trans h0_) (by decide),fun h0_=>absurd ((hoff 6 (by kernel_rfl)).symm.trans h0_) (by decide),fun h0_=>absurd ((hoff 7 (by kernel_rfl)).symm.trans h0_) (by decide),fun _=>Q_X8_ (hoff 8 (by kernel_rfl)),fun h0_=>absurd ((hoff 8 (by kernel_rfl)).symm.trans h0_) (by decide)⟩
   refine steps_cons ?_ ?_
   ·rintro b a w' ⟨v123,v126,v129,v132,ha,Q_HO2,Q_HB,Q_HO124,Q_HO127,Q_HO130,Q_HO133,Q_X8_,Q_X9_⟩ hb_ hon hoff
    refine ⟨_,rfl,fun K hK=>?_⟩
    have e11 : a.tmps[11]? = some (.int .u64 (IntKind.u64.wrap (a1))):= by rw [ha];exact putSel_on (e:=(4,11,.int .u64 (IntKind.u64.wrap (a1)))) 2 rfl rfl (hon 4 (by kernel_rfl)) rfl
    replace ha:=mK ha
    have HO2:=mK Q_HO2
    have HB:=mK (Q_HB (hoff 8 (by kernel_rfl)))
    refine goes_ Try.func19 (by kernel_rfl) rfl #[.int .u64 (IntKind.u64.wrap (a1)),.int .i64 4,.bool true] (by rfl) rfl rfl (by first|(simp only [List.map_toArray,List.map_cons,List.map_nil,Act.eval,Array.getD_eq_getD_getElem?,Option.getD_some,e11];done)|(simp only [List.map_toArray,List.map_cons,List.map_nil,Act.eval,Array.getD_eq_getD_getElem?,Option.getD_some,e11];rfl)) ?_
    with_reducible refine (bits_Put.calls k (IntKind.u64.wrap (a1)) 4 true t125 _ A5.out).mono ?_
    rintro e w8 ⟨v126,rfl,ho0,hb⟩
    have QX:=mK (blk_below (Q_X8_ (hoff 8 (by kernel_rfl))) hb)
    refine ⟨_,rfl,?_⟩
    have n0_:=mK (Kd.V_elder' (by (with_reducible repeat (first|apply vA|apply vN|apply vD));exact HO2.out) (Kd.R_base ho0) hb)
    have n1_:=mK (Kd.R_lower (Kd.R_newM (M:= fun k_=>(w.heap.size ≤ k_)) ho0 (below_size (by repeat (first|(with_reducible first|exact HB.out|apply lA|apply lN|apply lD)|exact HB.out))) (fun k_ h_=>h_)) (below_size (by repeat (first|(with_reducible first|exact HB.out|apply lA|apply lN|apply lD)|exact HB.out))))
    have n2_:=mK (below_step (by repeat (first|(with_reducible first|exact HB.out|apply lA|apply lN|apply lD)|exact HB.out)) hb)
    have z_HO124:= fun (h0_ : b 2 = true) (h1_ : b 6 = false)=>(show Kd.R (Kd.int .u8) 5 w8 w.heap.size (fun k_=>(w.heap.size ≤ k_)) v123 y122 from by first|exact (Kd.R_elder' (by (with_reducible repeat (first|apply rA|apply rN|apply rD));exact (Q_HO124 h0_ h1_)) (Kd.R_base ho0) hb)|exact Kd.R_mono (Kd.R_elder' (by (with_reducible repeat (first|apply rA|apply rN|apply rD));exact (Q_HO124 h0_ h1_)) (Kd.R_base ho0) hb) (fun _ h_=>by first|trivial|exact h_|exact h_.1))
    clear HO2
    clear HB
    have HO2:=n0_
    have HO127:=n1_
    have HB:=n2_
    clear n0_ n1_ n2_
    (try clear hb)
    (try clear hb2)
    (try clear hk)
    (try clear hi)
    (try clear ho0)
    refine hK.out _ _ ⟨v123,v126,v129,v132,(by rw [ha.out];exact putSel_upk 3 hb_ rfl rfl rfl),(by (with_reducible repeat (first|apply vA|apply vN|apply vD));exact Kd.V_mono HO2.out (fun _ hk=>by first|exact hk|exact hk.1|exact hk.1.1|exact .inr hk|exact .inr hk.1|exact .inr hk.1.1|trivial)),fun _=>(by repeat (first|(with_reducible first|exact HB.out|apply lA|apply lN|apply lD)|exact HB.out)),z_HO124,fun _ _=>(by (with_reducible repeat (first|apply rA|apply rN|apply rD));exact Kd.R_mono HO127.out (fun _ hk=>by first|exact hk|exact hk.1|exact hk.1.1|exact .inr hk|exact .inr hk.1|exact .inr hk.1.1|trivial)),fun h0_=>absurd ((hoff 6 (by kernel_rfl)).symm.trans h0_) (by decide),fun h0_=>absurd ((hoff 7 (by kernel_rfl)).symm.trans h0_) (by decide),fun _=>QX.out,fun h0_=>absurd ((hoff 8 (by kernel_rfl)).symm.trans h0_) (by decide)⟩
   refine steps_cons ?_ ?_
   ·rintro b a w' ⟨v123,v126,v129,v132,ha,Q_HO2,Q_HB,Q_HO124,Q_HO127,Q_HO130,Q_HO133,Q_X8_,Q_X9_⟩ hb_ hon hoff
    refine ⟨_,rfl,fun K hK=>?_⟩
    have e7 : a.tmps[7]? = some (.slice A2 l2.length c2):= by rw [ha];exact putSel_on (e:=(0,7,.slice A2 l2.length c2)) 0 rfl rfl (hon 0 (by kernel_rfl)) rfl
    have e9 : a.tmps[9]? = some (v123):= by rw [ha];exact putSel_on (e:=(2,9,v123)) 1 rfl rfl (hon 2 (by kernel_rfl)) rfl
    have e12 : a.tmps[12]? = some (v126):= by rw [ha];exact putSel_on (e:=(5,12,v126)) 3 rfl rfl (hon 5 (by kernel_rfl)) rfl
    replace ha:=mK ha
    have HO2:=mK Q_HO2
    have HB:=mK (Q_HB (hoff 8 (by kernel_rfl)))
    have HO124:=mK (Q_HO124 (hon 2 (by kernel_rfl)) hb_)
    have HO127:=mK (Q_HO127 (hon 5 (by kernel_rfl)) hb_)
    obtain ⟨Ao12,co12,eo12⟩:=Kd.R_slice HO124.out
    (first|subst eo12|(injection eo12 with f1_ f2_ f3_;have f4_:=f1_.symm;have f5_:=f3_.symm;clear f1_ f2_ f3_;subst f4_;subst f5_))
    obtain ⟨Ao13,co13,eo13⟩:=Kd.R_slice HO127.out
    (first|subst eo13|(injection eo13 with f1_ f2_ f3_;have f4_:=f1_.symm;have f5_:=f3_.symm;clear f1_ f2_ f3_;subst f4_;subst f5_))
    refine Kd.N_lit_step (Kd.slice 5 (Kd.int .u8)) _ 22 ?hg (N':=13) ?hd (xs:=([l2,y122,t125] : List (List Int))) (inner:=[.slice A2 l2.length c2,.slice Ao12 y122.length co12,.slice Ao13 t125.length co13]) (ok:=(fun k_=>(k_ ≠ gb ∨ w.heap.size ≤ k_))) (okp:=(fun k_=>(k_ ≠ gb ∨ w.heap.size ≤ k_))) ?hr ?hp (fun _ hk=>hk) ((show ∀ k_,w'.heap.size ≤ k_ → (fun k_=>(k_ ≠ gb ∨ w.heap.size ≤ k_)) k_ from fun k_ hk=>(.inr (Nat.le_trans (below_size (by repeat (first|(with_reducible first|exact HB.out|apply lA|apply lN|apply lD)|exact HB.out))) hk))) _ (Nat.le_refl _)) (Below.refl _ _) (Nat.le_refl _) (by simp) ?_;(case hd=>rfl);(case hg=>rfl);(case hr=>first|(go_simp;done)|(go_simp;rfl));(case hp=>exact (Reps.one (show Kd.FK (Kd.slice 5 (Kd.int .u8)) _ _ l2 [.slice A2 l2.length c2] from (Kd.FK_slice_mk (Kd.V_reads' (Kd.V_mono (ok':=(fun k_=>(k_ ≠ gb ∨ w.heap.size ≤ k_))) (HO2.out) (fun _ hk=>by first|exact hk|exact hk.1|exact hk.1.1|exact .inr hk|exact .inr hk.1|exact .inr hk.1.1|trivial))).2.1 (Kd.V_F (Kd.V_mono (ok':=(fun k_=>(k_ ≠ gb ∨ w.heap.size ≤ k_))) (HO2.out) (fun _ hk=>by first|exact hk|exact hk.1|exact hk.1.1|exact .inr hk|exact .inr hk.1|exact .inr hk.1.1|trivial))))) (Reps.one (show Kd.FK (Kd.slice 5 (Kd.int .u8)) _ _ y122 [.slice Ao12 y122.length co12] from (Kd.FK_slice_mk (Kd.R_reads' (Kd.R_mono (ok':=(fun k_=>(k_ ≠ gb ∨ w.heap.size ≤ k_))) (HO124.out) (fun _ hk=>by first|exact hk|exact hk.1|exact hk.1.1|exact .inr hk|exact .inr hk.1|exact .inr hk.1.1|trivial))).2.1 (Kd.R_F (Kd.R_mono (ok':=(fun k_=>(k_ ≠ gb ∨ w.heap.size ≤ k_))) (HO124.out) (fun _ hk=>by first|exact hk|exact hk.1|exact hk.1.1|exact .inr hk|exact .inr hk.1|exact .inr hk.1.1|trivial))))) (Reps.one (show Kd.FK (Kd.slice 5 (Kd.int .u8)) _ _ t125 [.slice Ao13 t125.length co13] from (Kd.FK_slice_mk (Kd.R_reads' (Kd.R_mono (ok':=(fun k_=>(k_ ≠ gb ∨ w.heap.size ≤ k_))) (HO127.out) (fun _ hk=>by first|exact hk|exact hk.1|exact hk.1.1|exact .inr hk|exact .inr hk.1|exact .inr hk.1.1|trivial))).2.1 (Kd.R_F (Kd.R_mono (ok':=(fun k_=>(k_ ≠ gb ∨ w.heap.size ≤ k_))) (HO127.out) (fun _ hk=>by first|exact hk|exact hk.1|exact hk.1.1|exact .inr hk|exact .inr hk.1|exact .inr hk.1.1|trivial))))) (Reps.none _ _)))))
    intro v129 w14 ho15 hb hg_ hnew_
    have QX:=mK (blk_below (Q_X8_ (hoff 8 (by kernel_rfl))) hb)
    clear hg_ hnew_
    (first|rw [← Ny128.out] at ho15|(simp only [Int.reduceToNat] at ho15;rw [← Ny128.out] at ho15))
    have n0_:=mK (Kd.V_elder' (by (with_reducible repeat (first|apply vA|apply vN|apply vD));exact HO2.out) (by first|exact Kd.N_base ho15|exact Kd.R_base (Kd.S_R ho15)) hb)
    have n1_:=mK (Kd.N_lower ho15 (below_size (by repeat (first|(with_reducible first|exact HB.out|apply lA|apply lN|apply lD)|exact HB.out))))
    have n2_:=mK (below_step (by repeat (first|(with_reducible first|exact HB.out|apply lA|apply lN|apply lD)|exact HB.out)) hb)
    clear HO2
    clear HB
    clear HO124
    clear HO127
    have HO2:=n0_
    have HO130:=n1_
    have HB:=n2_
    clear n0_ n1_ n2_
    clear hb ho15
    refine hK.out _ _ ⟨.slice Ao12 y122.length co12,.slice Ao13 t125.length co13,v129,v132,(by rw [ha.out];exact putSel_upk 4 hb_ rfl rfl rfl),(by (with_reducible repeat (first|apply vA|apply vN|apply vD));exact Kd.V_mono HO2.out (fun _ hk=>by first|exact hk|exact hk.1|exact hk.1.1|exact .inr hk|exact .inr hk.1|exact .inr hk.1.1|trivial)),fun _=>(by repeat (first|(with_reducible first|exact HB.out|apply lA|apply lN|apply lD)|exact HB.out)),fun _ h1_=>absurd ((up_self b 6).symm.trans h1_) (by decide),fun _ h1_=>absurd ((up_self b 6).symm.trans h1_) (by decide),fun _=>(by (with_reducible repeat (first|apply Kd.N_alloc|apply Kd.N_drewN|apply Kd.N_drew));exact HO130.out),fun h0_=>absurd ((hoff 7 (by kernel_rfl)).symm.trans h0_) (by decide),fun _=>QX.out,fun h0_=>absurd ((hoff 8 (by kernel_rfl)).symm.trans h0_) (by decide)⟩
   refine steps_cons ?_ ?_
   ·rintro b a w' ⟨v123,v126,v129,v132,ha,Q_HO2,Q_HB,Q_HO124,Q_HO127,Q_HO130,Q_HO133,Q_X8_,Q_X9_⟩ hb_ hon hoff
    refine ⟨_,rfl,fun K hK=>?_⟩
    have e13 : a.tmps[13]? = some (v129):= by rw [ha];exact putSel_on (e:=(6,13,v129)) 4 rfl rfl (hon 6 (by kernel_rfl)) rfl
    replace ha:=mK ha
    have HO2:=mK Q_HO2
    have HB:=mK (Q_HB (hoff 8 (by kernel_rfl)))
    have HO130:=mK (Q_HO130 (hon 6 (by kernel_rfl)))
    obtain ⟨Ao16,co16,eo16⟩:=Kd.N_slice HO130.out
    (first|subst eo16|(injection eo16 with f1_ f2_ f3_;have f4_:=f1_.symm;have f5_:=f3_.symm;clear f1_ f2_ f3_;subst f4_;subst f5_))
    refine goes_ Try.func21 (by kernel_rfl) rfl #[.slice Ao16 y128.length co16] (by rfl) rfl rfl (by first|(simp only [List.map_toArray,List.map_cons,List.map_nil,Act.eval,Array.getD_eq_getD_getElem?,Option.getD_some,e13];done)|(simp only [List.map_toArray,List.map_cons,List.map_nil,Act.eval,Array.getD_eq_getD_getElem?,Option.getD_some,e13];rfl)) ?_
    with_reducible refine (slices_Concat_byte_byte.calls k _ _ y128 t131 _ ?side1 ?side2 A6.out).mono ?_
    (case side1=>repeat (first|exact (Kd.N_reads' HO130.out).2.2|(with_reducible refine Kd.C_alloc ?_ _)|(with_reducible refine Kd.C_drewN ?_ _)|(with_reducible refine Kd.C_drew ?_)))
    (case side2=>exact (Kd.N_reads' HO130.out).2.1)
    rintro e w17 ⟨v132,rfl,ho0,hb⟩
    have QX:=mK (blk_below (Q_X8_ (hoff 8 (by kernel_rfl))) hb)
    refine ⟨_,rfl,?_⟩
    have n0_:=mK (Kd.V_elder' (by (with_reducible repeat (first|apply vA|apply vN|apply vD));exact HO2.out) (Kd.R_base ho0) hb)
    have n1_:=mK (Kd.N_elder' (by (with_reducible repeat (first|apply Kd.N_alloc|apply Kd.N_drewN|apply Kd.N_drew));exact HO130.out) (Kd.R_base ho0) hb)
    have n2_:=mK (Kd.R_lower (Kd.R_newM (M:= fun k_=>(w.heap.size ≤ k_)) ho0 (below_size (by repeat (first|(with_reducible first|exact HB.out|apply lA|apply lN|apply lD)|exact HB.out))) (fun k_ h_=>h_)) (below_size (by repeat (first|(with_reducible first|exact HB.out|apply lA|apply lN|apply lD)|exact HB.out))))
    have n3_:=mK (below_step (by repeat (first|(with_reducible first|exact HB.out|apply lA|apply lN|apply lD)|exact HB.out)) hb)
    clear HO2
    clear HO130
    clear HB
    have HO2:=n0_
    have HO130:=n1_
    have HO133:=n2_
    have HB:=n3_
    clear n0_ n1_ n2_ n3_
    (try clear hb)
    (try clear hb2)
    (try clear hk)
    (try clear hi)
    (try clear ho0)
    refine hK.out _ _ ⟨v123,v126,.slice Ao16 y128.length co16,v132,(by rw [ha.out];exact putSel_upk 5 hb_ rfl rfl rfl),(by (with_reducible repeat (first|apply vA|apply vN|apply vD));exact Kd.V_mono HO2.out (fun _ hk=>by first|exact hk|exact hk.1|exact hk.1.1|exact .inr hk|exact .inr hk.1|exact .inr hk.1.1|trivial)),fun _=>(by repeat (first|(with_reducible first|exact HB.out|apply lA|apply lN|apply lD)|exact HB.out)),fun _ h1_=>absurd ((hon 6 (by kernel_rfl)).symm.trans h1_) (by decide),fun _ h1_=>absurd ((hon 6 (by kernel_rfl)).symm.trans h1_) (by decide),fun _=>(by (with_reducible repeat (first|apply Kd.N_alloc|apply Kd.N_drewN|apply Kd.N_drew));exact Kd.N_mono HO130.out (fun _ hk=>by first|exact hk|exact hk.1|exact hk.1.1|exact .inr hk|exact .inr hk.1|exact .inr hk.1.1|trivial)),fun _=>(by (with_reducible repeat (first|apply rA|apply rN|apply rD));exact Kd.R_mono HO133.out (fun _ hk=>by first|exact hk|exact hk.1|exact hk.1.1|exact .inr hk|exact .inr hk.1|exact .inr hk.1.1|trivial)),fun _=>QX.out,fun h0_=>absurd ((hoff 8 (by kernel_rfl)).symm.trans h0_) (by decide)⟩
   refine steps_cons ?_ ?_
   ·rintro b a w' ⟨v123,v126,v129,v132,ha,Q_HO2,Q_HB,Q_HO124,Q_HO127,Q_HO130,Q_HO133,Q_X8_,Q_X9_⟩ hb_ hon hoff
    refine ⟨_,rfl,fun K hK=>?_⟩
    have e14 : a.tmps[14]? = some (v132):= by rw [ha];exact putSel_on (e:=(7,14,v132)) 5 rfl rfl (hon 7 (by kernel_rfl)) rfl
    replace ha:=mK ha
    have HO2:=mK Q_HO2
    have HB:=mK (Q_HB hb_)
    have HO130:=mK (Q_HO130 (hon 6 (by kernel_rfl)))
    have HO133:=mK (Q_HO133 (hon 7 (by kernel_rfl)))
    obtain ⟨Ao17,co17,eo17⟩:=Kd.R_slice HO133.out
    subst eo17
    have e2 : a.tmps[2]? = some (.pointer (some ⟨gb,0,none⟩)):= by rw [ha.out];exact (putSel_off rfl).trans rfl
    have hs_ : w'.cell? ⟨gb,0,none⟩ = some (.slice A2 l2.length c2):=(blk_cell (Q_X8_ hb_) 0).trans rfl
    have hfs_:=blk_frozen (Q_X8_ hb_) 0
    refine skip_ (w1:=?_) (by rfl) rfl ?_ ?_
    rotate_left
    ·go_simp
     rfl
    refine hK.out _ _ ⟨v123,v126,v129,.slice Ao17 t131.length co17,(by rw [ha.out];exact (putSel_same rfl).symm),Kd.V_far (p:=⟨gb,0,none⟩) HO2.out HFar.out _,fun h1_=>absurd ((up_self b 8).symm.trans h1_) (by decide),fun _ h1_=>absurd ((hon 6 (by kernel_rfl)).symm.trans h1_) (by decide),fun _ h1_=>absurd ((hon 6 (by kernel_rfl)).symm.trans h1_) (by decide),fun _=>Kd.N_far (p:=⟨gb,0,none⟩) HO130.out HFar.out _,fun _=>Kd.R_far (p:=⟨gb,0,none⟩) HO133.out (fun k_ hk=>by have:=HLt.out.1;show k_ ≠ gb;omega) _,fun h1_=>absurd ((up_self b 8).symm.trans h1_) (by decide),fun _=>⟨blk_put (cs:=#[.slice A2 l2.length c2]) (Q_X8_ hb_) 0 _ rfl,fun g' hg' hne=>(Below.heap_setCell w' ⟨gb,0,none⟩ _ g' hne).trans (HB.out.block g' hg'),fun B_ w0_ hB_ h1_ h2_=>(below_then hB_ h2_ HB.out).setCell h1_ _⟩⟩
   exact steps_nil
  rintro b a w17 hall ⟨v123,v126,v129,v132,ha,Q_HO2,Q_HB,Q_HO124,Q_HO127,Q_HO130,Q_HO133,Q_X8_,Q_X9_⟩
  clear HB HO2
  have hb2_:=hall 2 (by kernel_rfl)
  have hb4_:=hall 4 (by kernel_rfl)
  have hb5_:=hall 5 (by kernel_rfl)
  have hb6_:=hall 6 (by kernel_rfl)
  have hb7_:=hall 7 (by kernel_rfl)
  have hb8_:=hall 8 (by kernel_rfl)
  subst ha
  obtain ⟨X1_,X2_,X3_⟩:=Q_X9_ hb8_
  replace X1_:=mK X1_
  replace X2_:=mK X2_
  replace X3_:=mK X3_
  have hb0_:=hall 0 (by kernel_rfl)
  simp only [putSel,hb0_,hb2_,hb4_,hb5_,hb6_,hb7_,hb8_,if_true,Act.put,sT,sZ,sS]
  have HO2:=mK Q_HO2
  clear Q_HO2
  clear Q_HB
  clear Q_HO124
  clear Q_HO127
  have HO130:=mK (Q_HO130 hb6_)
  clear Q_HO130
  have HO133:=mK (Q_HO133 hb7_)
  clear Q_HO133
  clear hall hb2_ hb4_ hb5_ hb6_ hb7_ hb8_
  try go_wp2
  first|go_end0|((try simp only [Exit.inBlock,Exit.then]);refine bodyPost_ret (results_none rfl _ _ _) rfl ?_)
  exact ⟨_,rfl,X1_.out,X2_.out,Kd.R_mono (Kd.R_lower HO133.out HLt.out.2.1) (fun _ _=>trivial),X3_.out _ _ HB0.out HLt.out.2.2 HLt.out.2.1⟩
 ·rw [if_neg c4] at H
  have c4b0 : decide (0 < a1) = false:=decide_eq_false c4
  clear c4
  obtain rfl:=Option.some.inj H
  go_enter Try.func20,Try.ntmps20
  go_wp2
  first|go_end0|((try simp only [Exit.inBlock,Exit.then]);refine bodyPost_ret (results_none rfl _ _ _) rfl ?_)
  first|exact ⟨rfl,_,HBK.out,fun _ _ _=>rfl,HR0.out,HB0.out⟩|exact ⟨_,rfl,HBK.out,fun _ _ _=>rfl,HR0.out,HB0.out⟩


/-! ### dhcp_Put: function 10 -/
def dhcp_Put.bad (a0 : Int) (l4 : List Int) (a5 : Int) : Bool := decide (a0 < 1) || decide (2 < a0) || ((l4.length : Int) != 6) || decide (a5 < 1) || decide (8 < a5)
def dhcp_Put.g (k : Nat) (a0 a1 a2 a3 : Int) (l4 : List Int) (a5 a6 a7 a8 a9 a10 a11 : Int) : Option (List Int × Int) := (dhcp_Put_1.f k ((((List.replicate 240 (0 : Int)).set 0 (IntKind.u8.wrap a0)).set 1 1).set 2 6) 4 a1).bind fun b1 => (dhcp_Put_1.f k b1 12 a2).bind fun b2 => (dhcp_Put_1.f k b2 16 a3).bind fun b3 => (dhcp_Put_1.f k (splice b3 28 l4) 236 1669485411).bind fun b5 => (dhcp_Put_2.f k 50 a6 (b5 ++ [53, 1, IntKind.u8.wrap a5])).bind fun e1 => (dhcp_Put_2.f k 54 a7 e1).bind fun e2 => (dhcp_Put_2.f k 51 a8 e2).bind fun e3 => (dhcp_Put_2.f k 1 a9 e3).bind fun e4 => (dhcp_Put_2.f k 3 a10 e4).bind fun e5 => (dhcp_Put_2.f k 6 a11 e5).bind fun e6 => if e6.length < 140737488355000 then some (e6 ++ [255], 0) else none
def dhcp_Put.f (k : Nat) (a0 a1 a2 a3 : Int) (l4 : List Int) (a5 a6 a7 a8 a9 a10 a11 : Int) : Option (List Int × Int) := if dhcp_Put.bad a0 l4 a5 = true then some ([], 2) else dhcp_Put.g k a0 a1 a2 a3 l4 a5 a6 a7 a8 a9 a10 a11
theorem dhcp_Put.mono : ∀ a0 a1 a2 a3 l4 a5 a6 a7 a8 a9 a10 a11 k, LeO (dhcp_Put.f k a0 a1 a2 a3 l4 a5 a6 a7 a8 a9 a10 a11) (dhcp_Put.f (k + 1) a0 a1 a2 a3 l4 a5 a6 a7 a8 a9 a10 a11) := by
 intro a0 a1 a2 a3 l4 a5 a6 a7 a8 a9 a10 a11 k
 unfold dhcp_Put.f dhcp_Put.g
 refine LeO.ite (LeO.refl _) ?_
 repeat' first | with_reducible exact LeO.refl _ | with_reducible exact dhcp_Put_1.mono _ _ _ _ | with_reducible exact dhcp_Put_2.mono _ _ _ _ | with_reducible refine LeO.bind ?_ (fun _ => ?_)
structure PutSt (w W : World) (gd gb : Nat) (D : Array Value) (v : Value) (L : List Int) : Prop where
 hd : W.heap[gd]? = some (.cells D 26 (0, 0))
 hb : W.heap[gb]? = some (.cells #[v] 22 (0, 0))
 hr : Kd.R (Kd.int .u8) 5 W w.heap.size (fun _ => True) v L
 hw : Below w.heap.size w W
 hge : w.heap.size ≤ gb
 hne : gd ≠ gb
theorem PutSt.drew {w W : World} {gd gb : Nat} {D : Array Value} {v : Value} {L : List Int} (h : PutSt w W gd gb D v L) : PutSt w W.drew gd gb D v L := ⟨blk_drew h.hd, blk_drew h.hb, Kd.R_drew h.hr, below_drew1 h.hw, h.hge, h.hne⟩
theorem PutSt.put {w W : World} {gd gb g n cap : Nat} {D : Array Value} {L : List Int} (h : PutSt w W gd gb D (.slice (some ⟨g, 0, none⟩) n cap) L) (hg : w.heap.size ≤ g) (i : Nat) (x : Int) : PutSt w (W.setCell ⟨g, i, none⟩ (.int .u8 x)) gd gb D (.slice (some ⟨g, 0, none⟩) n cap) (L.set i x) := by
 have h1 := Kd.R_ne h.hr h.hd (by decide)
 have h2 := Kd.R_ne h.hr h.hb (by decide)
 have h3 : gd ≠ g := fun e => h1 (by simp [Value.ownBlock, e])
 have h4 : gb ≠ g := fun e => h2 (by simp [Value.ownBlock, e])
 exact ⟨blk_far h.hd h3 _, blk_far h.hb h4 _, Kd.R_putn h.hr (i : Int) x, below_set h.hw hg, h.hge, h.hne⟩
theorem PutSt.cells {w W : World} {gd gb g n cap : Nat} {D : Array Value} {L : List Int} (h : PutSt w W gd gb D (.slice (some ⟨g, 0, none⟩) n cap) L) (i : Nat) (hi : i < L.length) : (∃ u, W.cell? ⟨g, i, none⟩ = some (.int .u8 u)) ∧ W.frozen? ⟨g, i, none⟩ = false := by
 obtain ⟨cs, hc⟩ := Kd.R_typed h.hr g rfl
 refine ⟨?_, blk_frozen hc i⟩
 obtain ⟨ad, e, hx⟩ := Kd.at_int (Kd.R_reads' h.hr).2.2 (i : Int) (by omega) (by omega)
 cases e
 rw [Int.toNat_natCast, Addr.add_lit, Nat.zero_add] at hx
 exact ⟨_, hx⟩
theorem PutSt.below {w W W1 : World} {gd gb : Nat} {D : Array Value} {v : Value} {L : List Int} (h : PutSt w W gd gb D v L) (k : Below W.heap.size W W1) : PutSt w W1 gd gb D v L := ⟨blk_below h.hd k, blk_below h.hb k, Kd.R_below h.hr k, below_step h.hw k, h.hge, h.hne⟩
def dhcp_Put.T5 : Bool × List (List Nat × List Nat) := (true, [([], []), ([], []), ([], []), ([], []), ([3], [3]), ([4], [4]), ([0, 0, 3, 4, 5], [0]), ([6, 5, 0, 3, 4, 5], [5, 6]), ([1, 0, 1, 3, 4, 5, 6, 7], [1]), ([8, 7, 0, 1, 3, 4, 5, 6, 7], [8]), ([2, 0, 1, 2, 3, 4, 5, 6, 7, 8, 9], [2]), ([10, 9, 0, 1, 2, 3, 4, 5, 6, 7, 8, 9], [10])])
def dhcp_Put.B5 : List Nat := [0, 0, 0, 0, 8, 24, 57, 121, 251, 507, 1023, 2047]
theorem dhcp_Put.tab5 : rtab .any (opsOf Try.f10 5) = dhcp_Put.T5 := by kernel_rfl
theorem dhcp_Put.bits5 : waitsOk dhcp_Put.T5.2 dhcp_Put.B5 = true := by kernel_rfl
def dhcp_Put.T9 : Bool × List (List Nat × List Nat) := (true, [([], []), ([0], [0]), ([], []), ([2], [2]), ([1, 3], [1, 3])])
def dhcp_Put.B9 : List Nat := [0, 1, 0, 4, 15]
theorem dhcp_Put.tab9 : rtab .any (opsOf Try.f10 9) = dhcp_Put.T9 := by kernel_rfl
theorem dhcp_Put.bits9 : waitsOk dhcp_Put.T9.2 dhcp_Put.B9 = true := by kernel_rfl

set_option maxHeartbeats 8000000 in
set_option maxRecDepth 100000 in
theorem dhcp_Put.calls (k : Nat) (a0 a1 a2 a3 : Int) (A4 : Option Addr) (c4 : Nat) (l4 : List Int) (a5 a6 a7 a8 a9 a10 a11 : Int) (r1 : List Int) (r2 : Int) (w : World) (hr4 : Kd.C (Kd.int .u8) w A4 l4.length l4) (hc4 : l4.length ≤ c4) (h : dhcp_Put.f k a0 a1 a2 a3 l4 a5 a6 a7 a8 a9 a10 a11 = some (r1, r2)) :
  Calls Try.prog 10 #[.agg #[.int .i64 a0, .int .u32 a1, .int .u32 a2, .int .u32 a3, .slice A4 l4.length c4, .int .i64 a5, .int .u32 a6, .int .u32 a7, .int .u32 a8, .int .u32 a9, .int .u32 a10, .int .u32 a11]] w fun e w' => ∃ v0_ : Value, e = .returned (.tuple #[v0_, .int .i64 r2]) ∧ Kd.R (Kd.int .u8) 5 w' w.heap.size (fun _ => True) v0_ r1 ∧ Below w.heap.size w w' := by
 have hu26:=Try.underlying26
 have HR4:=mK hr4
 have HC4:=mK hc4
 have HH:=mK h
 clear hr4 hc4 h
 have HB:=mK (Below.refl w.heap.size w)
 go_enter Try.func10,Try.ntmps10
 go_upto_region 1 with (first|((with_reducible refine gate_dst (N:=1) rfl ?_);(try (refine gate_guard (by rfl) ?_;dsimp only));refine box_event ?hg (N:=1) ?hd (cs:=#[.int .i64 a0,.int .u32 a1,.int .u32 a2,.int .u32 a3,.slice A4 l4.length c4,.int .i64 a5,.int .u32 a6,.int .u32 a7,.int .u32 a8,.int .u32 a9,.int .u32 a10,.int .u32 a11]) (t:=26) ?hr ?_;(case hd=>rfl);(case hg=>rfl);(case hr=>first|(go_simp;done)|(go_simp;rfl));intro gd hg w3 hbox hb;have n0_:=mK (below_step HB.out hb);have n3_:=mK (by rw [hg];exact Nat.le_refl _ : w.heap.size ≤ gd);clear HB;have HB:=n0_;have BKd:=mK hbox;have GEd:=n3_;clear n0_ n3_;clear hb hbox hg))
 go_cut [30] (fun v30 wc=>∃ x : Bool,v30 = .bool x∧Aside0 (x = dhcp_Put.bad a0 l4 a5)∧Aside0 (wc.heap[gd]? = some (.cells #[.int .i64 a0,.int .u32 a1,.int .u32 a2,.int .u32 a3,.slice A4 l4.length c4,.int .i64 a5,.int .u32 a6,.int .u32 a7,.int .u32 a8,.int .u32 a9,.int .u32 a10,.int .u32 a11] 26 (0,0)))∧Aside0 (Below w.heap.size w wc))
 case first =>
  have hc0 : w3.cell? ⟨gd,0,none⟩ = some (.int .i64 a0):=(blk_cell BKd.out 0).trans rfl
  have hc1 : w3.cell? ⟨gd,1,none⟩ = some (.int .u32 a1):=(blk_cell BKd.out 1).trans rfl
  have hc2 : w3.cell? ⟨gd,2,none⟩ = some (.int .u32 a2):=(blk_cell BKd.out 2).trans rfl
  have hc3 : w3.cell? ⟨gd,3,none⟩ = some (.int .u32 a3):=(blk_cell BKd.out 3).trans rfl
  have hc4 : w3.cell? ⟨gd,4,none⟩ = some (.slice A4 l4.length c4):=(blk_cell BKd.out 4).trans rfl
  have hc5 : w3.cell? ⟨gd,5,none⟩ = some (.int .i64 a5):=(blk_cell BKd.out 5).trans rfl
  have hc6 : w3.cell? ⟨gd,6,none⟩ = some (.int .u32 a6):=(blk_cell BKd.out 6).trans rfl
  have hc7 : w3.cell? ⟨gd,7,none⟩ = some (.int .u32 a7):=(blk_cell BKd.out 7).trans rfl
  have hc8 : w3.cell? ⟨gd,8,none⟩ = some (.int .u32 a8):=(blk_cell BKd.out 8).trans rfl
  have hc9 : w3.cell? ⟨gd,9,none⟩ = some (.int .u32 a9):=(blk_cell BKd.out 9).trans rfl
  have hc10 : w3.cell? ⟨gd,10,none⟩ = some (.int .u32 a10):=(blk_cell BKd.out 10).trans rfl
  have hc11 : w3.cell? ⟨gd,11,none⟩ = some (.int .u32 a11):=(blk_cell BKd.out 11).trans rfl
  by_cases d1 : a0 < 1
  case pos =>
   have e1 : decide (a0 < 1) = true:=decide_eq_true d1
   go_wp2
   go_meet
   case rel=>exact ⟨true,rfl,⟨by simp [dhcp_Put.bad,d1, *]⟩,BKd,HB⟩
  have e1 : decide (a0 < 1) = false:=decide_eq_false d1
  by_cases d2 : 2 < a0
  case pos =>
   have e2 : decide (2 < a0) = true:=decide_eq_true d2
   go_wp2
   go_meet
   case rel=>exact ⟨true,rfl,⟨by simp [dhcp_Put.bad,d1, *]⟩,BKd,HB⟩
  have e2 : decide (2 < a0) = false:=decide_eq_false d2
  by_cases d3 : (l4.length : Int) = 6
  case neg =>
   have e3 : ((l4.length : Int) != 6) = true:=bne_iff_ne.2 d3
   go_wp2
   go_meet
   case rel=>exact ⟨true,rfl,⟨by simp [dhcp_Put.bad,d1, *]⟩,BKd,HB⟩
  have e3 : ((l4.length : Int) != 6) = false:=bne_eq_false_iff_eq.2 d3
  by_cases d4 : a5 < 1
  case pos =>
   have e4 : decide (a5 < 1) = true:=decide_eq_true d4
   go_wp2
   go_meet
   case rel=>exact ⟨true,rfl,⟨by simp [dhcp_Put.bad,d1, *]⟩,BKd,HB⟩
  have e4 : decide (a5 < 1) = false:=decide_eq_false d4
  go_wp2
  go_meet
  case rel=>exact ⟨decide (8 < a5),rfl,⟨by simp [dhcp_Put.bad,d1, *]⟩,BKd,HB⟩
 case rest =>
  obtain ⟨x,rfl,HX,BKd,HB⟩:=hcut
  have H:=HH.out
  clear HH
  unfold dhcp_Put.f at H
  rw [← HX.out] at H
  cases x with
  |true =>
   rw [if_pos rfl] at H
   obtain ⟨rfl,rfl⟩:=Prod.mk.inj (Option.some.inj H)
   go_wp2
   go_ret2
   exact ⟨_,rfl,Kd.R_nil _ _ _ _ _,HB.out⟩
  |false =>
   rw [if_neg (by decide)] at H
   have hl4 : l4.length = 6:= by have:=HX.out;simp only [dhcp_Put.bad,Bool.false_eq,Bool.or_eq_false_iff,bne_eq_false_iff_eq] at this;omega
   have HL4:=mK hl4
   clear HX hl4
   unfold dhcp_Put.g at H
   obtain ⟨b1,qb1,H⟩:=Option.bind_eq_some_iff.1 H
   replace qb1:=mK qb1
   obtain ⟨b2,qb2,H⟩:=Option.bind_eq_some_iff.1 H
   replace qb2:=mK qb2
   obtain ⟨b3,qb3,H⟩:=Option.bind_eq_some_iff.1 H
   replace qb3:=mK qb3
   obtain ⟨b5,qb5,H⟩:=Option.bind_eq_some_iff.1 H
   replace qb5:=mK qb5
   obtain ⟨e1,qe1,H⟩:=Option.bind_eq_some_iff.1 H
   replace qe1:=mK qe1
   obtain ⟨e2,qe2,H⟩:=Option.bind_eq_some_iff.1 H
   replace qe2:=mK qe2
   obtain ⟨e3,qe3,H⟩:=Option.bind_eq_some_iff.1 H
   replace qe3:=mK qe3
   obtain ⟨e4,qe4,H⟩:=Option.bind_eq_some_iff.1 H
   replace qe4:=mK qe4
   obtain ⟨e5,qe5,H⟩:=Option.bind_eq_some_iff.1 H
   replace qe5:=mK qe5
   obtain ⟨e6,qe6,H⟩:=Option.bind_eq_some_iff.1 H
   replace qe6:=mK qe6
   by_cases hlen : e6.length < 140737488355000
   case neg=>rw [if_neg hlen] at H;cases H
   rw [if_pos hlen] at H
   obtain ⟨rfl,rfl⟩:=Prod.mk.inj (Option.some.inj H)
   replace hlen:=mK hlen
   clear H
   obtain ⟨y,hy⟩ : ∃ y_ : List Int,y_ = List.replicate 240 (0 : Int):=⟨_,rfl⟩
   have Ny:=mK hy
   clear hy
   go_upto_region 5 with (first|((with_reducible refine gate_dst (N:=31) rfl ?_);refine Kd.R_make (Kd.int .u8) _ 5 rfl (N:=31) rfl 22 _ _ rfl 240 rfl rfl Try.underlying22 (.int .u8 0) 1 info5 rfl (by decide) (by omega) 0 (ok:= fun _=>True) (okp:= fun _=>True) rfl (fun _ hk=>hk) trivial (by omega) (by decide) (Below.refl _ _) (Nat.le_refl _) ?_;intro v110 w8 ho9 hb hg_ hnew_;clear hg_ hnew_;(first|rw [← Ny.out] at ho9|(simp only [Int.reduceToNat] at ho9;rw [← Ny.out] at ho9));have n0_:=mK (Kd.R_lower ho9 (below_size HB.out));have n1_:=mK (below_step HB.out hb);have n2_:=mK (blk_below BKd.out hb);obtain ⟨g,cap,rfl,hgg,hgl,_⟩:=Kd.R_form ho9 (by rw [Ny.out];simp);replace hgl:=mK hgl;replace hgg:=mK (Nat.le_trans (below_size HB.out) hgg);clear HB BKd hb ho9;have HO:=n0_;have HB:=n1_;have BKd:=n2_;clear n0_ n1_ n2_))
   have HgB:=mK (show w.heap.size ≤ w8.heap.size from below_size HB.out)
   have HS:=mK (show PutSt w (w8.alloc (.cells #[.slice (some ⟨g,0,none⟩) y.length cap] 22 (0,0))) gd w8.heap.size #[.int .i64 a0,.int .u32 a1,.int .u32 a2,.int .u32 a3,.slice A4 l4.length c4,.int .i64 a5,.int .u32 a6,.int .u32 a7,.int .u32 a8,.int .u32 a9,.int .u32 a10,.int .u32 a11] (.slice (some ⟨g,0,none⟩) y.length cap) y from ⟨blk_alloc BKd.out _,blk_new _ _,Kd.R_mono (Kd.R_alloc HO.out _) (fun _ _=>trivial),below_alloc HB.out _,HgB.out,by have:=blk_lt BKd.out;omega⟩)
   clear HB HO BKd
   have HSd:=mK HS.out.drew
   have hb0:=(blk_cell HSd.out.hb 0).trans rfl
   have hd0 : (w8.alloc (.cells #[.slice (some ⟨g,0,none⟩) y.length cap] 22 (0,0))).drew.cell? ⟨gd,0,none⟩ = some (.int .i64 a0):=(blk_cell HSd.out.hd 0).trans rfl
   clear HS
   refine start_ (n:=12) (S:= fun w'=>w'.cell? ⟨w8.heap.size,0,none⟩ = some (.slice (some ⟨g,0,none⟩) y.length cap)∧w'.cell? ⟨gd,0,none⟩ = some (.int .i64 a0)) (ds:=[]) #[φ,φ,φ,φ,φ,φ,φ,φ,φ,φ,φ,φ] (by kernel_rfl) rfl rfl ⟨hb0,hd0⟩ (fun hHeld=>?_);refine with_tabW dhcp_Put.tab5 dhcp_Put.bits5 (fun HT_ HW_=>?_)
   clear hb0 hd0
   generalize w8.heap.size = gb at HSd HgB hHeld ⊢
   generalize (w8.alloc (.cells #[.slice (some ⟨g,0,none⟩) y.length cap] 22 (0,0))).drew = W1 at HSd hHeld ⊢
   have hy:=Ny.out
   have hyl : y.length = 240:= by rw [hy];simp
   clear hy
   have p0:=eq_true (show (0 : Int) < (y.length : Int) by omega)
   have p1:=eq_true (show (1 : Int) < (y.length : Int) by omega)
   have p2:=eq_true (show (2 : Int) < (y.length : Int) by omega)
   have q0:=eq_true (show 0 < y.length by omega)
   have q1:=eq_true (show 1 < y.length by omega)
   have q2:=eq_true (show 2 < y.length by omega)
   replace hyl:=mK hyl
   refine take_ (i:=0) (N:=some 33) (v:=?_) (a':=?_) #[τ,φ,φ,φ,φ,φ,φ,φ,φ,φ,φ,φ] rfl rfl (take_ofW HT_.out HW_.out (by kernel_rfl)) (fun _ _ _ h=>h) (Or.inl ⟨by rfl,?_⟩) hHeld ?_ ?_
   rotate_left
   ·rintro w' ⟨s0,s1⟩
    go_simp
    with_reducible rfl
   rotate_left
   ·simp only [Act.put,sT,sZ,sS,i64_w,i32_w]
    rfl
   refine take_ (i:=1) (N:=some 34) (v:=?_) (a':=?_) #[τ,τ,φ,φ,φ,φ,φ,φ,φ,φ,φ,φ] rfl rfl (take_ofW HT_.out HW_.out (by kernel_rfl)) (fun _ _ _ h=>h) (Or.inl ⟨by rfl,?_⟩) hHeld ?_ ?_
   rotate_left
   ·rintro w' ⟨s0,s1⟩
    go_simp
    with_reducible rfl
   rotate_left
   ·simp only [Act.put,sT,sZ,sS,i64_w,i32_w]
    rfl
   refine take_ (i:=2) (N:=some 35) (v:=?_) (a':=?_) #[τ,τ,τ,φ,φ,φ,φ,φ,φ,φ,φ,φ] rfl rfl (take_ofW HT_.out HW_.out (by kernel_rfl)) (fun _ _ _ h=>h) (Or.inl ⟨by rfl,?_⟩) hHeld ?_ ?_
   rotate_left
   ·rintro w' ⟨s0,s1⟩
    go_simp
    with_reducible rfl
   rotate_left
   ·simp only [Act.put,sT,sZ,sS,i64_w,i32_w]
    rfl
   refine pure_ (i:=3) (N:=some 36) (v:=?_) (a':=?_) #[τ,τ,τ,τ,φ,φ,φ,φ,φ,φ,φ,φ] rfl rfl (any_of HT_.out (by kernel_rfl)) (fun _ _ _ h=>h) (Or.inl ⟨by rfl,?_⟩) ?_ ?_
   rotate_left
   ·intro w'
    go_simp
    with_reducible rfl
   rotate_left
   ·simp only [Act.put,sT,sZ,sS,i64_w,i32_w]
    rfl
   refine take_ (i:=4) (N:=some 37) (v:=?_) (a':=?_) #[τ,τ,τ,τ,τ,φ,φ,φ,φ,φ,φ,φ] rfl rfl (take_ofW HT_.out HW_.out (by kernel_rfl)) (fun _ _ _ h=>h) (Or.inl ⟨by rfl,?_⟩) hHeld ?_ ?_
   rotate_left
   ·rintro w' ⟨s0,s1⟩
    go_simp
    with_reducible rfl
   rotate_left
   ·simp only [Act.put,sT,sZ,sS,i64_w,i32_w]
    rfl
   refine pure_ (i:=5) (N:=some 38) (v:=?_) (a':=?_) #[τ,τ,τ,τ,τ,τ,φ,φ,φ,φ,φ,φ] rfl rfl (any_of HT_.out (by kernel_rfl)) (fun _ _ _ h=>h) (Or.inl ⟨by rfl,?_⟩) ?_ ?_
   rotate_left
   ·intro w'
    go_simp
    with_reducible rfl
   rotate_left
   ·simp only [Act.put,sT,sZ,sS,i64_w,i32_w]
    rfl
   refine pure_ (i:=6) (N:=some 39) (v:=?_) (a':=?_) #[τ,τ,τ,τ,τ,τ,τ,φ,φ,φ,φ,φ] rfl rfl (any_of HT_.out (by kernel_rfl)) (fun _ _ _ h=>h) (Or.inl ⟨by rfl,?_⟩) ?_ ?_
   rotate_left
   ·intro w'
    go_simp
    with_reducible rfl
   rotate_left
   ·simp only [Act.put,sT,sZ,sS,i64_w,i32_w]
    rfl
   refine one_ (i:=7) (N:=none) #[τ,τ,τ,τ,τ,τ,τ,τ,φ,φ,φ,φ] rfl rfl (one_of HT_.out (by kernel_rfl)) (by decide) (fun K hK=>?_)
   obtain ⟨⟨u_,hcl⟩,hfz⟩:=HSd.out.cells 0 (by have:=hyl.out;simp;omega)
   have HS2:=mK (HSd.out.put hgg.out 0 (IntKind.u8.wrap a0))
   refine skip_ (w1:=W1.setCell ⟨g,0,none⟩ (.int .u8 (IntKind.u8.wrap a0))) (by rfl) rfl ?_ ?_
   ·go_simp
    try rfl
   refine hK.out _ _ ⟨(blk_cell HS2.out.hb 0).trans rfl,(blk_cell HS2.out.hd 0).trans rfl⟩ (fun hHeld=>?_)
   clear hK K hcl hfz
   replace HSd:=HS2
   clear HS2
   generalize W1.setCell ⟨g,0,none⟩ (.int .u8 (IntKind.u8.wrap a0)) = W2 at HSd hHeld ⊢
   refine pure_ (i:=8) (N:=some 40) (v:=?_) (a':=?_) #[τ,τ,τ,τ,τ,τ,τ,τ,τ,φ,φ,φ] rfl rfl (any_of HT_.out (by kernel_rfl)) (fun _ _ _ h=>h) (Or.inl ⟨by rfl,?_⟩) ?_ ?_
   rotate_left
   ·intro w'
    go_simp
    with_reducible rfl
   rotate_left
   ·simp only [Act.put,sT,sZ,sS,i64_w,i32_w]
    rfl
   refine one_ (i:=9) (N:=none) #[τ,τ,τ,τ,τ,τ,τ,τ,τ,τ,φ,φ] rfl rfl (one_of HT_.out (by kernel_rfl)) (by decide) (fun K hK=>?_)
   obtain ⟨⟨u_,hcl⟩,hfz⟩:=HSd.out.cells 1 (by have:=hyl.out;simp;omega)
   have HS2:=mK (HSd.out.put hgg.out 1 (1))
   refine skip_ (w1:=W2.setCell ⟨g,1,none⟩ (.int .u8 (1))) (by rfl) rfl ?_ ?_
   ·go_simp
    try rfl
   refine hK.out _ _ ⟨(blk_cell HS2.out.hb 0).trans rfl,(blk_cell HS2.out.hd 0).trans rfl⟩ (fun hHeld=>?_)
   clear hK K hcl hfz
   replace HSd:=HS2
   clear HS2
   generalize W2.setCell ⟨g,1,none⟩ (.int .u8 (1)) = W3 at HSd hHeld ⊢
   refine pure_ (i:=10) (N:=some 41) (v:=?_) (a':=?_) #[τ,τ,τ,τ,τ,τ,τ,τ,τ,τ,τ,φ] rfl rfl (any_of HT_.out (by kernel_rfl)) (fun _ _ _ h=>h) (Or.inl ⟨by rfl,?_⟩) ?_ ?_
   rotate_left
   ·intro w'
    go_simp
    with_reducible rfl
   rotate_left
   ·simp only [Act.put,sT,sZ,sS,i64_w,i32_w]
    rfl
   refine one_ (i:=11) (N:=none) #[τ,τ,τ,τ,τ,τ,τ,τ,τ,τ,τ,τ] rfl rfl (one_of HT_.out (by kernel_rfl)) (by decide) (fun K hK=>?_)
   obtain ⟨⟨u_,hcl⟩,hfz⟩:=HSd.out.cells 2 (by have:=hyl.out;simp;omega)
   have HS2:=mK (HSd.out.put hgg.out 2 (6))
   refine skip_ (w1:=W3.setCell ⟨g,2,none⟩ (.int .u8 (6))) (by rfl) rfl ?_ ?_
   ·go_simp
    try rfl
   refine hK.out _ _ ⟨(blk_cell HS2.out.hb 0).trans rfl,(blk_cell HS2.out.hd 0).trans rfl⟩ (fun hHeld=>?_)
   clear hK K hcl hfz
   replace HSd:=HS2
   clear HS2
   generalize W3.setCell ⟨g,2,none⟩ (.int .u8 (6)) = W4 at HSd hHeld ⊢
   refine done_ (done_of HT_.out (by kernel_rfl)) ?_
   have HE1:=mK (fun args w=>enters_ (P:=Try.prog) (f:=18) (fn:=Try.f18) (by kernel_rfl) rfl rfl args w)
   have HE2:=mK (fun args w=>enters_ (P:=Try.prog) (f:=20) (fn:=Try.f20) (by kernel_rfl) rfl rfl args w)
   obtain ⟨ad4,eA4,_⟩:=Kd.at_int HR4.out 0 (by omega) (by have:=HL4.out;omega)
   subst eA4
   have qb1' : Aside0 (dhcp_Put_1.f k (((y.set 0 (IntKind.u8.wrap a0)).set 1 1).set 2 6) 4 a1 = some b1):= by rw [Ny.out];exact qb1
   clear qb1 p0 p1 p2 q0 q1 q2
   have hf_ : W4.cell? ⟨gd,1,none⟩ = some (.int .u32 a1):=(blk_cell HSd.out.hd 1).trans rfl
   go_upto_region 9 with (first|(go_at_call 18;refine (dhcp_Put_1.calls k gb w.heap.size (fun _=>True) _ (((y.set 0 (IntKind.u8.wrap a0)).set 1 1).set 2 6) 4 a1 b1 w _ HSd.out.hw HSd.out.hb HSd.out.hr qb1'.out).mono ?_;rintro e W5 ⟨rfl,hk_,ho_,hb_⟩;have HS2:=mK (show PutSt w W5 gd gb #[.int .i64 a0,.int .u32 a1,.int .u32 a2,.int .u32 a3,.slice (some ad4) l4.length c4,.int .i64 a5,.int .u32 a6,.int .u32 a7,.int .u32 a8,.int .u32 a9,.int .u32 a10,.int .u32 a11] (.slice (some ⟨g,0,none⟩) y.length cap) b1 from ⟨hk_ gd 26 _ (by decide) HSd.out.hd,hk_ gb 22 _ (by decide) HSd.out.hb,ho_,hb_,HSd.out.hge,HSd.out.hne⟩);clear HSd hk_ ho_ hb_;have HSd:=HS2;clear HS2;have hf2_ : W5.cell? ⟨gd,2,none⟩ = some (.int .u32 a2):=(blk_cell HSd.out.hd 2).trans rfl)|(go_at_call 18;refine (dhcp_Put_1.calls k gb w.heap.size (fun _=>True) _ b1 12 a2 b2 w _ HSd.out.hw HSd.out.hb HSd.out.hr qb2.out).mono ?_;rintro e W6 ⟨rfl,hk_,ho_,hb_⟩;have HS2:=mK (show PutSt w W6 gd gb #[.int .i64 a0,.int .u32 a1,.int .u32 a2,.int .u32 a3,.slice (some ad4) l4.length c4,.int .i64 a5,.int .u32 a6,.int .u32 a7,.int .u32 a8,.int .u32 a9,.int .u32 a10,.int .u32 a11] (.slice (some ⟨g,0,none⟩) y.length cap) b2 from ⟨hk_ gd 26 _ (by decide) HSd.out.hd,hk_ gb 22 _ (by decide) HSd.out.hb,ho_,hb_,HSd.out.hge,HSd.out.hne⟩);clear HSd hk_ ho_ hb_;have HSd:=HS2;clear HS2;have hf3_ : W6.cell? ⟨gd,3,none⟩ = some (.int .u32 a3):=(blk_cell HSd.out.hd 3).trans rfl)|(go_at_call 18;refine (dhcp_Put_1.calls k gb w.heap.size (fun _=>True) _ b2 16 a3 b3 w _ HSd.out.hw HSd.out.hb HSd.out.hr qb3.out).mono ?_;rintro e W7 ⟨rfl,hk_,ho_,hb_⟩;have HS2:=mK (show PutSt w W7 gd gb #[.int .i64 a0,.int .u32 a1,.int .u32 a2,.int .u32 a3,.slice (some ad4) l4.length c4,.int .i64 a5,.int .u32 a6,.int .u32 a7,.int .u32 a8,.int .u32 a9,.int .u32 a10,.int .u32 a11] (.slice (some ⟨g,0,none⟩) y.length cap) b3 from ⟨hk_ gd 26 _ (by decide) HSd.out.hd,hk_ gb 22 _ (by decide) HSd.out.hb,ho_,hb_,HSd.out.hge,HSd.out.hne⟩);clear HSd hk_ ho_ hb_;have HSd:=HS2;clear HS2))
   have hb3 : b3.length = 240:= by rw [dhcp_Put_1.len qb3.out,dhcp_Put_1.len qb2.out,dhcp_Put_1.len qb1'.out];simp [hyl.out]
   obtain ⟨i0,hi0,_,hsz,_⟩:=info_parts info5
   have hcap:=(Kd.R_reads' HSd.out.hr).2.1
   have hcut : ∀ W : World,(Instr.slice 22 (.slice (some ⟨g,0,none⟩) y.length cap) (some (.int .i64 28)) none none).run Try.prog W = .ok (.slice (some ⟨g,28,none⟩) (y.length - 28) (cap - 28)) W:= fun W=>own_cut_from (P:=Try.prog) 22 5 .i64 Try.underlying22 hi0 hsz g y.length cap 28 (by have:=hyl.out;omega) (by have:=hyl.out;omega) W
   have HZ:=mK (show (Try.prog.info? 5).map (·.size) = some 1 by rw [hi0];simp [hsz])
   clear hi0 hsz hcap
   replace hb3:=mK hb3
   replace HSd:=mK HSd.out.drew
   have hb0:=(blk_cell HSd.out.hb 0).trans rfl
   have hd0 : W7.drew.cell? ⟨gd,4,none⟩ = some (.slice (some ad4) l4.length c4):=(blk_cell HSd.out.hd 4).trans rfl
   refine start_ (n:=5) (S:= fun w'=>w'.cell? ⟨gb,0,none⟩ = some (.slice (some ⟨g,0,none⟩) y.length cap)∧w'.cell? ⟨gd,4,none⟩ = some (.slice (some ad4) l4.length c4)) (ds:=[]) #[false,false,false,false,false] (by kernel_rfl) rfl rfl ⟨hb0,hd0⟩ (fun hHeld=>?_);refine with_tabW dhcp_Put.tab9 dhcp_Put.bits9 (fun HT_ HW_=>?_)
   clear hb0 hd0
   generalize W7.drew = W8 at HSd hHeld ⊢
   refine take_ (i:=0) (N:=some 54) (v:=?_) (a':=?_) #[true,false,false,false,false] rfl rfl (take_ofW HT_.out HW_.out (by kernel_rfl)) (fun _ _ _ h=>h) (Or.inl ⟨by rfl,?_⟩) hHeld ?_ ?_
   rotate_left
   ·rintro w' ⟨s0,s1⟩
    go_simp
    with_reducible rfl
   rotate_left
   ·simp only [Act.put,sT,sZ,sS,i64_w,i32_w]
    rfl
   refine pure_ (i:=1) (N:=some 55) (v:=?_) (a':=?_) #[true,true,false,false,false] rfl rfl (any_of HT_.out (by kernel_rfl)) (fun _ _ _ h=>h) (Or.inl ⟨by rfl,?_⟩) ?_ ?_
   rotate_left
   ·intro w'
    go_simp
    with_reducible rfl
   rotate_left
   ·simp only [Act.put,sT,sZ,sS,i64_w,i32_w]
    rfl
   refine pure_ (i:=2) (N:=some 56) (v:=?_) (a':=?_) #[true,true,true,false,false] rfl rfl (any_of HT_.out (by kernel_rfl)) (fun _ _ _ h=>h) (Or.inl ⟨by rfl,?_⟩) ?_ ?_
   rotate_left
   ·intro w'
    go_simp
    with_reducible rfl
   rotate_left
   ·simp only [Act.put,sT,sZ,sS,i64_w,i32_w]
    rfl
   refine take_ (i:=3) (N:=some 57) (v:=?_) (a':=?_) #[true,true,true,true,false] rfl rfl (take_ofW HT_.out HW_.out (by kernel_rfl)) (fun _ _ _ h=>h) (Or.inl ⟨by rfl,?_⟩) hHeld ?_ ?_
   rotate_left
   ·rintro w' ⟨s0,s1⟩
    go_simp
    with_reducible rfl
   rotate_left
   ·simp only [Act.put,sT,sZ,sS,i64_w,i32_w]
    rfl
   refine one_ (i:=4) (N:=some 58) #[true,true,true,true,true] rfl rfl (one_of HT_.out (by kernel_rfl)) (by decide) (fun K hK=>?_)
   obtain ⟨cur4,hc4,hl4,hbg4,-,hput4⟩:=R_scalar_splice HSd.out.hr
   refine step_copy_own rfl (.tmp 55) (.tmp 57) 22 22 rfl 5 Try.underlying22 HZ.out g 28 (y.length - 28) (cap - 28) ad4 l4.length c4 rfl rfl cur4 5 hc4 (nums .u8 l4) (by have:=HL4.out;have:=hyl.out;rw [nums_length];exact (Nat.min_eq_left (by omega)).symm) (C_nums_cells (Kd.C_below HR4.out HSd.out.hw)) (by have:=HL4.out;have:=hyl.out;rw [nums_length];omega) nums_one ?_
   intro W9 hg5 hk5 hb5
   have hgd : gd ≠ g:= fun e=>Kd.R_ne HSd.out.hr HSd.out.hd (by decide) (by simp [Value.ownBlock,e])
   have hgb : gb ≠ g:= fun e=>Kd.R_ne HSd.out.hr HSd.out.hb (by decide) (by simp [Value.ownBlock,e])
   have HS2:=mK (show PutSt w W9 gd gb #[.int .i64 a0,.int .u32 a1,.int .u32 a2,.int .u32 a3,.slice (some ad4) l4.length c4,.int .i64 a5,.int .u32 a6,.int .u32 a7,.int .u32 a8,.int .u32 a9,.int .u32 a10,.int .u32 a11] (.slice (some ⟨g,0,none⟩) y.length cap) (splice b3 28 l4) from ⟨(hk5 gd hgd).trans HSd.out.hd,(hk5 gb hgb).trans HSd.out.hb,hput4 28 l4 W9 (by have:=HL4.out;have:=hyl.out;omega) hg5.out,hb5 _ _ HSd.out.hw hbg4,HSd.out.hge,HSd.out.hne⟩)
   refine hK.out _ _ ⟨(blk_cell HS2.out.hb 0).trans rfl,(blk_cell HS2.out.hd 4).trans rfl⟩ (fun hHeld=>?_)
   clear hK K hc4 hput4 hg5 hk5 hb5 hgd hgb
   replace HSd:=HS2
   clear HS2
   refine done_ (done_of HT_.out (by kernel_rfl)) ?_
   clear hcut
   go_upto_region 11 with ((go_at_call 18;refine (dhcp_Put_1.calls k gb w.heap.size (fun _=>True) _ (splice b3 28 l4) 236 1669485411 b5 w _ HSd.out.hw HSd.out.hb HSd.out.hr qb5.out).mono ?_;rintro e W10 ⟨rfl,hk_,ho_,hb_⟩;have HS2:=mK (show PutSt w W10 gd gb #[.int .i64 a0,.int .u32 a1,.int .u32 a2,.int .u32 a3,.slice (some ad4) l4.length c4,.int .i64 a5,.int .u32 a6,.int .u32 a7,.int .u32 a8,.int .u32 a9,.int .u32 a10,.int .u32 a11] (.slice (some ⟨g,0,none⟩) y.length cap) b5 from ⟨hk_ gd 26 _ (by decide) HSd.out.hd,hk_ gb 22 _ (by decide) HSd.out.hb,ho_,hb_,HSd.out.hge,HSd.out.hne⟩);clear HSd hk_ ho_ hb_;have HSd:=HS2;clear HS2))
   have hf_ : W10.cell? ⟨gd,5,none⟩ = some (.int .i64 a5):=(blk_cell HSd.out.hd 5).trans rfl
   have hs_ : W10.cell? ⟨gb,0,none⟩ = some (.slice (some ⟨g,0,none⟩) y.length cap):=(blk_cell HSd.out.hb 0).trans rfl
   have hlb_ : b5.length ≤ 140737488355000:= by rw [dhcp_Put_1.len qb5.out,length_splice _ _ _ (by have:=hb3.out;have:=HL4.out;omega)];have:=hb3.out;omega
   replace hlb_:=mK hlb_
   go_upto_region 12 with (first|((with_reducible refine gate_dst (N:=65) rfl ?_);(try (refine gate_guard (by rfl) ?_;dsimp only));refine Kd.R_lit (Kd.int .u8) _ 5 ?hg (N:=65) ?hd (xs:=([53,1,IntKind.u8.wrap a5] : List Int)) (inner:=[.int .u8 53,.int .u8 1,.int .u8 (IntKind.u8.wrap a5)]) (ok:= fun _=>True) (okp:= fun _=>True) ?hr ?hp (fun _ hk=>hk) trivial (Below.refl _ _) (Nat.le_refl _) (by simp) ?_;(case hd=>rfl);(case hg=>rfl);(case hr=>first|(go_simp;done)|(go_simp;rfl));(case hp=>exact (Reps.one (show Kd.M (Kd.int .u8) _ _ _ 53 [.int .u8 53] from rfl) (Reps.one (show Kd.M (Kd.int .u8) _ _ _ 1 [.int .u8 1] from rfl) (Reps.one (show Kd.M (Kd.int .u8) _ _ _ (IntKind.u8.wrap a5) [.int .u8 (IntKind.u8.wrap a5)] from rfl) (Reps.none _ _)))));intro vl_ W11 hol_ hbl_ hg_ hnew_;clear hg_ hnew_;obtain ⟨Al_,cl_,el_⟩:=Kd.R_slice hol_;subst el_;have HL_:=mK hol_;have HS2:=mK (PutSt.below HSd.out hbl_);clear hbl_ hol_ HSd;have HSd:=HS2;clear HS2)|((with_reducible refine gate_builtin (b:=.append) (xs:=#[.tmp 61,.tmp 65]) rfl ?_);(try (refine gate_guard (by rfl) ?_;dsimp only));at_builtin;refine Kd.R_append_rows (Kd.int .u8) (w0:=w) w.heap.size rfl (.tmp 61) (.tmp 65) 22 5 (.int .u8 0) 1 rfl Try.underlying22 info5 rfl (by decide) (by omega) _ b5 ([53,1,IntKind.u8.wrap a5] : List Int) _ _ _ (fun _=>True) (fun _=>False) rfl rfl ?aO ?aR (fun _ _ h=>h) (fun _ h=>h.elim) (fun _ _=>trivial) ?aB ?aS ?aL ?_;(case aO=>exact HSd.out.hr);(case aR=>exact (Kd.R_reads' HL_.out).2.2);(case aB=>exact HSd.out.hw);(case aS=>exact below_size HSd.out.hw);(case aL=>have:=hlb_.out;simp;omega);intro va_ W12 hoa_ hba_ hga_ hat_;obtain ⟨Aq1,cq1,ea_⟩:=Kd.R_slice hoa_;subst ea_;have HA_:=mK (And.intro hoa_ (And.intro hba_ (And.intro (blk_grown HSd.out.hd hga_ (Kd.R_ne HSd.out.hr HSd.out.hd (by decide))) (And.intro (blk_grown HSd.out.hb hga_ (Kd.R_ne HSd.out.hr HSd.out.hb (by decide))) (And.intro HSd.out.hge HSd.out.hne)))));have hs2_:=(blk_cell HA_.out.2.2.2.1 0).trans rfl;have hfs2_:=blk_frozen HA_.out.2.2.2.1 0;clear hoa_ hba_ hga_ hat_))
   obtain ⟨r1_,r2_,r3_,r4_,r5_,r6_⟩:=HA_.out
   rw [show (b5 ++ [53,1,IntKind.u8.wrap a5]).length = b5.length + 3 by simp] at r1_
   have HSn : Aside0 (PutSt w (W12.setCell ⟨gb,0,none⟩ (.slice Aq1 (b5.length + 3) cq1)) gd gb #[.int .i64 a0,.int .u32 a1,.int .u32 a2,.int .u32 a3,.slice (some ad4) l4.length c4,.int .i64 a5,.int .u32 a6,.int .u32 a7,.int .u32 a8,.int .u32 a9,.int .u32 a10,.int .u32 a11] (.slice Aq1 (b5.length + 3) cq1) (b5 ++ [53,1,IntKind.u8.wrap a5])):=⟨⟨blk_far r3_ r6_ _,blk_put (cs:=#[(.slice (some ⟨g,0,none⟩) y.length cap)]) r4_ 0 _ rfl,Kd.R_set r1_ r4_ (by decide) 0 _,below_set r2_ r5_,r5_,r6_⟩⟩
   clear r1_ r2_ r3_ r4_ r5_ r6_ HA_ hs2_ hfs2_ HSd hf_ hs_
   generalize W12.setCell ⟨gb,0,none⟩ (.slice Aq1 (b5.length + 3) cq1) = W13 at HSn ⊢
   have HSd:=HSn
   clear HSn
   have hf_ : W13.cell? ⟨gd,6,none⟩ = some (.int .u32 a6):=(blk_cell HSd.out.hd 6).trans rfl
   go_upto_region 19 with (first|(go_at_call 20;refine (dhcp_Put_2.calls k 50 a6 gb w.heap.size _ (b5 ++ [53,1,IntKind.u8.wrap a5]) e1 w _ HSd.out.hw HSd.out.hge HSd.out.hb HSd.out.hr qe1.out).mono ?_;rintro e W14 ⟨ve1,rfl,hbx_,hk_,ho_,hb_⟩;have HS2:=mK (show PutSt w W14 gd gb #[.int .i64 a0,.int .u32 a1,.int .u32 a2,.int .u32 a3,.slice (some ad4) l4.length c4,.int .i64 a5,.int .u32 a6,.int .u32 a7,.int .u32 a8,.int .u32 a9,.int .u32 a10,.int .u32 a11] ve1 e1 from ⟨(hk_ gd (blk_lt HSd.out.hd) HSd.out.hne).trans HSd.out.hd,hbx_,ho_,hb_,HSd.out.hge,HSd.out.hne⟩);clear HSd hbx_ hk_ ho_ hb_;have HSd:=HS2;clear HS2;have hf7_ : W14.cell? ⟨gd,7,none⟩ = some (.int .u32 a7):=(blk_cell HSd.out.hd 7).trans rfl)|(go_at_call 20;refine (dhcp_Put_2.calls k 54 a7 gb w.heap.size _ e1 e2 w _ HSd.out.hw HSd.out.hge HSd.out.hb HSd.out.hr qe2.out).mono ?_;rintro e W15 ⟨ve2,rfl,hbx_,hk_,ho_,hb_⟩;have HS2:=mK (show PutSt w W15 gd gb #[.int .i64 a0,.int .u32 a1,.int .u32 a2,.int .u32 a3,.slice (some ad4) l4.length c4,.int .i64 a5,.int .u32 a6,.int .u32 a7,.int .u32 a8,.int .u32 a9,.int .u32 a10,.int .u32 a11] ve2 e2 from ⟨(hk_ gd (blk_lt HSd.out.hd) HSd.out.hne).trans HSd.out.hd,hbx_,ho_,hb_,HSd.out.hge,HSd.out.hne⟩);clear HSd hbx_ hk_ ho_ hb_;have HSd:=HS2;clear HS2;have hf8_ : W15.cell? ⟨gd,8,none⟩ = some (.int .u32 a8):=(blk_cell HSd.out.hd 8).trans rfl)|(go_at_call 20;refine (dhcp_Put_2.calls k 51 a8 gb w.heap.size _ e2 e3 w _ HSd.out.hw HSd.out.hge HSd.out.hb HSd.out.hr qe3.out).mono ?_;rintro e W16 ⟨ve3,rfl,hbx_,hk_,ho_,hb_⟩;have HS2:=mK (show PutSt w W16 gd gb #[.int .i64 a0,.int .u32 a1,.int .u32 a2,.int .u32 a3,.slice (some ad4) l4.length c4,.int .i64 a5,.int .u32 a6,.int .u32 a7,.int .u32 a8,.int .u32 a9,.int .u32 a10,.int .u32 a11] ve3 e3 from ⟨(hk_ gd (blk_lt HSd.out.hd) HSd.out.hne).trans HSd.out.hd,hbx_,ho_,hb_,HSd.out.hge,HSd.out.hne⟩);clear HSd hbx_ hk_ ho_ hb_;have HSd:=HS2;clear HS2;have hf9_ : W16.cell? ⟨gd,9,none⟩ = some (.int .u32 a9):=(blk_cell HSd.out.hd 9).trans rfl)|(go_at_call 20;refine (dhcp_Put_2.calls k 1 a9 gb w.heap.size _ e3 e4 w _ HSd.out.hw HSd.out.hge HSd.out.hb HSd.out.hr qe4.out).mono ?_;rintro e W17 ⟨ve4,rfl,hbx_,hk_,ho_,hb_⟩;have HS2:=mK (show PutSt w W17 gd gb #[.int .i64 a0,.int .u32 a1,.int .u32 a2,.int .u32 a3,.slice (some ad4) l4.length c4,.int .i64 a5,.int .u32 a6,.int .u32 a7,.int .u32 a8,.int .u32 a9,.int .u32 a10,.int .u32 a11] ve4 e4 from ⟨(hk_ gd (blk_lt HSd.out.hd) HSd.out.hne).trans HSd.out.hd,hbx_,ho_,hb_,HSd.out.hge,HSd.out.hne⟩);clear HSd hbx_ hk_ ho_ hb_;have HSd:=HS2;clear HS2;have hf10_ : W17.cell? ⟨gd,10,none⟩ = some (.int .u32 a10):=(blk_cell HSd.out.hd 10).trans rfl)|(go_at_call 20;refine (dhcp_Put_2.calls k 3 a10 gb w.heap.size _ e4 e5 w _ HSd.out.hw HSd.out.hge HSd.out.hb HSd.out.hr qe5.out).mono ?_;rintro e W18 ⟨ve5,rfl,hbx_,hk_,ho_,hb_⟩;have HS2:=mK (show PutSt w W18 gd gb #[.int .i64 a0,.int .u32 a1,.int .u32 a2,.int .u32 a3,.slice (some ad4) l4.length c4,.int .i64 a5,.int .u32 a6,.int .u32 a7,.int .u32 a8,.int .u32 a9,.int .u32 a10,.int .u32 a11] ve5 e5 from ⟨(hk_ gd (blk_lt HSd.out.hd) HSd.out.hne).trans HSd.out.hd,hbx_,ho_,hb_,HSd.out.hge,HSd.out.hne⟩);clear HSd hbx_ hk_ ho_ hb_;have HSd:=HS2;clear HS2;have hf11_ : W18.cell? ⟨gd,11,none⟩ = some (.int .u32 a11):=(blk_cell HSd.out.hd 11).trans rfl)|(go_at_call 20;refine (dhcp_Put_2.calls k 6 a11 gb w.heap.size _ e5 e6 w _ HSd.out.hw HSd.out.hge HSd.out.hb HSd.out.hr qe6.out).mono ?_;rintro e W19 ⟨ve6,rfl,hbx_,hk_,ho_,hb_⟩;obtain ⟨Az_,cz_,ez_⟩:=Kd.R_slice ho_;subst ez_;have HS2:=mK (show PutSt w W19 gd gb #[.int .i64 a0,.int .u32 a1,.int .u32 a2,.int .u32 a3,.slice (some ad4) l4.length c4,.int .i64 a5,.int .u32 a6,.int .u32 a7,.int .u32 a8,.int .u32 a9,.int .u32 a10,.int .u32 a11] (.slice Az_ e6.length cz_) e6 from ⟨(hk_ gd (blk_lt HSd.out.hd) HSd.out.hne).trans HSd.out.hd,hbx_,ho_,hb_,HSd.out.hge,HSd.out.hne⟩);clear HSd hbx_ hk_ ho_ hb_;have HSd:=HS2;clear HS2))
   have hs_ : W19.cell? ⟨gb,0,none⟩ = some (.slice Az_ e6.length cz_):=(blk_cell HSd.out.hb 0).trans rfl
   have hlb_ : e6.length ≤ 140737488355000:= by have:=hlen.out;omega
   replace hlb_:=mK hlb_
   go_wp2_with (first|((with_reducible refine gate_dst (N:=93) rfl ?_);(try (refine gate_guard (by rfl) ?_;dsimp only));refine Kd.R_lit (Kd.int .u8) _ 5 ?hg (N:=93) ?hd (xs:=([255] : List Int)) (inner:=[.int .u8 255]) (ok:= fun _=>True) (okp:= fun _=>True) ?hr ?hp (fun _ hk=>hk) trivial (Below.refl _ _) (Nat.le_refl _) (by simp) ?_;(case hd=>rfl);(case hg=>rfl);(case hr=>first|(go_simp;done)|(go_simp;rfl));(case hp=>exact (Reps.one (show Kd.M (Kd.int .u8) _ _ _ 255 [.int .u8 255] from rfl) (Reps.none _ _)));intro vl_ W20 hol_ hbl_ hg_ hnew_;clear hg_ hnew_;obtain ⟨Al_,cl_,el_⟩:=Kd.R_slice hol_;subst el_;have HL_:=mK hol_;have HS2:=mK (PutSt.below HSd.out hbl_);clear hbl_ hol_ HSd;have HSd:=HS2;clear HS2)|((with_reducible refine gate_builtin (b:=.append) (xs:=#[.tmp 92,.tmp 93]) rfl ?_);(try (refine gate_guard (by rfl) ?_;dsimp only));at_builtin;refine Kd.R_append_rows (Kd.int .u8) (w0:=w) w.heap.size rfl (.tmp 92) (.tmp 93) 22 5 (.int .u8 0) 1 rfl Try.underlying22 info5 rfl (by decide) (by omega) _ e6 ([255] : List Int) _ _ _ (fun _=>True) (fun _=>False) rfl rfl ?aO ?aR (fun _ _ h=>h) (fun _ h=>h.elim) (fun _ _=>trivial) ?aB ?aS ?aL ?_;(case aO=>exact HSd.out.hr);(case aR=>exact (Kd.R_reads' HL_.out).2.2);(case aB=>exact HSd.out.hw);(case aS=>exact below_size HSd.out.hw);(case aL=>have:=hlb_.out;simp;omega);intro va_ W21 hoa_ hba_ hga_ hat_;obtain ⟨Aq2,cq2,ea_⟩:=Kd.R_slice hoa_;subst ea_;have HA_:=mK (And.intro hoa_ (And.intro hba_ (And.intro (blk_grown HSd.out.hd hga_ (Kd.R_ne HSd.out.hr HSd.out.hd (by decide))) (And.intro (blk_grown HSd.out.hb hga_ (Kd.R_ne HSd.out.hr HSd.out.hb (by decide))) (And.intro HSd.out.hge HSd.out.hne)))));clear hoa_ hba_ hga_ hat_))
   go_ret2
   have r1_:=HA_.out.1
   rw [show (e6 ++ ([255] : List Int)).length = e6.length + 1 by simp] at r1_
   exact ⟨_,rfl,r1_,HA_.out.2.1⟩


/-! ### drawbridgelaw20_heads: function 7 -/
def drawbridgelaw20_heads.f (k : Nat)  : Option (Bool) := (some (([1, 2, 3, 4, 5, 6] : List Int) : List Int)).bind fun y122 => ((dhcp_Put.f k 1 7 0 0 y122 1 0 0 0 0 0 0).bind fun bt126 => ((dhcp_Get.f k bt126.1).bind fun bt130 => (if 0 ≤ (wrap64 ((bt126.1.length : Int) / 2)) then (if (wrap64 ((bt126.1.length : Int) / 2)) ≤ (bt126.1.length : Int) then ((dhcp_Get.f k (bt126.1.take ((wrap64 ((bt126.1.length : Int) / 2)) : Int).toNat)).bind fun bt150 => ((dhcp_Put.f k 0 0 0 0 ([] : List Int) 0 0 0 0 0 0 0).bind fun bt166 => (if bt126.2 = 0 then (if (bt126.1.length : Int) = 244 then (if bt130.2.2.2.2.2.2.2.2.2.2.2.2 = 0 then ((drawbridgeref20_Same.f bt130.1 bt130.2.1 bt130.2.2.1 bt130.2.2.2.1 bt130.2.2.2.2.1 bt130.2.2.2.2.2.1 bt130.2.2.2.2.2.2.1 bt130.2.2.2.2.2.2.2.1 bt130.2.2.2.2.2.2.2.2.1 bt130.2.2.2.2.2.2.2.2.2.1 bt130.2.2.2.2.2.2.2.2.2.2.1 bt130.2.2.2.2.2.2.2.2.2.2.2.1 1 7 0 0 y122 1 0 0 0 0 0 0).bind fun t170 => (if t170 = true then (if bt150.2.2.2.2.2.2.2.2.2.2.2.2 = 160 then (some (bt166.2 == 2)) else (some false)) else (some false))) else (some false)) else (some false)) else (some false)))) else (none)) else (none))))
theorem drawbridgelaw20_heads.mono : ∀ k, LeO (drawbridgelaw20_heads.f k ) (drawbridgelaw20_heads.f (k + 1) ) := by
 intro  k
 unfold drawbridgelaw20_heads.f
 repeat' first
   | (with_reducible exact dhcp_Get.mono _ _)
   | (with_reducible exact dhcp_Put.mono _ _ _ _ _ _ _ _ _ _ _ _ _)
   | (with_reducible exact LeO.refl _)
   | (with_reducible exact LeO.none _)
   | (with_reducible refine LeO.ite ?_ ?_)
   | (with_reducible refine LeO.bind ?_ (fun _ => ?_))
   | exact dhcp_Get.mono _ _
   | exact dhcp_Put.mono _ _ _ _ _ _ _ _ _ _ _ _ _
   | exact LeO.none _
   | refine LeO.ite ?_ ?_
   | refine LeO.bind ?_ (fun _ => ?_)

set_option maxHeartbeats 8000000 in
set_option maxRecDepth 100000 in
theorem drawbridgelaw20_heads.calls (k : Nat)  (r : Bool) (w : World) (hT_ : r = true) (h : drawbridgelaw20_heads.f k  = some r) :
  Calls Try.prog 7 #[] w fun e w' => e = .returned (.bool r) ∧ Below w.heap.size w w' := by
 have HTr_:=mK hT_
 clear hT_
 have hu26:=Try.underlying26
 have HB:=mK (Below.refl w.heap.size w)
 have H : ((some (([1,2,3,4,5,6] : List Int) : List Int)).bind fun y122=>((dhcp_Put.f k 1 7 0 0 y122 1 0 0 0 0 0 0).bind fun bt126=>((dhcp_Get.f k bt126.1).bind fun bt130=>(if 0 ≤ (wrap64 ((bt126.1.length : Int) / 2)) then (if (wrap64 ((bt126.1.length : Int) / 2)) ≤ (bt126.1.length : Int) then ((dhcp_Get.f k (bt126.1.take ((wrap64 ((bt126.1.length : Int) / 2)) : Int).toNat)).bind fun bt150=>((dhcp_Put.f k 0 0 0 0 ([] : List Int) 0 0 0 0 0 0 0).bind fun bt166=>(if bt126.2 = 0 then (if (bt126.1.length : Int) = 244 then (if bt130.2.2.2.2.2.2.2.2.2.2.2.2 = 0 then ((drawbridgeref20_Same.f bt130.1 bt130.2.1 bt130.2.2.1 bt130.2.2.2.1 bt130.2.2.2.2.1 bt130.2.2.2.2.2.1 bt130.2.2.2.2.2.2.1 bt130.2.2.2.2.2.2.2.1 bt130.2.2.2.2.2.2.2.2.1 bt130.2.2.2.2.2.2.2.2.2.1 bt130.2.2.2.2.2.2.2.2.2.2.1 bt130.2.2.2.2.2.2.2.2.2.2.2.1 1 7 0 0 y122 1 0 0 0 0 0 0).bind fun t170=>(if t170 = true then (if bt150.2.2.2.2.2.2.2.2.2.2.2.2 = 160 then (some (bt166.2 == 2)) else (some false)) else (some false))) else (some false)) else (some false)) else (some false)))) else (none)) else (none))))) = some r:=h
 clear h
 obtain ⟨y122,hy122⟩ : ∃ y_ : List Int,y_ = (([1,2,3,4,5,6] : List Int)):=⟨_,rfl⟩
 replace H : ((dhcp_Put.f k 1 7 0 0 y122 1 0 0 0 0 0 0).bind fun bt126=>((dhcp_Get.f k bt126.1).bind fun bt130=>(if 0 ≤ (wrap64 ((bt126.1.length : Int) / 2)) then (if (wrap64 ((bt126.1.length : Int) / 2)) ≤ (bt126.1.length : Int) then ((dhcp_Get.f k (bt126.1.take ((wrap64 ((bt126.1.length : Int) / 2)) : Int).toNat)).bind fun bt150=>((dhcp_Put.f k 0 0 0 0 ([] : List Int) 0 0 0 0 0 0 0).bind fun bt166=>(if bt126.2 = 0 then (if (bt126.1.length : Int) = 244 then (if bt130.2.2.2.2.2.2.2.2.2.2.2.2 = 0 then ((drawbridgeref20_Same.f bt130.1 bt130.2.1 bt130.2.2.1 bt130.2.2.2.1 bt130.2.2.2.2.1 bt130.2.2.2.2.2.1 bt130.2.2.2.2.2.2.1 bt130.2.2.2.2.2.2.2.1 bt130.2.2.2.2.2.2.2.2.1 bt130.2.2.2.2.2.2.2.2.2.1 bt130.2.2.2.2.2.2.2.2.2.2.1 bt130.2.2.2.2.2.2.2.2.2.2.2.1 1 7 0 0 y122 1 0 0 0 0 0 0).bind fun t170=>(if t170 = true then (if bt150.2.2.2.2.2.2.2.2.2.2.2.2 = 160 then (some (bt166.2 == 2)) else (some false)) else (some false))) else (some false)) else (some false)) else (some false)))) else (none)) else (none)))) = some r:= by first|(rw [hy122];with_reducible exact H)|(have H2_:=(Option.bind_some _ _).symm.trans H;rw [hy122];with_reducible exact H2_)|(have H2_:=(Option.bind_some _ _).symm.trans H;with_reducible exact H2_)|with_reducible exact H|(rw [hy122];exact H)|exact H
 have Ny122:=mK hy122
 clear hy122
 replace H:=Option.bind_eq_some_iff.mp H
 obtain ⟨⟨t126,t129⟩,A10,H⟩:=H
 replace H : ((dhcp_Get.f k t126).bind fun bt130=>(if 0 ≤ (wrap64 ((t126.length : Int) / 2)) then (if (wrap64 ((t126.length : Int) / 2)) ≤ (t126.length : Int) then ((dhcp_Get.f k (t126.take ((wrap64 ((t126.length : Int) / 2)) : Int).toNat)).bind fun bt150=>((dhcp_Put.f k 0 0 0 0 ([] : List Int) 0 0 0 0 0 0 0).bind fun bt166=>(if t129 = 0 then (if (t126.length : Int) = 244 then (if bt130.2.2.2.2.2.2.2.2.2.2.2.2 = 0 then ((drawbridgeref20_Same.f bt130.1 bt130.2.1 bt130.2.2.1 bt130.2.2.2.1 bt130.2.2.2.2.1 bt130.2.2.2.2.2.1 bt130.2.2.2.2.2.2.1 bt130.2.2.2.2.2.2.2.1 bt130.2.2.2.2.2.2.2.2.1 bt130.2.2.2.2.2.2.2.2.2.1 bt130.2.2.2.2.2.2.2.2.2.2.1 bt130.2.2.2.2.2.2.2.2.2.2.2.1 1 7 0 0 y122 1 0 0 0 0 0 0).bind fun t170=>(if t170 = true then (if bt150.2.2.2.2.2.2.2.2.2.2.2.2 = 160 then (some (bt166.2 == 2)) else (some false)) else (some false))) else (some false)) else (some false)) else (some false)))) else (none)) else (none))) = some r:=H
 have A1:=mK A10
 clear A10
 replace H:=Option.bind_eq_some_iff.mp H
 obtain ⟨⟨t130,t131,t132,t133,t134,t137,t138,t139,t140,t141,t142,t143,t144⟩,A20,H⟩:=H
 replace H : (if 0 ≤ (wrap64 ((t126.length : Int) / 2)) then (if (wrap64 ((t126.length : Int) / 2)) ≤ (t126.length : Int) then ((dhcp_Get.f k (t126.take ((wrap64 ((t126.length : Int) / 2)) : Int).toNat)).bind fun bt150=>((dhcp_Put.f k 0 0 0 0 ([] : List Int) 0 0 0 0 0 0 0).bind fun bt166=>(if t129 = 0 then (if (t126.length : Int) = 244 then (if t144 = 0 then ((drawbridgeref20_Same.f t130 t131 t132 t133 t134 t137 t138 t139 t140 t141 t142 t143 1 7 0 0 y122 1 0 0 0 0 0 0).bind fun t170=>(if t170 = true then (if bt150.2.2.2.2.2.2.2.2.2.2.2.2 = 160 then (some (bt166.2 == 2)) else (some false)) else (some false))) else (some false)) else (some false)) else (some false)))) else (none)) else (none)) = some r:=H
 have A2:=mK A20
 clear A20
 obtain ⟨ji3,hji3⟩ : ∃ j_ : Int,(wrap64 ((t126.length : Int) / 2)) = j_:=⟨_,rfl⟩
 replace H : (if 0 ≤ (ji3) then (if (ji3) ≤ (t126.length : Int) then ((dhcp_Get.f k (t126.take ((ji3) : Int).toNat)).bind fun bt150=>((dhcp_Put.f k 0 0 0 0 ([] : List Int) 0 0 0 0 0 0 0).bind fun bt166=>(if t129 = 0 then (if (t126.length : Int) = 244 then (if t144 = 0 then ((drawbridgeref20_Same.f t130 t131 t132 t133 t134 t137 t138 t139 t140 t141 t142 t143 1 7 0 0 y122 1 0 0 0 0 0 0).bind fun t170=>(if t170 = true then (if bt150.2.2.2.2.2.2.2.2.2.2.2.2 = 160 then (some (bt166.2 == 2)) else (some false)) else (some false))) else (some false)) else (some false)) else (some false)))) else (none)) else (none)) = some r:= by first|(rw [hji3] at H;exact H)|(simp only [hji3] at H ⊢; exact H)
 (try rw [hji3] at A1)
 (try rw [hji3] at A2)
 have hji3w : (IntKind.i64.wrap ((t126.length : Int) / 2)) = ji3:=(i64_w _).trans hji3
 by_cases c4 : 0 ≤ (ji3)
 ·rw [if_pos c4] at H
  have c4b0:=eq_true c4
  have c4b1 : decide (0 ≤ (ji3)) = true:=decide_eq_true c4
  clear c4
  by_cases c5 : (ji3) ≤ (t126.length : Int)
  ·rw [if_pos c5] at H
   have c5b0:=eq_true c5
   have c5b1 : decide ((ji3) ≤ (t126.length : Int)) = true:=decide_eq_true c5
   clear c5
   obtain ⟨y146,hy146⟩ : ∃ y_ : List Int,y_ = (t126.take ((ji3) : Int).toNat):=⟨_,rfl⟩
   replace H : ((dhcp_Get.f k y146).bind fun bt150=>((dhcp_Put.f k 0 0 0 0 ([] : List Int) 0 0 0 0 0 0 0).bind fun bt166=>(if t129 = 0 then (if (t126.length : Int) = 244 then (if t144 = 0 then ((drawbridgeref20_Same.f t130 t131 t132 t133 t134 t137 t138 t139 t140 t141 t142 t143 1 7 0 0 y122 1 0 0 0 0 0 0).bind fun t170=>(if t170 = true then (if bt150.2.2.2.2.2.2.2.2.2.2.2.2 = 160 then (some (bt166.2 == 2)) else (some false)) else (some false))) else (some false)) else (some false)) else (some false)))) = some r:= by first|(rw [hy146];with_reducible exact H)|(have H2_:=(Option.bind_some _ _).symm.trans H;rw [hy146];with_reducible exact H2_)|(have H2_:=(Option.bind_some _ _).symm.trans H;with_reducible exact H2_)|with_reducible exact H|(rw [hy146];exact H)|exact H
   have Ny146:=mK hy146
   clear hy146
   replace H:=Option.bind_eq_some_iff.mp H
   obtain ⟨⟨t150,t151,t152,t153,t154,t157,t158,t159,t160,t161,t162,t163,t164⟩,A60,H⟩:=H
   replace H : ((dhcp_Put.f k 0 0 0 0 ([] : List Int) 0 0 0 0 0 0 0).bind fun bt166=>(if t129 = 0 then (if (t126.length : Int) = 244 then (if t144 = 0 then ((drawbridgeref20_Same.f t130 t131 t132 t133 t134 t137 t138 t139 t140 t141 t142 t143 1 7 0 0 y122 1 0 0 0 0 0 0).bind fun t170=>(if t170 = true then (if t164 = 160 then (some (bt166.2 == 2)) else (some false)) else (some false))) else (some false)) else (some false)) else (some false))) = some r:=H
   have A6:=mK A60
   clear A60
   replace H:=Option.bind_eq_some_iff.mp H
   obtain ⟨⟨t166,t169⟩,A70,H⟩:=H
   replace H : (if t129 = 0 then (if (t126.length : Int) = 244 then (if t144 = 0 then ((drawbridgeref20_Same.f t130 t131 t132 t133 t134 t137 t138 t139 t140 t141 t142 t143 1 7 0 0 y122 1 0 0 0 0 0 0).bind fun t170=>(if t170 = true then (if t164 = 160 then (some (t169 == 2)) else (some false)) else (some false))) else (some false)) else (some false)) else (some false)) = some r:=H
   have A7:=mK A70
   clear A70
   by_cases c8 : t129 = 0
   ·rw [if_pos c8] at H
    have c8b0 : (t129 == 0) = true:=beq_iff_eq.mpr c8
    have c8b1 : (t129 != 0) = false:=bne_eq_false_iff_eq.mpr c8
    clear c8
    by_cases c9 : (t126.length : Int) = 244
    ·rw [if_pos c9] at H
     have c9b0 : ((t126.length : Int) == 244) = true:=beq_iff_eq.mpr c9
     have c9b1 : ((t126.length : Int) != 244) = false:=bne_eq_false_iff_eq.mpr c9
     clear c9
     by_cases c10 : t144 = 0
     ·rw [if_pos c10] at H
      have c10b0 : (t144 == 0) = true:=beq_iff_eq.mpr c10
      have c10b1 : (t144 != 0) = false:=bne_eq_false_iff_eq.mpr c10
      clear c10
      replace H:=Option.bind_eq_some_iff.mp H
      obtain ⟨t170,A110,H⟩:=H
      replace H : (if t170 = true then (if t164 = 160 then (some (t169 == 2)) else (some false)) else (some false)) = some r:=H
      have A11:=mK A110
      clear A110
      by_cases c12 : t170 = true
      ·subst c12
       have H1 : (if t164 = 160 then (some (t169 == 2)) else (some false)) = some r:= by rw [if_pos rfl] at H;exact H
       clear H
       have H:=H1
       clear H1
       by_cases c13 : t164 = 160
       ·rw [if_pos c13] at H
        have c13b0 : (t164 == 160) = true:=beq_iff_eq.mpr c13
        have c13b1 : (t164 != 160) = false:=bne_eq_false_iff_eq.mpr c13
        clear c13
        obtain rfl:=Option.some.inj H
        go_enter Try.func7,Try.ntmps7
        go_wp2_with (first|((with_reducible refine gate_dst (N:=10) rfl ?_);(try (refine gate_guard (by rfl) ?_;dsimp only));refine Kd.R_lit (Kd.int .u8) _ 5 ?hg (N:=10) ?hd (xs:=([1,2,3,4,5,6] : List Int)) (inner:=[.int .u8 1,.int .u8 2,.int .u8 3,.int .u8 4,.int .u8 5,.int .u8 6]) (ok:= fun _=>True) (okp:= fun _=>True) ?hr ?hp (fun _ hk=>hk) trivial (Below.refl _ _) (Nat.le_refl _) (by simp) ?_;(case hd=>rfl);(case hg=>rfl);(case hr=>first|(go_simp;done)|(go_simp;rfl));(case hp=>exact (Reps.one (show Kd.M (Kd.int .u8) _ _ _ 1 [.int .u8 1] from rfl) (Reps.one (show Kd.M (Kd.int .u8) _ _ _ 2 [.int .u8 2] from rfl) (Reps.one (show Kd.M (Kd.int .u8) _ _ _ 3 [.int .u8 3] from rfl) (Reps.one (show Kd.M (Kd.int .u8) _ _ _ 4 [.int .u8 4] from rfl) (Reps.one (show Kd.M (Kd.int .u8) _ _ _ 5 [.int .u8 5] from rfl) (Reps.one (show Kd.M (Kd.int .u8) _ _ _ 6 [.int .u8 6] from rfl) (Reps.none _ _))))))));intro v123 w14 ho15 hb hg_ hnew_;clear hg_ hnew_;(first|rw [← Ny122.out] at ho15|(simp only [Int.reduceToNat] at ho15;rw [← Ny122.out] at ho15));have n0_:=mK (Kd.R_lower ho15 (below_size (by repeat (first|(with_reducible first|exact HB.out|apply lA|apply lN|apply lD)|exact HB.out))));have n1_:=mK (below_step (by repeat (first|(with_reducible first|exact HB.out|apply lA|apply lN|apply lD)|exact HB.out)) hb);clear HB;have HO124:=n0_;have HB:=n1_;clear n0_ n1_;clear hb ho15;obtain ⟨Ao16,co16,eo16⟩:=Kd.R_slice HO124.out;subst eo16)|((with_reducible refine gate_dst (N:=1) rfl ?_);(try (refine gate_guard (by rfl) ?_;dsimp only));refine box_event ?hg (N:=1) ?hd (cs:=#[.int .i64 0,.int .u32 0,.int .u32 0,.int .u32 0,.slice none 0 0,.int .i64 0,.int .u32 0,.int .u32 0,.int .u32 0,.int .u32 0,.int .u32 0,.int .u32 0]) (t:=26) ?hr ?_;(case hd=>rfl);(case hg=>rfl);(case hr=>first|(go_simp;done)|(go_simp;rfl));intro gb125 hg w17 hbox hb;have n0_:=mK (Kd.R_below (by (with_reducible repeat (first|apply rA|apply rN|apply rD));exact HO124.out) hb);have n1_:=mK (below_step (by repeat (first|(with_reducible first|exact HB.out|apply lA|apply lN|apply lD)|exact HB.out)) hb);have n2_:=mK (hbox);have n4_:=mK ((by rw [hg];exact (below_size (by repeat (first|(with_reducible first|exact HB.out|apply lA|apply lN|apply lD)|exact HB.out))) : w.heap.size ≤ gb125));clear HO124;clear HB;have HO124:=n0_;have HB:=n1_;have BK125:=n2_;have GE125:=n4_;clear n0_ n1_ n2_ n4_;clear hb hbox hg;have hcz18_0 : w17.cell? ⟨gb125,0,none⟩ = some (.int .i64 0):=(blk_cell BK125.out 0).trans rfl;have hcz18_1 : w17.cell? ⟨gb125,1,none⟩ = some (.int .u32 0):=(blk_cell BK125.out 1).trans rfl;have hcz18_2 : w17.cell? ⟨gb125,2,none⟩ = some (.int .u32 0):=(blk_cell BK125.out 2).trans rfl;have hcz18_3 : w17.cell? ⟨gb125,3,none⟩ = some (.int .u32 0):=(blk_cell BK125.out 3).trans rfl;have hcz18_4 : w17.cell? ⟨gb125,4,none⟩ = some (.slice none 0 0):=(blk_cell BK125.out 4).trans rfl;have hcz18_5 : w17.cell? ⟨gb125,5,none⟩ = some (.int .i64 0):=(blk_cell BK125.out 5).trans rfl;have hcz18_6 : w17.cell? ⟨gb125,6,none⟩ = some (.int .u32 0):=(blk_cell BK125.out 6).trans rfl;have hcz18_7 : w17.cell? ⟨gb125,7,none⟩ = some (.int .u32 0):=(blk_cell BK125.out 7).trans rfl;have hcz18_8 : w17.cell? ⟨gb125,8,none⟩ = some (.int .u32 0):=(blk_cell BK125.out 8).trans rfl;have hcz18_9 : w17.cell? ⟨gb125,9,none⟩ = some (.int .u32 0):=(blk_cell BK125.out 9).trans rfl;have hcz18_10 : w17.cell? ⟨gb125,10,none⟩ = some (.int .u32 0):=(blk_cell BK125.out 10).trans rfl;have hcz18_11 : w17.cell? ⟨gb125,11,none⟩ = some (.int .u32 0):=(blk_cell BK125.out 11).trans rfl;have hfz18_0:=blk_frozen BK125.out 0;have hfz18_1:=blk_frozen BK125.out 1;have hfz18_2:=blk_frozen BK125.out 2;have hfz18_3:=blk_frozen BK125.out 3;have hfz18_4:=blk_frozen BK125.out 4;have hfz18_5:=blk_frozen BK125.out 5;have hfz18_6:=blk_frozen BK125.out 6;have hfz18_7:=blk_frozen BK125.out 7;have hfz18_8:=blk_frozen BK125.out 8;have hfz18_9:=blk_frozen BK125.out 9;have hfz18_10:=blk_frozen BK125.out 10;have hfz18_11:=blk_frozen BK125.out 11)|((with_reducible refine gate_callee (f:=10) rfl ?_);refine goesL_ (some 14) rfl rfl Try.func10 (by kernel_rfl) rfl #[.agg #[.int .i64 1,.int .u32 7,.int .u32 0,.int .u32 0,.slice Ao16 y122.length co16,.int .i64 1,.int .u32 0,.int .u32 0,.int .u32 0,.int .u32 0,.int .u32 0,.int .u32 0]] rfl (by (try simp only [List.map_toArray,List.map_cons,List.map_nil]);first|done|rfl|(simp only [List.length_drop,List.length_take];rfl)) ?_;(with_reducible refine (dhcp_Put.calls k 1 7 0 0 _ _ y122 1 0 0 0 0 0 0 t126 t129 _ ?side1 ?side2 A1.out).mono ?_);(case side1=>refine (Kd.R_reads' (e:=5) (base:=w.heap.size) (ok:= fun k_=>True) (n:=y122.length) (c:=co16) ?_).2.2;exact (by (with_reducible repeat (first|apply rA|apply rN|apply rD));exact (Kd.R_mono (Kd.R_far (p:=⟨gb125,11,none⟩) (Kd.R_far (p:=⟨gb125,10,none⟩) (Kd.R_far (p:=⟨gb125,9,none⟩) (Kd.R_far (p:=⟨gb125,8,none⟩) (Kd.R_far (p:=⟨gb125,7,none⟩) (Kd.R_far (p:=⟨gb125,6,none⟩) (Kd.R_far (p:=⟨gb125,5,none⟩) (Kd.R_far (p:=⟨gb125,4,none⟩) (Kd.R_far (p:=⟨gb125,3,none⟩) (Kd.R_far (p:=⟨gb125,2,none⟩) (Kd.R_far (p:=⟨gb125,1,none⟩) (Kd.R_far (p:=⟨gb125,0,none⟩) (Kd.R_types HO124.out BK125.out (by decide)) (fun _ hk=>hk.2) (.int .i64 1)) (fun _ hk=>hk.2) (.int .u32 7)) (fun _ hk=>hk.2) (.int .u32 0)) (fun _ hk=>hk.2) (.int .u32 0)) (fun _ hk=>hk.2) (.slice Ao16 y122.length co16)) (fun _ hk=>hk.2) (.int .i64 1)) (fun _ hk=>hk.2) (.int .u32 0)) (fun _ hk=>hk.2) (.int .u32 0)) (fun _ hk=>hk.2) (.int .u32 0)) (fun _ hk=>hk.2) (.int .u32 0)) (fun _ hk=>hk.2) (.int .u32 0)) (fun _ hk=>hk.2) (.int .u32 0)) (fun _ h_=>h_.1))));(case side2=>exact (Kd.R_reads' HO124.out).2.1);rintro e w19 ⟨v127,rfl,ho0,hb⟩;refine ⟨_,rfl,?_⟩;have n0_:=mK (Kd.R_elder' (by (with_reducible repeat (first|apply rA|apply rN|apply rD));exact (Kd.R_mono (Kd.R_far (p:=⟨gb125,11,none⟩) (Kd.R_far (p:=⟨gb125,10,none⟩) (Kd.R_far (p:=⟨gb125,9,none⟩) (Kd.R_far (p:=⟨gb125,8,none⟩) (Kd.R_far (p:=⟨gb125,7,none⟩) (Kd.R_far (p:=⟨gb125,6,none⟩) (Kd.R_far (p:=⟨gb125,5,none⟩) (Kd.R_far (p:=⟨gb125,4,none⟩) (Kd.R_far (p:=⟨gb125,3,none⟩) (Kd.R_far (p:=⟨gb125,2,none⟩) (Kd.R_far (p:=⟨gb125,1,none⟩) (Kd.R_far (p:=⟨gb125,0,none⟩) (Kd.R_types HO124.out BK125.out (by decide)) (fun _ hk=>hk.2) (.int .i64 1)) (fun _ hk=>hk.2) (.int .u32 7)) (fun _ hk=>hk.2) (.int .u32 0)) (fun _ hk=>hk.2) (.int .u32 0)) (fun _ hk=>hk.2) (.slice Ao16 y122.length co16)) (fun _ hk=>hk.2) (.int .i64 1)) (fun _ hk=>hk.2) (.int .u32 0)) (fun _ hk=>hk.2) (.int .u32 0)) (fun _ hk=>hk.2) (.int .u32 0)) (fun _ hk=>hk.2) (.int .u32 0)) (fun _ hk=>hk.2) (.int .u32 0)) (fun _ hk=>hk.2) (.int .u32 0)) (fun _ h_=>h_.1))) (Kd.R_base ho0) hb);have n1_:=mK (Kd.R_lower (Kd.R_new' ho0 (Kd.R_lt (by (with_reducible repeat (first|apply rA|apply rN|apply rD));exact (Kd.R_mono (Kd.R_far (p:=⟨gb125,11,none⟩) (Kd.R_far (p:=⟨gb125,10,none⟩) (Kd.R_far (p:=⟨gb125,9,none⟩) (Kd.R_far (p:=⟨gb125,8,none⟩) (Kd.R_far (p:=⟨gb125,7,none⟩) (Kd.R_far (p:=⟨gb125,6,none⟩) (Kd.R_far (p:=⟨gb125,5,none⟩) (Kd.R_far (p:=⟨gb125,4,none⟩) (Kd.R_far (p:=⟨gb125,3,none⟩) (Kd.R_far (p:=⟨gb125,2,none⟩) (Kd.R_far (p:=⟨gb125,1,none⟩) (Kd.R_far (p:=⟨gb125,0,none⟩) (Kd.R_types HO124.out BK125.out (by decide)) (fun _ hk=>hk.2) (.int .i64 1)) (fun _ hk=>hk.2) (.int .u32 7)) (fun _ hk=>hk.2) (.int .u32 0)) (fun _ hk=>hk.2) (.int .u32 0)) (fun _ hk=>hk.2) (.slice Ao16 y122.length co16)) (fun _ hk=>hk.2) (.int .i64 1)) (fun _ hk=>hk.2) (.int .u32 0)) (fun _ hk=>hk.2) (.int .u32 0)) (fun _ hk=>hk.2) (.int .u32 0)) (fun _ hk=>hk.2) (.int .u32 0)) (fun _ hk=>hk.2) (.int .u32 0)) (fun _ hk=>hk.2) (.int .u32 0)) (fun _ h_=>h_.1))))) (below_size (by repeat (first|(with_reducible first|exact HB.out|apply lA|apply lN|apply lD|refine lS ?_ GE125.out)|exact HB.out))));have n2_:=mK (blk_below (g:=gb125) (o:=.cells #[.int .i64 1,.int .u32 7,.int .u32 0,.int .u32 0,.slice Ao16 y122.length co16,.int .i64 1,.int .u32 0,.int .u32 0,.int .u32 0,.int .u32 0,.int .u32 0,.int .u32 0] 26 (0,0)) (by (with_reducible repeat (first|apply bN|apply bD|apply bA));refine blk_put (cs:=#[.int .i64 1,.int .u32 7,.int .u32 0,.int .u32 0,.slice Ao16 y122.length co16,.int .i64 1,.int .u32 0,.int .u32 0,.int .u32 0,.int .u32 0,.int .u32 0,.int .u32 0]) ?_ 11 _ rfl;(with_reducible repeat (first|apply bN|apply bD|apply bA));refine blk_put (cs:=#[.int .i64 1,.int .u32 7,.int .u32 0,.int .u32 0,.slice Ao16 y122.length co16,.int .i64 1,.int .u32 0,.int .u32 0,.int .u32 0,.int .u32 0,.int .u32 0,.int .u32 0]) ?_ 10 _ rfl;(with_reducible repeat (first|apply bN|apply bD|apply bA));refine blk_put (cs:=#[.int .i64 1,.int .u32 7,.int .u32 0,.int .u32 0,.slice Ao16 y122.length co16,.int .i64 1,.int .u32 0,.int .u32 0,.int .u32 0,.int .u32 0,.int .u32 0,.int .u32 0]) ?_ 9 _ rfl;(with_reducible repeat (first|apply bN|apply bD|apply bA));refine blk_put (cs:=#[.int .i64 1,.int .u32 7,.int .u32 0,.int .u32 0,.slice Ao16 y122.length co16,.int .i64 1,.int .u32 0,.int .u32 0,.int .u32 0,.int .u32 0,.int .u32 0,.int .u32 0]) ?_ 8 _ rfl;(with_reducible repeat (first|apply bN|apply bD|apply bA));refine blk_put (cs:=#[.int .i64 1,.int .u32 7,.int .u32 0,.int .u32 0,.slice Ao16 y122.length co16,.int .i64 1,.int .u32 0,.int .u32 0,.int .u32 0,.int .u32 0,.int .u32 0,.int .u32 0]) ?_ 7 _ rfl;(with_reducible repeat (first|apply bN|apply bD|apply bA));refine blk_put (cs:=#[.int .i64 1,.int .u32 7,.int .u32 0,.int .u32 0,.slice Ao16 y122.length co16,.int .i64 1,.int .u32 0,.int .u32 0,.int .u32 0,.int .u32 0,.int .u32 0,.int .u32 0]) ?_ 6 _ rfl;(with_reducible repeat (first|apply bN|apply bD|apply bA));refine blk_put (cs:=#[.int .i64 1,.int .u32 7,.int .u32 0,.int .u32 0,.slice Ao16 y122.length co16,.int .i64 0,.int .u32 0,.int .u32 0,.int .u32 0,.int .u32 0,.int .u32 0,.int .u32 0]) ?_ 5 _ rfl;(with_reducible repeat (first|apply bN|apply bD|apply bA));refine blk_put (cs:=#[.int .i64 1,.int .u32 7,.int .u32 0,.int .u32 0,.slice none 0 0,.int .i64 0,.int .u32 0,.int .u32 0,.int .u32 0,.int .u32 0,.int .u32 0,.int .u32 0]) ?_ 4 _ rfl;(with_reducible repeat (first|apply bN|apply bD|apply bA));refine blk_put (cs:=#[.int .i64 1,.int .u32 7,.int .u32 0,.int .u32 0,.slice none 0 0,.int .i64 0,.int .u32 0,.int .u32 0,.int .u32 0,.int .u32 0,.int .u32 0,.int .u32 0]) ?_ 3 _ rfl;(with_reducible repeat (first|apply bN|apply bD|apply bA));refine blk_put (cs:=#[.int .i64 1,.int .u32 7,.int .u32 0,.int .u32 0,.slice none 0 0,.int .i64 0,.int .u32 0,.int .u32 0,.int .u32 0,.int .u32 0,.int .u32 0,.int .u32 0]) ?_ 2 _ rfl;(with_reducible repeat (first|apply bN|apply bD|apply bA));refine blk_put (cs:=#[.int .i64 1,.int .u32 0,.int .u32 0,.int .u32 0,.slice none 0 0,.int .i64 0,.int .u32 0,.int .u32 0,.int .u32 0,.int .u32 0,.int .u32 0,.int .u32 0]) ?_ 1 _ rfl;(with_reducible repeat (first|apply bN|apply bD|apply bA));refine blk_put (cs:=#[.int .i64 0,.int .u32 0,.int .u32 0,.int .u32 0,.slice none 0 0,.int .i64 0,.int .u32 0,.int .u32 0,.int .u32 0,.int .u32 0,.int .u32 0,.int .u32 0]) ?_ 0 _ rfl;(with_reducible repeat (first|apply bN|apply bD|apply bA));exact BK125.out) hb);have n3_:=mK (below_step (by repeat (first|(with_reducible first|exact HB.out|apply lA|apply lN|apply lD|refine lS ?_ GE125.out)|exact HB.out)) hb);clear HO124;clear BK125;clear HB;have HO124:=n0_;have HO128:=n1_;have BK125:=n2_;have HB:=n3_;clear n0_ n1_ n2_ n3_;(try clear hb);(try clear hb2);(try clear hk);(try clear hi);(try clear ho0);obtain ⟨Ao20,co20,eo20⟩:=Kd.R_slice HO128.out;subst eo20)|((with_reducible refine gate_callee (f:=8) rfl ?_);refine goesL_ (some 19) rfl rfl Try.func8 (by kernel_rfl) rfl #[.slice Ao20 t126.length co20] rfl (by (try simp only [List.map_toArray,List.map_cons,List.map_nil]);first|done|rfl|(simp only [List.length_drop,List.length_take];rfl)) ?_;(with_reducible refine (dhcp_Get.calls k _ _ t126 t130 t131 t132 t133 t134 t137 t138 t139 t140 t141 t142 t143 t144 _ ?side1 ?side2 A2.out).mono ?_);(case side1=>repeat (first|exact (Kd.R_reads' HO128.out).2.2|(with_reducible refine Kd.C_alloc ?_ _)|(with_reducible refine Kd.C_drewN ?_ _)|(with_reducible refine Kd.C_drew ?_)));(case side2=>exact (Kd.R_reads' HO128.out).2.1);rintro e w21 ⟨v135,rfl,ho0,hb⟩;refine ⟨_,rfl,?_⟩;have n0_:=mK (Kd.R_elder' (by (with_reducible repeat (first|apply rA|apply rN|apply rD));exact HO124.out) (Kd.R_base ho0) hb);have n1_:=mK (Kd.R_elder' (by (with_reducible repeat (first|apply rA|apply rN|apply rD));exact HO128.out) (Kd.R_base ho0) hb);have n2_:=mK (Kd.R_lower (Kd.R_new' (Kd.R_new' ho0 (Kd.R_lt (by (with_reducible repeat (first|apply rA|apply rN|apply rD));exact HO124.out))) (Kd.R_lt (by (with_reducible repeat (first|apply rA|apply rN|apply rD));exact HO128.out))) (below_size (by repeat (first|(with_reducible first|exact HB.out|apply lA|apply lN|apply lD|refine lS ?_ GE125.out)|exact HB.out))));have n3_:=mK (blk_below (g:=gb125) (o:=.cells #[.int .i64 1,.int .u32 7,.int .u32 0,.int .u32 0,.slice Ao16 y122.length co16,.int .i64 1,.int .u32 0,.int .u32 0,.int .u32 0,.int .u32 0,.int .u32 0,.int .u32 0] 26 (0,0)) (by (with_reducible repeat (first|apply bN|apply bD|apply bA));exact BK125.out) hb);have n4_:=mK (below_step (by repeat (first|(with_reducible first|exact HB.out|apply lA|apply lN|apply lD|refine lS ?_ GE125.out)|exact HB.out)) hb);clear HO124;clear HO128;clear BK125;clear HB;have HO124:=n0_;have HO128:=n1_;have HO136:=n2_;have BK125:=n3_;have HB:=n4_;clear n0_ n1_ n2_ n3_ n4_;(try clear hb);(try clear hb2);(try clear hk);(try clear hi);(try clear ho0))|((with_reducible refine gate_dst (N:=4) rfl ?_);(try (refine gate_guard (by rfl) ?_;dsimp only));refine box_event ?hg (N:=4) ?hd (cs:=#[.int .i64 0,.int .u32 0,.int .u32 0,.int .u32 0,.slice none 0 0,.int .i64 0,.int .u32 0,.int .u32 0,.int .u32 0,.int .u32 0,.int .u32 0,.int .u32 0]) (t:=26) ?hr ?_;(case hd=>rfl);(case hg=>rfl);(case hr=>first|(go_simp;done)|(go_simp;rfl));intro gb145 hg w22 hbox hb;have n0_:=mK (Kd.R_below (by (with_reducible repeat (first|apply rA|apply rN|apply rD));exact HO124.out) hb);have n1_:=mK (Kd.R_below (by (with_reducible repeat (first|apply rA|apply rN|apply rD));exact HO128.out) hb);have n2_:=mK (Kd.R_below (by (with_reducible repeat (first|apply rA|apply rN|apply rD));exact HO136.out) hb);have n3_:=mK (blk_below (g:=gb125) (o:=.cells #[.int .i64 1,.int .u32 7,.int .u32 0,.int .u32 0,.slice Ao16 y122.length co16,.int .i64 1,.int .u32 0,.int .u32 0,.int .u32 0,.int .u32 0,.int .u32 0,.int .u32 0] 26 (0,0)) (by (with_reducible repeat (first|apply bN|apply bD|apply bA));exact BK125.out) hb);have n4_:=mK (below_step (by repeat (first|(with_reducible first|exact HB.out|apply lA|apply lN|apply lD|refine lS ?_ GE125.out)|exact HB.out)) hb);have n5_:=mK (hbox);have n7_:=mK ((by rw [hg];exact (below_size (by repeat (first|(with_reducible first|exact HB.out|apply lA|apply lN|apply lD|refine lS ?_ GE125.out)|exact HB.out))) : w.heap.size ≤ gb145));have n8_:=mK ((by rw [hg];exact Nat.ne_of_lt (blk_lt (g:=gb125) (o:=.cells #[.int .i64 1,.int .u32 7,.int .u32 0,.int .u32 0,.slice Ao16 y122.length co16,.int .i64 1,.int .u32 0,.int .u32 0,.int .u32 0,.int .u32 0,.int .u32 0,.int .u32 0] 26 (0,0)) (by (with_reducible repeat (first|apply bN|apply bD|apply bA));exact BK125.out)) : gb125 ≠ gb145));have n9_:=mK ((by rw [hg];exact Nat.ne_of_gt (blk_lt (g:=gb125) (o:=.cells #[.int .i64 1,.int .u32 7,.int .u32 0,.int .u32 0,.slice Ao16 y122.length co16,.int .i64 1,.int .u32 0,.int .u32 0,.int .u32 0,.int .u32 0,.int .u32 0,.int .u32 0] 26 (0,0)) (by (with_reducible repeat (first|apply bN|apply bD|apply bA));exact BK125.out)) : gb145 ≠ gb125));clear HO124;clear HO128;clear HO136;clear BK125;clear HB;have HO124:=n0_;have HO128:=n1_;have HO136:=n2_;have BK125:=n3_;have HB:=n4_;have BK145:=n5_;have GE145:=n7_;have NB125_145:=n8_;have NB145_125:=n9_;clear n0_ n1_ n2_ n3_ n4_ n5_ n7_ n8_ n9_;clear hb hbox hg;have hnb23:=NB145_125.out;have hnc23:=NB125_145.out;have hcz24_0 : w22.cell? ⟨gb145,0,none⟩ = some (.int .i64 0):=(blk_cell BK145.out 0).trans rfl;have hcz24_1 : w22.cell? ⟨gb145,1,none⟩ = some (.int .u32 0):=(blk_cell BK145.out 1).trans rfl;have hcz24_2 : w22.cell? ⟨gb145,2,none⟩ = some (.int .u32 0):=(blk_cell BK145.out 2).trans rfl;have hcz24_3 : w22.cell? ⟨gb145,3,none⟩ = some (.int .u32 0):=(blk_cell BK145.out 3).trans rfl;have hcz24_4 : w22.cell? ⟨gb145,4,none⟩ = some (.slice none 0 0):=(blk_cell BK145.out 4).trans rfl;have hcz24_5 : w22.cell? ⟨gb145,5,none⟩ = some (.int .i64 0):=(blk_cell BK145.out 5).trans rfl;have hcz24_6 : w22.cell? ⟨gb145,6,none⟩ = some (.int .u32 0):=(blk_cell BK145.out 6).trans rfl;have hcz24_7 : w22.cell? ⟨gb145,7,none⟩ = some (.int .u32 0):=(blk_cell BK145.out 7).trans rfl;have hcz24_8 : w22.cell? ⟨gb145,8,none⟩ = some (.int .u32 0):=(blk_cell BK145.out 8).trans rfl;have hcz24_9 : w22.cell? ⟨gb145,9,none⟩ = some (.int .u32 0):=(blk_cell BK145.out 9).trans rfl;have hcz24_10 : w22.cell? ⟨gb145,10,none⟩ = some (.int .u32 0):=(blk_cell BK145.out 10).trans rfl;have hcz24_11 : w22.cell? ⟨gb145,11,none⟩ = some (.int .u32 0):=(blk_cell BK145.out 11).trans rfl;have hfz24_0:=blk_frozen BK145.out 0;have hfz24_1:=blk_frozen BK145.out 1;have hfz24_2:=blk_frozen BK145.out 2;have hfz24_3:=blk_frozen BK145.out 3;have hfz24_4:=blk_frozen BK145.out 4;have hfz24_5:=blk_frozen BK145.out 5;have hfz24_6:=blk_frozen BK145.out 6;have hfz24_7:=blk_frozen BK145.out 7;have hfz24_8:=blk_frozen BK145.out 8;have hfz24_9:=blk_frozen BK145.out 9;have hfz24_10:=blk_frozen BK145.out 10;have hfz24_11:=blk_frozen BK145.out 11;obtain ⟨Ao25,co25,eo25⟩:=Kd.R_slice HO136.out;subst eo25)|((with_reducible refine gate_store (t:=26) (p:=4) rfl ?_);refine store_event (t:=26) (p:=4) (v:=?vo_w26) (w1:=((((((((((((w22.setCell ⟨gb145,0,none⟩ (.int .i64 t130)).setCell ⟨gb145,1,none⟩ (.int .u32 t131)).setCell ⟨gb145,2,none⟩ (.int .u32 t132)).setCell ⟨gb145,3,none⟩ (.int .u32 t133)).setCell ⟨gb145,4,none⟩ (.slice Ao25 t134.length co25)).setCell ⟨gb145,5,none⟩ (.int .i64 t137)).setCell ⟨gb145,6,none⟩ (.int .u32 t138)).setCell ⟨gb145,7,none⟩ (.int .u32 t139)).setCell ⟨gb145,8,none⟩ (.int .u32 t140)).setCell ⟨gb145,9,none⟩ (.int .u32 t141)).setCell ⟨gb145,10,none⟩ (.int .u32 t142)).setCell ⟨gb145,11,none⟩ (.int .u32 t143))) ?hg ?ho ?hn ?hr ?_;(case ho=>rfl);(case hg=>rfl);(case hn=>rfl);(case hr=>first|(go_simp;done)|(go_simp;rfl));intro w26 hw;have n0_ : Aside0 (Kd.R (Kd.int .u8) 5 w26 w.heap.size (fun k_=>some k_ ≠ (.slice Ao20 t126.length co20 : Value).ownBlock∧some k_ ≠ (.slice Ao25 t134.length co25 : Value).ownBlock) (.slice Ao16 y122.length co16) y122):=⟨(by rw [hw];exact (by (with_reducible repeat (first|apply rA|apply rN|apply rD));exact Kd.R_mono (Kd.R_far (p:=⟨gb145,11,none⟩) (Kd.R_far (p:=⟨gb145,10,none⟩) (Kd.R_far (p:=⟨gb145,9,none⟩) (Kd.R_far (p:=⟨gb145,8,none⟩) (Kd.R_far (p:=⟨gb145,7,none⟩) (Kd.R_far (p:=⟨gb145,6,none⟩) (Kd.R_far (p:=⟨gb145,5,none⟩) (Kd.R_far (p:=⟨gb145,4,none⟩) (Kd.R_far (p:=⟨gb145,3,none⟩) (Kd.R_far (p:=⟨gb145,2,none⟩) (Kd.R_far (p:=⟨gb145,1,none⟩) (Kd.R_far (p:=⟨gb145,0,none⟩) (Kd.R_types HO124.out BK145.out (by decide)) (fun _ hk=>hk.2) (.int .i64 t130)) (fun _ hk=>hk.2) (.int .u32 t131)) (fun _ hk=>hk.2) (.int .u32 t132)) (fun _ hk=>hk.2) (.int .u32 t133)) (fun _ hk=>hk.2) (.slice Ao25 t134.length co25)) (fun _ hk=>hk.2) (.int .i64 t137)) (fun _ hk=>hk.2) (.int .u32 t138)) (fun _ hk=>hk.2) (.int .u32 t139)) (fun _ hk=>hk.2) (.int .u32 t140)) (fun _ hk=>hk.2) (.int .u32 t141)) (fun _ hk=>hk.2) (.int .u32 t142)) (fun _ hk=>hk.2) (.int .u32 t143)) (fun _ hk=>⟨hk.1.1.2,hk.1.2⟩)))⟩;have n1_ : Aside0 (Kd.R (Kd.int .u8) 5 w26 w.heap.size (fun k_=>some k_ ≠ (.slice Ao16 y122.length co16 : Value).ownBlock∧some k_ ≠ (.slice Ao25 t134.length co25 : Value).ownBlock) (.slice Ao20 t126.length co20) t126):=⟨(by rw [hw];exact (by (with_reducible repeat (first|apply rA|apply rN|apply rD));exact Kd.R_mono (Kd.R_far (p:=⟨gb145,11,none⟩) (Kd.R_far (p:=⟨gb145,10,none⟩) (Kd.R_far (p:=⟨gb145,9,none⟩) (Kd.R_far (p:=⟨gb145,8,none⟩) (Kd.R_far (p:=⟨gb145,7,none⟩) (Kd.R_far (p:=⟨gb145,6,none⟩) (Kd.R_far (p:=⟨gb145,5,none⟩) (Kd.R_far (p:=⟨gb145,4,none⟩) (Kd.R_far (p:=⟨gb145,3,none⟩) (Kd.R_far (p:=⟨gb145,2,none⟩) (Kd.R_far (p:=⟨gb145,1,none⟩) (Kd.R_far (p:=⟨gb145,0,none⟩) (Kd.R_types HO128.out BK145.out (by decide)) (fun _ hk=>hk.2) (.int .i64 t130)) (fun _ hk=>hk.2) (.int .u32 t131)) (fun _ hk=>hk.2) (.int .u32 t132)) (fun _ hk=>hk.2) (.int .u32 t133)) (fun _ hk=>hk.2) (.slice Ao25 t134.length co25)) (fun _ hk=>hk.2) (.int .i64 t137)) (fun _ hk=>hk.2) (.int .u32 t138)) (fun _ hk=>hk.2) (.int .u32 t139)) (fun _ hk=>hk.2) (.int .u32 t140)) (fun _ hk=>hk.2) (.int .u32 t141)) (fun _ hk=>hk.2) (.int .u32 t142)) (fun _ hk=>hk.2) (.int .u32 t143)) (fun _ hk=>⟨hk.1.1.2,hk.1.2⟩)))⟩;have n2_ : Aside0 (Kd.R (Kd.int .u8) 5 w26 w.heap.size (fun k_=>some k_ ≠ (.slice Ao16 y122.length co16 : Value).ownBlock∧some k_ ≠ (.slice Ao20 t126.length co20 : Value).ownBlock) (.slice Ao25 t134.length co25) t134):=⟨(by rw [hw];exact (by (with_reducible repeat (first|apply rA|apply rN|apply rD));exact Kd.R_mono (Kd.R_far (p:=⟨gb145,11,none⟩) (Kd.R_far (p:=⟨gb145,10,none⟩) (Kd.R_far (p:=⟨gb145,9,none⟩) (Kd.R_far (p:=⟨gb145,8,none⟩) (Kd.R_far (p:=⟨gb145,7,none⟩) (Kd.R_far (p:=⟨gb145,6,none⟩) (Kd.R_far (p:=⟨gb145,5,none⟩) (Kd.R_far (p:=⟨gb145,4,none⟩) (Kd.R_far (p:=⟨gb145,3,none⟩) (Kd.R_far (p:=⟨gb145,2,none⟩) (Kd.R_far (p:=⟨gb145,1,none⟩) (Kd.R_far (p:=⟨gb145,0,none⟩) (Kd.R_types HO136.out BK145.out (by decide)) (fun _ hk=>hk.2) (.int .i64 t130)) (fun _ hk=>hk.2) (.int .u32 t131)) (fun _ hk=>hk.2) (.int .u32 t132)) (fun _ hk=>hk.2) (.int .u32 t133)) (fun _ hk=>hk.2) (.slice Ao25 t134.length co25)) (fun _ hk=>hk.2) (.int .i64 t137)) (fun _ hk=>hk.2) (.int .u32 t138)) (fun _ hk=>hk.2) (.int .u32 t139)) (fun _ hk=>hk.2) (.int .u32 t140)) (fun _ hk=>hk.2) (.int .u32 t141)) (fun _ hk=>hk.2) (.int .u32 t142)) (fun _ hk=>hk.2) (.int .u32 t143)) (fun _ hk=>⟨hk.1.1.2,hk.1.2⟩)))⟩;have n3_ : Aside0 (w26.heap[gb125]? = some (.cells #[.int .i64 1,.int .u32 7,.int .u32 0,.int .u32 0,.slice Ao16 y122.length co16,.int .i64 1,.int .u32 0,.int .u32 0,.int .u32 0,.int .u32 0,.int .u32 0,.int .u32 0] 26 (0,0))):=⟨(by rw [hw];exact (by (with_reducible repeat (first|apply bN|apply bD|apply bA));refine blk_far ?_ NB125_145.out _;(with_reducible repeat (first|apply bN|apply bD|apply bA));refine blk_far ?_ NB125_145.out _;(with_reducible repeat (first|apply bN|apply bD|apply bA));refine blk_far ?_ NB125_145.out _;(with_reducible repeat (first|apply bN|apply bD|apply bA));refine blk_far ?_ NB125_145.out _;(with_reducible repeat (first|apply bN|apply bD|apply bA));refine blk_far ?_ NB125_145.out _;(with_reducible repeat (first|apply bN|apply bD|apply bA));refine blk_far ?_ NB125_145.out _;(with_reducible repeat (first|apply bN|apply bD|apply bA));refine blk_far ?_ NB125_145.out _;(with_reducible repeat (first|apply bN|apply bD|apply bA));refine blk_far ?_ NB125_145.out _;(with_reducible repeat (first|apply bN|apply bD|apply bA));refine blk_far ?_ NB125_145.out _;(with_reducible repeat (first|apply bN|apply bD|apply bA));refine blk_far ?_ NB125_145.out _;(with_reducible repeat (first|apply bN|apply bD|apply bA));refine blk_far ?_ NB125_145.out _;(with_reducible repeat (first|apply bN|apply bD|apply bA));refine blk_far ?_ NB125_145.out _;(with_reducible repeat (first|apply bN|apply bD|apply bA));exact BK125.out))⟩;have n4_ : Aside0 (w26.heap[gb145]? = some (.cells #[.int .i64 t130,.int .u32 t131,.int .u32 t132,.int .u32 t133,.slice Ao25 t134.length co25,.int .i64 t137,.int .u32 t138,.int .u32 t139,.int .u32 t140,.int .u32 t141,.int .u32 t142,.int .u32 t143] 26 (0,0))):=⟨(by rw [hw];exact (by (with_reducible repeat (first|apply bN|apply bD|apply bA));refine blk_put (cs:=#[.int .i64 t130,.int .u32 t131,.int .u32 t132,.int .u32 t133,.slice Ao25 t134.length co25,.int .i64 t137,.int .u32 t138,.int .u32 t139,.int .u32 t140,.int .u32 t141,.int .u32 t142,.int .u32 0]) ?_ 11 _ rfl;(with_reducible repeat (first|apply bN|apply bD|apply bA));refine blk_put (cs:=#[.int .i64 t130,.int .u32 t131,.int .u32 t132,.int .u32 t133,.slice Ao25 t134.length co25,.int .i64 t137,.int .u32 t138,.int .u32 t139,.int .u32 t140,.int .u32 t141,.int .u32 0,.int .u32 0]) ?_ 10 _ rfl;(with_reducible repeat (first|apply bN|apply bD|apply bA));refine blk_put (cs:=#[.int .i64 t130,.int .u32 t131,.int .u32 t132,.int .u32 t133,.slice Ao25 t134.length co25,.int .i64 t137,.int .u32 t138,.int .u32 t139,.int .u32 t140,.int .u32 0,.int .u32 0,.int .u32 0]) ?_ 9 _ rfl;(with_reducible repeat (first|apply bN|apply bD|apply bA));refine blk_put (cs:=#[.int .i64 t130,.int .u32 t131,.int .u32 t132,.int .u32 t133,.slice Ao25 t134.length co25,.int .i64 t137,.int .u32 t138,.int .u32 t139,.int .u32 0,.int .u32 0,.int .u32 0,.int .u32 0]) ?_ 8 _ rfl;(with_reducible repeat (first|apply bN|apply bD|apply bA));refine blk_put (cs:=#[.int .i64 t130,.int .u32 t131,.int .u32 t132,.int .u32 t133,.slice Ao25 t134.length co25,.int .i64 t137,.int .u32 t138,.int .u32 0,.int .u32 0,.int .u32 0,.int .u32 0,.int .u32 0]) ?_ 7 _ rfl;(with_reducible repeat (first|apply bN|apply bD|apply bA));refine blk_put (cs:=#[.int .i64 t130,.int .u32 t131,.int .u32 t132,.int .u32 t133,.slice Ao25 t134.length co25,.int .i64 t137,.int .u32 0,.int .u32 0,.int .u32 0,.int .u32 0,.int .u32 0,.int .u32 0]) ?_ 6 _ rfl;(with_reducible repeat (first|apply bN|apply bD|apply bA));refine blk_put (cs:=#[.int .i64 t130,.int .u32 t131,.int .u32 t132,.int .u32 t133,.slice Ao25 t134.length co25,.int .i64 0,.int .u32 0,.int .u32 0,.int .u32 0,.int .u32 0,.int .u32 0,.int .u32 0]) ?_ 5 _ rfl;(with_reducible repeat (first|apply bN|apply bD|apply bA));refine blk_put (cs:=#[.int .i64 t130,.int .u32 t131,.int .u32 t132,.int .u32 t133,.slice none 0 0,.int .i64 0,.int .u32 0,.int .u32 0,.int .u32 0,.int .u32 0,.int .u32 0,.int .u32 0]) ?_ 4 _ rfl;(with_reducible repeat (first|apply bN|apply bD|apply bA));refine blk_put (cs:=#[.int .i64 t130,.int .u32 t131,.int .u32 t132,.int .u32 0,.slice none 0 0,.int .i64 0,.int .u32 0,.int .u32 0,.int .u32 0,.int .u32 0,.int .u32 0,.int .u32 0]) ?_ 3 _ rfl;(with_reducible repeat (first|apply bN|apply bD|apply bA));refine blk_put (cs:=#[.int .i64 t130,.int .u32 t131,.int .u32 0,.int .u32 0,.slice none 0 0,.int .i64 0,.int .u32 0,.int .u32 0,.int .u32 0,.int .u32 0,.int .u32 0,.int .u32 0]) ?_ 2 _ rfl;(with_reducible repeat (first|apply bN|apply bD|apply bA));refine blk_put (cs:=#[.int .i64 t130,.int .u32 0,.int .u32 0,.int .u32 0,.slice none 0 0,.int .i64 0,.int .u32 0,.int .u32 0,.int .u32 0,.int .u32 0,.int .u32 0,.int .u32 0]) ?_ 1 _ rfl;(with_reducible repeat (first|apply bN|apply bD|apply bA));refine blk_put (cs:=#[.int .i64 0,.int .u32 0,.int .u32 0,.int .u32 0,.slice none 0 0,.int .i64 0,.int .u32 0,.int .u32 0,.int .u32 0,.int .u32 0,.int .u32 0,.int .u32 0]) ?_ 0 _ rfl;(with_reducible repeat (first|apply bN|apply bD|apply bA));exact BK145.out))⟩;have n5_ : Aside0 (Below w.heap.size w w26):=⟨(by rw [hw];exact (by repeat (first|(with_reducible first|exact HB.out|apply lA|apply lN|apply lD|refine lS ?_ GE125.out|refine lS ?_ GE145.out)|exact HB.out)))⟩;clear hw;clear HO124;clear HO128;clear HO136;clear BK125;clear BK145;clear HB;have HO124:=n0_;have HO128:=n1_;have HO136:=n2_;have BK125:=n3_;have BK145:=n4_;have HB:=n5_;clear n0_ n1_ n2_ n3_ n4_ n5_;have q27 : ((ji3) : Int) ≤ ((t126.length : Int) : Int):=of_decide_eq_true (by first|(with_reducible assumption)|assumption);obtain ⟨i027,hi027,_,hsz27,_⟩:=info_parts info5;have hroom27 : t126.length ≤ co20:=(Kd.R_reads' HO128.out).2.1;have hC27 : Kd.C (Kd.int .u8) _ Ao20 t126.length t126:=(Kd.R_reads' HO128.out).2.2;have hcut27:=cut_to (P:=Try.prog) 22 5 .i64 Try.underlying22 hi027 Ao20 t126.length co20 (ji3) (of_decide_eq_true (by first|(with_reducible assumption)|assumption)) q27 hroom27;have hr27:=Kd.C_take (m:=((ji3) : Int).toNat) hC27 (by omega);have hy27 : y146.length = ((ji3) : Int).toNat:=(by rw [Ny146.out,List.length_take];omega);rw [← Ny146.out] at hr27;rw [← hy27] at hcut27;have HR149:=mK hr27;have HC149:=mK (show y146.length ≤ co20 from by omega);clear hr27 hC27 hroom27 hi027 hsz27;have KY27:=mK hy27;clear hy27;have KL27:=mK (show ((ji3) : Int).toNat ≤ t126.length from by omega);replace q27:=eq_true q27)|((with_reducible refine gate_callee (f:=8) rfl ?_);refine goesL_ (some 28) rfl rfl Try.func8 (by kernel_rfl) rfl #[.slice Ao20 y146.length co20] rfl (by (try simp only [List.map_toArray,List.map_cons,List.map_nil]);first|done|rfl|(simp only [List.length_drop,List.length_take];rfl)) ?_;(with_reducible refine (dhcp_Get.calls k _ _ y146 t150 t151 t152 t153 t154 t157 t158 t159 t160 t161 t162 t163 t164 _ ?side1 ?side2 A6.out).mono ?_);(case side1=>repeat (first|exact (by repeat (first|(with_reducible exact HR149.out)|(with_reducible refine Kd.C_alloc ?_ _)|(with_reducible refine Kd.C_drewN ?_ _)|(with_reducible refine Kd.C_drew ?_)|exact HR149.out))|(with_reducible refine Kd.C_alloc ?_ _)|(with_reducible refine Kd.C_drewN ?_ _)|(with_reducible refine Kd.C_drew ?_)));(case side2=>exact HC149.out);rintro e w28 ⟨v155,rfl,ho0,hb⟩;refine ⟨_,rfl,?_⟩;have n0_:=mK (Kd.R_elder' (by (with_reducible repeat (first|apply rA|apply rN|apply rD));exact HO124.out) (Kd.R_base ho0) hb);have n2_:=mK (Kd.R_elder' (by (with_reducible repeat (first|apply rA|apply rN|apply rD));exact HO136.out) (Kd.R_base ho0) hb);have n3_:=mK (Kd.R_lower (Kd.R_new' (Kd.R_new' (Kd.R_new' ho0 (Kd.R_lt (by (with_reducible repeat (first|apply rA|apply rN|apply rD));exact HO124.out))) (Kd.R_lt (by (with_reducible repeat (first|apply rA|apply rN|apply rD));exact HO128.out))) (Kd.R_lt (by (with_reducible repeat (first|apply rA|apply rN|apply rD));exact HO136.out))) (below_size (by repeat (first|(with_reducible first|exact HB.out|apply lA|apply lN|apply lD|refine lS ?_ GE125.out|refine lS ?_ GE145.out)|exact HB.out))));have n4_:=mK (blk_below (g:=gb125) (o:=.cells #[.int .i64 1,.int .u32 7,.int .u32 0,.int .u32 0,.slice Ao16 y122.length co16,.int .i64 1,.int .u32 0,.int .u32 0,.int .u32 0,.int .u32 0,.int .u32 0,.int .u32 0] 26 (0,0)) (by (with_reducible repeat (first|apply bN|apply bD|apply bA));exact BK125.out) hb);have n5_:=mK (blk_below (g:=gb145) (o:=.cells #[.int .i64 t130,.int .u32 t131,.int .u32 t132,.int .u32 t133,.slice Ao25 t134.length co25,.int .i64 t137,.int .u32 t138,.int .u32 t139,.int .u32 t140,.int .u32 t141,.int .u32 t142,.int .u32 t143] 26 (0,0)) (by (with_reducible repeat (first|apply bN|apply bD|apply bA));exact BK145.out) hb);have n7_:=mK (below_step (by repeat (first|(with_reducible first|exact HB.out|apply lA|apply lN|apply lD|refine lS ?_ GE125.out|refine lS ?_ GE145.out)|exact HB.out)) hb);clear HO124;clear HO136;clear BK125;clear BK145;clear HB;have HO124:=n0_;have HO136:=n2_;have HO156:=n3_;have BK125:=n4_;have BK145:=n5_;have HB:=n7_;clear n0_ n2_ n3_ n4_ n5_ n7_;(try clear hb);(try clear hb2);(try clear hk);(try clear hi);(try clear ho0))|((with_reducible refine gate_dst (N:=6) rfl ?_);(try (refine gate_guard (by rfl) ?_;dsimp only));refine box_event ?hg (N:=6) ?hd (cs:=#[.int .i64 0,.int .u32 0,.int .u32 0,.int .u32 0,.slice none 0 0,.int .i64 0,.int .u32 0,.int .u32 0,.int .u32 0,.int .u32 0,.int .u32 0,.int .u32 0]) (t:=26) ?hr ?_;(case hd=>rfl);(case hg=>rfl);(case hr=>first|(go_simp;done)|(go_simp;rfl));intro gb165 hg w29 hbox hb;have n0_:=mK (Kd.R_below (by (with_reducible repeat (first|apply rA|apply rN|apply rD));exact HO124.out) hb);have n2_:=mK (Kd.R_below (by (with_reducible repeat (first|apply rA|apply rN|apply rD));exact HO136.out) hb);have n3_:=mK (Kd.R_below (by (with_reducible repeat (first|apply rA|apply rN|apply rD));exact HO156.out) hb);have n4_:=mK (blk_below (g:=gb125) (o:=.cells #[.int .i64 1,.int .u32 7,.int .u32 0,.int .u32 0,.slice Ao16 y122.length co16,.int .i64 1,.int .u32 0,.int .u32 0,.int .u32 0,.int .u32 0,.int .u32 0,.int .u32 0] 26 (0,0)) (by (with_reducible repeat (first|apply bN|apply bD|apply bA));exact BK125.out) hb);have n5_:=mK (blk_below (g:=gb145) (o:=.cells #[.int .i64 t130,.int .u32 t131,.int .u32 t132,.int .u32 t133,.slice Ao25 t134.length co25,.int .i64 t137,.int .u32 t138,.int .u32 t139,.int .u32 t140,.int .u32 t141,.int .u32 t142,.int .u32 t143] 26 (0,0)) (by (with_reducible repeat (first|apply bN|apply bD|apply bA));exact BK145.out) hb);have n7_:=mK (below_step (by repeat (first|(with_reducible first|exact HB.out|apply lA|apply lN|apply lD|refine lS ?_ GE125.out|refine lS ?_ GE145.out)|exact HB.out)) hb);have n8_:=mK (hbox);have n10_:=mK ((by rw [hg];exact (below_size (by repeat (first|(with_reducible first|exact HB.out|apply lA|apply lN|apply lD|refine lS ?_ GE125.out|refine lS ?_ GE145.out)|exact HB.out))) : w.heap.size ≤ gb165));have n11_:=mK ((by rw [hg];exact Nat.ne_of_lt (blk_lt (g:=gb125) (o:=.cells #[.int .i64 1,.int .u32 7,.int .u32 0,.int .u32 0,.slice Ao16 y122.length co16,.int .i64 1,.int .u32 0,.int .u32 0,.int .u32 0,.int .u32 0,.int .u32 0,.int .u32 0] 26 (0,0)) (by (with_reducible repeat (first|apply bN|apply bD|apply bA));exact BK125.out)) : gb125 ≠ gb165));have n12_:=mK ((by rw [hg];exact Nat.ne_of_gt (blk_lt (g:=gb125) (o:=.cells #[.int .i64 1,.int .u32 7,.int .u32 0,.int .u32 0,.slice Ao16 y122.length co16,.int .i64 1,.int .u32 0,.int .u32 0,.int .u32 0,.int .u32 0,.int .u32 0,.int .u32 0] 26 (0,0)) (by (with_reducible repeat (first|apply bN|apply bD|apply bA));exact BK125.out)) : gb165 ≠ gb125));have n13_:=mK ((by rw [hg];exact Nat.ne_of_lt (blk_lt (g:=gb145) (o:=.cells #[.int .i64 t130,.int .u32 t131,.int .u32 t132,.int .u32 t133,.slice Ao25 t134.length co25,.int .i64 t137,.int .u32 t138,.int .u32 t139,.int .u32 t140,.int .u32 t141,.int .u32 t142,.int .u32 t143] 26 (0,0)) (by (with_reducible repeat (first|apply bN|apply bD|apply bA));exact BK145.out)) : gb145 ≠ gb165));have n14_:=mK ((by rw [hg];exact Nat.ne_of_gt (blk_lt (g:=gb145) (o:=.cells #[.int .i64 t130,.int .u32 t131,.int .u32 t132,.int .u32 t133,.slice Ao25 t134.length co25,.int .i64 t137,.int .u32 t138,.int .u32 t139,.int .u32 t140,.int .u32 t141,.int .u32 t142,.int .u32 t143] 26 (0,0)) (by (with_reducible repeat (first|apply bN|apply bD|apply bA));exact BK145.out)) : gb165 ≠ gb145));clear HO124;clear HO136;clear HO156;clear BK125;clear BK145;clear HB;have HO124:=n0_;have HO136:=n2_;have HO156:=n3_;have BK125:=n4_;have BK145:=n5_;have HB:=n7_;have BK165:=n8_;have GE165:=n10_;have NB125_165:=n11_;have NB165_125:=n12_;have NB145_165:=n13_;have NB165_145:=n14_;clear n0_ n2_ n3_ n4_ n5_ n7_ n8_ n10_ n11_ n12_ n13_ n14_;clear hb hbox hg;have hnb30:=NB165_125.out;have hnc30:=NB125_165.out;have hnb31:=NB165_145.out;have hnc31:=NB145_165.out;have hcz32_0 : w29.cell? ⟨gb165,0,none⟩ = some (.int .i64 0):=(blk_cell BK165.out 0).trans rfl;have hcz32_1 : w29.cell? ⟨gb165,1,none⟩ = some (.int .u32 0):=(blk_cell BK165.out 1).trans rfl;have hcz32_2 : w29.cell? ⟨gb165,2,none⟩ = some (.int .u32 0):=(blk_cell BK165.out 2).trans rfl;have hcz32_3 : w29.cell? ⟨gb165,3,none⟩ = some (.int .u32 0):=(blk_cell BK165.out 3).trans rfl;have hcz32_4 : w29.cell? ⟨gb165,4,none⟩ = some (.slice none 0 0):=(blk_cell BK165.out 4).trans rfl;have hcz32_5 : w29.cell? ⟨gb165,5,none⟩ = some (.int .i64 0):=(blk_cell BK165.out 5).trans rfl;have hcz32_6 : w29.cell? ⟨gb165,6,none⟩ = some (.int .u32 0):=(blk_cell BK165.out 6).trans rfl;have hcz32_7 : w29.cell? ⟨gb165,7,none⟩ = some (.int .u32 0):=(blk_cell BK165.out 7).trans rfl;have hcz32_8 : w29.cell? ⟨gb165,8,none⟩ = some (.int .u32 0):=(blk_cell BK165.out 8).trans rfl;have hcz32_9 : w29.cell? ⟨gb165,9,none⟩ = some (.int .u32 0):=(blk_cell BK165.out 9).trans rfl;have hcz32_10 : w29.cell? ⟨gb165,10,none⟩ = some (.int .u32 0):=(blk_cell BK165.out 10).trans rfl;have hcz32_11 : w29.cell? ⟨gb165,11,none⟩ = some (.int .u32 0):=(blk_cell BK165.out 11).trans rfl;have hfz32_0:=blk_frozen BK165.out 0;have hfz32_1:=blk_frozen BK165.out 1;have hfz32_2:=blk_frozen BK165.out 2;have hfz32_3:=blk_frozen BK165.out 3;have hfz32_4:=blk_frozen BK165.out 4;have hfz32_5:=blk_frozen BK165.out 5;have hfz32_6:=blk_frozen BK165.out 6;have hfz32_7:=blk_frozen BK165.out 7;have hfz32_8:=blk_frozen BK165.out 8;have hfz32_9:=blk_frozen BK165.out 9;have hfz32_10:=blk_frozen BK165.out 10;have hfz32_11:=blk_frozen BK165.out 11;obtain ⟨Ao33,co33,eo33⟩:=Kd.R_slice HO156.out;subst eo33)|((with_reducible refine gate_callee (f:=10) rfl ?_);refine goesL_ (some 33) rfl rfl Try.func10 (by kernel_rfl) rfl #[.agg #[.int .i64 0,.int .u32 0,.int .u32 0,.int .u32 0,.slice none 0 0,.int .i64 0,.int .u32 0,.int .u32 0,.int .u32 0,.int .u32 0,.int .u32 0,.int .u32 0]] rfl (by (try simp only [List.map_toArray,List.map_cons,List.map_nil]);first|done|rfl|(simp only [List.length_drop,List.length_take];rfl)) ?_;(refine (dhcp_Put.calls k 0 0 0 0 _ _ ([] : List Int) 0 0 0 0 0 0 0 t166 t169 _ ?side1 ?side2 A7.out).mono ?_);(case side1=>exact Kd.C_nil _ _);(case side2=>exact Nat.le_refl _);rintro e w34 ⟨v167,rfl,ho0,hb⟩;refine ⟨_,rfl,?_⟩;have n0_:=mK (Kd.R_elder' (by (with_reducible repeat (first|apply rA|apply rN|apply rD));exact (Kd.R_mono (Kd.R_far (p:=⟨gb165,11,none⟩) (Kd.R_far (p:=⟨gb165,10,none⟩) (Kd.R_far (p:=⟨gb165,9,none⟩) (Kd.R_far (p:=⟨gb165,8,none⟩) (Kd.R_far (p:=⟨gb165,7,none⟩) (Kd.R_far (p:=⟨gb165,6,none⟩) (Kd.R_far (p:=⟨gb165,5,none⟩) (Kd.R_far (p:=⟨gb165,4,none⟩) (Kd.R_far (p:=⟨gb165,3,none⟩) (Kd.R_far (p:=⟨gb165,2,none⟩) (Kd.R_far (p:=⟨gb165,1,none⟩) (Kd.R_far (p:=⟨gb165,0,none⟩) (Kd.R_types HO124.out BK165.out (by decide)) (fun _ hk=>hk.2) (.int .i64 t150)) (fun _ hk=>hk.2) (.int .u32 t151)) (fun _ hk=>hk.2) (.int .u32 t152)) (fun _ hk=>hk.2) (.int .u32 t153)) (fun _ hk=>hk.2) (.slice Ao33 t154.length co33)) (fun _ hk=>hk.2) (.int .i64 t157)) (fun _ hk=>hk.2) (.int .u32 t158)) (fun _ hk=>hk.2) (.int .u32 t159)) (fun _ hk=>hk.2) (.int .u32 t160)) (fun _ hk=>hk.2) (.int .u32 t161)) (fun _ hk=>hk.2) (.int .u32 t162)) (fun _ hk=>hk.2) (.int .u32 t163)) (fun _ h_=>h_.1))) (Kd.R_base ho0) hb);have n2_:=mK (Kd.R_elder' (by (with_reducible repeat (first|apply rA|apply rN|apply rD));exact (Kd.R_mono (Kd.R_far (p:=⟨gb165,11,none⟩) (Kd.R_far (p:=⟨gb165,10,none⟩) (Kd.R_far (p:=⟨gb165,9,none⟩) (Kd.R_far (p:=⟨gb165,8,none⟩) (Kd.R_far (p:=⟨gb165,7,none⟩) (Kd.R_far (p:=⟨gb165,6,none⟩) (Kd.R_far (p:=⟨gb165,5,none⟩) (Kd.R_far (p:=⟨gb165,4,none⟩) (Kd.R_far (p:=⟨gb165,3,none⟩) (Kd.R_far (p:=⟨gb165,2,none⟩) (Kd.R_far (p:=⟨gb165,1,none⟩) (Kd.R_far (p:=⟨gb165,0,none⟩) (Kd.R_types HO136.out BK165.out (by decide)) (fun _ hk=>hk.2) (.int .i64 t150)) (fun _ hk=>hk.2) (.int .u32 t151)) (fun _ hk=>hk.2) (.int .u32 t152)) (fun _ hk=>hk.2) (.int .u32 t153)) (fun _ hk=>hk.2) (.slice Ao33 t154.length co33)) (fun _ hk=>hk.2) (.int .i64 t157)) (fun _ hk=>hk.2) (.int .u32 t158)) (fun _ hk=>hk.2) (.int .u32 t159)) (fun _ hk=>hk.2) (.int .u32 t160)) (fun _ hk=>hk.2) (.int .u32 t161)) (fun _ hk=>hk.2) (.int .u32 t162)) (fun _ hk=>hk.2) (.int .u32 t163)) (fun _ h_=>h_.1))) (Kd.R_base ho0) hb);have n5_:=mK (blk_below (g:=gb125) (o:=.cells #[.int .i64 1,.int .u32 7,.int .u32 0,.int .u32 0,.slice Ao16 y122.length co16,.int .i64 1,.int .u32 0,.int .u32 0,.int .u32 0,.int .u32 0,.int .u32 0,.int .u32 0] 26 (0,0)) (by (with_reducible repeat (first|apply bN|apply bD|apply bA));refine blk_far ?_ NB125_165.out _;(with_reducible repeat (first|apply bN|apply bD|apply bA));refine blk_far ?_ NB125_165.out _;(with_reducible repeat (first|apply bN|apply bD|apply bA));refine blk_far ?_ NB125_165.out _;(with_reducible repeat (first|apply bN|apply bD|apply bA));refine blk_far ?_ NB125_165.out _;(with_reducible repeat (first|apply bN|apply bD|apply bA));refine blk_far ?_ NB125_165.out _;(with_reducible repeat (first|apply bN|apply bD|apply bA));refine blk_far ?_ NB125_165.out _;(with_reducible repeat (first|apply bN|apply bD|apply bA));refine blk_far ?_ NB125_165.out _;(with_reducible repeat (first|apply bN|apply bD|apply bA));refine blk_far ?_ NB125_165.out _;(with_reducible repeat (first|apply bN|apply bD|apply bA));refine blk_far ?_ NB125_165.out _;(with_reducible repeat (first|apply bN|apply bD|apply bA));refine blk_far ?_ NB125_165.out _;(with_reducible repeat (first|apply bN|apply bD|apply bA));refine blk_far ?_ NB125_165.out _;(with_reducible repeat (first|apply bN|apply bD|apply bA));refine blk_far ?_ NB125_165.out _;(with_reducible repeat (first|apply bN|apply bD|apply bA));exact BK125.out) hb);have n6_:=mK (blk_below (g:=gb145) (o:=.cells #[.int .i64 t130,.int .u32 t131,.int .u32 t132,.int .u32 t133,.slice Ao25 t134.length co25,.int .i64 t137,.int .u32 t138,.int .u32 t139,.int .u32 t140,.int .u32 t141,.int .u32 t142,.int .u32 t143] 26 (0,0)) (by (with_reducible repeat (first|apply bN|apply bD|apply bA));refine blk_far ?_ NB145_165.out _;(with_reducible repeat (first|apply bN|apply bD|apply bA));refine blk_far ?_ NB145_165.out _;(with_reducible repeat (first|apply bN|apply bD|apply bA));refine blk_far ?_ NB145_165.out _;(with_reducible repeat (first|apply bN|apply bD|apply bA));refine blk_far ?_ NB145_165.out _;(with_reducible repeat (first|apply bN|apply bD|apply bA));refine blk_far ?_ NB145_165.out _;(with_reducible repeat (first|apply bN|apply bD|apply bA));refine blk_far ?_ NB145_165.out _;(with_reducible repeat (first|apply bN|apply bD|apply bA));refine blk_far ?_ NB145_165.out _;(with_reducible repeat (first|apply bN|apply bD|apply bA));refine blk_far ?_ NB145_165.out _;(with_reducible repeat (first|apply bN|apply bD|apply bA));refine blk_far ?_ NB145_165.out _;(with_reducible repeat (first|apply bN|apply bD|apply bA));refine blk_far ?_ NB145_165.out _;(with_reducible repeat (first|apply bN|apply bD|apply bA));refine blk_far ?_ NB145_165.out _;(with_reducible repeat (first|apply bN|apply bD|apply bA));refine blk_far ?_ NB145_165.out _;(with_reducible repeat (first|apply bN|apply bD|apply bA));exact BK145.out) hb);have n9_:=mK (below_step (by repeat (first|(with_reducible first|exact HB.out|apply lA|apply lN|apply lD|refine lS ?_ GE125.out|refine lS ?_ GE145.out|refine lS ?_ GE165.out)|exact HB.out)) hb);clear HO124;clear HO136;clear BK125;clear BK145;clear HB;have HO124:=n0_;have HO136:=n2_;have BK125:=n5_;have BK145:=n6_;have HB:=n9_;clear n0_ n2_ n5_ n6_ n9_;(try clear hb);(try clear hb2);(try clear hk);(try clear hi);(try clear ho0);have hcz35_0 : w34.cell? ⟨gb145,0,none⟩ = some (.int .i64 t130):=(blk_cell BK145.out 0).trans rfl;have hcz35_1 : w34.cell? ⟨gb145,1,none⟩ = some (.int .u32 t131):=(blk_cell BK145.out 1).trans rfl;have hcz35_2 : w34.cell? ⟨gb145,2,none⟩ = some (.int .u32 t132):=(blk_cell BK145.out 2).trans rfl;have hcz35_3 : w34.cell? ⟨gb145,3,none⟩ = some (.int .u32 t133):=(blk_cell BK145.out 3).trans rfl;have hcz35_4 : w34.cell? ⟨gb145,4,none⟩ = some (.slice Ao25 t134.length co25):=(blk_cell BK145.out 4).trans rfl;have hcz35_5 : w34.cell? ⟨gb145,5,none⟩ = some (.int .i64 t137):=(blk_cell BK145.out 5).trans rfl;have hcz35_6 : w34.cell? ⟨gb145,6,none⟩ = some (.int .u32 t138):=(blk_cell BK145.out 6).trans rfl;have hcz35_7 : w34.cell? ⟨gb145,7,none⟩ = some (.int .u32 t139):=(blk_cell BK145.out 7).trans rfl;have hcz35_8 : w34.cell? ⟨gb145,8,none⟩ = some (.int .u32 t140):=(blk_cell BK145.out 8).trans rfl;have hcz35_9 : w34.cell? ⟨gb145,9,none⟩ = some (.int .u32 t141):=(blk_cell BK145.out 9).trans rfl;have hcz35_10 : w34.cell? ⟨gb145,10,none⟩ = some (.int .u32 t142):=(blk_cell BK145.out 10).trans rfl;have hcz35_11 : w34.cell? ⟨gb145,11,none⟩ = some (.int .u32 t143):=(blk_cell BK145.out 11).trans rfl;have hfz35_0:=blk_frozen BK145.out 0;have hfz35_1:=blk_frozen BK145.out 1;have hfz35_2:=blk_frozen BK145.out 2;have hfz35_3:=blk_frozen BK145.out 3;have hfz35_4:=blk_frozen BK145.out 4;have hfz35_5:=blk_frozen BK145.out 5;have hfz35_6:=blk_frozen BK145.out 6;have hfz35_7:=blk_frozen BK145.out 7;have hfz35_8:=blk_frozen BK145.out 8;have hfz35_9:=blk_frozen BK145.out 9;have hfz35_10:=blk_frozen BK145.out 10;have hfz35_11:=blk_frozen BK145.out 11;have hcz36_0 : w34.cell? ⟨gb125,0,none⟩ = some (.int .i64 1):=(blk_cell BK125.out 0).trans rfl;have hcz36_1 : w34.cell? ⟨gb125,1,none⟩ = some (.int .u32 7):=(blk_cell BK125.out 1).trans rfl;have hcz36_2 : w34.cell? ⟨gb125,2,none⟩ = some (.int .u32 0):=(blk_cell BK125.out 2).trans rfl;have hcz36_3 : w34.cell? ⟨gb125,3,none⟩ = some (.int .u32 0):=(blk_cell BK125.out 3).trans rfl;have hcz36_4 : w34.cell? ⟨gb125,4,none⟩ = some (.slice Ao16 y122.length co16):=(blk_cell BK125.out 4).trans rfl;have hcz36_5 : w34.cell? ⟨gb125,5,none⟩ = some (.int .i64 1):=(blk_cell BK125.out 5).trans rfl;have hcz36_6 : w34.cell? ⟨gb125,6,none⟩ = some (.int .u32 0):=(blk_cell BK125.out 6).trans rfl;have hcz36_7 : w34.cell? ⟨gb125,7,none⟩ = some (.int .u32 0):=(blk_cell BK125.out 7).trans rfl;have hcz36_8 : w34.cell? ⟨gb125,8,none⟩ = some (.int .u32 0):=(blk_cell BK125.out 8).trans rfl;have hcz36_9 : w34.cell? ⟨gb125,9,none⟩ = some (.int .u32 0):=(blk_cell BK125.out 9).trans rfl;have hcz36_10 : w34.cell? ⟨gb125,10,none⟩ = some (.int .u32 0):=(blk_cell BK125.out 10).trans rfl;have hcz36_11 : w34.cell? ⟨gb125,11,none⟩ = some (.int .u32 0):=(blk_cell BK125.out 11).trans rfl;have hfz36_0:=blk_frozen BK125.out 0;have hfz36_1:=blk_frozen BK125.out 1;have hfz36_2:=blk_frozen BK125.out 2;have hfz36_3:=blk_frozen BK125.out 3;have hfz36_4:=blk_frozen BK125.out 4;have hfz36_5:=blk_frozen BK125.out 5;have hfz36_6:=blk_frozen BK125.out 6;have hfz36_7:=blk_frozen BK125.out 7;have hfz36_8:=blk_frozen BK125.out 8;have hfz36_9:=blk_frozen BK125.out 9;have hfz36_10:=blk_frozen BK125.out 10;have hfz36_11:=blk_frozen BK125.out 11)|(go_at_call 9;(with_reducible refine (drawbridgeref20_Same.calls t130 t131 t132 t133 _ _ t134 t137 t138 t139 t140 t141 t142 t143 1 7 0 0 _ _ y122 1 0 0 0 0 0 0 true _ ?side1 ?side2 ?side3 ?side4 A11.out).mono ?_);(case side1=>repeat (first|exact (Kd.R_reads' HO136.out).2.2|(with_reducible refine Kd.C_alloc ?_ _)|(with_reducible refine Kd.C_drewN ?_ _)|(with_reducible refine Kd.C_drew ?_)));(case side2=>exact (Kd.R_reads' HO136.out).2.1);(case side3=>repeat (first|exact (Kd.R_reads' HO124.out).2.2|(with_reducible refine Kd.C_alloc ?_ _)|(with_reducible refine Kd.C_drewN ?_ _)|(with_reducible refine Kd.C_drew ?_)));(case side4=>exact (Kd.R_reads' HO124.out).2.1);rintro e w37 ⟨rfl,hb⟩;have n9_:=mK (below_step (by repeat (first|(with_reducible first|exact HB.out|apply lA|apply lN|apply lD|refine lS ?_ GE125.out|refine lS ?_ GE145.out|refine lS ?_ GE165.out)|exact HB.out)) hb);clear HB;have HB:=n9_;clear n9_;(try clear hb);(try clear hb2);(try clear hk);(try clear hi)))
        go_ret
        exact ⟨by first|rfl|(simp [errW_none,errW_some] <;> rfl)|(simp only [← hji3];first|rfl|(simp [errW_none,errW_some] <;> rfl))|(simp [*,errW_none,errW_some] <;> rfl),by repeat (first|(with_reducible first|exact HB.out|apply lA|apply lN|apply lD|refine lS ?_ GE125.out|refine lS ?_ GE145.out|refine lS ?_ GE165.out)|exact HB.out)⟩
       ·rw [if_neg c13] at H
        have c13b0 : (t164 == 160) = false:=beq_eq_false_iff_ne.mpr c13
        have c13b1 : (t164 != 160) = true:=bne_iff_ne.mpr c13
        exact absurd (H.trans (congrArg some HTr_.out)) (by simp)
      ·replace c12:=Bool.eq_false_iff.mpr c12
       subst c12
       have H1 : (some false) = some r:= by rw [if_neg (show ¬ (false = true) by decide)] at H;exact H
       clear H
       have H:=H1
       clear H1
       exact absurd (H.trans (congrArg some HTr_.out)) (by simp)
     ·rw [if_neg c10] at H
      have c10b0 : (t144 == 0) = false:=beq_eq_false_iff_ne.mpr c10
      have c10b1 : (t144 != 0) = true:=bne_iff_ne.mpr c10
      exact absurd (H.trans (congrArg some HTr_.out)) (by simp)
    ·rw [if_neg c9] at H
     have c9b0 : ((t126.length : Int) == 244) = false:=beq_eq_false_iff_ne.mpr c9
     have c9b1 : ((t126.length : Int) != 244) = true:=bne_iff_ne.mpr c9
     exact absurd (H.trans (congrArg some HTr_.out)) (by simp)
   ·rw [if_neg c8] at H
    have c8b0 : (t129 == 0) = false:=beq_eq_false_iff_ne.mpr c8
    have c8b1 : (t129 != 0) = true:=bne_iff_ne.mpr c8
    exact absurd (H.trans (congrArg some HTr_.out)) (by simp)
  ·rw [if_neg c5] at H
   exact absurd H (by simp)
 ·rw [if_neg c4] at H
  exact absurd H (by simp)

end Go.Proofs.Ytpbofaghnfheiaa.P
