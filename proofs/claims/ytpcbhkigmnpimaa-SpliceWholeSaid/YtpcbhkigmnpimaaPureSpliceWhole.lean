/- What the law SpliceWhole answers: true; all that both sides send comes, and both ends with it. Its conditions: what the data are. -/
import Derived.Test.YtpcbhkigmnpimaaPureSpliceWholeB
namespace Go.Proofs.Ytpcbhkigmnpimaa.S
open Go Go.SL
set_option linter.unusedVariables false
set_option linter.unusedSimpArgs false
theorem same_e (l : List Int) : ref01_Same.f l l = some true := by
  unfold ref01_Same.f lt
  simp
theorem shr0 (w : Int) (hw : 0 ≤ w ∧ w ≤ 65535) : ishr .i64 w 16 = 0 := by
  unfold ishr
  rw [show (2 : Int) ^ min (16 : Int).toNat IntKind.i64.bits = 65536 by decide]; omega
abbrev c00 (w f seq : Int) : TConn := ⟨1, 1, 9, 2, 80, true, false, false, f, f, f, IntKind.u32.wrap (seq + 1), w, 536, [], [], [], false, false, false, 0, 0, 0⟩
abbrev c01 (w f seq : Int) (tg : List Int) : TConn := ⟨1, 1, 9, 2, 80, false, false, false, f, f, IntKind.u32.wrap (f + 1), IntKind.u32.wrap (seq + 1), w, 536, [], tg, [], false, false, false, 2, 2, 0⟩
theorem open_e (w f seq : Int) (hw : 0 ≤ w ∧ w ≤ 65535) : splice_Open.f ⟨9, 80, seq, 0, 2, w, 0, []⟩ 1 2 1 f = some (c00 w f seq, true) := by
  unfold splice_Open.f
  have e1 : bits .and .i64 2 23 = 2 := by decide
  have e2 : ishr .i64 9 16 = 0 := by decide
  have e3 : ishr .i64 80 16 = 0 := by decide
  have e4 := shr0 w hw
  have k1 : ¬ ((1 : Int) < 1) := by decide
  have k2 : ¬ ((8 : Int) < 1) := by decide
  have e5 : cmp_Or_int.f [0, 536] = some 536 := cmp_Or_int.le 10 _ _ (by kernel_rfl)
  simp only [lt, e1, e2, e3, e4, e5, k1, k2, decide_true, decide_false, Bool.not_true, Bool.false_eq_true, if_false, if_true, Option.bind_some]
  rfl
theorem kc00 (w f seq : Int) (hw : 0 ≤ w ∧ w ≤ 65535) (hf : 0 ≤ f ∧ f < 4294967296) : Kc (c00 w f seq) :=
  ⟨⟨Nat.zero_le _, Nat.zero_le _, Nat.zero_le _, (show ishr .i64 9 16 = 0 by decide), (show ishr .i64 80 16 = 0 by decide), shr0 w hw, ⟨(show (1 : Int) ≤ 1 by decide), (show (1 : Int) ≤ 8 by decide)⟩, ⟨(show (64 : Int) ≤ 536 by decide), (show (536 : Int) ≤ 1460 by decide)⟩, ⟨(show (0 : Int) ≤ 0 by decide), (show (0 : Int) ≤ 1099511627776 by decide)⟩, ⟨(show (0 : Int) ≤ 0 by decide), (show (0 : Int) ≤ 32 by decide)⟩, ⟨(show (0 : Int) ≤ 0 by decide), (show (0 : Int) ≤ 6 by decide)⟩⟩, fun y hy => (by cases hy), fun e => (by cases e), fun _ => ⟨rfl, rfl, rfl, rfl, rfl, rfl, fun _ => ⟨rfl, rfl, rfl, rfl⟩, fun e => (by cases e)⟩, hf⟩
theorem nw0 : (0 : Int) ≤ 0 ∧ (0 : Int) ≤ 549755813888 := by decide
theorem hear1 (w f seq : Int) (hk : Kc (c00 w f seq)) : ∃ x : TSeg, splice_Hear.f (c00 w f seq) 0 ⟨1, 1, [], 0⟩ = some (c01 w f seq [], [x], [], 0, false) ∧ x.Data = [] ∧ bits .and .i64 x.Flags 1 = 0 := by
  unfold splice_Hear.f
  rw [begin_is _ 0 (kc_ck hk) nw0.1 nw0.2, Option.bind_some]
  simp only [decide_true, Bool.not_true, Bool.false_eq_true, if_false, if_true, lt, Option.bind_some]
  unfold splice_step_open.f
  simp only [if_true, lt, arm_is, Option.bind_some]
  unfold splice_step_syn.f
  rw [say_is _ _ _ _ (by simp) (by simp), Option.bind_some]
  exact ⟨_, rfl, rfl, (by show bits .and .i64 (bits .or .i64 16 2) 1 = 0; decide)⟩
theorem push_no (c : TConn) (hu : c.Up = false) (now : Int) (sg : List TSeg) (cl : List TCall) (g : Bool) : splice_step_push.f ⟨c, now, sg, cl, g⟩ = some ⟨c, now, sg, cl, g⟩ := by
  unfold splice_step_push.f
  simp only [hu, Bool.not_false, if_true, Option.bind_some]
theorem hear3 (w f seq : Int) (D : List Int) (hD : D.length ≤ 3000) (hk : Kc (c01 w f seq [])) : splice_Hear.f (c01 w f seq []) 0 ⟨3, 1, D, 0⟩ = some (c01 w f seq D, [], [], (D.length : Int), false) := by
  unfold splice_Hear.f
  rw [begin_is _ 0 (kc_ck hk) nw0.1 nw0.2, Option.bind_some]
  have n1 : ¬ ((3 : Int) = 1) := by decide
  have n2 : ¬ ((3 : Int) = 2) := by decide
  simp only [n1, n2, decide_true, decide_false, Bool.not_true, Bool.false_eq_true, if_false, if_true, lt, Option.bind_some]
  unfold splice_step_more.f
  have e1 : min (D.length : Int) (IntKind.i64.wrap (4096 - (([] : List Int).length : Int))) = (D.length : Int) := by
    rw [show IntKind.i64.wrap (4096 - (([] : List Int).length : Int)) = 4096 by decide]; omega
  have e2 : cut D 0 (D.length : Int) = some D := by rw [cut_take' _ _ (by omega) (by omega)]; simp
  simp only [Bool.false_eq_true, if_false, Option.bind_some, least2, e1, e2]
  rw [concat_is _ (by simp; omega) (by simp), Option.bind_some]
  simp only [lt]
  rw [push_no _ rfl, Option.bind_some]
  have e3 : ([[], D] : List (List Int)).flatten = D := by simp
  rw [e3]; rfl
theorem hear4 (w f seq : Int) (D : List Int) (hk : Kc (c01 w f seq D)) : splice_Hear.f (c01 w f seq D) 0 ⟨4, 1, [], 0⟩ = some (cc w f false false f (IntKind.u32.wrap (f + 1)) (IntKind.u32.wrap (seq + 1)) [] D [] false false 2 2 0, [], [], 0, false) := by
  unfold splice_Hear.f
  rw [begin_is _ 0 (kc_ck hk) nw0.1 nw0.2, Option.bind_some]
  have n1 : ¬ ((4 : Int) = 1) := by decide
  have n2 : ¬ ((4 : Int) = 2) := by decide
  have n3 : ¬ ((4 : Int) = 3) := by decide
  simp only [n1, n2, n3, decide_true, decide_false, Bool.not_true, Bool.false_eq_true, if_false, if_true, lt, Option.bind_some]
  unfold splice_step_eof.f
  simp only [Bool.not_false, if_true, Option.bind_some, lt]
  rw [push_no _ rfl]
  rfl
theorem do_3 (p : Tplay) (t : TTell) (hg : p.gone = false) (ht : t.Kind = 3) {c' : TConn} {sg : List TSeg} {cl : List TCall} {g : Bool} (h : splice_Hear.f p.c p.now t = some (c', sg, cl, (t.Data.length : Int), g)) (h0 : p.gave.length + t.Data.length ≤ 10000000) (h1 : p.segs.length + sg.length ≤ 10000000) (h2 : cl.length ≤ 10) (h3 : ∀ y ∈ cl, y.Data.length ≤ 100000) (h4 : p.given.length ≤ 10000000) : ∃ n gv, law28_play_do.f p ⟨1, zSeg, t, 0⟩ = some ⟨c', p.now, p.given ++ wr cl, gv, p.segs ++ sg, g, n⟩ := by
  unfold law28_play_do.f
  have n0 : ¬ ((1 : Int) = 0) := by decide
  have n1 : (0 : Int) ≤ (t.Data.length : Int) := by omega
  have e2 : cut t.Data 0 (t.Data.length : Int) = some t.Data := by rw [cut_take' _ _ (by omega) (by omega)]; simp
  simp only [hg, n0, n1, ht, Int.le_refl, Bool.false_eq_true, if_false, decide_true, decide_false, if_true, h, Option.bind_some, e2, lt]
  rw [app_k _ _ (by omega), Option.bind_some, Option.bind_some, Option.bind_some]
  obtain ⟨n, hn⟩ := post_e (sg, cl, (⟨c', p.now, p.given, p.gave ++ t.Data, p.segs, g, p.calls⟩ : Tplay)) h1 h2 h3 h4
  exact ⟨n, _, hn⟩
/-- A round's beginning. -/
structure Rd (U D : List Int) (w f seq : Int) (i : Nat) (got : List Int) (fin : Bool) (k sn : Nat) (p : Tplay) (up done : Bool) (una nx : Int) (tg : List Int) (at' wt tr : Int) (a b : Nat) (e : Bool) : Prop where
  c : p.c = cc w f up done una nx (IntKind.u32.wrap (seq + 1 + sn)) [] tg [] (decide (sn = U.length + 1)) (decide (sn = U.length + 1)) at' wt tr
  kc : Kc p.c
  ak : Ak D f up done una nx tg at' b e
  bD : b ≤ D.length
  eD : e = true → b = D.length
  gone : p.gone = false
  now : p.now = (i : Int)
  giv : p.given = U.take sn
  snU : sn ≤ U.length + 1
  kl : k ≤ p.segs.length
  pe : Pend D f a fin (p.segs.drop k) b e
  aD : a ≤ D.length
  got : got = D.take a
  sg : p.segs.length ≤ 10 * (i + 1)
  p1 : min i (U.length + 1) ≤ sn
  p2 : min i (D.length + 1) ≤ b + (if e = true then 1 else 0)
  i3 : i ≤ 3001
theorem gone_e (p : Tplay) (x : TEv) (h : p.gone = true) : law28_play_do.f p x = some p := by
  unfold law28_play_do.f
  rw [if_pos h]
/-- A round. -/
theorem round_e {U D : List Int} {w f seq : Int} {i : Nat} {got : List Int} {fin : Bool} {k sn : Nat} {p : Tplay} {up done : Bool} {una nx : Int} {tg : List Int} {at' wt tr : Int} {a b : Nat} {e : Bool} (hU : U.length ≤ 3000) (hBU : Byt U) (hD : D.length ≤ 3000) (hw : 1 ≤ w ∧ w ≤ 65535) (hf : 0 ≤ f ∧ f < 4294967296) (r : Rd U D w f seq i got fin k sn p up done una nx tg at' wt tr a b e) (n sn' : Nat) (fl : Int) (d : List Int)
    (hc : (sn < U.length ∧ 0 < n ∧ n ≤ 1500 ∧ sn + n ≤ U.length ∧ d = (U.drop sn).take n ∧ fl = 16 ∧ sn' = sn + n) ∨ (sn = U.length ∧ d = [] ∧ fl = 17 ∧ sn' = U.length + 1) ∨ (sn = U.length + 1 ∧ d = [] ∧ fl = 16 ∧ sn' = U.length + 1)) :
    ∃ p5, law28_play_do.f p ⟨0, ⟨9, 80, IntKind.u32.wrap (seq + 1 + sn), nx, fl, w, 0, d⟩, zTell, 0⟩ = some p5 ∧ ((e = true ∧ p5.gone = true ∧ p5.given = U) ∨ ∃ p6 p7, law28_play_do.f p5 ⟨1, zSeg, ⟨5, 1, [], 4096⟩, 0⟩ = some p6 ∧ law28_play_do.f p6 ⟨2, zSeg, zTell, 1⟩ = some p7 ∧ ∃ tg2 at2 wt2 tr2 b2 e2 nx2, Rd U D w f seq (i + 1) (D.take b) e p.segs.length sn' p7 true e nx nx2 tg2 at2 wt2 tr2 b b2 e2) := by
  have hk := r.kc
  rw [r.c] at hk
  have hi3 := r.i3
  have hnx := r.ak.1
  have hn : (0 : Int) ≤ (i : Int) ∧ (i : Int) ≤ 549755813888 := by omega
  have hd : d.length ≤ 1500 := by
    rcases hc with ⟨_, _, h, _, rfl, _⟩ | ⟨_, rfl, _⟩ | ⟨_, rfl, _⟩
    · rw [List.length_take]; omega
    · simp
    · simp
  have hby : Byt d := by
    rcases hc with ⟨_, _, h, _, rfl, _⟩ | ⟨_, rfl, _⟩ | ⟨_, rfl, _⟩
    · exact fun y hy => hBU y (List.mem_of_mem_drop (List.mem_of_mem_take hy))
    · exact fun y hy => by cases hy
    · exact fun y hy => by cases hy
  have hnxr : 0 ≤ nx ∧ nx < 4294967296 := by rw [hnx]; exact u32r _
  obtain ⟨b', e', l, cl, a2, wt', tr', t1, t2, t3, t4, t5, t6, t7, t8, t9, t10, t11⟩ := take_e D w f hD hw hf r.bD r.eD r.ak (IntKind.u32.wrap (seq + 1 + sn)) (u32r _) (decide (sn = U.length + 1)) wt tr (i : Int) hk hn fl d hby (by omega) (decide (sn' = U.length + 1)) (IntKind.u32.wrap (seq + 1 + sn')) (by
    rcases hc with ⟨h1, h2, h3, h4, rfl, rfl, rfl⟩ | ⟨rfl, rfl, rfl, rfl⟩ | ⟨rfl, rfl, rfl, rfl⟩
    · left
      refine ⟨decide_eq_false (by omega), decide_eq_false (by omega), rfl, by rw [List.length_take, List.length_drop]; omega, ?_⟩
      rw [List.length_take, List.length_drop, u32w', u32w', u32w']; omega
    · right; left
      refine ⟨decide_eq_false (by omega), decide_eq_true rfl, rfl, rfl, ?_⟩
      rw [u32w', u32w', u32w']; omega
    · right; right
      exact ⟨decide_eq_true rfl, decide_eq_true rfl, rfl, rfl, rfl⟩)
  obtain ⟨c2, sg2, cl2, g2, k1, k2, k3, k4, k5, _, _⟩ := take_k _ hk (i : Int) hn (⟨9, 80, IntKind.u32.wrap (seq + 1 + sn), nx, fl, w, 0, d⟩ : TSeg) (by show d.length ≤ _; omega) hby hnxr
  rw [t1] at k1
  have k1' := Option.some.inj k1
  have kc2 : c2 = _ := (congrArg (fun z => z.1) k1').symm
  have kcl : cl2 = cl := (congrArg (fun z => z.2.2.1) k1').symm
  dsimp only at kc2
  rw [kc2] at k2
  rw [kcl] at k5
  have hsg := r.sg
  have hgl : p.given.length ≤ 3000 := by rw [r.giv, List.length_take]; omega
  obtain ⟨m5, h5⟩ := do_0 p (⟨9, 80, IntKind.u32.wrap (seq + 1 + sn), nx, fl, w, 0, d⟩ : TSeg) r.gone (by rw [r.c, r.now]; exact t1) (by omega) (by omega) (fun y hy => by have := k5 y hy; omega) (by omega)
  rw [t10, List.append_nil] at h5
  refine ⟨_, h5, ?_⟩
  have hsn := r.snU
  cases hg : (e && decide (sn' = U.length + 1)) with
  | true =>
    left
    rw [Bool.and_eq_true, decide_eq_true_eq] at hg
    refine ⟨hg.1, rfl, ?_⟩
    show p.given = U
    rw [r.giv]
    refine List.take_of_length_le ?_
    rcases hc with ⟨h1, h2, h3, h4, _, _, h7⟩ | ⟨h1, _⟩ | ⟨h1, _⟩ <;> omega
  | false =>
    right
    obtain ⟨cl3, m3, u1, u2, u3⟩ := took_e w f e nx (IntKind.u32.wrap (f + 1 + b' + bi e')) (IntKind.u32.wrap (seq + 1 + sn')) d (D.drop b) (decide (sn' = U.length + 1)) a2 wt' tr' (i : Int) k2 hn (by omega) (fun h => by
      rw [decide_eq_true_eq] at h
      rcases hc with ⟨h1, h2, h3, h4, _, _, h7⟩ | ⟨_, h2, _⟩ | ⟨_, h2, _⟩
      · omega
      · exact h2
      · exact h2)
    obtain ⟨c4, sg4, cl4, n4, g4, v1, v2, v3, v4, v5, _, _⟩ := hear_k _ k2 (i : Int) hn (⟨5, 1, [], 4096⟩ : TTell) (by simp)
    rw [u1] at v1
    have v1' := Option.some.inj v1
    have vc : c4 = _ := (congrArg (fun z => z.1) v1').symm
    have vcl : cl4 = cl3 := (congrArg (fun z => z.2.2.1) v1').symm
    dsimp only at vc
    rw [vc] at v2
    rw [vcl] at v5
    obtain ⟨m6, h6⟩ := do_1 (⟨cc w f true e nx (IntKind.u32.wrap (f + 1 + b' + bi e')) (IntKind.u32.wrap (seq + 1 + sn')) d (D.drop b) [] (decide (sn' = U.length + 1)) (decide (sn' = U.length + 1)) a2 wt' tr', p.now, p.given, p.gave, p.segs ++ l, false, m5⟩ : Tplay) (⟨5, 1, [], 4096⟩ : TTell) rfl (show ¬ (5 : Int) = 3 by decide) (by rw [r.now]; exact u1) (by show (p.segs ++ l).length + ([] : List TSeg).length ≤ _; rw [List.length_append, List.length_nil]; omega) (by omega) (fun y hy => by have := v5 y hy; omega) (by show p.given.length ≤ _; omega)
    rw [u2, List.append_nil] at h6
    have hgd : p.given ++ d = U.take sn' := by
      rw [r.giv]
      rcases hc with ⟨h1, h2, h3, h4, rfl, _, rfl⟩ | ⟨h1, rfl, _, h4⟩ | ⟨h1, rfl, _, h4⟩
      · rw [List.take_add]
      · rw [List.append_nil, List.take_of_length_le (by omega), List.take_of_length_le (by omega)]
      · rw [List.append_nil, List.take_of_length_le (by omega), List.take_of_length_le (by omega)]
    rw [hgd] at h6
    have htk := tick_e _ ((i : Int) + 1) v2 ⟨by omega, by omega⟩ (by
      rcases t11 with h | h
      · exact .inl h
      · right
        show (i : Int) + 1 < a2
        rw [h, i64w (by omega) (by omega)]; omega)
    obtain ⟨m7, h7⟩ := do_2 (⟨cc w f true e nx (IntKind.u32.wrap (f + 1 + b' + bi e')) (IntKind.u32.wrap (seq + 1 + sn')) [] (D.drop b) [] (decide (sn' = U.length + 1)) (decide (sn' = U.length + 1)) a2 wt' tr', p.now, U.take sn', p.gave, p.segs ++ l, false, m6⟩ : Tplay) rfl (by show 0 ≤ p.now ∧ p.now ≤ _; rw [r.now]; omega) (by rw [r.now]; exact htk) (by show (p.segs ++ l).length ≤ _; rw [List.length_append]; omega) (by show (U.take sn').length ≤ _; rw [List.length_take]; omega)
    refine ⟨_, _, h6, h7, D.drop b, a2, wt', tr', b', e', IntKind.u32.wrap (f + 1 + b' + bi e'), ⟨rfl, v2, ⟨rfl, ?_⟩, t6, t7, rfl, ?_, rfl, ?_, ?_, ?_, r.bD, rfl, ?_, ?_, ?_, ?_⟩⟩
    · cases e with
      | false =>
        right; left
        exact ⟨rfl, rfl, b, t5, by rw [hnx]; show IntKind.u32.wrap (f + 1 + b + 0) = _; rw [Int.add_zero], rfl, t3 rfl⟩
      | true =>
        obtain ⟨w1, w2, w3⟩ := t4 rfl
        right; right
        exact ⟨rfl, rfl, w2, by rw [hnx, w1, w2], by rw [r.eD rfl]; simp, w3⟩
    · show p.now + 1 = _
      rw [r.now]; omega
    · rcases hc with ⟨h1, h2, h3, h4, _, _, h7⟩ | ⟨h1, _, _, h4⟩ | ⟨h1, _, _, h4⟩ <;> omega
    · show p.segs.length ≤ (p.segs ++ l).length
      rw [List.length_append]; omega
    · show Pend D f b e ((p.segs ++ l).drop p.segs.length) b' e'
      rw [List.drop_left]; exact t2
    · show (p.segs ++ l).length ≤ _
      rw [List.length_append]; omega
    · have := r.p1
      rcases hc with ⟨h1, h2, h3, h4, _, _, h7⟩ | ⟨h1, _, _, h4⟩ | ⟨h1, _, _, h4⟩ <;> omega
    · have hp2 := r.p2
      cases e with
      | false =>
        rw [if_neg (by simp)] at hp2
        rcases t3 rfl with h | h
        · omega
        · rw [if_pos h]; omega
      | true =>
        obtain ⟨w1, w2, w3⟩ := t4 rfl
        rw [if_pos w2]
        have := r.eD rfl
        omega
    · have hp1 := r.p1
      have hp2 := r.p2
      have hb := r.bD
      cases e with
      | false => rw [if_neg (by simp)] at hp2; omega
      | true =>
        rw [Bool.true_and, decide_eq_false_iff_not] at hg
        rcases hc with ⟨h1, h2, h3, h4, _, _, h7⟩ | ⟨h1, _, _, h4⟩ | ⟨h1, _, _, h4⟩ <;> omega
theorem begin_e (w f seq : Int) (hw : 0 ≤ w ∧ w ≤ 65535) (hf : 0 ≤ f ∧ f < 4294967296) : ∃ (x : TSeg) (n : Int), law28_begin.f ⟨9, 80, seq, 0, 2, w, 0, []⟩ f = some (some ⟨c01 w f seq [], 0, [], [], [x], false, n⟩, true) ∧ x.Data = [] ∧ bits .and .i64 x.Flags 1 = 0 ∧ Kc (c01 w f seq []) := by
  unfold law28_begin.f
  rw [open_e w f seq hw, Option.bind_some]
  obtain ⟨x, h1, h2, h3⟩ := hear1 w f seq (kc00 w f seq hw hf)
  obtain ⟨c4, sg4, cl4, n4, g4, v1, v2, _⟩ := hear_k _ (kc00 w f seq hw hf) 0 nw0 (⟨1, 1, [], 0⟩ : TTell) (by simp)
  rw [h1] at v1
  have vc : c4 = _ := (congrArg (fun z => z.1) (Option.some.inj v1)).symm
  dsimp only at vc
  rw [vc] at v2
  obtain ⟨n, hn⟩ := do_1 (⟨c00 w f seq, 0, [], [], [], false, 0⟩ : Tplay) (⟨1, 1, [], 0⟩ : TTell) rfl (show ¬ (1 : Int) = 3 by decide) h1 (by simp) (by simp) (fun y hy => by cases hy) (by simp)
  simp only [Bool.not_true, Bool.false_eq_true, if_false]
  rw [hn]
  exact ⟨x, n, rfl, h2, h3, v2⟩
theorem spliceWhole (U : List Int) (gU : U.length ≤ maxLen ∧ ∀ z ∈ U, InR .u8 z) (D : List Int) (gD : D.length ≤ maxLen ∧ ∀ z ∈ D, InR .u8 z) (q : Int) (hq : InR .i64 q) (w : Int) (hw : InR .i64 w) (f : Int) (hf : InR .u32 f) (seq : Int) (hseq : InR .u32 seq) : law28_SpliceWhole.f U D q w f seq = some true := by
  unfold law28_SpliceWhole.f
  obtain ⟨j, hj, hj2⟩ : ∃ j, (if decide (3000 < (U.length : Int)) = true then some (true) else (if decide (3000 < (D.length : Int)) = true then some (true) else (if decide (q < 1) = true then some (true) else (if decide (1500 < q) = true then some (true) else (if decide (w < 1) = true then some (true) else some (decide (65535 < w))))))) = some j ∧ (j = false → U.length ≤ 3000 ∧ D.length ≤ 3000 ∧ 1 ≤ q ∧ q ≤ 1500 ∧ 1 ≤ w ∧ w ≤ 65535) := by
    by_cases c1 : 3000 < (U.length : Int)
    · exact ⟨true, by simp only [c1, decide_true, if_true], fun h => by cases h⟩
    by_cases c2 : 3000 < (D.length : Int)
    · exact ⟨true, by simp only [c1, c2, decide_true, decide_false, Bool.false_eq_true, if_false, if_true], fun h => by cases h⟩
    by_cases c3 : q < 1
    · exact ⟨true, by simp only [c1, c2, c3, decide_true, decide_false, Bool.false_eq_true, if_false, if_true], fun h => by cases h⟩
    by_cases c4 : 1500 < q
    · exact ⟨true, by simp only [c1, c2, c3, c4, decide_true, decide_false, Bool.false_eq_true, if_false, if_true], fun h => by cases h⟩
    by_cases c5 : w < 1
    · exact ⟨true, by simp only [c1, c2, c3, c4, c5, decide_true, decide_false, Bool.false_eq_true, if_false, if_true], fun h => by cases h⟩
    exact ⟨decide (65535 < w), by simp only [c1, c2, c3, c4, c5, decide_false, Bool.false_eq_true, if_false], fun h => ⟨by omega, by omega, by omega, by omega, by omega, by have := of_decide_eq_false h; omega⟩⟩
  rw [hj, Option.bind_some]
  cases j with
  | true => simp [heads]
  | false =>
  obtain ⟨b1, b2, b3, b4, b5, b6⟩ := hj2 rfl
  have hf' := inrU32 hf
  obtain ⟨x, n0, hb, hx1, hx2, kc1⟩ := begin_e w f seq ⟨by omega, b6⟩ hf'
  rw [if_neg (by simp), hb, Option.bind_some]
  simp only [Bool.not_true, Bool.false_eq_true, if_false, Option.bind_some]
  have h3 := hear3 w f seq D b2 kc1
  obtain ⟨c4, sg4, cl4, n4, g4, v1, v2, _⟩ := hear_k _ kc1 0 nw0 (⟨3, 1, D, 0⟩ : TTell) (by show D.length ≤ _; omega)
  rw [h3] at v1
  have vc : c4 = _ := (congrArg (fun z => z.1) (Option.some.inj v1)).symm
  dsimp only at vc
  rw [vc] at v2
  have h4 := hear4 w f seq D v2
  obtain ⟨c5, sg5, cl5, n5, g5, w1, w2, _⟩ := hear_k _ v2 0 nw0 (⟨4, 1, [], 0⟩ : TTell) (by simp)
  rw [h4] at w1
  have wc : c5 = _ := (congrArg (fun z => z.1) (Option.some.inj w1)).symm
  dsimp only at wc
  rw [wc] at w2
  obtain ⟨n1, gv, hd3⟩ := do_3 (⟨c01 w f seq [], 0, [], [], [x], false, n0⟩ : Tplay) (⟨3, 1, D, 0⟩ : TTell) rfl rfl h3 (by show 0 + D.length ≤ _; omega) (by simp) (by simp) (fun y hy => by cases hy) (by simp)
  rw [hd3, Option.bind_some]
  obtain ⟨n2, hd4⟩ := do_1 (⟨c01 w f seq D, 0, [] ++ wr [], gv, [x] ++ [], false, n1⟩ : Tplay) (⟨4, 1, [], 0⟩ : TTell) rfl (show ¬ (4 : Int) = 3 by decide) h4 (by simp) (by simp) (fun y hy => by cases hy) (by simp [wr])
  rw [hd4, Option.bind_some]
  simp only [show wr [] = [] from rfl, List.append_nil]
  have hBU : Byt U := Byt.of gU.2
  refine loop_exit (fun o => o = some true)
    (fun (i : Nat) (s : List Int × Bool × Int × Int × Int × Tplay) => (s.2.2.2.2.2.gone = true ∧ s.2.2.2.2.2.given = U ∧ s.1 = D ∧ s.2.1 = true) ∨ (∃ (k sn : Nat) (up done : Bool) (una nx : Int) (tg : List Int) (at' wt tr : Int) (a b : Nat) (e : Bool), s.2.2.1 = (k : Int) ∧ s.2.2.2.1 = (sn : Int) ∧ s.2.2.2.2.1 = (i : Int) ∧ Rd U D w f seq i s.1 s.2.1 k sn s.2.2.2.2.2 up done una nx tg at' wt tr a b e))
    (fun r => r.2.2.gone = true ∧ r.2.2.given = U ∧ r.1 = D ∧ r.2.1 = true) 3002 ?_ ?_ ?_ ?_
  · right
    refine ⟨0, 0, false, false, f, IntKind.u32.wrap (f + 1), D, 2, 2, 0, 0, 0, false, rfl, rfl, rfl, ⟨?_, w2, ⟨?_, .inl ⟨rfl, rfl, rfl, rfl, rfl, rfl⟩⟩, Nat.zero_le _, fun h => (by cases h), rfl, rfl, rfl, Nat.zero_le _, by simp, .ack hx1 hx2 (.nil _ _), Nat.zero_le _, rfl, by simp, by simp, by simp, by omega⟩⟩
    · have d0 : decide (0 = U.length + 1) = false := decide_eq_false (by omega)
      show _ = cc w f false false f (IntKind.u32.wrap (f + 1)) (IntKind.u32.wrap (seq + 1 + ((0 : Nat) : Int))) [] D [] (decide (0 = U.length + 1)) (decide (0 = U.length + 1)) 2 2 0
      rw [d0, show seq + 1 + ((0 : Nat) : Int) = seq + 1 by omega]
    · show IntKind.u32.wrap (f + 1) = IntKind.u32.wrap (f + 1 + ((0 : Nat) : Int) + 0)
      congr 1; omega
  · rintro i ⟨got, fin, seen, sent, rnd, p⟩ hi (⟨g1, g2, g3, g4⟩ | ⟨k, sn, up, done, una, nx, tg, at', wt, tr, a, b, e, s1, s2, s3, r⟩)
    · right
      dsimp only at g1 g2 g3 g4
      refine ⟨(got, fin, p), ?_, g1, g2, g3, g4⟩
      simp only [g1, Bool.not_true, ite_self, Option.bind_some]
      rw [if_neg (by simp)]
    · left
      dsimp only at s1 s2 s3 r
      subst s1 s2 s3
      have hi3 := r.i3
      have hsg := r.sg
      have hsn := r.snU
      have hnx := r.ak.1
      have c1 : ((i : Int) < 8000) := by omega
      have hseen := seen_e D f b2 p (by omega) r.pe k r.aD rfl r.kl
      rw [← r.got] at hseen
      simp only [c1, r.gone, decide_true, if_true, Bool.not_false, Option.bind_some]
      rw [hseen, Option.bind_some]
      have e1 : IntKind.u32.wrap ((IntKind.u32.wrap (seq + 1)) + (IntKind.u32.wrap (sn : Int))) = IntKind.u32.wrap (seq + 1 + sn) := by rw [u32w', u32w', u32w', u32w']; omega
      have hbD := r.bD
      have hlb : ((D.take b).length : Int) = (b : Int) := by rw [List.length_take]; omega
      have e2 : IntKind.u32.wrap ((IntKind.u32.wrap (f + 1)) + (IntKind.u32.wrap (b : Int))) = IntKind.u32.wrap (f + 1 + b) := by rw [u32w', u32w', u32w', u32w']; omega
      have e3 : IntKind.u32.wrap (IntKind.u32.wrap (f + 1 + b) + 1) = IntKind.u32.wrap (f + 1 + b + 1) := by rw [u32w', u32w', u32w']; omega
      simp only [hlb, e1, e2, e3, lt]
      have e7 : (if e = true then some (⟨9, 80, IntKind.u32.wrap (seq + 1 + sn), IntKind.u32.wrap (f + 1 + b + 1), 16, w, 0, []⟩ : TSeg) else some (⟨9, 80, IntKind.u32.wrap (seq + 1 + sn), IntKind.u32.wrap (f + 1 + b), 16, w, 0, []⟩ : TSeg)) = some ⟨9, 80, IntKind.u32.wrap (seq + 1 + sn), nx, 16, w, 0, []⟩ := by
        rw [hnx]
        cases e with
        | true => rfl
        | false => rw [if_neg (by simp), show bi false = 0 from rfl, Int.add_zero]
      rw [e7, Option.bind_some]
      obtain ⟨sn', fl, d, s1', hj9, hfl, hc⟩ : ∃ (sn' : Nat) (fl : Int) (d : List Int) (s1' : Int), (if decide ((sn : Int) ≤ (U.length : Int)) = true then (cut U (sn : Int) (IntKind.i64.wrap ((sn : Int) + (min q (IntKind.i64.wrap ((U.length : Int) - (sn : Int))))))).bind fun x4 => ((if decide ((min q (IntKind.i64.wrap ((U.length : Int) - (sn : Int)))) = 0) = true then some (⟨9, 80, IntKind.u32.wrap (seq + 1 + sn), nx, bits .or .i64 16 1, w, 0, x4⟩ : TSeg) else some (⟨9, 80, IntKind.u32.wrap (seq + 1 + sn), nx, 16, w, 0, x4⟩ : TSeg))).bind (fun j8 => some (IntKind.i64.wrap ((sn : Int) + (min q (IntKind.i64.wrap ((U.length : Int) - (sn : Int))))), j8)) else some ((sn : Int), (⟨9, 80, IntKind.u32.wrap (seq + 1 + sn), nx, 16, w, 0, []⟩ : TSeg))) = some (s1', ⟨9, 80, IntKind.u32.wrap (seq + 1 + sn), nx, fl, w, 0, d⟩) ∧ (if (!decide (bits .and .i64 fl 1 = 0)) = true then some (IntKind.i64.wrap ((U.length : Int) + 1)) else some s1') = some (sn' : Int) ∧ ∃ n : Nat, (sn < U.length ∧ 0 < n ∧ n ≤ 1500 ∧ sn + n ≤ U.length ∧ d = (U.drop sn).take n ∧ fl = 16 ∧ sn' = sn + n) ∨ (sn = U.length ∧ d = [] ∧ fl = 17 ∧ sn' = U.length + 1) ∨ (sn = U.length + 1 ∧ d = [] ∧ fl = 16 ∧ sn' = U.length + 1) := by
        have f17 : (if (!decide (bits .and .i64 17 1 = 0)) = true then some (IntKind.i64.wrap ((U.length : Int) + 1)) else some (IntKind.i64.wrap ((sn : Int) + 0))) = some (((U.length + 1 : Nat)) : Int) := by
          rw [if_pos (by decide), i64w (by omega) (by omega)]; rfl
        have f16 : ∀ z : Int, (if (!decide (bits .and .i64 16 1 = 0)) = true then some (IntKind.i64.wrap ((U.length : Int) + 1)) else some z) = some z := fun z => if_neg (by decide)
        have hwl : IntKind.i64.wrap ((U.length : Int) - (sn : Int)) = (U.length : Int) - sn := i64w (by omega) (by omega)
        rw [hwl]
        by_cases a1 : sn < U.length
        · obtain ⟨n, hn⟩ : ∃ n : Nat, min q ((U.length : Int) - sn) = (n : Int) := ⟨(min q ((U.length : Int) - sn)).toNat, by omega⟩
          have d1 : ((sn : Int) ≤ (U.length : Int)) := by omega
          have d2 : ¬ ((n : Int) = 0) := by omega
          have d3 : IntKind.i64.wrap ((sn : Int) + (n : Int)) = (sn : Int) + n := i64w (by omega) (by omega)
          obtain ⟨z, hz, _⟩ := cut_some U (sn : Int) ((sn : Int) + n) (by omega) (by omega) (by omega)
          have hze : z = (U.drop sn).take n := by
            rw [cut_eq hz]
            congr 1; omega
          refine ⟨sn + n, 16, z, (sn : Int) + n, ?_, ?_, n, .inl ⟨a1, by omega, by omega, by omega, hze, rfl, rfl⟩⟩
          · rw [hn, d3]
            simp only [d1, d2, decide_true, decide_false, Bool.false_eq_true, if_false, if_true, hz, Option.bind_some]
          · rw [f16]; rfl
        · by_cases a2 : sn = U.length
          · have hn : min q ((U.length : Int) - sn) = 0 := by omega
            have d1 : ((sn : Int) ≤ (U.length : Int)) := by omega
            have d3 : IntKind.i64.wrap ((sn : Int) + 0) = (sn : Int) := by rw [Int.add_zero]; exact i64w (by omega) (by omega)
            have hz : cut U (sn : Int) (sn : Int) = some [] := by
              have := cut_drop U (U.length : Int) (by omega) (by omega)
              rw [a2, this]; simp
            refine ⟨U.length + 1, 17, [], IntKind.i64.wrap ((sn : Int) + 0), ?_, f17, 0, .inr (.inl ⟨a2, rfl, rfl, rfl⟩)⟩
            rw [hn]
            simp only [d1, d3, decide_true, if_true, hz, Option.bind_some]
            rfl
          · have d1 : ¬ ((sn : Int) ≤ (U.length : Int)) := by omega
            refine ⟨sn, 16, [], (sn : Int), ?_, f16 _, 0, .inr (.inr ⟨by omega, rfl, rfl, by omega⟩)⟩
            simp only [d1, decide_false, Bool.false_eq_true, if_false]
      rw [hj9, Option.bind_some]
      obtain ⟨nn, hc⟩ := hc
      obtain ⟨p5, h5, hp⟩ := round_e b1 hBU b2 ⟨b5, b6⟩ hf' r nn sn' fl d hc
      dsimp only
      rw [h5, Option.bind_some, hfl, Option.bind_some]
      have ew : IntKind.i64.wrap ((i : Int) + 1) = ((i + 1 : Nat) : Int) := by rw [i64w (by omega) (by omega)]; rfl
      rcases hp with ⟨e4, g1, g2⟩ | ⟨p6, p7, h6, h7, tg2, at2, wt2, tr2, bb, ee, nx2, r2⟩
      · rw [gone_e p5 _ g1, Option.bind_some, gone_e p5 _ g1, Option.bind_some]
        refine ⟨_, rfl, .inl ⟨g1, g2, ?_, e4⟩⟩
        show D.take b = D
        rw [r.eD e4]; simp
      · rw [h6, Option.bind_some, h7, Option.bind_some]
        refine ⟨_, rfl, .inr ⟨_, _, _, _, _, _, _, _, _, _, _, _, _, rfl, rfl, ew, r2⟩⟩
  · rintro ⟨got, fin, seen, sent, rnd, p⟩ (⟨g1, g2, g3, g4⟩ | ⟨k, sn, up, done, una, nx, tg, at', wt, tr, a, b, e, s1, s2, s3, r⟩)
    · dsimp only at g1 g2 g3 g4
      refine ⟨(got, fin, p), ?_, g1, g2, g3, g4⟩
      simp only [g1, Bool.not_true, ite_self, Option.bind_some]
      rw [if_neg (by simp)]
    · exact absurd r.i3 (by decide)
  · rintro ⟨got, fin, p⟩ ⟨g1, g2, g3, g4⟩
    dsimp only at g1 g2 g3 g4
    simp only [g1, g2, g3, g4, if_true, same_e, Option.bind_some, heads]
end Go.Proofs.Ytpcbhkigmnpimaa.S
