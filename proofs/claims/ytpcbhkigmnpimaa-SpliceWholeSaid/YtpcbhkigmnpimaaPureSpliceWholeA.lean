/- What a connection makes, nothing being lost: each step as it is; each lemma states its own conditions. -/
import Derived.Test.YtpcbhkigmnpimaaPureSpliceHear
namespace Go.Proofs.Ytpcbhkigmnpimaa.S
open Go Go.SL
set_option linter.unusedVariables false
set_option linter.unusedSimpArgs false
def bi (e : Bool) : Int := if e = true then 1 else 0
/-- What the guest makes of what was said to it. -/
inductive Pend (D : List Int) (f : Int) : Nat → Bool → List TSeg → Nat → Bool → Prop where
  | nil (a : Nat) (e : Bool) : Pend D f a e [] a e
  | ack {a b : Nat} {e e' : Bool} {x : TSeg} {l : List TSeg} (h1 : x.Data = []) (h2 : bits .and .i64 x.Flags 1 = 0) (t : Pend D f a e l b e') : Pend D f a e (x :: l) b e'
  | dat {a b : Nat} {e e' : Bool} {x : TSeg} {l : List TSeg} (n : Nat) (h0 : 0 < n) (hn : a + n ≤ D.length) (h1 : x.Data = (D.drop a).take n) (h2 : bits .and .i64 x.Flags 1 = 0) (h3 : x.Seq = IntKind.u32.wrap (f + 1 + a)) (t : Pend D f (a + n) e l b e') : Pend D f a e (x :: l) b e'
  | fin {a b : Nat} {e e' : Bool} {x : TSeg} {l : List TSeg} (ha : a = D.length) (h1 : x.Data = []) (h2 : ¬ bits .and .i64 x.Flags 1 = 0) (h3 : x.Seq = IntKind.u32.wrap (f + 1 + a)) (t : Pend D f a true l b e') : Pend D f a e (x :: l) b e'
theorem Pend.app {D : List Int} {f : Int} {a b c : Nat} {e e' e'' : Bool} {l l2 : List TSeg} (h : Pend D f a e l b e') (k : Pend D f b e' l2 c e'') : Pend D f a e (l ++ l2) c e'' := by
  induction h with
  | nil => exact k
  | ack h1 h2 _ ih => exact .ack h1 h2 (ih k)
  | dat n h0 hn h1 h2 h3 _ ih => exact .dat n h0 hn h1 h2 h3 (ih k)
  | fin ha h1 h2 h3 _ ih => exact .fin ha h1 h2 h3 (ih k)
theorem cons_drop {α : Type} {l t : List α} {x : α} {k : Nat} (h : l.drop k = x :: t) : ∃ hk : k < l.length, l[k] = x ∧ l.drop (k + 1) = t := by
  have hk : k < l.length := by
    apply Decidable.byContradiction
    intro hh
    rw [List.drop_eq_nil_of_le (by omega)] at h
    cases h
  rw [List.drop_eq_getElem_cons hk] at h
  injection h with h1 h2
  exact ⟨hk, h1, h2⟩
theorem seen_e (D : List Int) (f : Int) (hD : D.length ≤ 3000) (p : Tplay) (hs : p.segs.length ≤ 10000000) {a b : Nat} {e e' : Bool} {l : List TSeg} (h : Pend D f a e l b e') : ∀ k : Nat, a ≤ D.length → p.segs.drop k = l → k ≤ p.segs.length → loop (fun s2 => (if decide (s2.2.2.1 < (s2.2.2.2.segs.length : Int)) = true then (idx s2.2.2.2.segs s2.2.2.1).bind fun x1 => lt (IntKind.u32.wrap ((IntKind.u32.wrap (x1.Seq - f)) - 1)) fun y2 => (((if decide (0 < (x1.Data.length : Int)) = true then (if decide (0 ≤ y2) = true then (if decide (y2 ≤ (s2.1.length : Int)) = true then some ((decide ((s2.1.length : Int) < (IntKind.i64.wrap (y2 + (x1.Data.length : Int)))), s2.2.2.2)) else some ((false, s2.2.2.2))) else some ((false, s2.2.2.2))) else some ((false, s2.2.2.2)))).bind (fun j3 => (if j3.1 = true then (cut x1.Data (IntKind.i64.wrap ((s2.1.length : Int) - y2)) (x1.Data.length : Int)).bind fun x2 => (app s2.1 x2).bind fun x3 => some ((x3, j3.2)) else some ((s2.1, j3.2))))).bind (fun j4 => ((if s2.2.1 = true then some (true) else (if (!decide ((bits .and .i64 x1.Flags 1) = 0)) = true then lt (decide (y2 = (j4.1.length : Int))) fun y3 => some (y3) else some (false)))).bind (fun j5 => lt (IntKind.i64.wrap (s2.2.2.1 + 1)) fun y4 => some (.inl (j4.1, j5, y4, j4.2)))) else some (.inr ((s2.1, s2.2.1, s2.2.2.1, s2.2.2.2))))) (D.take a, e, (k : Int), p) = some (D.take b, e', (p.segs.length : Int), p) := by
  induction h with
  | nil a e =>
    intro k ha hd hk
    have hk2 : k = p.segs.length := by
      have := congrArg List.length hd
      rw [List.length_drop] at this
      simp at this; omega
    subst hk2
    refine loop_out ?_
    have c : ¬ (((p.segs.length : Nat) : Int) < (p.segs.length : Int)) := by omega
    simp only [c, decide_false, Bool.false_eq_true, if_false]
  | @ack a b e e' x l h1 h2 t ih =>
    intro k ha hd hk
    obtain ⟨hkl, hx, hd2⟩ := cons_drop hd
    refine (loop_in ?_).trans (ih (k + 1) ha hd2 hkl)
    have c : ((k : Int) < (p.segs.length : Int)) := by omega
    have c2 : ¬ ((0 : Int) < (([] : List Int).length : Int)) := by simp
    simp only [c, decide_true, if_true, ix _ k hkl, hx, Option.bind_some, lt, h1, c2, decide_false, Bool.false_eq_true, if_false, h2, Bool.not_true]
    rw [stepw hkl (by omega)]
    cases e <;> rfl
  | @dat a b e e' x l n h0 hn h1 h2 h3 t ih =>
    intro k ha hd hk
    obtain ⟨hkl, hx, hd2⟩ := cons_drop hd
    refine (loop_in ?_).trans (ih (k + 1) hn hd2 hkl)
    have c : ((k : Int) < (p.segs.length : Int)) := by omega
    have hl : x.Data.length = n := by rw [h1, List.length_take, List.length_drop]; omega
    have hg : (D.take a).length = a := by rw [List.length_take]; omega
    have hy : IntKind.u32.wrap ((IntKind.u32.wrap (x.Seq - f)) - 1) = (a : Int) := by rw [h3, u32w', u32w', u32w']; omega
    have c2 : ((0 : Int) < (x.Data.length : Int)) := by omega
    have c3 : ((0 : Int) ≤ (a : Int)) := by omega
    have c4 : ((a : Int) ≤ ((D.take a).length : Int)) := by omega
    have e1 : IntKind.i64.wrap ((a : Int) + (x.Data.length : Int)) = (a : Int) + (x.Data.length : Int) := i64w (by omega) (by omega)
    have c5 : (((D.take a).length : Int) < (a : Int) + (x.Data.length : Int)) := by omega
    have e2 : IntKind.i64.wrap (((D.take a).length : Int) - (a : Int)) = 0 := by rw [i64w (by omega) (by omega)]; omega
    have e3 : cut x.Data 0 (x.Data.length : Int) = some x.Data := by rw [cut_take' _ _ (by omega) (by omega)]; simp
    have e4 : D.take a ++ x.Data = D.take (a + n) := by rw [h1, List.take_add]
    simp only [c, decide_true, if_true, ix _ k hkl, hx, Option.bind_some, lt, hy, c2, c3, c4, e1, c5, e2, e3]
    rw [app_k _ _ (by omega), Option.bind_some, Option.bind_some, e4, h2]
    simp only [decide_true, Bool.not_true, Bool.false_eq_true, if_false, Option.bind_some]
    rw [stepw hkl (by omega)]
    cases e <;> rfl
  | @fin a b e e' x l hA h1 h2 h3 t ih =>
    intro k ha hd hk
    obtain ⟨hkl, hx, hd2⟩ := cons_drop hd
    refine (loop_in ?_).trans (ih (k + 1) ha hd2 hkl)
    have c : ((k : Int) < (p.segs.length : Int)) := by omega
    have hg : ((D.take a).length : Int) = (a : Int) := by rw [List.length_take]; omega
    have hy : IntKind.u32.wrap ((IntKind.u32.wrap (x.Seq - f)) - 1) = (a : Int) := by rw [h3, u32w', u32w', u32w']; omega
    have c2 : ¬ ((0 : Int) < (([] : List Int).length : Int)) := by simp
    simp only [c, decide_true, if_true, ix _ k hkl, hx, Option.bind_some, lt, h1, hy, c2, decide_false, Bool.false_eq_true, if_false, h2, Bool.not_false, hg]
    rw [stepw hkl (by omega)]
    cases e <;> rfl
/-- A connection, opened, its host at the end. -/
abbrev cc (w f : Int) (up done : Bool) (una nx want : Int) (th tg : List Int) (ea : List TEarly) (fin shut : Bool) (at' wt tr : Int) : TConn := ⟨1, 1, 9, 2, 80, false, up, done, f, una, nx, want, w, 536, th, tg, ea, fin, true, shut, at', wt, tr⟩
theorem drain_e (w f : Int) (up done : Bool) (una nx q : Int) (tg b : List Int) (fin shut : Bool) (at' wt tr now : Int) (sg : List TSeg) (cl : List TCall) (g : Bool) (hb : b.length ≤ 4000) (hb0 : 0 < b.length) (hq : 0 ≤ q ∧ q < 4294967296) : splice_step_drain.f ⟨cc w f up done una nx q [] tg [⟨q, b⟩] fin shut at' wt tr, now, sg, cl, g⟩ = some ⟨cc w f up done una nx (IntKind.u32.wrap (q + b.length)) b tg [] fin shut at' wt tr, now, sg, cl, g⟩ := by
  have hi : ∀ j : Nat, j ≤ b.length → ∃ r, slices_IndexFunc_s_api_Early_api_Early_at_splice_step_has.f [⟨q, b⟩] ⟨cc w f up done una nx (IntKind.u32.wrap (q + j)) [] tg [⟨q, b⟩] fin shut at' wt tr, now, sg, cl, g⟩ = some r ∧ ((r = 0 ∧ j < b.length) ∨ (r = -1 ∧ j = b.length)) := fun j hj => by
    obtain ⟨r, h1, h2⟩ := index_k [⟨q, b⟩] ⟨cc w f up done una nx (IntKind.u32.wrap (q + j)) [] tg [⟨q, b⟩] fin shut at' wt tr, now, sg, cl, g⟩ (by simp)
    have hh : hasE ⟨cc w f up done una nx (IntKind.u32.wrap (q + j)) [] tg [⟨q, b⟩] fin shut at' wt tr, now, sg, cl, g⟩ ⟨q, b⟩ = decide (j < b.length) := by
      unfold hasE
      have : (IntKind.u32.wrap (IntKind.u32.wrap (q + j) - q) < IntKind.u32.wrap (b.length : Int)) ↔ j < b.length := by rw [u32w', u32w', u32w']; omega
      exact decide_eq_decide.2 this
    refine ⟨r, h1, ?_⟩
    rcases h2 with ⟨e1, e2⟩ | ⟨k, e1, e2, e3⟩
    · right
      have := e2 ⟨q, b⟩ (by simp)
      rw [hh] at this
      have := of_decide_eq_false this
      exact ⟨e1, by omega⟩
    · left
      have hk : k = 0 := by simp at e2; omega
      subst hk
      have e4 : hasE ⟨cc w f up done una nx (IntKind.u32.wrap (q + j)) [] tg [⟨q, b⟩] fin shut at' wt tr, now, sg, cl, g⟩ ⟨q, b⟩ = true := e3
      rw [hh] at e4
      exact ⟨by omega, of_decide_eq_true e4⟩
  unfold splice_step_drain.f
  have hq0 : IntKind.u32.wrap (q + (0 : Nat)) = q := by rw [u32w']; omega
  obtain ⟨r0, hr0, hr1⟩ := hi 0 (by omega)
  rw [hq0] at hr0
  rw [cloneB _ (by simp), Option.bind_some, hr0, Option.bind_some]
  refine loop_exit (fun (o : Option Tstep) => o = some ⟨cc w f up done una nx (IntKind.u32.wrap (q + b.length)) b tg [] fin shut at' wt tr, now, sg, cl, g⟩)
    (fun (j : Nat) (z : List Int × Int × Tstep) => z.1 = b.take j ∧ z.2.2 = ⟨cc w f up done una nx (IntKind.u32.wrap (q + j)) [] tg [⟨q, b⟩] fin shut at' wt tr, now, sg, cl, g⟩ ∧ ((z.2.1 = 0 ∧ j < b.length) ∨ (z.2.1 = -1 ∧ j = b.length)))
    (fun z => z = (b, (⟨cc w f up done una nx (IntKind.u32.wrap (q + b.length)) [] tg [⟨q, b⟩] fin shut at' wt tr, now, sg, cl, g⟩ : Tstep))) b.length ?_ ?_ ?_ ?_
  · exact ⟨rfl, by rw [hq0], hr1⟩
  · rintro j ⟨out, r, z⟩ hj ⟨h1, h2, h3⟩
    dsimp only at h1 h2 h3
    subst h1 h2
    left
    obtain ⟨rfl, _⟩ : r = 0 ∧ j < b.length := h3.elim id fun h3 => absurd h3.2 (by omega)
    obtain ⟨r3, e1, e2⟩ := hi (j + 1) (by omega)
    have c : ((0 : Int) ≤ 0) := by decide
    have hw : IntKind.u32.wrap (IntKind.u32.wrap (q + (j : Int)) - q) = (j : Int) := by rw [u32w', u32w']; omega
    have hw2 : IntKind.u32.wrap (IntKind.u32.wrap (q + (j : Int)) + 1) = IntKind.u32.wrap (q + ((j + 1 : Nat) : Int)) := by rw [u32w', u32w', u32w']; omega
    have e3 : idx ([⟨q, b⟩] : List TEarly) 0 = some ⟨q, b⟩ := rfl
    simp only [c, decide_true, if_true, e3, Option.bind_some, hw, ix b j hj, lt, hw2]
    rw [app_k _ _ (by simp; omega), Option.bind_some, e1, Option.bind_some]
    exact ⟨_, rfl, by show b.take j ++ [b[j]] = _; rw [List.take_succ_eq_append_getElem hj], rfl, e2⟩
  · rintro ⟨out, r, z⟩ ⟨h1, h2, h3⟩
    dsimp only at h1 h2 h3
    subst h1 h2
    obtain ⟨rfl, _⟩ : r = -1 ∧ b.length = b.length := h3.elim (fun h3 => absurd h3.2 (by omega)) id
    have c : ¬ ((0 : Int) ≤ -1) := by decide
    simp only [c, decide_false, Bool.false_eq_true, if_false]
    exact ⟨_, rfl, by rw [List.take_length]⟩
  · rintro z rfl
    have hcl : slices_Clone_s_api_Early_api_Early.f [⟨q, b⟩] = some [⟨q, b⟩] := by
      unfold slices_Clone_s_api_Early_api_Early.f
      rw [app_k _ _ (by simp)]; rfl
    simp only [lt]
    rw [hcl, Option.bind_some, deleteFunc_is _ _ (by simp), Option.bind_some]
    have hk : keep ⟨cc w f up done una nx (IntKind.u32.wrap (q + b.length)) b tg [⟨q, b⟩] fin shut at' wt tr, now, sg, cl, g⟩ ⟨q, b⟩ = false := by
      unfold keep
      have : IntKind.u32.wrap (IntKind.u32.wrap (q + IntKind.u32.wrap (b.length : Int)) - IntKind.u32.wrap (q + b.length)) = 0 := by rw [u32w', u32w', u32w', u32w']; omega
      dsimp only
      rw [this]; decide
    rw [List.filter_cons, hk]
    rfl
theorem data_e (w f : Int) (up done : Bool) (una nx q : Int) (tg : List Int) (shut : Bool) (at' wt tr now : Int) (sg : List TSeg) (cl : List TCall) (g : Bool) (x : TSeg) (hb : x.Data.length ≤ 4000) (hq : 0 ≤ q ∧ q < 4294967296) (hx : x.Seq = q) : splice_step_data.f ⟨cc w f up done una nx q [] tg [] false shut at' wt tr, now, sg, cl, g⟩ x = some ⟨cc w f up done una nx (IntKind.u32.wrap (q + x.Data.length)) x.Data tg [] false shut at' wt tr, now, sg, cl, g⟩ := by
  unfold splice_step_data.f
  have e1 : IntKind.u32.wrap (q - q) = 0 := by rw [u32w']; omega
  have e2 : ¬ (0 < IntKind.i32.wrap 0) := by decide
  have e3 : max 0 (min (x.Data.length : Int) (IntKind.i64.wrap (max 0 (IntKind.i64.wrap (4096 - (([] : List Int).length : Int))) - 0))) = (x.Data.length : Int) := by
    rw [show IntKind.i64.wrap (4096 - (([] : List Int).length : Int)) = 4096 by decide, show IntKind.i64.wrap (max 0 4096 - 0) = 4096 by decide]; omega
  have e4 : cut x.Data 0 (x.Data.length : Int) = some x.Data := by rw [cut_take' _ _ (by omega) (by omega)]; simp
  simp only [lt, hx, e1, e2, decide_false, Bool.false_eq_true, if_false, Option.bind_some, room_is, e3, e4]
  by_cases c : (x.Data.length : Int) = 0
  · have : x.Data = [] := List.length_eq_zero_iff.1 (by omega)
    simp only [this, List.length_nil, decide_true, if_true, Option.bind_some]
    have : IntKind.u32.wrap (q + ((0 : Nat) : Int)) = q := by rw [u32w']; omega
    rw [this]; rfl
  · have hcl : slices_Clone_s_api_Early_api_Early.f [] = some [] := by
      unfold slices_Clone_s_api_Early_api_Early.f
      rw [app_k _ _ (by simp)]; rfl
    have c0 : ¬ ((0 : Int) < 0) := by decide
    simp only [c, c0, decide_false, Bool.false_eq_true, if_false, Option.bind_some, hcl]
    rw [cloneB _ (by omega), Option.bind_some, app_k _ _ (by simp), Option.bind_some]
    rw [List.nil_append, drain_e w f up done una nx q tg x.Data false shut at' wt tr now sg cl g hb (by omega) hq]
    rfl
theorem push_e (D : List Int) (w f : Int) (hD : D.length ≤ 3000) (hw : 1 ≤ w ∧ w ≤ 65535) (a : Nat) (ha : a ≤ D.length) (want : Int) (th : List Int) (ea : List TEarly) (fin shut : Bool) (wt tr now : Int) (sg : List TSeg) (cl : List TCall) (g : Bool) (hsg : sg.length ≤ 90000) : ∃ (b : Nat) (e : Bool) (l : List TSeg), splice_step_push.f ⟨cc w f true false (IntKind.u32.wrap (f + 1 + a)) (IntKind.u32.wrap (f + 1 + a)) want th (D.drop a) ea fin shut 0 wt tr, now, sg, cl, g⟩ = some ⟨cc w f true false (IntKind.u32.wrap (f + 1 + a)) (IntKind.u32.wrap (f + 1 + b + bi e)) want th (D.drop a) ea fin shut (IntKind.i64.wrap (now + 2)) 2 tr, now, sg ++ l, cl, g⟩ ∧ Pend D f a false l b e ∧ (a < b ∨ e = true) ∧ a ≤ b ∧ b ≤ D.length ∧ (e = true → b = D.length) ∧ l.length ≤ 4 := by
  unfold splice_step_push.f
  simp only [Bool.not_true, Bool.false_eq_true, if_false, Option.bind_some]
  have key : ∀ (o : Option Tstep), (∃ (b : Nat) (e : Bool) (l : List TSeg), o = some ⟨cc w f true false (IntKind.u32.wrap (f + 1 + a)) (IntKind.u32.wrap (f + 1 + b + bi e)) want th (D.drop a) ea fin shut 0 wt tr, now, sg ++ l, cl, g⟩ ∧ Pend D f a false l b e ∧ (a < b ∨ e = true) ∧ a ≤ b ∧ b ≤ D.length ∧ (e = true → b = D.length) ∧ l.length ≤ 4) → ∃ (b : Nat) (e : Bool) (l : List TSeg), (o.bind fun j10 => ((if decide (j10.Conn.At = 0) = true then (splice_step_flown.f j10).bind fun r5 => (if decide (0 < r5) = true then some (true) else some (decide (0 < (j10.Conn.ToGuest.length : Int)))) else some (false))).bind (fun j11 => (if j11 = true then (splice_step_arm.f j10).bind fun r6 => some (r6) else some (j10)))) = some ⟨cc w f true false (IntKind.u32.wrap (f + 1 + a)) (IntKind.u32.wrap (f + 1 + b + bi e)) want th (D.drop a) ea fin shut (IntKind.i64.wrap (now + 2)) 2 tr, now, sg ++ l, cl, g⟩ ∧ Pend D f a false l b e ∧ (a < b ∨ e = true) ∧ a ≤ b ∧ b ≤ D.length ∧ (e = true → b = D.length) ∧ l.length ≤ 4 := by
    rintro o ⟨b, e, l, rfl, k1, k2, k3, k4, k5, k6⟩
    refine ⟨b, e, l, ?_, k1, k2, k3, k4, k5, k6⟩
    have hbi : 0 ≤ bi e ∧ bi e ≤ 1 := by unfold bi; split <;> omega
    have hfl : 0 < Fl (cc w f true false (IntKind.u32.wrap (f + 1 + a)) (IntKind.u32.wrap (f + 1 + b + bi e)) want th (D.drop a) ea fin shut 0 wt tr) := by
      show 0 < IntKind.u32.wrap (IntKind.u32.wrap (f + 1 + b + bi e) - IntKind.u32.wrap (f + 1 + a))
      rw [u32w', u32w', u32w']
      have : e = true → bi e = 1 := fun h => by rw [h]; rfl
      rcases k2 with k2 | k2
      · omega
      · have := this k2; omega
    rw [Option.bind_some]
    simp only [decide_true, if_true, flown_is, Option.bind_some, hfl, arm_is]
  refine key _ ?_
  refine loop_exit (fun o => ∃ (b : Nat) (e : Bool) (l : List TSeg), o = some (⟨cc w f true false (IntKind.u32.wrap (f + 1 + a)) (IntKind.u32.wrap (f + 1 + b + bi e)) want th (D.drop a) ea fin shut 0 wt tr, now, sg ++ l, cl, g⟩ : Tstep) ∧ Pend D f a false l b e ∧ (a < b ∨ e = true) ∧ a ≤ b ∧ b ≤ D.length ∧ (e = true → b = D.length) ∧ l.length ≤ 4)
    (fun (i : Nat) (s : Int × Tstep) => s.1 = (i : Int) ∧ ∃ (b : Nat) (e : Bool) (l : List TSeg), s.2 = (⟨cc w f true false (IntKind.u32.wrap (f + 1 + a)) (IntKind.u32.wrap (f + 1 + b + bi e)) want th (D.drop a) ea fin shut 0 wt tr, now, sg ++ l, cl, g⟩ : Tstep) ∧ Pend D f a false l b e ∧ (0 < i → a < b ∨ e = true) ∧ a ≤ b ∧ b ≤ D.length ∧ (e = true → b = D.length) ∧ l.length ≤ i)
    (fun r => ∃ (b : Nat) (e : Bool) (l : List TSeg), r = (⟨cc w f true false (IntKind.u32.wrap (f + 1 + a)) (IntKind.u32.wrap (f + 1 + b + bi e)) want th (D.drop a) ea fin shut 0 wt tr, now, sg ++ l, cl, g⟩ : Tstep) ∧ Pend D f a false l b e ∧ (a < b ∨ e = true) ∧ a ≤ b ∧ b ≤ D.length ∧ (e = true → b = D.length) ∧ l.length ≤ 4) 4 ?_ ?_ ?_ ?_
  · refine ⟨rfl, a, false, [], ?_, .nil _ _, fun h => absurd h (by decide), Nat.le_refl _, ha, fun h => (by cases h), Nat.le_refl _⟩
    show (⟨_, _, _, _, _⟩ : Tstep) = _
    rw [List.append_nil, show f + 1 + (a : Int) + bi false = f + 1 + (a : Int) by unfold bi; simp]
  · rintro i ⟨i', z⟩ hi ⟨q0, b, e, l, rfl, q2, q3, q4, q5, q6, q7⟩
    dsimp only at q0
    subst q0
    have hi4 : ((i : Int) < 4) := by omega
    have hbi : 0 ≤ bi e ∧ bi e ≤ 1 := by unfold bi; split <;> omega
    have hfl : Fl (cc w f true false (IntKind.u32.wrap (f + 1 + a)) (IntKind.u32.wrap (f + 1 + b + bi e)) want th (D.drop a) ea fin shut 0 wt tr) = b - a + bi e := by
      show IntKind.u32.wrap (IntKind.u32.wrap (f + 1 + b + bi e) - IntKind.u32.wrap (f + 1 + a)) = _
      rw [u32w', u32w', u32w']
      omega
    have htl : ((D.drop a).length : Int) = (D.length : Int) - a := by rw [List.length_drop]; omega
    simp only [hi4, decide_true, if_true, flown_is, Option.bind_some, lt, least3, hfl, htl]
    rw [i64w (x := (D.length : Int) - a - (b - a + bi e)) (by omega) (by omega), i64w (x := w - (b - a + bi e)) (by omega) (by omega)]
    cases e with
    | true =>
      right
      have hb := q6 rfl
      have c1 : (D.length : Int) - a - (b - a + bi true) < 0 := by show (D.length : Int) - a - (b - a + 1) < 0; omega
      simp only [c1, decide_true, if_true, Option.bind_some, Sum.elim_inl]
      exact ⟨_, rfl, b, true, l, rfl, q2, .inr rfl, q4, q5, q6, by omega⟩
    | false =>
      have hb0 : bi false = 0 := rfl
      rw [hb0] at hfl ⊢
      have c1 : ¬ ((D.length : Int) - a - (b - a + 0) < 0) := by omega
      by_cases c2 : 0 < min (min ((D.length : Int) - a - (b - a + 0)) 536) (w - (b - a + 0))
      · left
        obtain ⟨r, hr⟩ : ∃ r : Nat, min (min ((D.length : Int) - a - (b - a + 0)) 536) (w - (b - a + 0)) = (r : Int) := ⟨(min (min ((D.length : Int) - a - (b - a + 0)) 536) (w - (b - a + 0))).toNat, by omega⟩
        have hr1 : 0 < r ∧ b + r ≤ D.length := by omega
        obtain ⟨x, hx, hxl⟩ := cut_some (D.drop a) (b - a + 0) (b - a + 0 + r) (by omega) (by omega) (by rw [htl]; omega)
        have hwr : IntKind.i64.wrap ((b : Int) - a + 0 + r) = b - a + 0 + r := i64w (by omega) (by omega)
        have hxe : x = (D.drop b).take r := by
          rw [cut_eq hx, List.drop_drop]
          congr 1
          · omega
          · congr 1; omega
        have hlen : (sg ++ l).length ≤ 90004 := by rw [List.length_append]; omega
        rw [hr] at c2 ⊢
        simp only [c1, c2, decide_true, decide_false, Bool.false_eq_true, if_false, if_true, hwr, hx, Option.bind_some]
        rw [say_is _ _ _ _ (by omega) (by show (sg ++ l).length ≤ _; omega)]
        simp only [Option.bind_some, Sum.elim_inr]
        rw [stepw hi (by omega)]
        refine ⟨_, rfl, rfl, b + r, false, l ++ [⟨80, 9, IntKind.u32.wrap (f + 1 + b + bi false), want, bits .or .i64 16 8, max 0 (IntKind.i64.wrap (4096 - (th.length : Int))), 0, x⟩], ?_, ?_, fun _ => .inl (by omega), by omega, by omega, fun h => (by cases h), by rw [List.length_append, List.length_singleton]; omega⟩
        · have e1 : IntKind.u32.wrap (IntKind.u32.wrap (f + 1 + b + bi false) + IntKind.u32.wrap (r : Int)) = IntKind.u32.wrap (f + 1 + ((b + r : Nat) : Int) + bi false) := by rw [hb0, u32w', u32w', u32w', u32w']; omega
          rw [← List.append_assoc, ← e1, hb0]
        · refine q2.app (.dat r hr1.1 hr1.2 hxe (by show bits .and .i64 (bits .or .i64 16 8) 1 = 0; decide) ?_ (.nil _ _))
          show IntKind.u32.wrap (f + 1 + b + bi false) = _
          rw [hb0, Int.add_zero]
      · by_cases c3 : (D.length : Int) - a - (b - a + 0) = 0
        · left
          have hbD : b = D.length := by omega
          have hlen : (sg ++ l).length ≤ 90004 := by rw [List.length_append]; omega
          have c2' := c2
          rw [c3] at c2'
          have c0 : ¬ ((0 : Int) < 0) := by decide
          simp only [c3, c0, c2', decide_true, decide_false, Bool.false_eq_true, if_false, if_true, Option.bind_some]
          rw [say_is _ _ _ _ (by simp) (by show (sg ++ l).length ≤ _; omega)]
          simp only [Option.bind_some, Sum.elim_inr]
          rw [stepw hi (by omega)]
          refine ⟨_, rfl, rfl, b, true, l ++ [⟨80, 9, IntKind.u32.wrap (f + 1 + b + bi false), want, bits .or .i64 16 1, max 0 (IntKind.i64.wrap (4096 - (th.length : Int))), 0, []⟩], ?_, ?_, fun _ => .inr rfl, by omega, by omega, fun _ => hbD, by rw [List.length_append, List.length_singleton]; omega⟩
          · have e1 : IntKind.u32.wrap (IntKind.u32.wrap (f + 1 + b + bi false) + 1) = IntKind.u32.wrap (f + 1 + (b : Int) + bi true) := by rw [hb0, show bi true = 1 from rfl, u32w', u32w', u32w']; omega
            rw [← List.append_assoc, ← e1, hb0]
          · refine q2.app (.fin hbD rfl (by show ¬ bits .and .i64 (bits .or .i64 16 1) 1 = 0; decide) ?_ (.nil _ _))
            show IntKind.u32.wrap (f + 1 + b + bi false) = _
            rw [hb0, Int.add_zero]
        · right
          simp only [c1, c2, c3, decide_true, decide_false, Bool.false_eq_true, if_false, if_true, Option.bind_some, Sum.elim_inl]
          exact ⟨_, rfl, b, false, l, rfl, q2, .inl (by omega), q4, q5, q6, by omega⟩
  · rintro ⟨i', z⟩ ⟨q0, b, e, l, rfl, q2, q3, q4, q5, q6, q7⟩
    dsimp only at q0
    subst q0
    have hi4 : ¬ (((4 : Nat) : Int) < 4) := by decide
    simp only [hi4, decide_false, Bool.false_eq_true, if_false]
    exact ⟨_, rfl, b, e, l, rfl, q2, q3 (by decide), q4, q5, q6, q7⟩
  · rintro r ⟨b, e, l, rfl, q2, q3, q4, q5, q6, q7⟩
    exact ⟨b, e, l, rfl, q2, q3, q4, q5, q6, q7⟩
end Go.Proofs.Ytpcbhkigmnpimaa.S
