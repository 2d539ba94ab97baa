/- What a connection makes of an event, nothing being lost; each lemma states its own conditions. -/
import Derived.Test.YtpcbhkigmnpimaaPureSpliceWholeA
namespace Go.Proofs.Ytpcbhkigmnpimaa.S
open Go Go.SL
set_option linter.unusedVariables false
set_option linter.unusedSimpArgs false
theorem cut_drop (l : List Int) (i : Int) (h0 : 0 ≤ i) (h1 : i ≤ l.length) : cut l i (l.length : Int) = some (l.drop i.toNat) := by
  obtain ⟨x, hx, _⟩ := cut_some l i (l.length : Int) h0 h1 (Int.le_refl _)
  rw [hx, cut_eq hx, List.take_of_length_le (by rw [List.length_drop]; omega)]
theorem ack_is (s : Tstep) (hs : s.segs.length ≤ 100000) : splice_step_ack.f s = some ⟨s.Conn, s.now, s.segs ++ [⟨s.Conn.Rport, s.Conn.Gport, s.Conn.Next, s.Conn.Want, bits .or .i64 16 0, max 0 (IntKind.i64.wrap (4096 - (s.Conn.ToHost.length : Int))), 0, []⟩], s.calls, s.gone⟩ := by
  unfold splice_step_ack.f
  rw [say_is s _ _ _ (by simp) hs]; rfl
theorem push_2 (D : List Int) (w f : Int) (hD : D.length ≤ 3000) (hw : 1 ≤ w ∧ w ≤ 65535) (b : Nat) (e : Bool) (hb : b ≤ D.length) (he : e = true → b = D.length) (want : Int) (th : List Int) (fin shut : Bool) (wt tr now : Int) (sg : List TSeg) (cl : List TCall) (g : Bool) (hsg : sg.length ≤ 90000) : ∃ (b' : Nat) (e' : Bool) (l : List TSeg) (at' wt' : Int), splice_step_push.f ⟨cc w f true e (IntKind.u32.wrap (f + 1 + b + bi e)) (IntKind.u32.wrap (f + 1 + b + bi e)) want th (D.drop b) [] fin shut 0 wt tr, now, sg, cl, g⟩ = some ⟨cc w f true e (IntKind.u32.wrap (f + 1 + b + bi e)) (IntKind.u32.wrap (f + 1 + b' + bi e')) want th (D.drop b) [] fin shut at' wt' tr, now, sg ++ l, cl, g⟩ ∧ Pend D f b e l b' e' ∧ (e = false → b < b' ∨ e' = true) ∧ (e = true → b' = b ∧ e' = true ∧ at' = 0) ∧ b ≤ b' ∧ b' ≤ D.length ∧ (e' = true → b' = D.length) ∧ l.length ≤ 4 ∧ (at' = 0 ∨ at' = IntKind.i64.wrap (now + 2)) := by
  cases e with
  | true =>
    refine ⟨b, true, [], 0, wt, ?_, .nil _ _, fun h => (by cases h), fun _ => ⟨rfl, rfl, rfl⟩, Nat.le_refl _, hb, he, by simp, .inl rfl⟩
    unfold splice_step_push.f
    simp only [Bool.not_true, Bool.false_eq_true, if_false, if_true, Option.bind_some, List.append_nil]
  | false =>
    obtain ⟨b', e', l, h1, h2, h3, h4, h5, h6, h7⟩ := push_e D w f hD hw b hb want th [] fin shut wt tr now sg cl g hsg
    have hz : f + 1 + (b : Int) + bi false = f + 1 + b := by show f + 1 + (b : Int) + 0 = _; omega
    rw [hz]
    exact ⟨b', e', l, _, _, h1, h2, fun _ => h3, fun h => (by cases h), h4, h5, h6, h7, .inr rfl⟩
/-- What a connection is that waits for the guest. -/
def Ak (D : List Int) (f : Int) (up done : Bool) (una nx : Int) (tg : List Int) (at' : Int) (b : Nat) (e : Bool) : Prop :=
  nx = IntKind.u32.wrap (f + 1 + b + bi e) ∧ ((up = false ∧ done = false ∧ una = f ∧ b = 0 ∧ e = false ∧ tg = D) ∨ (up = true ∧ done = false ∧ ∃ a : Nat, a ≤ b ∧ una = IntKind.u32.wrap (f + 1 + a) ∧ tg = D.drop a ∧ (a < b ∨ e = true)) ∨ (up = true ∧ done = true ∧ e = true ∧ una = nx ∧ tg = [] ∧ at' = 0))
theorem acked_e (D : List Int) (w f : Int) (hD : D.length ≤ 3000) (hf : 0 ≤ f ∧ f < 4294967296) {up done : Bool} {una nx : Int} {tg : List Int} {at' : Int} {b : Nat} {e : Bool} (hb : b ≤ D.length) (he : e = true → b = D.length) (h : Ak D f up done una nx tg at' b e) (want : Int) (F : Bool) (wt tr now : Int) (x : TSeg) (hx : x.Ack = nx) (hxw : x.Win = w) : ∃ wt' tr', splice_step_acked.f ⟨cc w f up done una nx want [] tg [] F F at' wt tr, now, [], [], false⟩ x = some (true, ⟨cc w f true e nx nx want [] (D.drop b) [] F F 0 wt' tr', now, [], [], false⟩) := by
  obtain ⟨hnx, h⟩ := h
  unfold splice_step_acked.f
  have hbi : 0 ≤ bi e ∧ bi e ≤ 1 := by unfold bi; split <;> omega
  simp only [lt, flown_is, Option.bind_some, hx, hxw]
  have w0 : IntKind.u32.wrap (nx - nx) = 0 := by rw [u32w']; omega
  rcases h with ⟨rfl, rfl, rfl, rfl, rfl, rfl⟩ | ⟨rfl, rfl, a, h1, rfl, rfl, h4⟩ | ⟨rfl, rfl, rfl, rfl, rfl, rfl⟩
  · have hfl : Fl (cc w una false false una nx want [] tg [] F F at' wt tr) = 1 := by
      show IntKind.u32.wrap (nx - una) = 1
      rw [hnx, show bi false = 0 from rfl, u32w', u32w']; omega
    have hk : IntKind.u32.wrap (nx - una) = 1 := hfl
    have c1 : ¬ ((1 : Int) < 1) := by decide
    have c2 : ((0 : Int) < 1) := by decide
    have e1 : IntKind.i64.wrap ((1 : Int) - 1) = 0 := by decide
    have c3 : ¬ ((tg.length : Int) < 0) := by omega
    have e2 : min (0 : Int) (tg.length : Int) = 0 := by omega
    simp only [hk, hfl, c1, c2, c3, e1, e2, decide_true, decide_false, Bool.false_eq_true, if_false, if_true, Bool.not_false, Option.bind_some]
    rw [cut_drop tg 0 (by omega) (by omega), Option.bind_some, cloneB _ (by simp; omega), Option.bind_some]
    simp only [arm_is, Option.bind_some]
    have hfl2 : Fl (cc w una true false nx nx want [] (tg.drop (0 : Int).toNat) [] F F (IntKind.i64.wrap (now + 2)) 2 0) = 0 := w0
    rw [hfl2]
    exact ⟨2, 0, rfl⟩
  · have hfl : Fl (cc w f true false (IntKind.u32.wrap (f + 1 + a)) nx want [] (D.drop a) [] F F at' wt tr) = b - a + bi e := by
      show IntKind.u32.wrap (nx - IntKind.u32.wrap (f + 1 + a)) = _
      rw [hnx, u32w', u32w', u32w']; omega
    have hk : IntKind.u32.wrap (nx - IntKind.u32.wrap (f + 1 + a)) = b - a + bi e := hfl
    have c1 : ¬ ((b : Int) - a + bi e < b - a + bi e) := by omega
    have c2 : (0 : Int) < b - a + bi e := by
      rcases h4 with h4 | h4
      · omega
      · rw [h4]; show (0 : Int) < b - a + 1; omega
    have hl : ((D.drop a).length : Int) = (D.length : Int) - a := by rw [List.length_drop]; omega
    have c3 : decide (((D.drop a).length : Int) < b - a + bi e) = e := by
      rw [hl]
      cases e with
      | true => have := he rfl; rw [show bi true = 1 from rfl]; exact decide_eq_true (by omega)
      | false => rw [show bi false = 0 from rfl]; exact decide_eq_false (by omega)
    have e2 : min ((b : Int) - a + bi e) ((D.drop a).length : Int) = b - a := by
      rw [hl]
      cases e with
      | true => have := he rfl; rw [show bi true = 1 from rfl]; omega
      | false => rw [show bi false = 0 from rfl]; omega
    simp only [hk, hfl, c1, c2, c3, e2, decide_true, decide_false, Bool.false_eq_true, if_false, if_true, Bool.not_true, Option.bind_some]
    rw [cut_drop (D.drop a) _ (by omega) (by omega), Option.bind_some, List.drop_drop, show a + ((b : Int) - a).toNat = b by omega, cloneB _ (by rw [List.length_drop]; omega), Option.bind_some]
    simp only [arm_is, Option.bind_some]
    have hfl2 : Fl (cc w f true e nx nx want [] (D.drop b) [] F F (IntKind.i64.wrap (now + 2)) 2 0) = 0 := w0
    rw [hfl2]
    exact ⟨2, 0, rfl⟩
  · have hfl : Fl (cc w f true true una una want [] [] [] F F 0 wt tr) = 0 := w0
    have c1 : ¬ ((0 : Int) < 0) := by decide
    have e2 : min (0 : Int) (([] : List Int).length : Int) = 0 := by decide
    have e3 : cut ([] : List Int) 0 (([] : List Int).length : Int) = some [] := cut_drop [] 0 (by decide) (by decide)
    have e4 : D.drop b = [] := by rw [he rfl]; simp
    simp only [w0, hfl, c1, e2, e3, decide_false, Bool.false_eq_true, if_false, if_true, Option.bind_some]
    rw [cloneB _ (by simp), Option.bind_some, e4]
    exact ⟨wt, tr, rfl⟩
/-- What is answered to what came, the host's bytes behind it. -/
structure Tl (D : List Int) (w f : Int) (b : Nat) (e : Bool) (nx want : Int) (d : List Int) (F : Bool) (now : Int) (o : Option Tstep) : Prop where
  h : ∃ (b' : Nat) (e' : Bool) (l : List TSeg) (cl : List TCall) (at' wt' tr' : Int), o = some ⟨cc w f true e nx (IntKind.u32.wrap (f + 1 + b' + bi e')) want d (D.drop b) [] F F at' wt' tr', now, l, cl, (e && F)⟩ ∧ Pend D f b e l b' e' ∧ (e = false → b < b' ∨ e' = true) ∧ (e = true → b' = b ∧ e' = true ∧ at' = 0) ∧ b ≤ b' ∧ b' ≤ D.length ∧ (e' = true → b' = D.length) ∧ l.length ≤ 5 ∧ cl.length ≤ 1 ∧ wr cl = [] ∧ (at' = 0 ∨ at' = IntKind.i64.wrap (now + 2))
theorem tail_e (D : List Int) (w f : Int) (hD : D.length ≤ 3000) (hw : 1 ≤ w ∧ w ≤ 65535) (b : Nat) (e : Bool) (hb : b ≤ D.length) (he : e = true → b = D.length) (want : Int) (d : List Int) (F : Bool) (wt tr now : Int) (sg : List TSeg) (cl : List TCall) (hsg : sg.length ≤ 1) (hcl : cl.length ≤ 1) (hwr : wr cl = []) (hp : Pend D f b e sg b e) : Tl D w f b e (IntKind.u32.wrap (f + 1 + b + bi e)) want d F now ((splice_step_push.f ⟨cc w f true e (IntKind.u32.wrap (f + 1 + b + bi e)) (IntKind.u32.wrap (f + 1 + b + bi e)) want d (D.drop b) [] F F 0 wt tr, now, sg, cl, false⟩).bind fun r4 => ((if r4.Conn.Done = true then some (⟨r4.Conn, r4.now, r4.segs, r4.calls, r4.Conn.Shut⟩ : Tstep) else some (⟨r4.Conn, r4.now, r4.segs, r4.calls, false⟩ : Tstep))).bind (fun z_ => some (z_))) := by
  obtain ⟨b', e', l, at', wt', h1, h2, h3, h4, h5, h6, h7, h8, h9⟩ := push_2 D w f hD hw b e hb he want d F F wt tr now sg cl false (by omega)
  refine ⟨b', e', sg ++ l, cl, at', wt', tr, ?_, hp.app h2, h3, h4, h5, h6, h7, by rw [List.length_append]; omega, hcl, hwr, h9⟩
  rw [h1, Option.bind_some]
  cases e <;> rfl
theorem text_e (D : List Int) (w f : Int) (hD : D.length ≤ 3000) (hw : 1 ≤ w ∧ w ≤ 65535) (b : Nat) (e : Bool) (hb : b ≤ D.length) (he : e = true → b = D.length) (want : Int) (hwant : 0 ≤ want ∧ want < 4294967296) (wt tr now : Int) (x : TSeg) (hx : x.Seq = want) (F : Bool) (F' : Bool) (want' : Int) (hd : x.Data.length ≤ 4000)
    (hc : (F = false ∧ F' = false ∧ x.Flags = 16 ∧ 0 < x.Data.length ∧ want' = IntKind.u32.wrap (want + x.Data.length)) ∨ (F = false ∧ F' = true ∧ x.Flags = 17 ∧ x.Data = [] ∧ want' = IntKind.u32.wrap (want + 1)) ∨ (F = true ∧ F' = true ∧ x.Flags = 16 ∧ x.Data = [] ∧ want' = want)) : Tl D w f b e (IntKind.u32.wrap (f + 1 + b + bi e)) want' x.Data F' now (splice_step_text.f ⟨cc w f true e (IntKind.u32.wrap (f + 1 + b + bi e)) (IntKind.u32.wrap (f + 1 + b + bi e)) want [] (D.drop b) [] F F 0 wt tr, now, [], [], false⟩ x) := by
  unfold splice_step_text.f
  have g0 : ¬ ((0 : Int) < 0) := by decide
  rcases hc with ⟨rfl, rfl, h3, h4, rfl⟩ | ⟨rfl, rfl, h3, h4, rfl⟩ | ⟨rfl, rfl, h3, h4, rfl⟩
  · have f1 : ¬ (0 < bits .and .i64 16 1) := by decide
    have c4 : (0 : Int) < (x.Data.length : Int) := by omega
    rw [h3]
    simp only [lt, f1, decide_false, Bool.not_false, Bool.false_eq_true, if_false, if_true]
    rw [data_e w f true e _ _ want (D.drop b) false 0 wt tr now [] [] false x hd hwant hx, Option.bind_some]
    simp only [Option.bind_some, c4, decide_true, if_true, Bool.false_eq_true, if_false]
    rw [ack_is _ (by simp), Option.bind_some, Option.bind_some]
    unfold splice_step_shut.f
    simp only [Bool.false_eq_true, if_false, Option.bind_some, lt]
    exact tail_e D w f hD hw b e hb he _ x.Data false wt tr now _ [] (by simp) (by simp) rfl (.ack rfl (by show bits .and .i64 (bits .or .i64 16 0) 1 = 0; decide) (.nil _ _))
  · have f1 : (0 < bits .and .i64 17 1) := by decide
    rw [h3]
    simp only [lt, f1, decide_true, Bool.not_false, if_true]
    rw [data_e w f true e _ _ want (D.drop b) false 0 wt tr now [] [] false x hd hwant hx, Option.bind_some]
    have e1 : IntKind.u32.wrap (want + (x.Data.length : Int)) = IntKind.u32.wrap (x.Seq + IntKind.u32.wrap (x.Data.length : Int)) := by rw [hx, u32w', u32w', u32w']; omega
    have e2 : IntKind.u32.wrap (IntKind.u32.wrap (want + (x.Data.length : Int)) + 1) = IntKind.u32.wrap (want + 1) := by rw [h4]; show IntKind.u32.wrap (IntKind.u32.wrap (want + 0) + 1) = _; rw [u32w', u32w', u32w']; omega
    simp only [e1, decide_true, if_true, Option.bind_some]
    rw [← e1, e2, ack_is _ (by simp), Option.bind_some, Option.bind_some]
    unfold splice_step_shut.f splice_step_call.f
    rw [h4]
    have z0 : (([] : List Int).length : Int) = 0 := rfl
    simp only [if_true, Option.bind_some, lt, Bool.not_false, z0, decide_true]
    rw [cloneB _ (by simp), Option.bind_some, app_k _ _ (by simp), Option.bind_some, Option.bind_some]
    exact tail_e D w f hD hw b e hb he _ [] true wt tr now _ _ (by simp) (by simp) (by simp [wr]) (.ack rfl (by show bits .and .i64 (bits .or .i64 16 0) 1 = 0; decide) (.nil _ _))
  · have f1 : ¬ (0 < bits .and .i64 16 1) := by decide
    have c4 : ¬ ((0 : Int) < (([] : List Int).length : Int)) := by decide
    rw [h3, h4]
    simp only [lt, f1, c4, decide_false, Bool.not_true, Bool.false_eq_true, if_false, Option.bind_some]
    unfold splice_step_shut.f
    simp only [Bool.not_true, Bool.false_eq_true, if_false, if_true, Option.bind_some, lt]
    exact tail_e D w f hD hw b e hb he _ [] true wt tr now [] [] (by simp) (by simp) rfl (.nil _ _)
/-- The guest's segment. -/
theorem take_e (D : List Int) (w f : Int) (hD : D.length ≤ 3000) (hw : 1 ≤ w ∧ w ≤ 65535) (hf : 0 ≤ f ∧ f < 4294967296) {up done : Bool} {una nx : Int} {tg : List Int} {at' : Int} {b : Nat} {e : Bool} (hb : b ≤ D.length) (he : e = true → b = D.length) (h : Ak D f up done una nx tg at' b e) (want : Int) (hwant : 0 ≤ want ∧ want < 4294967296) (F : Bool) (wt tr now : Int) (hk : Kc (cc w f up done una nx want [] tg [] F F at' wt tr)) (hn : 0 ≤ now ∧ now ≤ 549755813888) (fl : Int) (d : List Int) (hby : Byt d) (hd : d.length ≤ 4000) (F' : Bool) (want' : Int)
    (hc : (F = false ∧ F' = false ∧ fl = 16 ∧ 0 < d.length ∧ want' = IntKind.u32.wrap (want + d.length)) ∨ (F = false ∧ F' = true ∧ fl = 17 ∧ d = [] ∧ want' = IntKind.u32.wrap (want + 1)) ∨ (F = true ∧ F' = true ∧ fl = 16 ∧ d = [] ∧ want' = want)) :
    ∃ (b' : Nat) (e' : Bool) (l : List TSeg) (cl : List TCall) (a2 wt' tr' : Int), splice_Take.f (cc w f up done una nx want [] tg [] F F at' wt tr) now ⟨9, 80, want, nx, fl, w, 0, d⟩ = some (cc w f true e nx (IntKind.u32.wrap (f + 1 + b' + bi e')) want' d (D.drop b) [] F' F' a2 wt' tr', l, cl, (e && F')) ∧ Pend D f b e l b' e' ∧ (e = false → b < b' ∨ e' = true) ∧ (e = true → b' = b ∧ e' = true ∧ a2 = 0) ∧ b ≤ b' ∧ b' ≤ D.length ∧ (e' = true → b' = D.length) ∧ l.length ≤ 5 ∧ cl.length ≤ 1 ∧ wr cl = [] ∧ (a2 = 0 ∨ a2 = IntKind.i64.wrap (now + 2)) := by
  have hnx := h.1
  have hfl : fl = 16 ∨ fl = 17 := by rcases hc with ⟨_, _, h, _⟩ | ⟨_, _, h, _⟩ | ⟨_, _, h, _⟩ <;> omega
  unfold splice_Take.f
  rw [begin_is _ now (kc_ck hk) hn.1 hn.2, Option.bind_some, put_is (⟨9, 80, want, nx, fl, w, 0, d⟩ : TSeg) 0 0 ⟨by simp, by simp, by show 0 ≤ fl ∧ fl ≤ 63; omega, by show 0 ≤ w ∧ w < 65536; omega⟩ (by simp) (by show d.length ≤ _; omega) hby, Option.bind_some]
  simp only [decide_true, Bool.not_true, Bool.false_eq_true, if_false, Option.bind_some]
  unfold splice_step_take.f
  have h4 : decide (0 < bits .and .i64 fl 4) = false := by rcases hfl with rfl | rfl <;> decide
  have h2 : decide (0 < bits .and .i64 fl 2) = false := by rcases hfl with rfl | rfl <;> decide
  have h16 : decide (0 < bits .and .i64 fl 16) = true := by rcases hfl with rfl | rfl <;> decide
  simp only [lt, h4, h2, h16, Bool.false_eq_true, if_false, if_true, Option.bind_some]
  obtain ⟨wt', tr', ha⟩ := acked_e D w f hD hf hb he h want F wt tr now (⟨9, 80, want, nx, fl, w, 0, d⟩ : TSeg) rfl rfl
  rw [ha, Option.bind_some]
  simp only [if_true, Option.bind_some]
  obtain ⟨b', e', l, cl, a2, wt2, tr2, q1, q2, q3, q4, q5, q6, q7, q8, q9, q10, q11⟩ := (text_e D w f hD hw b e hb he want hwant wt' tr' now (⟨9, 80, want, nx, fl, w, 0, d⟩ : TSeg) rfl F F' want' hd hc).h
  rw [← hnx] at q1
  rw [q1]
  exact ⟨b', e', l, cl, a2, wt2, tr2, rfl, q2, q3, q4, q5, q6, q7, q8, q9, q10, q11⟩
/-- The host takes all that is there. -/
theorem took_e (w f : Int) (e : Bool) (una nx want : Int) (d tg : List Int) (F : Bool) (at' wt tr now : Int) (hk : Kc (cc w f true e una nx want d tg [] F F at' wt tr)) (hn : 0 ≤ now ∧ now ≤ 549755813888) (hd : d.length ≤ 4000) (hF : F = true → d = []) : ∃ (cl : List TCall) (n : Int), splice_Hear.f (cc w f true e una nx want d tg [] F F at' wt tr) now ⟨5, 1, [], 4096⟩ = some (cc w f true e una nx want [] tg [] F F at' wt tr, [], cl, n, false) ∧ wr cl = d ∧ cl.length ≤ 1 := by
  unfold splice_Hear.f
  rw [begin_is _ now (kc_ck hk) hn.1 hn.2, Option.bind_some]
  have n1 : ¬ ((5 : Int) = 1) := by decide
  have n2 : ¬ ((5 : Int) = 2) := by decide
  have n3 : ¬ ((5 : Int) = 3) := by decide
  have n4 : ¬ ((5 : Int) = 4) := by decide
  simp only [n1, n2, n3, n4, decide_true, decide_false, Bool.not_true, Bool.false_eq_true, if_false, if_true, lt, Option.bind_some]
  unfold splice_step_took.f
  simp only [lt, Bool.false_eq_true, if_false, Option.bind_some]
  have hm : min (4096 : Int) (d.length : Int) = (d.length : Int) := by omega
  rw [hm]
  by_cases c : (d.length : Int) ≤ 0
  · have hd0 : d = [] := List.length_eq_zero_iff.1 (by omega)
    simp only [c, decide_true, if_true, Option.bind_some]
    exact ⟨[], 0, by rw [hd0], by rw [hd0]; rfl, by simp⟩
  · have hF0 : F = false := by
      cases F with
      | false => rfl
      | true => have := hF rfl; rw [this] at c; simp at c
    subst hF0
    have c2 : ¬ (max 0 (IntKind.i64.wrap (4096 - (d.length : Int))) = 0) := by rw [i64w (by omega) (by omega)]; omega
    simp only [c, decide_false, Bool.false_eq_true, if_false, Option.bind_some, room_is, c2]
    have e1 : cut d 0 (d.length : Int) = some d := by rw [cut_take' _ _ (by omega) (by omega)]; simp
    rw [e1, Option.bind_some]
    unfold splice_step_call.f
    rw [cloneB _ (by omega), Option.bind_some, app_k _ _ (by simp), Option.bind_some, Option.bind_some]
    dsimp only
    rw [cut_drop d (d.length : Int) (by omega) (by omega), Option.bind_some, Int.toNat_natCast, List.drop_length, cloneB _ (by simp), Option.bind_some]
    unfold splice_step_shut.f
    simp only [Bool.false_eq_true, if_false, Option.bind_some, lt]
    refine ⟨[⟨2, 1, 0, 0, d⟩], (d.length : Int), ?_, by simp [wr], by simp⟩
    cases e <;> rfl
/-- A tick ahead of its time. -/
theorem tick_e (c : TConn) (now : Int) (hk : Kc c) (hn : 0 ≤ now ∧ now ≤ 549755813888) (ha : c.At = 0 ∨ now < c.At) : splice_Tick.f c now = some (c, [], [], false) := by
  unfold splice_Tick.f
  rw [begin_is _ now (kc_ck hk) hn.1 hn.2, Option.bind_some, Option.bind_some]
  simp only [Bool.not_true, Bool.false_eq_true, if_false]
  by_cases c1 : c.At = 0
  · simp only [c1, decide_true, if_true, Option.bind_some]
  · have c2 : now < c.At := ha.resolve_left c1
    simp only [c1, c2, decide_true, decide_false, Bool.false_eq_true, if_false, if_true, Option.bind_some]
theorem wr_take (cl : List TCall) (i : Nat) (hi : i < cl.length) : wr (cl.take (i + 1)) = wr (cl.take i) ++ (if cl[i].Kind = 2 then cl[i].Data else []) := by
  unfold wr
  rw [List.take_add_one, List.getElem?_eq_getElem hi, List.map_append, List.flatten_append]
  simp only [Option.toList_some, List.map_cons, List.map_nil, List.flatten_cons, List.flatten_nil, List.append_nil]
/-- Behind an event: what the host was given. -/
theorem post_e (j5 : List TSeg × List TCall × Tplay) (h1 : j5.2.2.segs.length + j5.1.length ≤ 10000000) (h2 : j5.2.1.length ≤ 10) (h3 : ∀ y ∈ j5.2.1, y.Data.length ≤ 100000) (h4 : j5.2.2.given.length ≤ 10000000) : ∃ n, ((app j5.2.2.segs j5.1).bind fun x5 => (loop (fun s2 => (if decide (s2.1 < (j5.2.1.length : Int)) = true then ((idx j5.2.1 s2.1).bind fun x6 => (if decide (x6.Kind = 2) = true then (idx j5.2.1 s2.1).bind fun x7 => (app s2.2.given x7.Data).bind fun x8 => some ((⟨s2.2.c, s2.2.now, x8, s2.2.gave, s2.2.segs, s2.2.gone, s2.2.calls⟩ : Tplay)) else some (s2.2))).bind (fun j6 => lt (⟨j6.c, j6.now, j6.given, j6.gave, j6.segs, j6.gone, IntKind.i64.wrap (j6.calls + 1)⟩ : Tplay) fun y8 => lt (IntKind.i64.wrap (s2.1 + 1)) fun y9 => some (.inl (y9, y8))) else some (.inr (s2.2)))) (0, (⟨j5.2.2.c, j5.2.2.now, j5.2.2.given, j5.2.2.gave, x5, j5.2.2.gone, j5.2.2.calls⟩ : Tplay))).bind (fun z_ => some (z_))) = some ⟨j5.2.2.c, j5.2.2.now, j5.2.2.given ++ wr j5.2.1, j5.2.2.gave, j5.2.2.segs ++ j5.1, j5.2.2.gone, n⟩ := by
  obtain ⟨sg, cl, p⟩ := j5
  dsimp only at h1 h2 h3 h4 ⊢
  rw [app_k _ _ (by omega), Option.bind_some]
  refine loop_exit (fun (o : Option Tplay) => ∃ n, o = some ⟨p.c, p.now, p.given ++ wr cl, p.gave, p.segs ++ sg, p.gone, n⟩) (fun (i : Nat) (z : Int × Tplay) => z.1 = (i : Int) ∧ z.2.given.length ≤ p.given.length + 100000 * i ∧ ∃ n, z.2 = ⟨p.c, p.now, p.given ++ wr (cl.take i), p.gave, p.segs ++ sg, p.gone, n⟩) (fun z => ∃ n, z = (⟨p.c, p.now, p.given ++ wr cl, p.gave, p.segs ++ sg, p.gone, n⟩ : Tplay)) cl.length ?_ ?_ ?_ ?_
  · exact ⟨rfl, by simp, p.calls, by simp [wr]⟩
  · rintro i ⟨i', z⟩ hi ⟨q0, q1, n, q2⟩
    dsimp only at q0 q1 q2
    subst q0 q2
    left
    have c : ((i : Int) < (cl.length : Int)) := by omega
    have hdi := h3 _ (List.getElem_mem hi)
    dsimp only at q1
    simp only [c, decide_true, if_true, ix cl i hi, Option.bind_some]
    by_cases c2 : cl[i].Kind = 2
    · simp only [c2, decide_true, if_true]
      rw [app_k _ _ (by omega), Option.bind_some]
      simp only [Option.bind_some, lt]
      rw [stepw hi (by omega)]
      exact ⟨_, rfl, rfl, by show (p.given ++ wr (cl.take i) ++ cl[i].Data).length ≤ _; rw [List.length_append]; omega, _, by rw [wr_take cl i hi, if_pos c2, List.append_assoc]⟩
    · simp only [c2, decide_false, Bool.false_eq_true, if_false, Option.bind_some, lt]
      rw [stepw hi (by omega)]
      exact ⟨_, rfl, rfl, by show (p.given ++ wr (cl.take i)).length ≤ _; omega, _, by rw [wr_take cl i hi, if_neg c2, List.append_nil]⟩
  · rintro ⟨i', z⟩ ⟨q0, q1, n, q2⟩
    dsimp only at q0 q1 q2
    subst q0 q2
    have c : ¬ (((cl.length : Nat) : Int) < (cl.length : Int)) := by omega
    simp only [c, decide_false, Bool.false_eq_true, if_false]
    exact ⟨_, rfl, n, by rw [List.take_length]⟩
  · rintro z ⟨n, rfl⟩
    exact ⟨n, rfl⟩
theorem do_0 (p : Tplay) (x : TSeg) (hg : p.gone = false) {c' : TConn} {sg : List TSeg} {cl : List TCall} {g : Bool} (h : splice_Take.f p.c p.now x = some (c', sg, cl, g)) (h1 : p.segs.length + sg.length ≤ 10000000) (h2 : cl.length ≤ 10) (h3 : ∀ y ∈ cl, y.Data.length ≤ 100000) (h4 : p.given.length ≤ 10000000) : ∃ n, law28_play_do.f p ⟨0, x, zTell, 0⟩ = some ⟨c', p.now, p.given ++ wr cl, p.gave, p.segs ++ sg, g, n⟩ := by
  unfold law28_play_do.f
  simp only [hg, Bool.false_eq_true, if_false, decide_true, if_true, h, Option.bind_some]
  exact post_e (sg, cl, (⟨c', p.now, p.given, p.gave, p.segs, g, p.calls⟩ : Tplay)) h1 h2 h3 h4
theorem do_1 (p : Tplay) (t : TTell) (hg : p.gone = false) (ht : ¬ t.Kind = 3) {c' : TConn} {sg : List TSeg} {cl : List TCall} {m : Int} {g : Bool} (h : splice_Hear.f p.c p.now t = some (c', sg, cl, m, g)) (h1 : p.segs.length + sg.length ≤ 10000000) (h2 : cl.length ≤ 10) (h3 : ∀ y ∈ cl, y.Data.length ≤ 100000) (h4 : p.given.length ≤ 10000000) : ∃ n, law28_play_do.f p ⟨1, zSeg, t, 0⟩ = some ⟨c', p.now, p.given ++ wr cl, p.gave, p.segs ++ sg, g, n⟩ := by
  unfold law28_play_do.f
  have n0 : ¬ ((1 : Int) = 0) := by decide
  simp only [hg, n0, ht, Bool.false_eq_true, if_false, decide_true, decide_false, if_true, h, Option.bind_some]
  exact post_e (sg, cl, (⟨c', p.now, p.given, p.gave, p.segs, g, p.calls⟩ : Tplay)) h1 h2 h3 h4
theorem do_2 (p : Tplay) (hg : p.gone = false) (hn : 0 ≤ p.now ∧ p.now ≤ 549755813000) {c' : TConn} (h : splice_Tick.f p.c (p.now + 1) = some (c', [], [], false)) (h1 : p.segs.length ≤ 10000000) (h4 : p.given.length ≤ 10000000) : ∃ n, law28_play_do.f p ⟨2, zSeg, zTell, 1⟩ = some ⟨c', p.now + 1, p.given, p.gave, p.segs, false, n⟩ := by
  unfold law28_play_do.f
  have n0 : ¬ ((2 : Int) = 0) := by decide
  have n1 : ¬ ((2 : Int) = 1) := by decide
  have c0 : ((0 : Int) < 1) := by decide
  have c1 : ¬ ((1 : Int) < 1) := by decide
  have ew : IntKind.i64.wrap (p.now + 1) = p.now + 1 := i64w (by omega) (by omega)
  have e1 : IntKind.i64.wrap ((0 : Int) + 1) = 1 := by decide
  have hl : loop (fun s1 => ((if decide (s1.2.2.1 < ((⟨2,zSeg,zTell,1⟩:TEv)).N) = true then some ((!s1.2.2.2.gone)) else some (false))).bind (fun j2 => (if j2 = true then lt (⟨s1.2.2.2.c, IntKind.i64.wrap (s1.2.2.2.now + 1), s1.2.2.2.given, s1.2.2.2.gave, s1.2.2.2.segs, s1.2.2.2.gone, s1.2.2.2.calls⟩ : Tplay) fun y5 => (splice_Tick.f y5.c y5.now).bind fun r3 => lt (⟨r3.1, y5.now, y5.given, y5.gave, y5.segs, r3.2.2.2, y5.calls⟩ : Tplay) fun y6 => (app s1.1 r3.2.1).bind fun x3 => (app s1.2.1 r3.2.2.1).bind fun x4 => lt (IntKind.i64.wrap (s1.2.2.1 + 1)) fun y7 => some (.inl (x3, x4, y7, y6)) else some (.inr ((s1.1, s1.2.1, s1.2.2.2)))))) (([] : List TSeg), ([] : List TCall), (0 : Int), p) = some (([] : List TSeg), ([] : List TCall), (⟨c', p.now + 1, p.given, p.gave, p.segs, false, p.calls⟩ : Tplay)) := by
    refine (loop_in (s' := (([] : List TSeg), ([] : List TCall), (1 : Int), (⟨c', p.now + 1, p.given, p.gave, p.segs, false, p.calls⟩ : Tplay))) ?_).trans (loop_out ?_)
    · simp only [c0, hg, decide_true, if_true, Bool.not_false, Option.bind_some, lt, ew, h]
      rw [app_k _ _ (by simp), Option.bind_some, app_k _ _ (by simp), Option.bind_some, e1]; rfl
    · simp only [c1, decide_false, Bool.false_eq_true, if_false, Option.bind_some]
  simp only [lt] at hl
  simp only [hg, n0, n1, Bool.false_eq_true, if_false, decide_false, lt]
  rw [hl]
  simp only [Option.bind_some]
  obtain ⟨n, hn⟩ := post_e ([], [], (⟨c', p.now + 1, p.given, p.gave, p.segs, false, p.calls⟩ : Tplay)) (by simp; omega) (by simp) (fun y hy => by cases hy) h4
  rw [show wr [] = [] from rfl, List.append_nil, List.append_nil] at hn
  exact ⟨n, hn⟩
end Go.Proofs.Ytpcbhkigmnpimaa.S
