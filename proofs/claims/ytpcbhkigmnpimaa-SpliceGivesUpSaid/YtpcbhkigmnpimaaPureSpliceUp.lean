/- What the law SpliceGivesUp answers: true; what becomes of a connection whose guest is silent. Its conditions: what the host's bytes and the first number are. -/
import Derived.Test.YtpcbhkigmnpimaaPureSplice
namespace Go.Proofs.Ytpcbhkigmnpimaa.S
open Go Go.SL
set_option linter.unusedVariables false
set_option linter.unusedSimpArgs false
theorem loop_exit {σ ρ τ : Type} {B : σ → Option (σ ⊕ ρ)} {s0 : σ} {K : ρ → Option τ} (G : Option τ → Prop) (I : Nat → σ → Prop) (Q : ρ → Prop) (N : Nat) (h0 : I 0 s0) (hs : ∀ i s, i < N → I i s → (∃ s', B s = some (.inl s') ∧ I (i + 1) s') ∨ (∃ r, B s = some (.inr r) ∧ Q r)) (hN : ∀ s, I N s → ∃ r, B s = some (.inr r) ∧ Q r) (hk : ∀ r, Q r → G (K r)) : G ((loop B s0).bind K) := by
  have key : ∀ k i s, i + k = N → I i s → ∃ r, loop B s = some r ∧ Q r := by
    intro k
    induction k with
    | zero =>
      intro i s hi h
      have e : i = N := by omega
      subst e
      obtain ⟨r, h1, h2⟩ := hN s h
      exact ⟨r, loop_out h1, h2⟩
    | succ k ih =>
      intro i s hi h
      rcases hs i s (by omega) h with ⟨s', h1, h2⟩ | ⟨r, h1, h2⟩
      · obtain ⟨r, h3, h4⟩ := ih (i + 1) s' (by omega) h2
        exact ⟨r, by rw [loop_in h1]; exact h3, h4⟩
      · exact ⟨r, loop_out h1, h2⟩
  obtain ⟨r, h1, h2⟩ := key N 0 s0 (by omega) h0
  rw [h1]
  exact hk r h2
def nx1 (f : Int) : Int := IntKind.u32.wrap (f + 1)
def c0 (f : Int) : TConn := ⟨1, 1, 9, 2, 80, true, false, false, f, f, f, 1, 9000, 536, [], [], [], false, false, false, 0, 0, 0⟩
def c1 (f : Int) : TConn := ⟨1, 1, 9, 2, 80, false, false, false, f, f, nx1 f, 1, 9000, 536, [], [], [], false, false, false, 2, 2, 0⟩
def CC (f nx : Int) (G : List Int) (a w t : Int) : TConn := ⟨1, 1, 9, 2, 80, false, true, false, f, nx1 f, nx, 1, 9000, 536, [], G, [], false, false, false, a, w, t⟩
theorem rgk (o u d : Bool) (b un nx : Int) (G : List Int) (fi eo sh : Bool) (a w t : Int) (hG : G.length ≤ 4096) (ha : 0 ≤ a ∧ a ≤ 1099511627776) (hw : 0 ≤ w ∧ w ≤ 32) (ht : 0 ≤ t ∧ t ≤ 6) : Rg ⟨1, 1, 9, 2, 80, o, u, d, b, un, nx, 1, 9000, 536, [], G, [], fi, eo, sh, a, w, t⟩ :=
  ⟨Nat.zero_le _, hG, Nat.zero_le _, (show ishr .i64 9 16 = 0 by decide), (show ishr .i64 80 16 = 0 by decide), (show ishr .i64 9000 16 = 0 by decide), ⟨(show (1 : Int) ≤ 1 by decide), (show (1 : Int) ≤ 8 by decide)⟩, ⟨(show (64 : Int) ≤ 536 by decide), (show (536 : Int) ≤ 1460 by decide)⟩, ha, hw, ht⟩
theorem ck0 (f : Int) : Ckc (c0 f) = true := by
  unfold Ckc
  rw [decide_eq_true (show Rg (c0 f) from rgk _ _ _ _ _ _ _ _ _ _ _ _ _ (by simp) (by decide) (by decide) (by decide))]
  simp [Fsh, c0]
theorem ck1 (f : Int) : Ckc (c1 f) = true := by
  unfold Ckc
  rw [decide_eq_true (show Rg (c1 f) from rgk _ _ _ _ _ _ _ _ _ _ _ _ _ (by simp) (by decide) (by decide) (by decide))]
  have : IntKind.u32.wrap (nx1 f - f) = 1 := by unfold nx1; rw [u32w', u32w']; omega
  simp [Fsh, c1, this]
theorem flw (f P : Int) (h0 : 0 ≤ P) (h1 : P < 4294967296) : IntKind.u32.wrap (IntKind.u32.wrap (nx1 f + P) - nx1 f) = P := by rw [u32w', u32w']; omega
theorem ckC (f P : Int) (G : List Int) (a w t : Int) (h0 : 0 ≤ P) (h1 : P ≤ G.length) (hG : G.length ≤ 4096) (ha : 0 ≤ a ∧ a ≤ 1099511627776) (hw : 0 ≤ w ∧ w ≤ 32) (ht : 0 ≤ t ∧ t ≤ 6) : Ckc (CC f (IntKind.u32.wrap (nx1 f + P)) G a w t) = true := by
  unfold Ckc
  rw [decide_eq_true (show Rg (CC f (IntKind.u32.wrap (nx1 f + P)) G a w t) from rgk _ _ _ _ _ _ _ _ _ _ _ _ _ hG ha hw ht)]
  have := flw f P h0 (by omega)
  have h2 : IntKind.u32.wrap (IntKind.u32.wrap (nx1 f + P) - nx1 f) ≤ (G.length : Int) := by omega
  simp [Upk, CC, h2]
theorem begin_is (c : TConn) (now : Int) (hck : Ckc c = true) (h0 : 0 ≤ now) (h1 : now ≤ 549755813888) : splice_begin.f c now = some (some ⟨c, now, [], [], false⟩, true) := by
  unfold splice_begin.f lt
  rw [check_is]
  simp [hck, h0, h1]
theorem open_is (f : Int) : splice_Open.f ⟨9, 80, 0, 0, 2, 9000, 0, []⟩ 1 2 1 f = some (c0 f, true) := splice_Open.le 20 _ _ _ _ _ _ (by kernel_rfl)
theorem say_is (s : Tstep) (q fl : Int) (d : List Int) (hd : d.length ≤ 100000) (hs : s.segs.length ≤ 100000) : splice_step_say.f s q fl d = some ⟨s.Conn, s.now, s.segs ++ [⟨s.Conn.Rport, s.Conn.Gport, q, s.Conn.Want, bits .or .i64 16 fl, max 0 (IntKind.i64.wrap (4096 - (s.Conn.ToHost.length : Int))), 0, d⟩], s.calls, s.gone⟩ := by
  unfold splice_step_say.f slices_Clone_s_byte_byte.f
  rw [room_is, Option.bind_some, app_k _ _ (by simp; omega), Option.bind_some, Option.bind_some, app_k _ _ (by simp; omega), Option.bind_some]
  rfl
theorem hear_open (f : Int) : ∃ sg, splice_Hear.f (c0 f) 0 ⟨1, 1, [], 0⟩ = some (c1 f, sg, [], 0, false) ∧ sg.length = 1 := by
  unfold splice_Hear.f
  rw [begin_is _ _ (ck0 f) (by decide) (by decide), Option.bind_some]
  have h1 : decide ((1 : Int) = 1) = true := by decide
  simp only [Bool.not_true, Bool.false_eq_true, if_false, lt, h1, if_true, Option.bind_some]
  unfold splice_step_open.f splice_step_arm.f splice_step_syn.f lt
  simp only [c0, if_true, Option.bind_some]
  rw [say_is _ _ _ _ (by simp) (by simp)]
  refine ⟨_, rfl, rfl⟩
theorem do_hear (p : Tplay) (hg : p.gone = false) (t : TTell) (k : Int) (ht : t.Kind ≠ 3) (z : TSeg) (c : TConn) (sg : List TSeg) (n : Int) (g : Bool) (hH : splice_Hear.f p.c p.now t = some (c, sg, [], n, g)) (hl : p.segs.length + sg.length ≤ 100000) : law28_play_do.f p ⟨1, z, t, k⟩ = some ⟨c, p.now, p.given, p.gave, p.segs ++ sg, g, p.calls⟩ := by
  unfold law28_play_do.f
  have h1 : decide ((1 : Int) = 0) = false := by decide
  have h2 : decide ((1 : Int) = 1) = true := by decide
  simp only [hg, Bool.false_eq_true, if_false, lt, h1, decide_true, if_true, hH, Option.bind_some, ht, decide_false]
  rw [app_k _ _ (by show p.segs.length + sg.length ≤ _; omega), Option.bind_some]
  rw [loop_out (r := (⟨c, p.now, p.given, p.gave, p.segs ++ sg, g, p.calls⟩ : Tplay)) (by simp)]
  rfl
theorem begin_p (f : Int) : ∃ sg, law28_begin.f ⟨9, 80, 0, 0, 2, 9000, 0, []⟩ f = some (some ⟨c1 f, 0, [], [], sg, false, 0⟩, true) ∧ sg.length = 1 := by
  obtain ⟨sg, h1, h2⟩ := hear_open f
  unfold law28_begin.f
  rw [open_is, Option.bind_some]
  simp only [Bool.not_true, Bool.false_eq_true, if_false]
  have hd := do_hear ⟨c0 f, 0, [], [], [], false, 0⟩ rfl ⟨1, 1, [], 0⟩ 0 (by decide) zSeg (c1 f) sg 0 false h1 (by show 0 + sg.length ≤ _; omega)
  rw [hd, Option.bind_some]
  exact ⟨sg, by simp, h2⟩
theorem least2 (a b : Int) : splice_least_int.f [a, b] = some (min a b) := splice_least_int.le 10 _ _ (by kernel_rfl)
theorem least3 (a b c : Int) : splice_least_int.f [a, b, c] = some (min (min a b) c) := splice_least_int.le 10 _ _ (by kernel_rfl)
theorem nx0 (f : Int) : nx1 f = IntKind.u32.wrap (nx1 f + 0) := by unfold nx1; rw [u32w', u32w']; omega
set_option maxRecDepth 20000 in
theorem push_is (f : Int) (G : List Int) (hG : G.length ≤ 3000) (sg : List TSeg) (hs : sg.length ≤ 1000) (cl : List TCall) (g : Bool) : ∃ (P : Nat) (sg' : List TSeg), splice_step_push.f ⟨CC f (IntKind.u32.wrap (nx1 f + 0)) G 0 2 0, 0, sg, cl, g⟩ = some ⟨CC f (IntKind.u32.wrap (nx1 f + (P : Int))) G (if G.length = 0 then 0 else 2) 2 0, 0, sg', cl, g⟩ ∧ P ≤ G.length ∧ (0 < G.length → 0 < P) ∧ sg'.length ≤ sg.length + 4 ∧ (G.length = 0 → sg' = sg) := by
  unfold splice_step_push.f
  have hup : (CC f (IntKind.u32.wrap (nx1 f + 0)) G 0 2 0).Up = true := rfl
  have hdn : (CC f (IntKind.u32.wrap (nx1 f + 0)) G 0 2 0).Done = false := rfl
  simp only [hup, hdn, Bool.not_true, Bool.false_eq_true, if_false, Option.bind_some]
  have key : ∀ (o : Option Tstep), (∃ (P : Nat) (sg' : List TSeg), o = some ⟨CC f (IntKind.u32.wrap (nx1 f + (P : Int))) G 0 2 0, 0, sg', cl, g⟩ ∧ P ≤ G.length ∧ (0 < G.length → 0 < P) ∧ sg'.length ≤ sg.length + 4 ∧ (G.length = 0 → sg' = sg)) → ∃ (P : Nat) (sg' : List TSeg), (o.bind fun j10 => ((if decide (j10.Conn.At = 0) = true then (splice_step_flown.f j10).bind fun r5 => (if decide (0 < r5) = true then some (true) else some (decide (0 < (j10.Conn.ToGuest.length : Int)))) else some (false))).bind (fun j11 => (if j11 = true then (splice_step_arm.f j10).bind fun r6 => some (r6) else some (j10)))) = some ⟨CC f (IntKind.u32.wrap (nx1 f + (P : Int))) G (if G.length = 0 then 0 else 2) 2 0, 0, sg', cl, g⟩ ∧ P ≤ G.length ∧ (0 < G.length → 0 < P) ∧ sg'.length ≤ sg.length + 4 ∧ (G.length = 0 → sg' = sg) := by
    rintro o ⟨P, sg', rfl, hP, h0, hl, he⟩
    refine ⟨P, sg', ?_, hP, h0, hl, he⟩
    have hfl : splice_step_flown.f ⟨CC f (IntKind.u32.wrap (nx1 f + (P : Int))) G 0 2 0, 0, sg', cl, g⟩ = some (P : Int) := by
      show some (IntKind.u32.wrap (IntKind.u32.wrap (nx1 f + (P : Int)) - nx1 f)) = _
      rw [flw f P (by omega) (by omega)]
    have hat : (CC f (IntKind.u32.wrap (nx1 f + (P : Int))) G 0 2 0).At = 0 := rfl
    have htg : (CC f (IntKind.u32.wrap (nx1 f + (P : Int))) G 0 2 0).ToGuest = G := rfl
    simp only [Option.bind_some, hat, htg, hfl, decide_true, if_true]
    by_cases c : G.length = 0
    · have d1 : ¬ (0 < (P : Int)) := by omega
      have d2 : ¬ (0 < (G.length : Int)) := by omega
      rw [if_pos c]
      simp only [d1, d2, decide_false, Bool.false_eq_true, if_false, Option.bind_some]
    · have d1 : 0 < (P : Int) := by omega
      rw [if_neg c]
      simp only [d1, decide_true, if_true, Option.bind_some]
      rfl
  refine key _ ?_
  refine loop_exit (fun o => ∃ (P : Nat) (sg' : List TSeg), o = some (⟨CC f (IntKind.u32.wrap (nx1 f + (P : Int))) G 0 2 0, 0, sg', cl, g⟩ : Tstep) ∧ P ≤ G.length ∧ (0 < G.length → 0 < P) ∧ sg'.length ≤ sg.length + 4 ∧ (G.length = 0 → sg' = sg)) (fun (i : Nat) (s : Int × Tstep) => ∃ sg' : List TSeg, s = ((i : Int), ⟨CC f (IntKind.u32.wrap (nx1 f + ((min G.length (i * 536) : Nat) : Int))) G 0 2 0, 0, sg', cl, g⟩) ∧ sg'.length ≤ sg.length + i ∧ (i * 536 < G.length + 536) ∧ (G.length = 0 → sg' = sg)) (fun r => ∃ (P : Nat) (sg' : List TSeg), r = (⟨CC f (IntKind.u32.wrap (nx1 f + (P : Int))) G 0 2 0, 0, sg', cl, g⟩ : Tstep) ∧ P ≤ G.length ∧ (0 < G.length → 0 < P) ∧ sg'.length ≤ sg.length + 4 ∧ (G.length = 0 → sg' = sg)) 4 ?_ ?_ ?_ ?_
  · exact ⟨sg, by simp, by omega, by omega, fun _ => rfl⟩
  · rintro i _ hi ⟨sg', rfl, hl, hb, he⟩
    obtain ⟨P, hPP⟩ : ∃ P, min G.length (i * 536) = P := ⟨_, rfl⟩
    rw [hPP]
    have hfl : splice_step_flown.f ⟨CC f (IntKind.u32.wrap (nx1 f + (P : Int))) G 0 2 0, 0, sg', cl, g⟩ = some (P : Int) := by
      show some (IntKind.u32.wrap (IntKind.u32.wrap (nx1 f + (P : Int)) - nx1 f)) = _
      rw [flw f P (by omega) (by omega)]
    have hi4 : (i : Int) < 4 := by omega
    have htg : (CC f (IntKind.u32.wrap (nx1 f + (P : Int))) G 0 2 0).ToGuest = G := rfl
    have hms : (CC f (IntKind.u32.wrap (nx1 f + (P : Int))) G 0 2 0).Mss = 536 := rfl
    have hwn : (CC f (IntKind.u32.wrap (nx1 f + (P : Int))) G 0 2 0).Win = 9000 := rfl
    have hnx : (CC f (IntKind.u32.wrap (nx1 f + (P : Int))) G 0 2 0).Next = IntKind.u32.wrap (nx1 f + (P : Int)) := rfl
    have heo : (CC f (IntKind.u32.wrap (nx1 f + (P : Int))) G 0 2 0).Eof = false := rfl
    simp only [hi4, decide_true, if_true, hfl, htg, hms, hwn, hnx, heo, Option.bind_some, lt, least3]
    rw [i64w (x := (G.length : Int) - (P : Int)) (by omega) (by omega), i64w (x := 9000 - (P : Int)) (by omega) (by omega)]
    have d1 : ¬ ((G.length : Int) - (P : Int) < 0) := by omega
    by_cases c : P < G.length
    · left
      obtain ⟨r, hr, hr0⟩ : ∃ r : Nat, min (min ((G.length : Int) - (P : Int)) 536) (9000 - (P : Int)) = (r : Int) ∧ r = min (G.length - P) 536 := ⟨min (G.length - P) 536, by omega, rfl⟩
      have d2 : 0 < (r : Int) := by omega
      have hc : cut G (P : Int) (IntKind.i64.wrap ((P : Int) + (r : Int))) = some ((G.take (P + r)).drop P) := by
        rw [i64w (by omega) (by omega)]
        unfold cut
        rw [if_pos ⟨by omega, by omega, by omega⟩]
        congr 1
      simp only [hr, d1, d2, decide_true, decide_false, Bool.false_eq_true, if_false, if_true, hc, Option.bind_some]
      obtain ⟨sx, hsx, hsl⟩ : ∃ sx : List TSeg, splice_step_say.f ⟨CC f (IntKind.u32.wrap (nx1 f + (P : Int))) G 0 2 0, 0, sg', cl, g⟩ (IntKind.u32.wrap (nx1 f + (P : Int))) 8 ((G.take (P + r)).drop P) = some ⟨CC f (IntKind.u32.wrap (nx1 f + (P : Int))) G 0 2 0, 0, sx, cl, g⟩ ∧ sx.length = sg'.length + 1 := ⟨_, say_is _ _ _ _ (by simp; omega) (by show sg'.length ≤ _; omega), by simp⟩
      rw [hsx]
      simp only [Option.bind_some, Sum.elim_inr]
      rw [stepw hi (by omega)]
      refine ⟨_, rfl, sx, ?_, ?_, ?_, fun h => by omega⟩
      · have e1 : IntKind.u32.wrap (IntKind.u32.wrap (nx1 f + (P : Int)) + IntKind.u32.wrap (r : Int)) = IntKind.u32.wrap (nx1 f + ((min G.length ((i + 1) * 536) : Nat) : Int)) := by
          rw [u32w', u32w', u32w', u32w']; omega
        exact congrArg (fun z => (((i + 1 : Nat) : Int), (⟨CC f z G 0 2 0, 0, sx, cl, g⟩ : Tstep))) e1
      · omega
      · omega
    · right
      have e0 : (G.length : Int) - (P : Int) = 0 := by omega
      have d2 : ¬ (0 < min (min 0 536) (9000 - (P : Int))) := by omega
      have d3 : ¬ ((0 : Int) < 0) := by decide
      simp only [e0]
      simp only [d2, d3, decide_true, decide_false, Bool.false_eq_true, if_false, if_true, Option.bind_some, Sum.elim_inl]
      refine ⟨_, rfl, P, sg', rfl, by omega, fun h => by omega, by omega, he⟩
  · rintro _ ⟨sg', rfl, hl, hb, he⟩
    have hi4 : ¬ (((4 : Nat) : Int) < 4) := by decide
    simp only [hi4, decide_false, Bool.false_eq_true, if_false]
    exact ⟨_, rfl, min G.length (4 * 536), sg', rfl, by omega, fun h => by omega, by omega, he⟩
  · rintro r ⟨P, sg', rfl, h1, h2, h3, h4⟩
    exact ⟨P, sg', rfl, h1, h2, h3, h4⟩
def SA (f : Int) : TSeg := ⟨9, 80, 1, nx1 f, 16, 9000, 0, []⟩
theorem put_SA (f : Int) : ∃ b, seg_Put.f (SA f) 0 0 = some (b, 0) :=
  ⟨_, put_is (SA f) 0 0 ⟨⟨(show (0 : Int) ≤ 9 by decide), (show (9 : Int) < 65536 by decide)⟩, ⟨(show (0 : Int) ≤ 80 by decide), (show (80 : Int) < 65536 by decide)⟩, ⟨(show (0 : Int) ≤ 16 by decide), (show (16 : Int) ≤ 63 by decide)⟩, ⟨(show (0 : Int) ≤ 9000 by decide), (show (9000 : Int) < 65536 by decide)⟩⟩ ⟨(show (0 : Int) ≤ 0 by decide), (show (0 : Int) < 65536 by decide)⟩ (by simp [SA]) (fun x hx => by simp [SA] at hx)⟩
theorem acked_is (f : Int) : splice_step_acked.f ⟨c1 f, 0, [], [], false⟩ (SA f) = some (true, ⟨CC f (nx1 f) [] 0 2 0, 0, [], [], false⟩) := by
  unfold splice_step_acked.f
  have k1 : IntKind.u32.wrap (nx1 f - f) = 1 := by unfold nx1; rw [u32w', u32w']; omega
  have k0 : IntKind.u32.wrap (nx1 f - nx1 f) = 0 := by rw [u32w']; omega
  have hfl : splice_step_flown.f ⟨c1 f, 0, [], [], false⟩ = some 1 := by
    show some (IntKind.u32.wrap (nx1 f - f)) = _
    rw [k1]
  have hk : IntKind.u32.wrap ((SA f).Ack - (c1 f).Una) = 1 := k1
  have hup : (c1 f).Up = false := rfl
  have hdn : (c1 f).Done = false := rfl
  have d1 : ¬ ((1 : Int) < 1) := by decide
  have d2 : (0 : Int) < 1 := by decide
  have w0 : IntKind.i64.wrap (1 - 1) = 0 := by decide
  have htg : (c1 f).ToGuest = [] := rfl
  simp only [lt, hk, hfl, Option.bind_some, d1, d2, decide_true, decide_false, Bool.false_eq_true, if_false, if_true, hup, hdn, Bool.not_false, w0, htg]
  have hcut : cut ([] : List Int) (min 0 (([] : List Int).length : Int)) (([] : List Int).length : Int) = some [] := rfl
  have hcl : slices_Clone_s_byte_byte.f ([] : List Int) = some [] := rfl
  rw [hcut, Option.bind_some, hcl]
  unfold splice_step_arm.f
  simp only [lt, Option.bind_some]
  have hf2 : ∀ (s : Tstep), s.Conn.Next = s.Conn.Una → splice_step_flown.f s = some 0 := fun s h => by
    unfold splice_step_flown.f lt
    rw [h, u32w']
    congr 1; omega
  rw [hf2 _ rfl, Option.bind_some]
  rfl
theorem take_ack (f : Int) : splice_Take.f (c1 f) 0 (SA f) = some (CC f (nx1 f) [] 0 2 0, [], [], false) := by
  unfold splice_Take.f
  obtain ⟨b, hb⟩ := put_SA f
  rw [begin_is _ _ (ck1 f) (by decide) (by decide), Option.bind_some, hb, Option.bind_some]
  simp only [decide_true, Bool.not_true, Bool.false_eq_true, if_false, Option.bind_some]
  unfold splice_step_take.f
  have a4 : ¬ (0 < bits .and .i64 (SA f).Flags 4) := (show ¬ ((0 : Int) < bits .and .i64 16 4) by decide)
  have a2 : ¬ (0 < bits .and .i64 (SA f).Flags 2) := (show ¬ ((0 : Int) < bits .and .i64 16 2) by decide)
  have a16 : 0 < bits .and .i64 (SA f).Flags 16 := (show (0 : Int) < bits .and .i64 16 16 by decide)
  have ho : (c1 f).Opening = false := rfl
  simp only [lt, a4, a2, a16, ho, decide_true, decide_false, Bool.false_eq_true, if_false, if_true, Option.bind_some, acked_is]
  unfold splice_step_text.f
  have a1 : ¬ (0 < bits .and .i64 (SA f).Flags 1) := (show ¬ ((0 : Int) < bits .and .i64 16 1) by decide)
  have hfin : (CC f (nx1 f) [] 0 2 0).Fin = false := rfl
  have hdata : splice_step_data.f ⟨CC f (nx1 f) [] 0 2 0, 0, [], [], false⟩ (SA f) = some ⟨CC f (nx1 f) [] 0 2 0, 0, [], [], false⟩ := by
    unfold splice_step_data.f lt
    have e1 : IntKind.u32.wrap ((CC f (nx1 f) [] 0 2 0).Want - (SA f).Seq) = 0 := (show IntKind.u32.wrap (1 - 1) = 0 by decide)
    have e2 : IntKind.u32.wrap ((SA f).Seq - (CC f (nx1 f) [] 0 2 0).Want) = 0 := (show IntKind.u32.wrap (1 - 1) = 0 by decide)
    have e3 : ¬ (0 < IntKind.i32.wrap 0) := by decide
    simp only [e1, e3, decide_false, Bool.false_eq_true, if_false, Option.bind_some, e2, room_is]
    rfl
  have hd0 : ¬ (0 < (((SA f).Data.length : Nat) : Int)) := (show ¬ ((0 : Int) < 0) by decide)
  have hshut : ∀ s : Tstep, s.Conn.Fin = false → splice_step_shut.f s = some s := fun s h => by
    unfold splice_step_shut.f
    simp [h]
  simp only [lt, a1, hfin, hdata, hd0, decide_false, Bool.not_false, Bool.false_eq_true, if_false, if_true, Option.bind_some]
  rw [hshut _ hfin, Option.bind_some]
  obtain ⟨P, sg', hp, hP, _, _, hsg⟩ := push_is f [] (by simp) [] (by simp) [] false
  rw [← nx0] at hp
  have hP0 : P = 0 := by simpa using hP
  subst hP0
  rw [hsg rfl] at hp
  rw [show ((0 : Nat) : Int) = 0 from rfl, ← nx0] at hp
  rw [hp, Option.bind_some]
  rfl
/-- What a tick makes of it. -/
theorem tick_is (f P : Int) (G : List Int) (a w t : Int) (h0 : 0 < P) (h1 : P ≤ G.length) (hG : G.length ≤ 3000) (ha : 1 ≤ a ∧ a ≤ 100000) (hw : 0 ≤ w ∧ w ≤ 32) (ht : 0 ≤ t ∧ t ≤ 6) (now : Int) (hn : 0 ≤ now ∧ now ≤ 100000) : ∃ sg : List TSeg, sg.length = 1 ∧ splice_Tick.f (CC f (IntKind.u32.wrap (nx1 f + P)) G a w t) now = some (if now < a then (CC f (IntKind.u32.wrap (nx1 f + P)) G a w t, [], [], false) else if t = 6 then (CC f (IntKind.u32.wrap (nx1 f + P)) G a w t, sg, [⟨4, 1, 0, 0, []⟩], true) else (CC f (IntKind.u32.wrap (nx1 f + P)) G (now + min (2 * w) 32) (min (2 * w) 32) (t + 1), sg, [], false)) := by
  unfold splice_Tick.f
  rw [begin_is _ _ (ckC f P G a w t (by omega) h1 (by omega) ⟨by omega, by omega⟩ hw ht) hn.1 (by omega), Option.bind_some, Option.bind_some]
  have hat : (CC f (IntKind.u32.wrap (nx1 f + P)) G a w t).At = a := rfl
  have htr : (CC f (IntKind.u32.wrap (nx1 f + P)) G a w t).Tries = t := rfl
  have ha0 : ¬ (a = 0) := by omega
  simp only [hat, htr, ha0, Bool.not_true, Bool.false_eq_true, if_false, decide_false, Option.bind_some]
  by_cases c : now < a
  · refine ⟨[zSeg], rfl, ?_⟩
    simp only [c, decide_true, if_true]
  simp only [c, decide_false, Bool.false_eq_true, if_false]
  by_cases c6 : t = 6
  · obtain ⟨sx, hsx, hsl⟩ : ∃ sx : List TSeg, splice_step_say.f ⟨CC f (IntKind.u32.wrap (nx1 f + P)) G a w t, now, [], [], false⟩ (CC f (IntKind.u32.wrap (nx1 f + P)) G a w t).Next 4 [] = some ⟨CC f (IntKind.u32.wrap (nx1 f + P)) G a w t, now, sx, [], false⟩ ∧ sx.length = 1 := ⟨_, say_is _ _ _ _ (by simp) (by simp), rfl⟩
    refine ⟨sx, hsl, ?_⟩
    simp only [c6, decide_true, if_true]
    rw [← c6, hsx, Option.bind_some]
    rfl
  have e1 : IntKind.i64.wrap (t + 1) = t + 1 := i64w (by omega) (by omega)
  have e2 : IntKind.i64.wrap (2 * w) = 2 * w := i64w (by omega) (by omega)
  have e3 : IntKind.i64.wrap (now + min (2 * w) 32) = now + min (2 * w) 32 := i64w (by omega) (by omega)
  have hcw : (CC f (IntKind.u32.wrap (nx1 f + P)) G a w t).Wait = w := rfl
  obtain ⟨r, hr, hr0⟩ : ∃ r : Nat, min (min P (G.length : Int)) 536 = (r : Int) ∧ (r : Int) ≤ G.length := ⟨(min (min P (G.length : Int)) 536).toNat, by omega, by omega⟩
  have hcut : cut G 0 (r : Int) = some ((G.take r).drop 0) := by
    unfold cut
    rw [if_pos ⟨by omega, by omega, by omega⟩]
    congr 1
  obtain ⟨sx, hsx, hsl⟩ : ∃ sx : List TSeg, splice_step_say.f ⟨CC f (IntKind.u32.wrap (nx1 f + P)) G (now + min (2 * w) 32) (min (2 * w) 32) (t + 1), now, [], [], false⟩ (nx1 f) 8 ((G.take r).drop 0) = some ⟨CC f (IntKind.u32.wrap (nx1 f + P)) G (now + min (2 * w) 32) (min (2 * w) 32) (t + 1), now, sx, [], false⟩ ∧ sx.length = 1 := ⟨_, say_is _ _ _ _ (by simp; omega) (by simp), rfl⟩
  have hag : splice_step_again.f ⟨CC f (IntKind.u32.wrap (nx1 f + P)) G (now + min (2 * w) 32) (min (2 * w) 32) (t + 1), now, [], [], false⟩ = some ⟨CC f (IntKind.u32.wrap (nx1 f + P)) G (now + min (2 * w) 32) (min (2 * w) 32) (t + 1), now, sx, [], false⟩ := by
    unfold splice_step_again.f
    have hfl : splice_step_flown.f ⟨CC f (IntKind.u32.wrap (nx1 f + P)) G (now + min (2 * w) 32) (min (2 * w) 32) (t + 1), now, [], [], false⟩ = some P := by
      show some (IntKind.u32.wrap (IntKind.u32.wrap (nx1 f + P) - nx1 f)) = _
      rw [flw f P (by omega) (by omega)]
    have hup : (CC f (IntKind.u32.wrap (nx1 f + P)) G (now + min (2 * w) 32) (min (2 * w) 32) (t + 1)).Up = true := rfl
    have htg : (CC f (IntKind.u32.wrap (nx1 f + P)) G (now + min (2 * w) 32) (min (2 * w) 32) (t + 1)).ToGuest = G := rfl
    have hms : (CC f (IntKind.u32.wrap (nx1 f + P)) G (now + min (2 * w) 32) (min (2 * w) 32) (t + 1)).Mss = 536 := rfl
    have hun : (CC f (IntKind.u32.wrap (nx1 f + P)) G (now + min (2 * w) 32) (min (2 * w) 32) (t + 1)).Una = nx1 f := rfl
    have hG0 : ¬ ((G.length : Int) = 0) := by omega
    simp only [hfl, hup, htg, hms, hun, lt, h0, hG0, Bool.not_true, Bool.false_eq_true, if_false, decide_true, decide_false, if_true, Option.bind_some, least3, hr, hcut, hsx]
  refine ⟨sx, hsl, ?_⟩
  simp only [c6, decide_false, Bool.false_eq_true, if_false, lt, e1, e2, hcw]
  rw [e3]
  show ((splice_step_again.f ⟨CC f (IntKind.u32.wrap (nx1 f + P)) G (now + min (2 * w) 32) (min (2 * w) 32) (t + 1), now, [], [], false⟩).bind _) = _
  rw [hag]
  rfl
theorem hear_data (f : Int) (G : List Int) (hG : G.length ≤ 3000) : ∃ (P : Nat) (sg : List TSeg), splice_Hear.f (CC f (nx1 f) [] 0 2 0) 0 ⟨3, 1, G, 0⟩ = some (CC f (IntKind.u32.wrap (nx1 f + (P : Int))) G (if G.length = 0 then 0 else 2) 2 0, sg, [], (G.length : Int), false) ∧ P ≤ G.length ∧ (0 < G.length → 0 < P) ∧ sg.length ≤ 4 ∧ (G.length = 0 → sg = []) := by
  obtain ⟨P, sg, hp, h1, h2, h3, h4⟩ := push_is f G hG [] (by simp) [] false
  refine ⟨P, sg, ?_, h1, h2, by simpa using h3, h4⟩
  unfold splice_Hear.f
  have hck : Ckc (CC f (nx1 f) [] 0 2 0) = true := by
    have := ckC f 0 [] 0 2 0 (by decide) (by simp) (by simp) (by decide) (by decide) (by decide)
    rwa [← nx0] at this
  rw [begin_is _ _ hck (by decide) (by decide), Option.bind_some]
  have k1 : ¬ ((3 : Int) = 1) := by decide
  have k2 : ¬ ((3 : Int) = 2) := by decide
  simp only [Bool.not_true, Bool.false_eq_true, if_false, lt, k1, k2, decide_false, decide_true, if_true, Option.bind_some]
  unfold splice_step_more.f
  have ho : (CC f (nx1 f) [] 0 2 0).Opening = false := rfl
  have he : (CC f (nx1 f) [] 0 2 0).Eof = false := rfl
  have hg : (CC f (nx1 f) [] 0 2 0).ToGuest = [] := rfl
  have e1 : min (G.length : Int) (IntKind.i64.wrap (4096 - (([] : List Int).length : Int))) = (G.length : Int) := by
    rw [i64w (by simp) (by simp)]; simp; omega
  have hcut : cut G 0 (G.length : Int) = some G := by
    unfold cut
    rw [if_pos ⟨by omega, by omega, by omega⟩]
    simp
  have hcc : slices_Concat_s_byte_byte.f [[], G] = some G := by
    rw [concat_is _ (by simp; omega) (by simp)]; simp
  simp only [ho, he, hg, lt, Bool.false_eq_true, if_false, Option.bind_some, least2, e1, hcut, hcc]
  show (((splice_step_push.f ⟨CC f (nx1 f) G 0 2 0, 0, [], [], false⟩).bind _).bind _) = _
  rw [← nx0] at hp
  rw [hp]
  rfl
theorem do_take (p : Tplay) (hg : p.gone = false) (x : TSeg) (t : TTell) (k : Int) (c : TConn) (sg : List TSeg) (g : Bool) (hH : splice_Take.f p.c p.now x = some (c, sg, [], g)) (hl : p.segs.length + sg.length ≤ 100000) : law28_play_do.f p ⟨0, x, t, k⟩ = some ⟨c, p.now, p.given, p.gave, p.segs ++ sg, g, p.calls⟩ := by
  unfold law28_play_do.f
  simp only [hg, Bool.false_eq_true, if_false, lt, decide_true, if_true, hH, Option.bind_some]
  rw [app_k _ _ (by show p.segs.length + sg.length ≤ _; omega), Option.bind_some]
  rw [loop_out (r := (⟨c, p.now, p.given, p.gave, p.segs ++ sg, g, p.calls⟩ : Tplay)) (by simp)]
  rfl
theorem do_data (p : Tplay) (hg : p.gone = false) (hgv : p.gave = []) (G : List Int) (hG : G.length ≤ 3000) (z : TSeg) (k : Int) (c : TConn) (sg : List TSeg) (g : Bool) (hH : splice_Hear.f p.c p.now ⟨3, 1, G, 0⟩ = some (c, sg, [], (G.length : Int), g)) (hl : p.segs.length + sg.length ≤ 100000) : law28_play_do.f p ⟨1, z, ⟨3, 1, G, 0⟩, k⟩ = some ⟨c, p.now, p.given, G, p.segs ++ sg, g, p.calls⟩ := by
  unfold law28_play_do.f
  have h1 : decide ((1 : Int) = 0) = false := by decide
  have h0 : (0 : Int) ≤ (G.length : Int) := by omega
  have hcut : cut G 0 (G.length : Int) = some G := by
    unfold cut
    rw [if_pos ⟨by omega, by omega, by omega⟩]
    simp
  have hle : (G.length : Int) ≤ (G.length : Int) := by omega
  simp only [hg, Bool.false_eq_true, if_false, lt, h1, decide_true, if_true, hH, Option.bind_some, h0, hle, hcut, hgv]
  rw [app_k [] G (by simp; omega)]
  simp only [Option.bind_some, List.nil_append]
  rw [app_k _ _ (by show p.segs.length + sg.length ≤ _; omega), Option.bind_some]
  rw [loop_out (r := (⟨c, p.now, p.given, G, p.segs ++ sg, g, p.calls⟩ : Tplay)) (by simp)]
  rfl
/-- The reckoning of the ticks. -/
def stp (now : Int) (s : Int × Int × Int × Nat × Bool) : Int × Int × Int × Nat × Bool :=
  if now < s.1 then s else if s.2.2.1 = 6 then (s.1, s.2.1, s.2.2.1, s.2.2.2.1 + 1, true) else (now + min (2 * s.2.1) 32, min (2 * s.2.1) 32, s.2.2.1 + 1, s.2.2.2.1 + 1, false)
def run : Nat → Nat → Int × Int × Int × Nat × Bool → Int × Int × Int × Nat × Bool
  | 0, _, s => s
  | n + 1, i, s => if s.2.2.2.2 = true then s else run n (i + 1) (stp ((i : Int) + 1) s)
def clOf (g : Bool) : List TCall := if g = true then [⟨4, 1, 0, 0, []⟩] else []
theorem ticks (f : Int) (P : Int) (G : List Int) (h0 : 0 < P) (h1 : P ≤ G.length) (hG : G.length ≤ 3000) (ev : TEv) (hN : ev.N = 300) (gv gve : List Int) (sg0 : List TSeg) (cl0 : Int) : ∀ (n i : Nat), i + n = 300 → ∀ (s : Int × Int × Int × Nat × Bool), 1 ≤ s.1 ∧ s.1 ≤ 1000 → 0 ≤ s.2.1 ∧ s.2.1 ≤ 32 → 0 ≤ s.2.2.1 ∧ s.2.2.1 ≤ 6 → s.2.2.2.1 ≤ i → ∀ (sg : List TSeg), sg.length = s.2.2.2.1 →
    ∃ (sg' : List TSeg) (now' : Int), loop (fun s1 => ((if decide (s1.2.2.1 < ev.N) = true then some ((!s1.2.2.2.gone)) else some (false))).bind (fun j2 => (if j2 = true then lt (⟨s1.2.2.2.c, IntKind.i64.wrap (s1.2.2.2.now + 1), s1.2.2.2.given, s1.2.2.2.gave, s1.2.2.2.segs, s1.2.2.2.gone, s1.2.2.2.calls⟩ : Tplay) fun y5 => (splice_Tick.f y5.c y5.now).bind fun r3 => lt (⟨r3.1, y5.now, y5.given, y5.gave, y5.segs, r3.2.2.2, y5.calls⟩ : Tplay) fun y6 => (app s1.1 r3.2.1).bind fun x3 => (app s1.2.1 r3.2.2.1).bind fun x4 => lt (IntKind.i64.wrap (s1.2.2.1 + 1)) fun y7 => some (.inl (x3, x4, y7, y6)) else some (.inr ((s1.1, s1.2.1, s1.2.2.2)))))) (sg, clOf s.2.2.2.2, (i : Int), ⟨CC f (IntKind.u32.wrap (nx1 f + P)) G s.1 s.2.1 s.2.2.1, (i : Int), gv, gve, sg0, s.2.2.2.2, cl0⟩) = some (sg', clOf (run n i s).2.2.2.2, ⟨CC f (IntKind.u32.wrap (nx1 f + P)) G (run n i s).1 (run n i s).2.1 (run n i s).2.2.1, now', gv, gve, sg0, (run n i s).2.2.2.2, cl0⟩) ∧ sg'.length = (run n i s).2.2.2.1 := by
  intro n
  induction n with
  | zero =>
    intro i hi s b1 b2 b3 b4 sg hsg
    refine ⟨sg, (i : Int), loop_out ?_, hsg⟩
    have c : ¬ ((i : Int) < ev.N) := by omega
    simp only [c, decide_false, Bool.false_eq_true, if_false, Option.bind_some, run]
  | succ n ih =>
    rintro i hi ⟨a, w, t, k, g⟩ b1 b2 b3 b4 sg hsg
    dsimp only at b1 b2 b3 b4 hsg
    have c : ((i : Int) < ev.N) := by omega
    cases g with
    | true =>
      refine ⟨sg, (i : Int), loop_out ?_, hsg⟩
      simp only [c, decide_true, if_true, Option.bind_some, Bool.not_true, Bool.false_eq_true, if_false, run]
    | false =>
      obtain ⟨sx, hsx, htk⟩ := tick_is f P G a w t h0 h1 hG ⟨by omega, by omega⟩ b2 b3 ((i : Int) + 1) ⟨by omega, by omega⟩
      have ew : IntKind.i64.wrap ((i : Int) + 1) = (i : Int) + 1 := i64w (by omega) (by omega)
      have hrun : run (n + 1) i (a, w, t, k, false) = run n (i + 1) (stp ((i : Int) + 1) (a, w, t, k, false)) := by simp [run]
      rw [hrun]
      by_cases c1 : (i : Int) + 1 < a
      · have hs : stp ((i : Int) + 1) (a, w, t, k, false) = (a, w, t, k, false) := by simp [stp, c1]
        rw [hs]
        obtain ⟨sg', now', hl, hlen⟩ := ih (i + 1) (by omega) (a, w, t, k, false) b1 b2 b3 (by show k ≤ i + 1; omega) sg hsg
        refine ⟨sg', now', ?_, hlen⟩
        rw [loop_in (s' := (sg, [], ((i + 1 : Nat) : Int), ⟨CC f (IntKind.u32.wrap (nx1 f + P)) G a w t, ((i + 1 : Nat) : Int), gv, gve, sg0, false, cl0⟩))]
        · exact hl
        · rw [if_pos c1] at htk
          simp only [c, decide_true, if_true, Option.bind_some, Bool.not_false, lt, ew, htk]
          rw [app_k _ _ (by simp; omega), Option.bind_some, clOf, if_neg (by simp), app_k _ _ (by simp), Option.bind_some]
          simp
      · by_cases c6 : t = 6
        · have hs : stp ((i : Int) + 1) (a, w, t, k, false) = (a, w, t, k + 1, true) := by simp [stp, c1, c6]
          rw [hs]
          obtain ⟨sg', now', hl, hlen⟩ := ih (i + 1) (by omega) (a, w, t, k + 1, true) b1 b2 b3 (by show k + 1 ≤ i + 1; omega) (sg ++ sx) (by simp [hsg, hsx])
          refine ⟨sg', now', ?_, hlen⟩
          rw [loop_in (s' := (sg ++ sx, [⟨4, 1, 0, 0, []⟩], ((i + 1 : Nat) : Int), ⟨CC f (IntKind.u32.wrap (nx1 f + P)) G a w t, ((i + 1 : Nat) : Int), gv, gve, sg0, true, cl0⟩))]
          · exact hl
          · rw [if_neg c1, if_pos c6] at htk
            simp only [c, decide_true, if_true, Option.bind_some, Bool.not_false, lt, ew, htk]
            rw [app_k _ _ (by omega), Option.bind_some, clOf, if_neg (by simp), app_k _ _ (by simp), Option.bind_some]
            simp
        · have hs : stp ((i : Int) + 1) (a, w, t, k, false) = ((i : Int) + 1 + min (2 * w) 32, min (2 * w) 32, t + 1, k + 1, false) := by simp [stp, c1, c6]
          rw [hs]
          obtain ⟨sg', now', hl, hlen⟩ := ih (i + 1) (by omega) ((i : Int) + 1 + min (2 * w) 32, min (2 * w) 32, t + 1, k + 1, false) ⟨by show (1 : Int) ≤ (i : Int) + 1 + min (2 * w) 32; omega, by show (i : Int) + 1 + min (2 * w) 32 ≤ 1000; omega⟩ ⟨by show (0 : Int) ≤ min (2 * w) 32; omega, by show min (2 * w) 32 ≤ 32; omega⟩ ⟨by show 0 ≤ t + 1; omega, by show t + 1 ≤ 6; omega⟩ (by show k + 1 ≤ i + 1; omega) (sg ++ sx) (by simp [hsg, hsx])
          refine ⟨sg', now', ?_, hlen⟩
          rw [loop_in (s' := (sg ++ sx, [], ((i + 1 : Nat) : Int), ⟨CC f (IntKind.u32.wrap (nx1 f + P)) G ((i : Int) + 1 + min (2 * w) 32) (min (2 * w) 32) (t + 1), ((i + 1 : Nat) : Int), gv, gve, sg0, false, cl0⟩))]
          · exact hl
          · rw [if_neg c1, if_neg c6] at htk
            simp only [c, decide_true, if_true, Option.bind_some, Bool.not_false, lt, ew, htk]
            rw [app_k _ _ (by omega), Option.bind_some, clOf, if_neg (by simp), app_k _ _ (by simp), Option.bind_some]
            simp
theorem run_ok : run 300 0 (2, 2, 0, 0, false) = (126, 32, 6, 7, true) := by decide
theorem do_ticks (f : Int) (P : Int) (G : List Int) (h0 : 0 < P) (h1 : P ≤ G.length) (hG : G.length ≤ 3000) (z : TSeg) (t : TTell) (gv gve : List Int) (sg0 : List TSeg) (hs : sg0.length ≤ 1000) : ∃ p, law28_play_do.f ⟨CC f (IntKind.u32.wrap (nx1 f + P)) G 2 2 0, 0, gv, gve, sg0, false, 0⟩ ⟨2, z, t, 300⟩ = some p ∧ p.gone = true ∧ p.calls = 1 ∧ p.segs.length = sg0.length + 7 := by
  obtain ⟨sg', now', hl, hlen⟩ := ticks f P G h0 h1 hG ⟨2, z, t, 300⟩ rfl gv gve sg0 0 300 0 rfl (2, 2, 0, 0, false) (by decide) (by decide) (by decide) (by decide) [] rfl
  rw [run_ok] at hl hlen
  replace hlen : sg'.length = 7 := hlen
  unfold law28_play_do.f
  have k0 : decide ((2 : Int) = 0) = false := by decide
  have k1 : decide ((2 : Int) = 1) = false := by decide
  refine ⟨⟨CC f (IntKind.u32.wrap (nx1 f + P)) G 126 32 6, now', gv, gve, sg0 ++ sg', true, 1⟩, ?_, rfl, rfl, by simp [hlen]⟩
  simp only [Bool.false_eq_true, if_false, k0, k1, lt]
  have hl' := hl
  simp only [lt] at hl'
  rw [show loop _ (([] : List TSeg), ([] : List TCall), (0 : Int), (⟨CC f (IntKind.u32.wrap (nx1 f + P)) G 2 2 0, 0, gv, gve, sg0, false, 0⟩ : Tplay)) = _ from hl']
  simp only [Option.bind_some]
  rw [app_k _ _ (by omega), Option.bind_some]
  rw [loop_in (s' := (1, (⟨CC f (IntKind.u32.wrap (nx1 f + P)) G 126 32 6, now', gv, gve, sg0 ++ sg', true, 1⟩ : Tplay))) (by simp [clOf, idx]; decide), loop_out (r := (⟨CC f (IntKind.u32.wrap (nx1 f + P)) G 126 32 6, now', gv, gve, sg0 ++ sg', true, 1⟩ : Tplay)) (by simp [clOf])]
  rfl
theorem tick0 (f : Int) (now : Int) (hn : 0 ≤ now ∧ now ≤ 1000) : splice_Tick.f (CC f (IntKind.u32.wrap (nx1 f + 0)) [] 0 2 0) now = some (CC f (IntKind.u32.wrap (nx1 f + 0)) [] 0 2 0, [], [], false) := by
  unfold splice_Tick.f
  rw [begin_is _ _ (ckC f 0 [] 0 2 0 (by decide) (by simp) (by simp) (by decide) (by decide) (by decide)) hn.1 (by omega), Option.bind_some, Option.bind_some]
  have hat : (CC f (IntKind.u32.wrap (nx1 f + 0)) [] 0 2 0).At = 0 := rfl
  simp only [hat, Bool.not_true, Bool.false_eq_true, if_false, decide_true, if_true, Option.bind_some]
theorem do_ticks0 (f : Int) (z : TSeg) (t : TTell) (gv gve : List Int) (sg0 : List TSeg) (hs : sg0.length ≤ 1000) : ∃ p, law28_play_do.f ⟨CC f (IntKind.u32.wrap (nx1 f + 0)) [] 0 2 0, 0, gv, gve, sg0, false, 0⟩ ⟨2, z, t, 300⟩ = some p ∧ p.gone = false ∧ p.segs.length = sg0.length := by
  unfold law28_play_do.f
  have k0 : decide ((2 : Int) = 0) = false := by decide
  have k1 : decide ((2 : Int) = 1) = false := by decide
  refine ⟨⟨CC f (IntKind.u32.wrap (nx1 f + 0)) [] 0 2 0, 300, gv, gve, sg0, false, 0⟩, ?_, rfl, rfl⟩
  simp only [Bool.false_eq_true, if_false, k0, k1, lt]
  have hlp := loop_run (B := (fun s1 => ((if decide (s1.2.2.1 < ((⟨2,z,t,300⟩:TEv)).N) = true then some ((!s1.2.2.2.gone)) else some (false))).bind (fun j2 => (if j2 = true then lt (⟨s1.2.2.2.c, IntKind.i64.wrap (s1.2.2.2.now + 1), s1.2.2.2.given, s1.2.2.2.gave, s1.2.2.2.segs, s1.2.2.2.gone, s1.2.2.2.calls⟩ : Tplay) fun y5 => (splice_Tick.f y5.c y5.now).bind fun r3 => lt (⟨r3.1, y5.now, y5.given, y5.gave, y5.segs, r3.2.2.2, y5.calls⟩ : Tplay) fun y6 => (app s1.1 r3.2.1).bind fun x3 => (app s1.2.1 r3.2.2.1).bind fun x4 => lt (IntKind.i64.wrap (s1.2.2.1 + 1)) fun y7 => some (.inl (x3, x4, y7, y6)) else some (.inr ((s1.1, s1.2.1, s1.2.2.2))))))) (fun i => (([] : List TSeg), ([] : List TCall), (i : Int), (⟨CC f (IntKind.u32.wrap (nx1 f + 0)) [] 0 2 0, (i : Int), gv, gve, sg0, false, 0⟩ : Tplay))) 300 (fun i hi => by
    have c : ((i : Int) < 300) := by omega
    have ew : IntKind.i64.wrap ((i : Int) + 1) = ((i + 1 : Nat) : Int) := stepw hi (by omega)
    simp only [c, decide_true, if_true, Option.bind_some, Bool.not_false, lt, ew, tick0 f _ ⟨show (0 : Int) ≤ ((i + 1 : Nat) : Int) by omega, show ((i + 1 : Nat) : Int) ≤ 1000 by omega⟩]
    rw [app_k _ _ (by simp), Option.bind_some, app_k _ _ (by simp), Option.bind_some]
    rfl) (r := (([] : List TSeg), ([] : List TCall), (⟨CC f (IntKind.u32.wrap (nx1 f + 0)) [] 0 2 0, 300, gv, gve, sg0, false, 0⟩ : Tplay))) (by simp)
  simp only [lt] at hlp
  rw [show loop _ (([] : List TSeg), ([] : List TCall), (0 : Int), (⟨CC f (IntKind.u32.wrap (nx1 f + 0)) [] 0 2 0, 0, gv, gve, sg0, false, 0⟩ : Tplay)) = _ from hlp]
  simp only [Option.bind_some]
  rw [app_k _ _ (by simp; omega), Option.bind_some]
  rw [loop_out (r := (⟨CC f (IntKind.u32.wrap (nx1 f + 0)) [] 0 2 0, 300, gv, gve, sg0, false, 0⟩ : Tplay)) (by simp)]
  rfl
theorem spliceGivesUp (G : List Int) (gG : G.length ≤ maxLen ∧ ∀ z ∈ G, InR .u8 z) (f : Int) (hf : InR .u32 f) : law28_SpliceGivesUp.f G f = some true := by
  unfold law28_SpliceGivesUp.f
  by_cases c : 3000 < (G.length : Int)
  · simp [c, heads]
  have hG : G.length ≤ 3000 := by omega
  obtain ⟨sg, hb, hsg⟩ := begin_p f
  simp only [c, decide_false, Bool.false_eq_true, if_false]
  rw [hb, Option.bind_some]
  simp only [Bool.not_true, Bool.false_eq_true, if_false, Option.bind_some]
  have hd1 := do_take ⟨c1 f, 0, [], [], sg, false, 0⟩ rfl (SA f) zTell 0 _ [] false (take_ack f) (by show sg.length + 0 ≤ _; omega)
  show ((law28_play_do.f ⟨c1 f, 0, [], [], sg, false, 0⟩ ⟨0, SA f, zTell, 0⟩).bind _) = _
  rw [hd1, Option.bind_some]
  obtain ⟨P, sg2, hh, hP, hP0, hl2, he2⟩ := hear_data f G hG
  have hd2 := do_data ⟨CC f (nx1 f) [] 0 2 0, 0, [], [], sg ++ [], false, 0⟩ rfl rfl G hG zSeg 0 _ sg2 false hh (by show (sg ++ []).length + sg2.length ≤ _; simp; omega)
  rw [hd2, Option.bind_some]
  have hsl : (sg ++ [] ++ sg2).length ≤ 1000 := by simp; omega
  by_cases c0 : G.length = 0
  · have hG0 : G = [] := List.length_eq_zero_iff.1 c0
    subst hG0
    have hPz : P = 0 := by simpa using hP
    subst hPz
    obtain ⟨p, hp, hg, hls⟩ := do_ticks0 f zSeg zTell [] [] (sg ++ [] ++ sg2) hsl
    simp only [List.length_nil, if_true, lt]
    show ((law28_play_do.f ⟨CC f (IntKind.u32.wrap (nx1 f + 0)) [] 0 2 0, 0, [], [], sg ++ [] ++ sg2, false, 0⟩ ⟨2, zSeg, zTell, 300⟩).bind _) = _
    rw [hp, Option.bind_some]
    simp [hg, hls, heads]
  · obtain ⟨p, hp, hg, hcl, hls⟩ := do_ticks f P G (by omega) (by omega) hG zSeg zTell [] G (sg ++ [] ++ sg2) hsl
    simp only [c0, if_false, lt]
    rw [hp, Option.bind_some]
    have c0' : ¬ ((G.length : Int) = 0) := by omega
    have e1 : IntKind.i64.wrap (((sg ++ [] ++ sg2).length : Int) + 6) = ((sg ++ [] ++ sg2).length : Int) + 6 := i64w (by omega) (by omega)
    have e2 : IntKind.i64.wrap (((sg ++ [] ++ sg2).length : Int) + 6 + 1) = ((sg ++ [] ++ sg2).length : Int) + 6 + 1 := i64w (by omega) (by omega)
    rw [e1, e2, hls]
    have e3 : (((sg ++ [] ++ sg2).length + 7 : Nat) : Int) = ((sg ++ [] ++ sg2).length : Int) + 6 + 1 := by omega
    simp only [c0', decide_false, Bool.false_eq_true, if_false, hg, hcl, e3, decide_true, if_true, heads, Option.bind_some]
end Go.Proofs.Ytpcbhkigmnpimaa.S
