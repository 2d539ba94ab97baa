/- A connection that may be stays so, whatever the host tells and whatever ticks; each lemma states its own conditions. -/
import Derived.Test.YtpcbhkigmnpimaaPureSpliceInv
namespace Go.Proofs.Ytpcbhkigmnpimaa.S
open Go Go.SL
set_option linter.unusedVariables false
set_option linter.unusedSimpArgs false
variable {D : (Int → Int) → Prop}
theorem open_k (s : Tstep) (t : TTell) (h : Kc s.Conn) (hs : Sm s) : ∃ n s', splice_step_open.f s t = some (n, s') ∧ Kc s'.Conn ∧ Kr D s s' 1 0 := by
  unfold splice_step_open.f
  cases ho : s.Conn.Opening with
  | false => exact ⟨0, s, rfl, h, Kr.refl s 1 0⟩
  | true =>
    have hu : s.Conn.Up = false := by
      cases e : s.Conn.Up with
      | false => rfl
      | true => exact absurd (ho.symm.trans (h.up e).op) (by decide)
    have hf := h.fr hu
    obtain ⟨q1, q2, q3, q4⟩ := hf.op ho
    have hnw : 0 ≤ IntKind.i64.wrap (s.now + 2) ∧ IntKind.i64.wrap (s.now + 2) ≤ 1099511627776 := by
      have := hs.2.2
      rw [i64w (by omega) (by omega)]; omega
    have k : Kc ⟨s.Conn.Id, s.Conn.Guest, s.Conn.Gport, s.Conn.Remote, s.Conn.Rport, false, s.Conn.Up, s.Conn.Done, s.Conn.Begin, s.Conn.Una, IntKind.u32.wrap (s.Conn.Next + 1), s.Conn.Want, s.Conn.Win, s.Conn.Mss, s.Conn.ToHost, s.Conn.ToGuest, s.Conn.Early, s.Conn.Fin, s.Conn.Eof, s.Conn.Shut, IntKind.i64.wrap (s.now + 2), 2, s.Conn.Tries⟩ :=
      ⟨h.rg.put s.Conn.ToHost s.Conn.ToGuest s.Conn.Early h.rg.1 h.rg.2.1 h.rg.2.2.1 s.Conn.Win h.rg.2.2.2.2.2.1 _ 2 s.Conn.Tries hnw (by decide) h.rg.2.2.2.2.2.2.2.2.2.2 _ _ _ _ _ _ _ _ _, h.ear, fun e => absurd (hu.symm.trans e) (by decide), fun _ => ⟨hf.fin, hf.dn, hf.sh, hf.th, hf.ea, hf.un, fun e => (by cases e), fun _ => by
        show IntKind.u32.wrap (IntKind.u32.wrap (s.Conn.Next + 1) - s.Conn.Begin) = 1
        rw [q1, u32w', u32w']; omega⟩, h.un⟩
    simp only [if_true, lt, arm_is, Option.bind_some]
    obtain ⟨sg, hy, hk⟩ := syn_k ⟨⟨s.Conn.Id, s.Conn.Guest, s.Conn.Gport, s.Conn.Remote, s.Conn.Rport, false, s.Conn.Up, s.Conn.Done, s.Conn.Begin, s.Conn.Una, IntKind.u32.wrap (s.Conn.Next + 1), s.Conn.Want, s.Conn.Win, s.Conn.Mss, s.Conn.ToHost, s.Conn.ToGuest, s.Conn.Early, s.Conn.Fin, s.Conn.Eof, s.Conn.Shut, IntKind.i64.wrap (s.now + 2), 2, s.Conn.Tries⟩, s.now, s.segs, s.calls, s.gone⟩ (by have := hs.1; show s.segs.length ≤ _; omega)
    rw [hy]
    exact ⟨0, _, rfl, k, ⟨hk.gw, hk.ct, hk.now, hk.sg, hk.cl, hk.dt⟩⟩
/-- More may wait for the guest, of one that is open and not at its end. -/
theorem Kc.more {c : TConn} (h : Kc c) (ho : c.Opening = false) (tg : List Int) (h1 : c.ToGuest.length ≤ tg.length) (h2 : tg.length ≤ 4096) (he : c.Eof = false) : Kc { c with ToGuest := tg } :=
  ⟨h.rg.put c.ToHost tg c.Early h.rg.1 h2 h.rg.2.2.1 c.Win h.rg.2.2.2.2.2.1 c.At c.Wait c.Tries h.rg.2.2.2.2.2.2.2.2.1 h.rg.2.2.2.2.2.2.2.2.2.1 h.rg.2.2.2.2.2.2.2.2.2.2 _ _ _ _ _ _ _ _ _, h.ear, fun hu => ⟨(h.up hu).op, (h.up hu).sh, fun e => absurd (he.symm.trans ((h.up hu).dn e).1) (by decide), fun e => by
    have := (h.up hu).fl e
    show Fl c ≤ (tg.length : Int) + (if c.Eof = true then 1 else 0)
    omega⟩, fun hu => ⟨(h.fr hu).fin, (h.fr hu).dn, (h.fr hu).sh, (h.fr hu).th, (h.fr hu).ea, (h.fr hu).un, fun e => absurd (ho.symm.trans e) (by decide), (h.fr hu).nop⟩, h.un⟩
theorem Kc.eof {c : TConn} (h : Kc c) (ho : c.Opening = false) (he : c.Eof = false) : Kc { c with Eof := true } :=
  ⟨h.rg, h.ear, fun hu => ⟨(h.up hu).op, (h.up hu).sh, fun e => absurd (he.symm.trans ((h.up hu).dn e).1) (by decide), fun e => by
    have := (h.up hu).fl e
    show Fl c ≤ (c.ToGuest.length : Int) + (if true = true then 1 else 0)
    rw [he] at this
    simp at this ⊢
    omega⟩, fun hu => ⟨(h.fr hu).fin, (h.fr hu).dn, (h.fr hu).sh, (h.fr hu).th, (h.fr hu).ea, (h.fr hu).un, fun e => absurd (ho.symm.trans e) (by decide), (h.fr hu).nop⟩, h.un⟩
theorem Sgm.more {G : List Int} {f rp gp : Int} {x : TSeg} (h : Sgm G f rp gp x) (D : List Int) : Sgm (G ++ D) f rp gp x :=
  ⟨h.1, h.2.1, fun hl => by
    obtain ⟨i, a, b, c⟩ := h.2.2 hl
    refine ⟨i, a, by rw [List.length_append]; omega, ?_⟩
    rw [List.drop_append_of_le_length (by omega), List.take_append_of_le_length (by rw [List.length_drop]; omega)]; exact c⟩
theorem more_k (s : Tstep) (t : TTell) (ht : t.Data.length ≤ 5000) (h : Kc s.Conn) (hs : Sm s) : ∃ (n : Int) (s' : Tstep), splice_step_more.f s t = some (n, s') ∧ Kc s'.Conn ∧ s'.now = s.now ∧ s'.segs.length ≤ s.segs.length + 4 ∧ s'.calls.length ≤ s.calls.length ∧ ((∀ y ∈ s.calls, y.Data.length ≤ 4096) → ∀ y ∈ s'.calls, y.Data.length ≤ 4096) ∧ ((n = 0 ∧ ∀ G f rp gp, Cv G f rp gp s → Cv G f rp gp s') ∨ (0 ≤ n ∧ n ≤ t.Data.length ∧ ∀ G f rp gp, G.length ≤ 395000 → Cv G f rp gp s → Cv (G ++ t.Data.take n.toNat) f rp gp s')) ∧ (∀ V q0 g, Vp V → Gt V q0 g s → Gt V q0 g s') := by
  unfold splice_step_more.f
  have hG := h.rg.2.1
  cases ho : s.Conn.Opening with
  | true => exact ⟨0, s, rfl, h, rfl, by omega, by omega, fun h => h, .inl ⟨rfl, fun _ _ _ _ h => h⟩, fun _ _ _ _ h => h⟩
  | false =>
  cases he : s.Conn.Eof with
  | true => exact ⟨0, s, rfl, h, rfl, by omega, by omega, fun h => h, .inl ⟨rfl, fun _ _ _ _ h => h⟩, fun _ _ _ _ h => h⟩
  | false =>
  simp only [Bool.false_eq_true, if_false, Option.bind_some, least2]
  rw [i64w (by omega) (by omega)]
  obtain ⟨x, hx, hxl⟩ := cut_some t.Data 0 (min (t.Data.length : Int) (4096 - (s.Conn.ToGuest.length : Int))) (by omega) (by omega) (by omega)
  rw [hx, Option.bind_some, concat_is _ (by simp; omega) (by simp), Option.bind_some]
  simp only [lt]
  have k := h.more ho [s.Conn.ToGuest, x].flatten (by simp) (by simp; omega) he
  obtain ⟨s', q1, q2, q3, _⟩ := push_k (D := fun _ => True) ⟨{ s.Conn with ToGuest := [s.Conn.ToGuest, x].flatten }, s.now, s.segs, s.calls, s.gone⟩ k hs
  have q1' := q1
  dsimp only at q1'
  rw [ho, he] at q1'
  rw [q1']
  have hxe := cut_eq hx
  have hm0 : 0 ≤ min (t.Data.length : Int) (4096 - (s.Conn.ToGuest.length : Int)) ∧ min (t.Data.length : Int) (4096 - (s.Conn.ToGuest.length : Int)) ≤ t.Data.length := by omega
  generalize min (t.Data.length : Int) (4096 - (s.Conn.ToGuest.length : Int)) = m at *
  refine ⟨_, s', rfl, q2, q3.now, q3.sg, q3.cl, q3.dt, .inr ⟨by omega, by omega, fun G f rp gp hG hc => q3.ct _ _ _ _ ⟨⟨?_, hc.1.be, hc.1.rp, hc.1.gp, fun e => ?_, fun e e2 => ?_⟩, fun y hy => ?_⟩⟩, fun V q0 g hV hh => q3.gw V q0 g hV trivial hh⟩
  · rw [List.length_append, List.length_take]; omega
  · show [s.Conn.ToGuest, x].flatten = _
    rw [hxe, ← hc.1.fr e]; simp
  · obtain ⟨a, a1, a2, a3⟩ := hc.1.up e e2
    refine ⟨a, by rw [List.length_append]; omega, ?_, a3⟩
    show [s.Conn.ToGuest, x].flatten = _
    rw [List.drop_append_of_le_length a1, ← a2, hxe]; simp
  · exact (hc.2 y hy).more _
theorem eof_k (s : Tstep) (t : TTell) (h : Kc s.Conn) (hs : Sm s) : ∃ n s', splice_step_eof.f s t = some (n, s') ∧ Kc s'.Conn ∧ Kr D s s' 4 0 := by
  unfold splice_step_eof.f
  cases ho : s.Conn.Opening with
  | true => exact ⟨0, s, rfl, h, Kr.refl s 4 0⟩
  | false =>
  cases he : s.Conn.Eof with
  | true => exact ⟨0, s, rfl, h, Kr.refl s 4 0⟩
  | false =>
  have k := h.eof ho he
  obtain ⟨s', q1, q2, q3, _⟩ := push_k ⟨{ s.Conn with Eof := true }, s.now, s.segs, s.calls, s.gone⟩ k hs
  have q1' := q1
  dsimp only at q1'
  rw [ho] at q1'
  simp only [Bool.not_false, if_true, Option.bind_some, lt]
  rw [q1']
  exact ⟨_, s', rfl, q2, ⟨q3.gw, q3.ct, q3.now, q3.sg, q3.cl, q3.dt⟩⟩
theorem took_k (s : Tstep) (t : TTell) (h : Kc s.Conn) (hs : Sm s) (h9 : s.segs.length ≤ 900 ∧ s.calls.length ≤ 900) : ∃ n s', splice_step_took.f s t = some (n, s') ∧ Kc s'.Conn ∧ Kr D s s' 2 2 := by
  unfold splice_step_took.f
  have hT := h.rg.1
  simp only [lt]
  cases ho : s.Conn.Opening with
  | true => exact ⟨0, s, rfl, h, Kr.refl s 2 2⟩
  | false =>
  simp only [Bool.false_eq_true, if_false, Option.bind_some]
  by_cases c0 : min t.N (s.Conn.ToHost.length : Int) ≤ 0
  · simp only [c0, decide_true, if_true]; exact ⟨0, s, rfl, h, Kr.refl s 2 2⟩
  simp only [c0, decide_false, Bool.false_eq_true, if_false, room_is, Option.bind_some]
  generalize hy : min t.N (s.Conn.ToHost.length : Int) = y at *
  have hu : s.Conn.Up = true := by
    cases e : s.Conn.Up with
    | true => rfl
    | false => have := (h.fr e).th; omega
  have hup := h.up hu
  have hsh : s.Conn.Shut = false := by
    cases e : s.Conn.Shut with
    | false => rfl
    | true => have := (hup.sh e).2; omega
  obtain ⟨x1, hx1, hl1⟩ := cut_some s.Conn.ToHost 0 y (by omega) (by omega) (by omega)
  obtain ⟨x2, hx2, hl2⟩ := cut_some s.Conn.ToHost y (s.Conn.ToHost.length : Int) (by omega) (by omega) (by omega)
  have hx1e := cut_eq hx1
  have hx2e := cut_eq hx2
  obtain ⟨cl, hcl0⟩ : ∃ cl, cl = s.calls ++ [⟨2, s.Conn.Id, 0, 0, x1⟩] := ⟨_, rfl⟩
  have hc : splice_step_call.f s 2 x1 = some ⟨s.Conn, s.now, s.segs, cl, s.gone⟩ := by
    unfold splice_step_call.f
    rw [cloneB _ (by omega), Option.bind_some, app_k _ _ (by simp; omega), Option.bind_some, hcl0]
  rw [hx1, Option.bind_some, hc, Option.bind_some]
  dsimp only
  rw [hx2, Option.bind_some, cloneB _ (by omega), Option.bind_some]
  have k3 : Kc { s.Conn with ToHost := x2 } := ⟨h.rg.put x2 s.Conn.ToGuest s.Conn.Early (by omega) h.rg.2.1 h.rg.2.2.1 s.Conn.Win h.rg.2.2.2.2.2.1 s.Conn.At s.Conn.Wait s.Conn.Tries h.rg.2.2.2.2.2.2.2.2.1 h.rg.2.2.2.2.2.2.2.2.2.1 h.rg.2.2.2.2.2.2.2.2.2.2 _ _ _ _ _ _ _ _ _, fun z hz => by
    obtain ⟨e1, e2, e3⟩ := h.ear z hz
    refine ⟨e1, e2, ?_⟩
    show IntKind.u32.wrap (z.Seq - s.Conn.Want) + (z.Data.length : Int) + (x2.length : Int) ≤ 4096
    omega, fun _ => ⟨hup.op, fun e => absurd (hsh.symm.trans e) (by decide), hup.dn, hup.fl⟩, fun e => absurd (hu.symm.trans e) (by decide), h.un⟩
  obtain ⟨s4, h4, k4, u4, r4⟩ : ∃ s4, (if decide (max 0 (IntKind.i64.wrap (4096 - (s.Conn.ToHost.length : Int))) = 0) = true then (splice_step_ack.f ⟨{ s.Conn with ToHost := x2 }, s.now, s.segs, cl, s.gone⟩).bind fun r4 => some r4 else some (⟨{ s.Conn with ToHost := x2 }, s.now, s.segs, cl, s.gone⟩ : Tstep)) = some s4 ∧ Kc s4.Conn ∧ s4.Conn.Up = true ∧ Kr D ⟨{ s.Conn with ToHost := x2 }, s.now, s.segs, cl, s.gone⟩ s4 1 0 := by
    split
    · obtain ⟨sg, ha, hk2⟩ := ack_k ⟨{ s.Conn with ToHost := x2 }, s.now, s.segs, cl, s.gone⟩ (by show s.segs.length ≤ _; omega)
      rw [ha]
      exact ⟨_, rfl, k3, hu, hk2⟩
    · exact ⟨_, rfl, k3, hu, Kr.refl _ 1 0⟩
  have h4' := h4
  dsimp only at h4'
  rw [h4', Option.bind_some]
  have hcl : cl.length ≤ s.calls.length + 1 := by rw [hcl0]; simp
  have rc := r4.cl
  dsimp only at rc
  obtain ⟨s5, h5, k5, u5, r5, _⟩ := shut_k s4 k4 u4 (by omega)
  rw [h5, Option.bind_some]
  have r45 := r4.trans r5
  have r : Kr D s s5 2 2 := by
    have a0 := r45.ct
    have ag := r45.gw
    have a1 := r45.now
    have a2 := r45.sg
    have a3 := r45.cl
    dsimp only at a1 a2 a3
    refine ⟨fun V q0 g hV hD hh => ag V q0 g hV hD ?_, fun G f rp gp hc => a0 G f rp gp hc, a1, by omega, by omega, fun hh => r45.dt fun y hy => ?_⟩
    · unfold Gt at hh ⊢
      have e : g ++ wr cl ++ x2 = g ++ wr s.calls ++ s.Conn.ToHost := by
        have e1 : wr cl = wr s.calls ++ x1 := by rw [hcl0, wr_app]; simp [wr]
        have e2 : x1 ++ x2 = s.Conn.ToHost := by
          rw [hx1e, hx2e, List.take_of_length_le (l := s.Conn.ToHost.drop y.toNat) (by rw [List.length_drop]; omega)]
          simp
        rw [e1, List.append_assoc, List.append_assoc, e2, List.append_assoc]
      refine ⟨fun i z hz => hh.pf i z ?_, fun e3 => ?_, hh.ea⟩
      · have : (g ++ wr cl ++ x2)[i]? = some z := hz
        rw [e] at this; exact this
      · have h5 := hh.wt e3
        show (s.Conn.Want - q0 - 1 - ((g ++ wr cl ++ x2).length : Int)) % 4294967296 = 0
        rw [e]; exact h5
    · rw [hcl0] at hy
      rcases List.mem_append.1 hy with hy | hy
      · exact hh y hy
      · rw [List.mem_singleton.1 hy]; show x1.length ≤ 4096; omega
  split
  · exact ⟨_, _, rfl, k5, ⟨r.gw, r.ct, r.now, r.sg, r.cl, r.dt⟩⟩
  · exact ⟨_, _, rfl, k5, ⟨r.gw, r.ct, r.now, r.sg, r.cl, r.dt⟩⟩
/-- What the host gave by a telling. -/
def gain (t : TTell) (n : Int) : List Int := if t.Kind = 3 ∧ 0 ≤ n ∧ n ≤ t.Data.length then t.Data.take n.toNat else []
theorem hear_k (c : TConn) (h : Kc c) (now : Int) (hn : 0 ≤ now ∧ now ≤ 549755813888) (t : TTell) (ht : t.Data.length ≤ 5000) : ∃ c' sg cl n g, splice_Hear.f c now t = some (c', sg, cl, n, g) ∧ Kc c' ∧ sg.length ≤ 10 ∧ cl.length ≤ 10 ∧ (∀ y ∈ cl, y.Data.length ≤ 4096) ∧ (∀ G f rp gp, G.length ≤ 395000 → CvK G f rp gp c → CvK (G ++ gain t n) f rp gp c' ∧ CvS (G ++ gain t n) f rp gp sg) ∧ (∀ V q0 g, Vp V → Gc V q0 g c → Gc V q0 (g ++ wr cl) c') := by
  have hsm : Sm ⟨c, now, [], [], false⟩ := ⟨by simp, by simp, hn.1, hn.2⟩
  have fin : ∀ (n : Int) (s' : Tstep), (t.Kind = 3 → n = 0) → Kc s'.Conn → Kr (fun _ => True) ⟨c, now, [], [], false⟩ s' 4 2 → ∃ c' sg cl n' g, (some (s'.Conn, s'.segs, s'.calls, n, s'.gone) : Option (TConn × List TSeg × List TCall × Int × Bool)) = some (c', sg, cl, n', g) ∧ Kc c' ∧ sg.length ≤ 10 ∧ cl.length ≤ 10 ∧ (∀ y ∈ cl, y.Data.length ≤ 4096) ∧ (∀ G f rp gp, G.length ≤ 395000 → CvK G f rp gp c → CvK (G ++ gain t n') f rp gp c' ∧ CvS (G ++ gain t n') f rp gp sg) ∧ (∀ V q0 g, Vp V → Gc V q0 g c → Gc V q0 (g ++ wr cl) c') := fun n s' h3 k r => by
    have q1 := r.sg
    have q2 := r.cl
    simp at q1 q2
    refine ⟨_, _, _, _, _, rfl, k, by omega, by omega, r.dt (fun y hy => by cases hy), fun G f rp gp _ hc => ?_, fun V q0 g hV hh => r.gw V q0 g hV trivial (by unfold Gt; rw [show wr [] = [] from rfl, List.append_nil]; exact hh)⟩
    have e : gain t n = [] := by
      unfold gain
      split
      · rename_i e; rw [h3 e.1]; rfl
      · rfl
    rw [e, List.append_nil]
    exact r.ct G f rp gp ⟨hc, fun y hy => by cases hy⟩
  unfold splice_Hear.f
  rw [begin_is c now (kc_ck h) hn.1 hn.2, Option.bind_some]
  simp only [Bool.not_true, Bool.false_eq_true, if_false, lt, Option.bind_some]
  by_cases c1 : t.Kind = 1
  · simp only [c1, decide_true, if_true]
    obtain ⟨n, s', q1, q2, q3⟩ := open_k _ t h hsm
    rw [q1]
    exact fin n s' (by omega) q2 (q3.mono (by omega) (by omega))
  by_cases c2 : t.Kind = 2
  · have : ¬ ((2 : Int) = 1) := by decide
    simp only [c2, this, decide_true, decide_false, Bool.false_eq_true, if_false, if_true]
    unfold splice_step_reset.f
    obtain ⟨sg, hy, hk, _⟩ := say_k ⟨c, now, [], [], false⟩ c.Next 4 [] (by simp) (by simp) fun _ _ _ _ _ => Pc.nil _ _ _
    rw [hy]
    exact fin 0 ⟨c, now, sg, [], true⟩ (fun _ => rfl) h ⟨hk.gw, hk.ct, hk.now, by have := hk.sg; simp at this ⊢; omega, by simp, hk.dt⟩
  by_cases c3 : t.Kind = 3
  · have n1 : ¬ ((3 : Int) = 1) := by decide
    have n2 : ¬ ((3 : Int) = 2) := by decide
    simp only [c3, n1, n2, decide_true, decide_false, Bool.false_eq_true, if_false, if_true]
    obtain ⟨n, s', q1, q2, q3, q4, q5, q6, q7, q8⟩ := more_k _ t ht h hsm
    rw [q1]
    simp at q4 q5
    refine ⟨_, _, _, n, _, rfl, q2, by show s'.segs.length ≤ 10; omega, by simp [q5], q6 (fun y hy => by cases hy), fun G f rp gp hG hc => ?_, fun V q0 g hV hh => q8 V q0 g hV (by unfold Gt; rw [show wr [] = [] from rfl, List.append_nil]; exact hh)⟩
    rcases q7 with ⟨rfl, q7⟩ | ⟨n0, n1, q7⟩
    · have e : gain t 0 = [] := by unfold gain; split <;> rfl
      rw [e, List.append_nil]
      exact q7 G f rp gp ⟨hc, fun y hy => by cases hy⟩
    · have e : gain t n = t.Data.take n.toNat := if_pos ⟨c3, n0, n1⟩
      rw [e]
      exact q7 G f rp gp hG ⟨hc, fun y hy => by cases hy⟩
  by_cases c4 : t.Kind = 4
  · have n1 : ¬ ((4 : Int) = 1) := by decide
    have n2 : ¬ ((4 : Int) = 2) := by decide
    have n3 : ¬ ((4 : Int) = 3) := by decide
    simp only [c4, n1, n2, n3, decide_true, decide_false, Bool.false_eq_true, if_false, if_true]
    obtain ⟨n, s', q1, q2, q3⟩ := eof_k _ t h hsm
    rw [q1]
    exact fin n s' (by omega) q2 (q3.mono (by omega) (by omega))
  by_cases c5 : t.Kind = 5
  · have n1 : ¬ ((5 : Int) = 1) := by decide
    have n2 : ¬ ((5 : Int) = 2) := by decide
    have n3 : ¬ ((5 : Int) = 3) := by decide
    have n4 : ¬ ((5 : Int) = 4) := by decide
    simp only [c5, n1, n2, n3, n4, decide_true, decide_false, Bool.false_eq_true, if_false, if_true]
    obtain ⟨n, s', q1, q2, q3⟩ := took_k _ t h hsm (by simp)
    rw [q1]
    exact fin n s' (by omega) q2 (q3.mono (by omega) (by omega))
  simp only [c1, c2, c3, c4, c5, decide_false, Bool.false_eq_true, if_false]
  exact fin 0 ⟨c, now, [], [], false⟩ (fun _ => rfl) h (Kr.refl _ 4 2)
end Go.Proofs.Ytpcbhkigmnpimaa.S
