/- A connection that may be stays so, whatever comes; each lemma states its own conditions. -/
import Derived.Test.YtpcbhkigmnpimaaPureSplice
namespace Go.Proofs.Ytpcbhkigmnpimaa.S
open Go Go.SL
set_option linter.unusedVariables false
set_option linter.unusedSimpArgs false
theorem loop_exit {σ ρ τ : Type} {B : σ → Option (σ ⊕ ρ)} {s0 : σ} {K : ρ → Option τ} (G : Option τ → Prop) (I : Nat → σ → Prop) (Q : ρ → Prop) (N : Nat) (h0 : I 0 s0) (hs : ∀ i s, i < N → I i s → (∃ s', B s = some (.inl s') ∧ I (i + 1) s') ∨ (∃ r, B s = some (.inr r) ∧ Q r)) (hN : ∀ s, I N s → ∃ r, B s = some (.inr r) ∧ Q r) (hk : ∀ r, Q r → G (K r)) : G ((loop B s0).bind K) := by
  have key : ∀ k i s, i + k = N → I i s → ∃ r, loop B s = some r ∧ Q r := by
    intro k
    induction k with
    | zero =>
      intro i s hi h
      have e : i = N := by omega
      subst e
      obtain ⟨r, h1, h2⟩ := hN s h
      exact ⟨r, loop_out h1, h2⟩
    | succ k ih =>
      intro i s hi h
      rcases hs i s (by omega) h with ⟨s', h1, h2⟩ | ⟨r, h1, h2⟩
      · obtain ⟨r, h3, h4⟩ := ih (i + 1) s' (by omega) h2
        exact ⟨r, by rw [loop_in h1]; exact h3, h4⟩
      · exact ⟨r, loop_out h1, h2⟩
  obtain ⟨r, h1, h2⟩ := key N 0 s0 (by omega) h0
  rw [h1]
  exact hk r h2
def Fl (c : TConn) : Int := IntKind.u32.wrap (c.Next - c.Una)
structure UpP (c : TConn) : Prop where
  op : c.Opening = false
  sh : c.Shut = true → c.Fin = true ∧ c.ToHost.length = 0
  dn : c.Done = true → c.Eof = true ∧ c.ToGuest.length = 0 ∧ Fl c = 0
  fl : c.Done = false → Fl c ≤ (c.ToGuest.length : Int) + (if c.Eof = true then 1 else 0)
structure FshP (c : TConn) : Prop where
  fin : c.Fin = false
  dn : c.Done = false
  sh : c.Shut = false
  th : c.ToHost.length = 0
  ea : c.Early.length = 0
  un : c.Una = c.Begin
  op : c.Opening = true → c.Next = c.Begin ∧ c.Eof = false ∧ c.ToGuest.length = 0 ∧ c.At = 0
  nop : c.Opening = false → IntKind.u32.wrap (c.Next - c.Begin) = 1
def EarP (c : TConn) (x : TEarly) : Prop := 0 < x.Data.length ∧ 1 ≤ IntKind.u32.wrap (x.Seq - c.Want) ∧ IntKind.u32.wrap (x.Seq - c.Want) + x.Data.length + c.ToHost.length ≤ 4096
structure Kc (c : TConn) : Prop where
  rg : Rg c
  ear : ∀ x ∈ c.Early, EarP c x
  up : c.Up = true → UpP c
  fr : c.Up = false → FshP c
  un : 0 ≤ c.Una ∧ c.Una < 4294967296
theorem u32r (x : Int) : 0 ≤ IntKind.u32.wrap x ∧ IntKind.u32.wrap x < 4294967296 := by rw [u32w']; omega
theorem fl_r (c : TConn) : 0 ≤ Fl c ∧ Fl c < 4294967296 := u32r _
theorem kc_ck {c : TConn} (h : Kc c) : Ckc c = true := by
  unfold Ckc
  have hr := h.rg
  have h4 := h.rg.1
  have he : c.Early.any (odd c) = false := by
    rw [Bool.eq_false_iff]
    intro ha
    obtain ⟨x, hx, ho⟩ := List.any_eq_true.1 ha
    obtain ⟨e1, e2, e3⟩ := h.ear x hx
    unfold odd at ho
    have d1 : ¬ ((x.Data.length : Int) = 0) := by omega
    have d2 : ¬ (IntKind.u32.wrap (x.Seq - c.Want) < 1) := by omega
    have d3 : ¬ (IntKind.i64.wrap (max 0 (IntKind.i64.wrap (4096 - (c.ToHost.length : Int))) - (x.Data.length : Int)) < IntKind.u32.wrap (x.Seq - c.Want)) := by
      rw [i64w (x := 4096 - (c.ToHost.length : Int)) (by omega) (by omega), i64w (by omega) (by omega)]; omega
    simp only [d1, d2, d3, decide_false, Bool.or_false] at ho
    cases ho
  rw [decide_eq_true hr, he]
  cases hu : c.Up with
  | true =>
    obtain ⟨o1, o2, o3, o4⟩ := h.up hu
    simp only [Bool.not_false, Bool.true_and, if_true]
    unfold Upk
    have hsh : (c.Shut && (!c.Fin || decide (0 < c.ToHost.length))) = false := by
      cases hs : c.Shut with
      | false => rfl
      | true =>
        obtain ⟨a, b⟩ := o2 hs
        simp [a, b]
    rw [o1, hsh]
    cases hd : c.Done with
    | true =>
      obtain ⟨a, b, e⟩ := o3 hd
      have e' : IntKind.u32.wrap (c.Next - c.Una) = 0 := e
      simp [a, b, e']
    | false =>
      have e := o4 hd
      have e' : IntKind.u32.wrap (c.Next - c.Una) ≤ (c.ToGuest.length : Int) + (if c.Eof = true then 1 else 0) := e
      simp only [Bool.false_or, Bool.not_false, Bool.true_and, Bool.false_eq_true, if_false, decide_eq_true e']
  | false =>
    obtain ⟨f1, f2, f3, f4, f5, f6, f7, f8⟩ := h.fr hu
    simp only [Bool.not_false, Bool.true_and, Bool.false_eq_true, if_false]
    unfold Fsh
    rw [f1, f2, f3, f4, f5, f6]
    cases ho : c.Opening with
    | true =>
      obtain ⟨a, b, d, e⟩ := f7 ho
      simp [a, b, d, e]
    | false =>
      have := f8 ho
      simp [this]
theorem begin_is (c : TConn) (now : Int) (hck : Ckc c = true) (h0 : 0 ≤ now) (h1 : now ≤ 549755813888) : splice_begin.f c now = some (some ⟨c, now, [], [], false⟩, true) := by
  unfold splice_begin.f lt
  rw [check_is]
  simp [hck, h0, h1]
theorem cloneB (l : List Int) (h : l.length ≤ 100000) : slices_Clone_s_byte_byte.f l = some l := by
  unfold slices_Clone_s_byte_byte.f
  rw [app_k _ _ (by simp; omega)]; rfl
/-- Data in their place of what the host gave. -/
def Pc (G : List Int) (f q : Int) (d : List Int) : Prop := 0 < d.length → ∃ i : Nat, (q - f - 1) % 4294967296 = (i : Int) ∧ i + d.length ≤ G.length ∧ (G.drop i).take d.length = d
def Sgm (G : List Int) (f rp gp : Int) (x : TSeg) : Prop := x.Src = rp ∧ x.Dst = gp ∧ Pc G f x.Seq x.Data
/-- What waits for the guest is the end of what the host gave. -/
structure CvC (G : List Int) (f rp gp begin rport gport : Int) (up done : Bool) (una : Int) (tg : List Int) : Prop where
  gl : G.length ≤ 400000
  be : begin = f
  rp : rport = rp
  gp : gport = gp
  fr : up = false → tg = G
  up : up = true → done = false → ∃ a : Nat, a ≤ G.length ∧ tg = G.drop a ∧ (una - f - 1 - a) % 4294967296 = 0
def CvS (G : List Int) (f rp gp : Int) (l : List TSeg) : Prop := ∀ x ∈ l, Sgm G f rp gp x
def CvK (G : List Int) (f rp gp : Int) (c : TConn) : Prop := CvC G f rp gp c.Begin c.Rport c.Gport c.Up c.Done c.Una c.ToGuest
def Cv (G : List Int) (f rp gp : Int) (s : Tstep) : Prop := CvC G f rp gp s.Conn.Begin s.Conn.Rport s.Conn.Gport s.Conn.Up s.Conn.Done s.Conn.Una s.Conn.ToGuest ∧ CvS G f rp gp s.segs
theorem Pc.nil (G : List Int) (f q : Int) : Pc G f q [] := fun h => absurd h (by simp)
/-! What the host is given is a beginning of one stream. -/
def Vp (V : Int → Int) : Prop := ∀ a b : Int, (a - b) % 4294967296 = 0 → V a = V b
structure Gi (V : Int → Int) (q0 : Int) (g th : List Int) (want : Int) (ea : List TEarly) (fin : Bool) : Prop where
  pf : ∀ (i : Nat) (x : Int), (g ++ th)[i]? = some x → x = V (q0 + 1 + i)
  wt : fin = false → (want - q0 - 1 - ((g ++ th).length : Int)) % 4294967296 = 0
  ea : ∀ x ∈ ea, ∀ (i : Nat) (y : Int), x.Data[i]? = some y → y = V (x.Seq + i)
def wr (cl : List TCall) : List Int := (cl.map fun c => if c.Kind = 2 then c.Data else []).flatten
theorem wr_app (a b : List TCall) : wr (a ++ b) = wr a ++ wr b := by simp [wr]
def Gc (V : Int → Int) (q0 : Int) (g : List Int) (c : TConn) : Prop := Gi V q0 g c.ToHost c.Want c.Early c.Fin
def Gt (V : Int → Int) (q0 : Int) (g : List Int) (s : Tstep) : Prop := Gi V q0 (g ++ wr s.calls) s.Conn.ToHost s.Conn.Want s.Conn.Early s.Conn.Fin
/-- A segment's data are the stream's. -/
def Dx (x : TSeg) (V : Int → Int) : Prop := ∀ (i : Nat) (y : Int), x.Data[i]? = some y → y = V (x.Seq + i)
variable {D : (Int → Int) → Prop}
/-- What a step has beside its connection. -/
structure Kr (D : (Int → Int) → Prop) (s s' : Tstep) (n m : Nat) : Prop where
  gw : ∀ V q0 g, Vp V → D V → Gt V q0 g s → Gt V q0 g s'
  ct : ∀ G f rp gp, Cv G f rp gp s → Cv G f rp gp s'
  now : s'.now = s.now
  sg : s'.segs.length ≤ s.segs.length + n
  cl : s'.calls.length ≤ s.calls.length + m
  dt : (∀ y ∈ s.calls, y.Data.length ≤ 4096) → ∀ y ∈ s'.calls, y.Data.length ≤ 4096
theorem Kr.refl (s : Tstep) (n m : Nat) : Kr D s s n m := ⟨fun _ _ _ _ _ h => h, fun _ _ _ _ h => h, rfl, by omega, by omega, fun h => h⟩
theorem Kr.trans {s s' s'' : Tstep} {n m n' m' : Nat} (a : Kr D s s' n m) (b : Kr D s' s'' n' m') : Kr D s s'' (n + n') (m + m') := ⟨fun V q0 g hV hD h => b.gw V q0 g hV hD (a.gw V q0 g hV hD h), fun G f rp gp h => b.ct G f rp gp (a.ct G f rp gp h), b.now.trans a.now, by have := a.sg; have := b.sg; omega, by have := a.cl; have := b.cl; omega, fun h => b.dt (a.dt h)⟩
theorem Kr.mono {s s' : Tstep} {n m n' m' : Nat} (a : Kr D s s' n m) (hn : n ≤ n') (hm : m ≤ m') : Kr D s s' n' m' := ⟨a.gw, a.ct, a.now, by have := a.sg; omega, by have := a.cl; omega, a.dt⟩
def Sm (s : Tstep) : Prop := s.segs.length ≤ 1000 ∧ s.calls.length ≤ 1000 ∧ 0 ≤ s.now ∧ s.now ≤ 549755813888
theorem say_is (s : Tstep) (q fl : Int) (d : List Int) (hd : d.length ≤ 100000) (hs : s.segs.length ≤ 100000) : splice_step_say.f s q fl d = some ⟨s.Conn, s.now, s.segs ++ [⟨s.Conn.Rport, s.Conn.Gport, q, s.Conn.Want, bits .or .i64 16 fl, max 0 (IntKind.i64.wrap (4096 - (s.Conn.ToHost.length : Int))), 0, d⟩], s.calls, s.gone⟩ := by
  unfold splice_step_say.f
  rw [room_is, Option.bind_some, cloneB _ hd, Option.bind_some, app_k _ _ (by simp; omega), Option.bind_some]
theorem say_k (s : Tstep) (q fl : Int) (d : List Int) (hd : d.length ≤ 100000) (hs : s.segs.length ≤ 100000) (hp : ∀ G f rp gp, Cv G f rp gp s → Pc G f q d) : ∃ sg, splice_step_say.f s q fl d = some ⟨s.Conn, s.now, sg, s.calls, s.gone⟩ ∧ Kr D s ⟨s.Conn, s.now, sg, s.calls, s.gone⟩ 1 0 ∧ sg.length = s.segs.length + 1 :=
  ⟨_, say_is s q fl d hd hs, ⟨fun _ _ _ _ _ h => h, fun G f rp gp hc => ⟨hc.1, fun y hy => (List.mem_append.1 hy).elim (hc.2 y) fun hy => by rw [List.mem_singleton.1 hy]; exact ⟨hc.1.rp, hc.1.gp, hp G f rp gp hc⟩⟩, rfl, by simp, by simp, fun h => h⟩, by simp⟩
theorem ack_k (s : Tstep) (hs : s.segs.length ≤ 100000) : ∃ sg, splice_step_ack.f s = some ⟨s.Conn, s.now, sg, s.calls, s.gone⟩ ∧ Kr D s ⟨s.Conn, s.now, sg, s.calls, s.gone⟩ 1 0 := by
  obtain ⟨sg, h1, h2, _⟩ := say_k s s.Conn.Next 0 [] (by simp) hs fun _ _ _ _ _ => Pc.nil _ _ _
  unfold splice_step_ack.f
  rw [h1]
  exact ⟨sg, rfl, h2⟩
theorem syn_k (s : Tstep) (hs : s.segs.length ≤ 10000) : ∃ sg, splice_step_syn.f s = some ⟨s.Conn, s.now, sg, s.calls, s.gone⟩ ∧ Kr D s ⟨s.Conn, s.now, sg, s.calls, s.gone⟩ 1 0 := by
  unfold splice_step_syn.f
  rw [say_is _ _ _ _ (by simp) (by omega), Option.bind_some]
  generalize hx : (⟨s.Conn.Rport, s.Conn.Gport, s.Conn.Begin, s.Conn.Want, bits .or .i64 16 2, max 0 (IntKind.i64.wrap (4096 - (s.Conn.ToHost.length : Int))), 0, []⟩ : TSeg) = x
  have e : IntKind.i64.wrap (((s.segs ++ [x]).length : Int) - 1) = (s.segs.length : Int) := by
    have hl : (s.segs ++ [x]).length = s.segs.length + 1 := by simp
    rw [i64w (by omega) (by omega)]; omega
  dsimp only
  rw [e, ix (s.segs ++ [x]) s.segs.length (by simp), Option.bind_some]
  refine ⟨_, rfl, ⟨fun _ _ _ _ _ h => h, fun G f rp gp hc => ⟨hc.1, fun y hy => ?_⟩, rfl, by simp [lt], by simp [lt], fun h => h⟩⟩
  rcases List.mem_or_eq_of_mem_set hy with hy | hy
  · refine (List.mem_append.1 hy).elim (hc.2 y) fun hy => ?_
    rw [List.mem_singleton.1 hy, ← hx]
    exact ⟨hc.1.rp, hc.1.gp, Pc.nil _ _ _⟩
  · rw [hy]
    have e2 : (s.segs ++ [x])[s.segs.length]'(by simp) = x := by simp
    rw [e2, ← hx]
    exact ⟨hc.1.rp, hc.1.gp, Pc.nil _ _ _⟩
theorem call_k (s : Tstep) (k : Int) (d : List Int) (hd : d.length ≤ 4096) (hs : s.calls.length ≤ 10000) (h2 : k ≠ 2) : ∃ cl, splice_step_call.f s k d = some ⟨s.Conn, s.now, s.segs, cl, s.gone⟩ ∧ Kr D s ⟨s.Conn, s.now, s.segs, cl, s.gone⟩ 0 1 := by
  unfold splice_step_call.f
  rw [cloneB _ (by omega), Option.bind_some, app_k _ _ (by simp; omega), Option.bind_some]
  refine ⟨_, rfl, ⟨fun V q0 g hV hD hh => ?_, fun _ _ _ _ hc => hc, rfl, by simp, by simp, fun h y hy => ?_⟩⟩
  · unfold Gt at hh ⊢
    have e : wr (s.calls ++ [⟨k, s.Conn.Id, 0, 0, d⟩]) = wr s.calls := by rw [wr_app]; simp [wr, h2]
    dsimp only
    rw [e]; exact hh
  rcases List.mem_append.1 hy with hy | hy
  · exact h y hy
  · rw [List.mem_singleton.1 hy]; exact hd
theorem arm_is (s : Tstep) : splice_step_arm.f s = some ⟨{ s.Conn with Wait := 2, At := IntKind.i64.wrap (s.now + 2) }, s.now, s.segs, s.calls, s.gone⟩ := rfl
theorem rg_time {c : TConn} (h : Rg c) (a w t : Int) (ha : 0 ≤ a ∧ a ≤ 1099511627776) (hw : 0 ≤ w ∧ w ≤ 32) (ht : 0 ≤ t ∧ t ≤ 6) : Rg { c with At := a, Wait := w, Tries := t } :=
  ⟨h.1, h.2.1, h.2.2.1, h.2.2.2.1, h.2.2.2.2.1, h.2.2.2.2.2.1, h.2.2.2.2.2.2.1, h.2.2.2.2.2.2.2.1, ha, hw, ht⟩
/-- Times may turn, of one that is open. -/
theorem Kc.time {c : TConn} (h : Kc c) (ho : c.Opening = false) (a w t : Int) (ha : 0 ≤ a ∧ a ≤ 1099511627776) (hw : 0 ≤ w ∧ w ≤ 32) (ht : 0 ≤ t ∧ t ≤ 6) : Kc { c with At := a, Wait := w, Tries := t } :=
  ⟨rg_time h.rg a w t ha hw ht, h.ear, fun hu => ⟨(h.up hu).op, (h.up hu).sh, (h.up hu).dn, (h.up hu).fl⟩, fun hu => ⟨(h.fr hu).fin, (h.fr hu).dn, (h.fr hu).sh, (h.fr hu).th, (h.fr hu).ea, (h.fr hu).un, fun x => absurd (ho.symm.trans x) (by decide), (h.fr hu).nop⟩, h.un⟩
theorem arm_k {s : Tstep} (h : Kc s.Conn) (ho : s.Conn.Opening = false) (hn : 0 ≤ s.now ∧ s.now ≤ 549755813888) : Kc ({ s.Conn with Wait := 2, At := IntKind.i64.wrap (s.now + 2) } : TConn) :=
  h.time ho _ 2 _ (by rw [i64w (by omega) (by omega)]; omega) (by decide) h.rg.2.2.2.2.2.2.2.2.2.2
/-- The next number may turn, of one that is up and not done. -/
theorem Kc.next {c : TConn} (h : Kc c) (hu : c.Up = true) (hd : c.Done = false) (n : Int) (hn : IntKind.u32.wrap (n - c.Una) ≤ (c.ToGuest.length : Int) + (if c.Eof = true then 1 else 0)) : Kc { c with Next := n } :=
  ⟨h.rg, h.ear, fun _ => ⟨(h.up hu).op, (h.up hu).sh, fun x => absurd (hd.symm.trans x) (by decide), fun _ => hn⟩, fun x => absurd (hu.symm.trans x) (by decide), h.un⟩
theorem flown_is (s : Tstep) : splice_step_flown.f s = some (Fl s.Conn) := rfl
theorem least2 (a b : Int) : splice_least_int.f [a, b] = some (min a b) := splice_least_int.le 10 _ _ (by kernel_rfl)
theorem least3 (a b c : Int) : splice_least_int.f [a, b, c] = some (min (min a b) c) := splice_least_int.le 10 _ _ (by kernel_rfl)
theorem cut_some (l : List Int) (a b : Int) (h0 : 0 ≤ a) (h1 : a ≤ b) (h2 : b ≤ l.length) : ∃ x, cut l a b = some x ∧ x.length = (b - a).toNat := by
  unfold cut
  rw [if_pos ⟨h0, h1, h2⟩]
  refine ⟨_, rfl, ?_⟩
  rw [List.length_drop, List.length_take]; omega
theorem cut_eq {l x : List Int} {a b : Int} (h : cut l a b = some x) : x = (l.drop a.toNat).take (b - a).toNat := by
  obtain ⟨h1, h2, h3, h4⟩ := cut_spec h
  rw [h4, List.drop_take]; congr 1; omega
/-- What is cut of what waits, in its place. -/
theorem piece {G : List Int} {f rp gp : Int} {s : Tstep} (hc : Cv G f rp gp s) (hu : s.Conn.Up = true) (hd : s.Conn.Done = false) (hU : 0 ≤ s.Conn.Una ∧ s.Conn.Una < 4294967296) (lo hi q : Int) (x : List Int) (hx : cut s.Conn.ToGuest lo hi = some x) (hq : (q - s.Conn.Una - lo) % 4294967296 = 0) : Pc G f q x := by
  intro hl
  obtain ⟨h1, h2, h3, _⟩ := cut_spec hx
  have he := cut_eq hx
  obtain ⟨a, a1, a2, a3⟩ := hc.1.up hu hd
  have hg := hc.1.gl
  have hlen : x.length = (hi - lo).toNat := by rw [he, List.length_take, List.length_drop]; omega
  have htl : s.Conn.ToGuest.length = G.length - a := by rw [a2, List.length_drop]
  refine ⟨a + lo.toNat, by omega, by omega, ?_⟩
  rw [hlen, ← List.drop_drop, ← a2]; exact he.symm
theorem push_k (s : Tstep) (h : Kc s.Conn) (hs : Sm s) : ∃ s', splice_step_push.f s = some s' ∧ Kc s'.Conn ∧ Kr D s s' 4 0 ∧ s'.calls = s.calls ∧ s'.gone = s.gone := by
  unfold splice_step_push.f
  cases hu : s.Conn.Up with
  | false => simp only [Bool.not_false, if_true, Option.bind_some]; exact ⟨s, rfl, h, Kr.refl s 4 0, rfl, rfl⟩
  | true =>
  cases hd : s.Conn.Done with
  | true => simp only [Bool.not_true, Bool.false_eq_true, if_false, if_true, Option.bind_some]; exact ⟨s, rfl, h, Kr.refl s 4 0, rfl, rfl⟩
  | false =>
  simp only [Bool.not_true, Bool.false_eq_true, if_false, Option.bind_some]
  have key : ∀ (o : Option Tstep), (∃ s', o = some s' ∧ Kc s'.Conn ∧ s'.Conn.Up = true ∧ Kr D s s' 4 0 ∧ s'.calls = s.calls ∧ s'.gone = s.gone) → ∃ s', (o.bind fun j10 => ((if decide (j10.Conn.At = 0) = true then (splice_step_flown.f j10).bind fun r5 => (if decide (0 < r5) = true then some (true) else some (decide (0 < (j10.Conn.ToGuest.length : Int)))) else some (false))).bind (fun j11 => (if j11 = true then (splice_step_arm.f j10).bind fun r6 => some (r6) else some (j10)))) = some s' ∧ Kc s'.Conn ∧ Kr D s s' 4 0 ∧ s'.calls = s.calls ∧ s'.gone = s.gone := by
    rintro o ⟨s', rfl, k1, k2, k3, k4, k5⟩
    rw [Option.bind_some]
    obtain ⟨j, hj⟩ : ∃ j, (if decide (s'.Conn.At = 0) = true then (splice_step_flown.f s').bind fun r5 => (if decide (0 < r5) = true then some (true) else some (decide (0 < (s'.Conn.ToGuest.length : Int)))) else some (false)) = some j := by
      split
      · rw [flown_is, Option.bind_some]; split <;> exact ⟨_, rfl⟩
      · exact ⟨_, rfl⟩
    rw [hj, Option.bind_some]
    cases j with
    | false => exact ⟨s', rfl, k1, k3, k4, k5⟩
    | true =>
      rw [if_pos rfl, arm_is]
      exact ⟨_, rfl, arm_k k1 (k1.up k2).op (by rw [k3.now]; exact ⟨hs.2.2.1, hs.2.2.2⟩), ⟨k3.gw, k3.ct, k3.now, k3.sg, k3.cl, k3.dt⟩, k4, k5⟩
  refine key _ ?_
  refine loop_exit (fun o => ∃ s', o = some s' ∧ Kc s'.Conn ∧ s'.Conn.Up = true ∧ Kr D s s' 4 0 ∧ s'.calls = s.calls ∧ s'.gone = s.gone) (fun (i : Nat) (z : Int × Tstep) => z.1 = (i : Int) ∧ Kc z.2.Conn ∧ z.2.Conn.Up = true ∧ z.2.Conn.Done = false ∧ Kr D s z.2 i 0 ∧ z.2.calls = s.calls ∧ z.2.gone = s.gone) (fun z => Kc z.Conn ∧ z.Conn.Up = true ∧ Kr D s z 4 0 ∧ z.calls = s.calls ∧ z.gone = s.gone) 4 ?_ ?_ ?_ ?_
  · exact ⟨rfl, h, hu, hd, Kr.refl s 0 0, rfl, rfl⟩
  · rintro i ⟨i', z⟩ hi ⟨q0, q1, q2, q3, q4, q5, q6⟩
    dsimp only at q0 q1 q2 q3 q4 q5 q6
    subst q0
    have hi4 : (i : Int) < 4 := by omega
    have hG := q1.rg.2.1
    have hM := q1.rg.2.2.2.2.2.2.2.1
    have hW : 0 ≤ z.Conn.Win ∧ z.Conn.Win < 65536 := by
      have := q1.rg.2.2.2.2.2.1
      unfold ishr at this
      rw [show (2 : Int) ^ min (16 : Int).toNat IntKind.i64.bits = 65536 by decide] at this
      omega
    have hfl := (q1.up q2).fl q3
    have hf0 := fl_r z.Conn
    have hsg := q4.sg
    have hs1 := hs.1
    have hb : (if z.Conn.Eof = true then (1 : Int) else 0) ≤ 1 := by split <;> omega
    simp only [hi4, decide_true, if_true, flown_is, Option.bind_some, lt, least3]
    rw [i64w (x := (z.Conn.ToGuest.length : Int) - Fl z.Conn) (by omega) (by omega), i64w (x := z.Conn.Win - Fl z.Conn) (by omega) (by omega)]
    have done : (∃ r, (some (Sum.inr z) : Option ((Int × Tstep) ⊕ Tstep)) = some (.inr r) ∧ (Kc r.Conn ∧ r.Conn.Up = true ∧ Kr D s r 4 0 ∧ r.calls = s.calls ∧ r.gone = s.gone)) := ⟨z, rfl, q1, q2, q4.mono (by omega) (by omega), q5, q6⟩
    by_cases c1 : (z.Conn.ToGuest.length : Int) - Fl z.Conn < 0
    · right
      simp only [c1, decide_true, if_true, Option.bind_some, Sum.elim_inl]
      exact done
    · by_cases c2 : 0 < min (min ((z.Conn.ToGuest.length : Int) - Fl z.Conn) z.Conn.Mss) (z.Conn.Win - Fl z.Conn)
      · left
        obtain ⟨r, hr⟩ : ∃ r, min (min ((z.Conn.ToGuest.length : Int) - Fl z.Conn) z.Conn.Mss) (z.Conn.Win - Fl z.Conn) = r := ⟨_, rfl⟩
        have hr1 : 0 < r ∧ r ≤ (z.Conn.ToGuest.length : Int) - Fl z.Conn := by omega
        obtain ⟨x, hx, hxl⟩ := cut_some z.Conn.ToGuest (Fl z.Conn) (Fl z.Conn + r) (by omega) (by omega) (by omega)
        have hw : IntKind.i64.wrap (Fl z.Conn + r) = Fl z.Conn + r := i64w (by omega) (by omega)
        obtain ⟨sg, hy, hk, _⟩ := say_k z z.Conn.Next 8 x (by omega) (by omega) fun G f rp gp hc => piece hc q2 q3 q1.un _ _ _ x hx (by
          have hfe : Fl z.Conn = (z.Conn.Next - z.Conn.Una) % 4294967296 := u32w' _
          omega)
        rw [hr] at c2 ⊢
        simp only [c1, c2, decide_true, decide_false, Bool.false_eq_true, if_false, if_true, hw, hx, hy, Option.bind_some, Sum.elim_inr]
        rw [stepw hi (by omega)]
        refine ⟨_, rfl, rfl, ?_, q2, q3, ?_, q5, q6⟩
        · refine q1.next q2 q3 _ ?_
          have e : IntKind.u32.wrap (IntKind.u32.wrap (z.Conn.Next + IntKind.u32.wrap r) - z.Conn.Una) = Fl z.Conn + r := by
            have hfe : Fl z.Conn = (z.Conn.Next - z.Conn.Una) % 4294967296 := u32w' _
            rw [u32w', u32w', u32w']; omega
          rw [e]; split <;> omega
        · have hq := q4.trans hk
          exact ⟨hq.gw, hq.ct, hq.now, hq.sg, hq.cl, hq.dt⟩
      · by_cases c3 : (z.Conn.ToGuest.length : Int) - Fl z.Conn = 0
        · cases he : z.Conn.Eof with
          | true =>
            left
            obtain ⟨sg, hy, hk, _⟩ := say_k z z.Conn.Next 1 [] (by simp) (by omega) fun _ _ _ _ _ => Pc.nil _ _ _
            simp only [c1, c2, decide_true, decide_false, Bool.false_eq_true, if_false, if_true, he, Option.bind_some]
            simp only [c3, decide_true, if_true, hy, Option.bind_some, Sum.elim_inr]
            rw [stepw hi (by omega)]
            refine ⟨_, rfl, rfl, ?_, q2, q3, ?_, q5, q6⟩
            · have := q1.next q2 q3 (IntKind.u32.wrap (z.Conn.Next + 1)) (by
                have e : IntKind.u32.wrap (IntKind.u32.wrap (z.Conn.Next + 1) - z.Conn.Una) = Fl z.Conn + 1 := by
                  have hfe : Fl z.Conn = (z.Conn.Next - z.Conn.Una) % 4294967296 := u32w' _
                  rw [u32w', u32w']; omega
                rw [e, he]; simp; omega)
              exact this
            · have hq := q4.trans hk
              exact ⟨hq.gw, hq.ct, hq.now, hq.sg, hq.cl, hq.dt⟩
          | false =>
            right
            simp only [c1, c2, decide_true, decide_false, Bool.false_eq_true, if_false, if_true, he, Option.bind_some]
            simp only [c3, decide_true, if_true, Option.bind_some, Sum.elim_inl, Bool.false_eq_true, if_false]
            exact done
        · right
          simp only [c1, c2, c3, decide_true, decide_false, Bool.false_eq_true, if_false, if_true, Option.bind_some, Sum.elim_inl]
          exact done
  · rintro ⟨i', z⟩ ⟨q0, q1, q2, q3, q4, q5, q6⟩
    dsimp only at q0 q1 q2 q3 q4 q5 q6
    subst q0
    have hi4 : ¬ (((4 : Nat) : Int) < 4) := by decide
    simp only [hi4, decide_false, Bool.false_eq_true, if_false]
    exact ⟨z, rfl, q1, q2, q4, q5, q6⟩
  · rintro z ⟨k1, k2, k3, k4, k5⟩
    exact ⟨z, rfl, k1, k2, k3, k4, k5⟩
/-- Does what waits still lie ahead? -/
def keep (s : Tstep) (x : TEarly) : Bool := decide (0 < IntKind.i32.wrap (IntKind.u32.wrap (IntKind.u32.wrap (x.Seq + IntKind.u32.wrap (x.Data.length : Int)) - s.Conn.Want)))
theorem past_is (x : TEarly) (s : Tstep) : splice_step_past.f s x = some (!keep s x) := rfl
theorem cut_take' {α : Type} (l : List α) (i : Int) (h0 : 0 ≤ i) (h1 : i ≤ l.length) : cut l 0 i = some (l.take i.toNat) := by
  unfold cut
  rw [if_pos ⟨by omega, h0, h1⟩]
  simp
theorem filter_take_succ {α : Type} (f : α → Bool) (l : List α) (n : Nat) (h : n < l.length) : (l.take (n + 1)).filter f = (l.take n).filter f ++ (if f l[n] then [l[n]] else []) := by
  rw [List.take_succ_eq_append_getElem h, List.filter_append]
  cases c : f l[n] <;> simp [c]
theorem deleteFunc_is (l : List TEarly) (s : Tstep) (hl : l.length ≤ 100000) : slices_DeleteFunc_s_api_Early_api_Early_at_splice_step_past.f l s = some (l.filter (keep s), s) := by
  unfold slices_DeleteFunc_s_api_Early_api_Early_at_splice_step_past.f slices_IndexFunc_s_api_Early_api_Early_at_splice_step_past.f
  obtain ⟨k, hk, h1, h2, hlp⟩ := find_run (B := fun s1 : Int => (if decide (s1 < (l.length : Int)) = true then (idx l s1).bind fun x1 => (splice_step_past.f s x1).bind fun r1 => (if r1 = true then some (.inr (.inr (s1))) else some (.inl (IntKind.i64.wrap (s1 + 1)))) else some (.inr (.inl (())))))
    (fun i => if h : i < l.length then !keep s l[i] else false) l.length (fun i => (i : Int)) (fun i => if i < l.length then (.inr (i : Int) : Unit ⊕ Int) else .inl ())
    (fun i hi hf => by
      rw [dif_pos hi] at hf
      have c : ((i : Int) < (l.length : Int)) := by omega
      simp only [c, decide_true, if_true, ix l i hi, Option.bind_some, past_is, hf, Bool.false_eq_true, if_false]
      rw [stepw hi (by omega)])
    (fun i hi hf => by
      rw [dif_pos hi] at hf
      have c : ((i : Int) < (l.length : Int)) := by omega
      simp only [c, decide_true, if_true, ix l i hi, Option.bind_some, past_is, hf]
      rw [if_pos hi])
    (by simp)
  rw [show loop _ (0 : Int) = _ from hlp, Option.bind_some]
  have hall : ∀ i (h : i < l.length), i < k → keep s l[i] = true := fun i h hi => by
    have := h1 i hi
    rw [dif_pos h] at this
    simpa using this
  by_cases c : k < l.length
  · rw [if_pos c]
    have hkk := h2 c
    rw [dif_pos c] at hkk
    have hkk' : keep s l[k] = false := by simpa using hkk
    simp only [Sum.elim_inr, Option.bind_some]
    have c1 : ¬ ((k : Int) = -1) := by omega
    rw [if_neg (by simp)]
    simp only [lt]
    have hf0 : (l.take k).filter (keep s) = l.take k := List.filter_eq_self.2 fun x hx => by
      obtain ⟨i, hi, rfl⟩ := List.getElem_of_mem hx
      rw [List.getElem_take]
      rw [List.length_take] at hi
      exact hall i (by omega) (by omega)
    have e1 : IntKind.i64.wrap ((k : Int) + 1) = ((k + 1 : Nat) : Int) := stepw c (by omega)
    rw [e1]
    refine loop_bind_inv (fun o => o = some (l.filter (keep s), s)) (fun (i : Nat) (q : List TEarly × Int × Int) => q.1.length = l.length ∧ q.2.2 = ((k + 1 + i : Nat) : Int) ∧ q.2.1 = (((l.take (k + 1 + i)).filter (keep s)).length : Int) ∧ q.1.take ((l.take (k + 1 + i)).filter (keep s)).length = (l.take (k + 1 + i)).filter (keep s) ∧ q.1.drop (k + 1 + i) = l.drop (k + 1 + i)) (fun (r : List TEarly × Int) => r.1.length = l.length ∧ r.2 = ((l.filter (keep s)).length : Int) ∧ r.1.take (l.filter (keep s)).length = l.filter (keep s)) (l.length - (k + 1)) ?_ ?_ ?_ ?_
    · have e2 : (l.take (k + 1)).filter (keep s) = l.take k := by rw [filter_take_succ _ _ _ c, hf0, hkk']; simp
      refine ⟨rfl, by simp, ?_, ?_, ?_⟩
      · show (k : Int) = _
        rw [Nat.add_zero, e2, List.length_take]; congr 1; omega
      · rw [Nat.add_zero, e2, List.length_take, show min k l.length = k by omega]
      · rfl
    · rintro i ⟨arr, w, j⟩ hi ⟨q1, q2, q3, q4, q5⟩
      dsimp only at q1 q2 q3 q4 q5
      subst q2 q3
      have hj : k + 1 + i < l.length := by omega
      have hja : k + 1 + i < arr.length := by omega
      have hel : arr[k + 1 + i] = l[k + 1 + i] := by
        have := congrArg (fun z => z[0]?) q5
        simp only [List.getElem?_drop, Nat.add_zero] at this
        rw [List.getElem?_eq_getElem hja, List.getElem?_eq_getElem hj] at this
        exact Option.some.inj this
      have hfl : ((l.take (k + 1 + i)).filter (keep s)).length ≤ k + 1 + i := Nat.le_trans (List.length_filter_le _ _) (by simp; omega)
      have c2 : (((k + 1 + i : Nat) : Int) < (arr.length : Int)) := by omega
      have e3 : IntKind.i64.wrap (((k + 1 + i : Nat) : Int) + 1) = ((k + 1 + (i + 1) : Nat) : Int) := stepw hj (by omega)
      have hfs := filter_take_succ (keep s) l (k + 1 + i) hj
      simp only [c2, decide_true, if_true, ix arr _ hja, Option.bind_some, past_is, hel, Bool.not_not, e3]
      cases hkp : keep s l[k + 1 + i] with
      | false =>
        simp only [Bool.false_eq_true, if_false, Option.bind_some]
        have e4 : (l.take (k + 1 + (i + 1))).filter (keep s) = (l.take (k + 1 + i)).filter (keep s) := by rw [show k + 1 + (i + 1) = k + 1 + i + 1 by omega, hfs, hkp]; simp
        refine ⟨_, rfl, q1, rfl, ?_, ?_, ?_⟩
        · show _ = _; rw [e4]
        · show arr.take _ = _; rw [e4]; exact q4
        · show arr.drop _ = _
          rw [show k + 1 + (i + 1) = k + 1 + i + 1 by omega, ← List.drop_drop, q5, List.drop_drop]
      | true =>
        have e4 : (l.take (k + 1 + (i + 1))).filter (keep s) = (l.take (k + 1 + i)).filter (keep s) ++ [l[k + 1 + i]] := by rw [show k + 1 + (i + 1) = k + 1 + i + 1 by omega, hfs, hkp]; simp
        have e5 : IntKind.i64.wrap ((((l.take (k + 1 + i)).filter (keep s)).length : Int) + 1) = ((((l.take (k + 1 + (i + 1))).filter (keep s)).length : Nat) : Int) := by rw [e4, i64w (by omega) (by omega)]; simp
        simp only [if_true, Option.bind_some, ix arr _ (show ((l.take (k + 1 + i)).filter (keep s)).length < arr.length by omega), e5]
        refine ⟨_, rfl, by simp [q1], rfl, rfl, ?_, ?_⟩
        · show (arr.set _ _).take _ = _
          rw [Int.toNat_natCast, e4, List.length_append, List.length_singleton, List.take_succ_eq_append_getElem (by simp; omega), List.getElem_set_self, List.take_set_of_le (by simp), q4]
        · show (arr.set _ _).drop _ = _
          rw [List.drop_set_of_lt (by simp; omega), show k + 1 + (i + 1) = k + 1 + i + 1 by omega, ← List.drop_drop, q5, List.drop_drop]
    · rintro ⟨arr, w, j⟩ ⟨q1, q2, q3, q4, q5⟩
      dsimp only at q1 q2 q3 q4 q5
      subst q2 q3
      have e6 : k + 1 + (l.length - (k + 1)) = l.length := by omega
      rw [e6, List.take_length] at q4 ⊢
      exact ⟨(arr, _), by simp [q1], q1, rfl, q4⟩
    · rintro ⟨arr, w⟩ ⟨q1, q2, q3⟩
      dsimp only at q1 q2 q3
      subst q2
      have hfl := List.length_filter_le (keep s) l
      dsimp only
      rw [if_pos ⟨by omega, by omega, by omega⟩]
      rw [cut_take' _ _ (by omega) (by unfold Go.splice; simp; omega), Option.bind_some]
      congr 1
      unfold Go.splice
      have ez : ((l.filter (keep s)).length : Int).toNat = (l.filter (keep s)).length := by omega
      rw [ez, List.take_left' (by simp; omega)]
      exact congrArg (fun z => (z, s)) q3
  · rw [if_neg c]
    simp only [Sum.elim_inl, Option.bind_some]
    rw [if_pos (by rfl)]
    congr 1
    refine congrArg (fun z => (z, s)) (List.filter_eq_self.2 fun x hx => ?_).symm
    obtain ⟨i, hi, rfl⟩ := List.getElem_of_mem hx
    exact hall i hi (by omega)
def hasE (s : Tstep) (x : TEarly) : Bool := decide (IntKind.u32.wrap (s.Conn.Want - x.Seq) < IntKind.u32.wrap (x.Data.length : Int))
theorem has_is (x : TEarly) (s : Tstep) : splice_step_has.f s x = some (hasE s x) := rfl
theorem index_k (l : List TEarly) (s : Tstep) (hl : l.length ≤ 100000) : ∃ r, slices_IndexFunc_s_api_Early_api_Early_at_splice_step_has.f l s = some r ∧ ((r = -1 ∧ ∀ x ∈ l, hasE s x = false) ∨ ∃ k : Nat, r = (k : Int) ∧ ∃ h : k < l.length, hasE s l[k] = true) := by
  unfold slices_IndexFunc_s_api_Early_api_Early_at_splice_step_has.f
  obtain ⟨k, hk, h1, h2, hlp⟩ := find_run (B := fun s1 : Int => (if decide (s1 < (l.length : Int)) = true then (idx l s1).bind fun x1 => (splice_step_has.f s x1).bind fun r1 => (if r1 = true then some (.inr (.inr (s1))) else some (.inl (IntKind.i64.wrap (s1 + 1)))) else some (.inr (.inl (())))))
    (fun i => if h : i < l.length then hasE s l[i] else false) l.length (fun i => (i : Int)) (fun i => if i < l.length then (.inr (i : Int) : Unit ⊕ Int) else .inl ())
    (fun i hi hf => by
      rw [dif_pos hi] at hf
      have c : ((i : Int) < (l.length : Int)) := by omega
      simp only [c, decide_true, if_true, ix l i hi, Option.bind_some, has_is, hf, Bool.false_eq_true, if_false]
      rw [stepw hi (by omega)])
    (fun i hi hf => by
      rw [dif_pos hi] at hf
      have c : ((i : Int) < (l.length : Int)) := by omega
      simp only [c, decide_true, if_true, ix l i hi, Option.bind_some, has_is, hf]
      rw [if_pos hi])
    (by simp)
  rw [show loop _ (0 : Int) = _ from hlp, Option.bind_some]
  by_cases c : k < l.length
  · rw [if_pos c]
    refine ⟨(k : Int), rfl, .inr ⟨k, rfl, c, ?_⟩⟩
    have := h2 c
    rwa [dif_pos c] at this
  · rw [if_neg c]
    refine ⟨-1, rfl, .inl ⟨rfl, fun x hx => ?_⟩⟩
    obtain ⟨i, hi, rfl⟩ := List.getElem_of_mem hx
    have := h1 i (by omega)
    rwa [dif_pos hi] at this
/-- A gap. -/
def gp (W : Int) (x : TEarly) : Int := IntKind.u32.wrap (x.Seq - W)
theorem drain_k (s : Tstep) (hT : s.Conn.ToHost.length ≤ 4096) (hE : ∀ x ∈ s.Conn.Early, 0 < x.Data.length ∧ gp s.Conn.Want x + x.Data.length + s.Conn.ToHost.length ≤ 4096) (hL : s.Conn.Early.length ≤ 5) : ∃ th w p, splice_step_drain.f s = some ⟨{ s.Conn with ToHost := th, Want := w, Early := s.Conn.Early.filter p }, s.now, s.segs, s.calls, s.gone⟩ ∧ th.length ≤ 4096 ∧ (∀ x ∈ s.Conn.Early, p x = true → 1 ≤ gp s.Conn.Want x ∧ 1 ≤ gp w x ∧ gp w x + x.Data.length + th.length ≤ 4096) ∧ (∀ V q0 g, Vp V → Gi V q0 g s.Conn.ToHost s.Conn.Want s.Conn.Early false → Gi V q0 g th w s.Conn.Early false) := by
  unfold splice_step_drain.f
  obtain ⟨r0, hr0, hq0⟩ := index_k s.Conn.Early s (by omega)
  rw [cloneB _ (by omega), Option.bind_some, hr0, Option.bind_some]
  refine loop_exit (fun o => ∃ th w p, o = some (⟨{ s.Conn with ToHost := th, Want := w, Early := s.Conn.Early.filter p }, s.now, s.segs, s.calls, s.gone⟩ : Tstep) ∧ th.length ≤ 4096 ∧ (∀ x ∈ s.Conn.Early, p x = true → 1 ≤ gp s.Conn.Want x ∧ 1 ≤ gp w x ∧ gp w x + x.Data.length + th.length ≤ 4096) ∧ (∀ V q0 g, Vp V → Gi V q0 g s.Conn.ToHost s.Conn.Want s.Conn.Early false → Gi V q0 g th w s.Conn.Early false))
    (fun (j : Nat) (z : List Int × Int × Tstep) => ∃ w, z.2.2 = ⟨{ s.Conn with Want := w }, s.now, s.segs, s.calls, s.gone⟩ ∧ IntKind.u32.wrap (w - s.Conn.Want) = (j : Int) ∧ z.1.length = s.Conn.ToHost.length + j ∧ j + s.Conn.ToHost.length ≤ 4096 ∧ (∀ V q0 g, Vp V → Gi V q0 g s.Conn.ToHost s.Conn.Want s.Conn.Early false → Gi V q0 g z.1 w s.Conn.Early false) ∧ ((z.2.1 = -1 ∧ ∀ x ∈ s.Conn.Early, hasE z.2.2 x = false) ∨ ∃ k : Nat, z.2.1 = (k : Int) ∧ ∃ h : k < s.Conn.Early.length, hasE z.2.2 s.Conn.Early[k] = true))
    (fun z => ∃ w j, z.2 = (⟨{ s.Conn with Want := w }, s.now, s.segs, s.calls, s.gone⟩ : Tstep) ∧ IntKind.u32.wrap (w - s.Conn.Want) = (j : Int) ∧ 0 ≤ j ∧ (z.1.length : Int) = s.Conn.ToHost.length + j ∧ j + s.Conn.ToHost.length ≤ 4096 ∧ (∀ V q0 g, Vp V → Gi V q0 g s.Conn.ToHost s.Conn.Want s.Conn.Early false → Gi V q0 g z.1 w s.Conn.Early false) ∧ ∀ x ∈ s.Conn.Early, hasE z.2 x = false) 4097 ?_ ?_ ?_ ?_
  · refine ⟨s.Conn.Want, rfl, ?_, by simp, by omega, fun _ _ _ _ h => h, hq0⟩
    rw [u32w']; omega
  · rintro j ⟨out, r, z⟩ hj ⟨w, h1, h2, h3, h4, hG, h5⟩
    dsimp only at h1 h3 hG h5
    subst h1
    rcases h5 with ⟨rfl, hno⟩ | ⟨k, rfl, hk, hhas⟩
    · right
      have c : ¬ ((0 : Int) ≤ -1) := by decide
      simp only [c, decide_false, Bool.false_eq_true, if_false]
      exact ⟨_, rfl, w, (j : Int), rfl, h2, by omega, by show (out.length : Int) = _; omega, by omega, hG, hno⟩
    · left
      have c : (0 : Int) ≤ (k : Int) := by omega
      obtain ⟨e1, e2⟩ := hE _ (List.getElem_mem hk)
      have hh : IntKind.u32.wrap (w - s.Conn.Early[k].Seq) < IntKind.u32.wrap (s.Conn.Early[k].Data.length : Int) := by simpa [hasE] using hhas
      unfold gp at e2
      generalize hx : s.Conn.Early[k] = x at *
      rw [u32w'] at h2 e2
      rw [u32w', u32w'] at hh
      have hd : (w - x.Seq) % 4294967296 = (j : Int) - (x.Seq - s.Conn.Want) % 4294967296 ∧ (x.Seq - s.Conn.Want) % 4294967296 ≤ j ∧ (j : Int) - (x.Seq - s.Conn.Want) % 4294967296 < x.Data.length := by omega
      obtain ⟨d1, d2, d3⟩ := hd
      obtain ⟨q, hq⟩ : ∃ q : Nat, IntKind.u32.wrap (w - x.Seq) = (q : Int) ∧ q < x.Data.length := ⟨(IntKind.u32.wrap (w - x.Seq)).toNat, by rw [u32w']; omega, by rw [u32w']; omega⟩
      have hw' : IntKind.u32.wrap (IntKind.u32.wrap (w + 1) - s.Conn.Want) = ((j + 1 : Nat) : Int) := by rw [u32w', u32w']; omega
      obtain ⟨r3, hr3, hq3⟩ := index_k s.Conn.Early ⟨{ s.Conn with Want := IntKind.u32.wrap (w + 1) }, s.now, s.segs, s.calls, s.gone⟩ (by omega)
      simp only [c, decide_true, if_true, ix _ k hk, Option.bind_some, hx, hq.1, ix _ q hq.2, lt]
      rw [app_k _ _ (by simp; omega), Option.bind_some, hr3, Option.bind_some]
      refine ⟨_, rfl, IntKind.u32.wrap (w + 1), rfl, hw', by simp; omega, by omega, fun V q0 g hV hh => ?_, hq3⟩
      have hg := hG V q0 g hV hh
      have hxm : x ∈ s.Conn.Early := hx ▸ List.getElem_mem hk
      have hval := hg.ea x hxm q _ (List.getElem?_eq_getElem hq.2)
      have hwt := hg.wt rfl
      refine ⟨fun i y hy => ?_, fun _ => ?_, hg.ea⟩
      · rw [← List.append_assoc] at hy
        by_cases hi : i < (g ++ out).length
        · rw [List.getElem?_append_left hi] at hy; exact hg.pf i y hy
        · rw [List.getElem?_append_right (by omega)] at hy
          have hi2 : i - (g ++ out).length = 0 := by
            have := (List.getElem?_eq_some_iff.1 hy).1
            rw [List.length_singleton] at this; omega
          rw [hi2] at hy
          simp at hy
          rw [← hy, hval]
          refine hV _ _ ?_
          have hqq := hq.1
          rw [u32w'] at hqq
          omega
      · rw [← List.append_assoc, List.length_append, List.length_singleton, u32w']; omega
  · rintro ⟨out, r, z⟩ ⟨w, h1, h2, h3, h4, hG, h5⟩
    omega
  · rintro ⟨out, z⟩ ⟨w, j, h1, h2, h0, h3, h4, hG, h5⟩
    dsimp only at h1 h3 hG h5
    subst h1
    simp only [lt]
    have hcl : slices_Clone_s_api_Early_api_Early.f s.Conn.Early = some s.Conn.Early := by
      unfold slices_Clone_s_api_Early_api_Early.f
      rw [app_k _ _ (by simp; omega)]; rfl
    rw [hcl, Option.bind_some, deleteFunc_is _ _ (by omega), Option.bind_some]
    refine ⟨out, w, _, rfl, by omega, fun x hx hp => ?_, hG⟩
    obtain ⟨e1, e2⟩ := hE x hx
    have hno := h5 x hx
    have hp' : 0 < IntKind.i32.wrap (IntKind.u32.wrap (IntKind.u32.wrap (x.Seq + IntKind.u32.wrap (x.Data.length : Int)) - w)) := by simpa [keep] using hp
    have hno' : ¬ (IntKind.u32.wrap (w - x.Seq) < IntKind.u32.wrap (x.Data.length : Int)) := by simpa [hasE] using hno
    unfold gp at e2 ⊢
    rw [u32w'] at h2 e2
    rw [u32w', u32w'] at hno'
    have hi : ∀ y : Int, 0 ≤ y → y < 4294967296 → 0 < IntKind.i32.wrap y → y < 2147483648 ∧ 0 < y := fun y y0 y1 h => by
      simp [IntKind.wrap, IntKind.bits, IntKind.signed] at h
      omega
    have hh := hi _ (u32r _).1 (u32r _).2 hp'
    rw [u32w', u32w', u32w'] at hh
    rw [u32w', u32w']
    have hg : (j : Int) < (x.Seq - s.Conn.Want) % 4294967296 := by omega
    have hg2 : (x.Seq - w) % 4294967296 = (x.Seq - s.Conn.Want) % 4294967296 - j := by omega
    refine ⟨by omega, by omega, by omega⟩
theorem Rg.put {c : TConn} (h : Rg c) (th tg : List Int) (ea : List TEarly) (h1 : th.length ≤ 4096) (h2 : tg.length ≤ 4096) (h3 : ea.length ≤ 4) (w : Int) (hw : ishr .i64 w 16 = 0) (a wt tr : Int) (ha : 0 ≤ a ∧ a ≤ 1099511627776) (hwt : 0 ≤ wt ∧ wt ≤ 32) (htr : 0 ≤ tr ∧ tr ≤ 6) (o u d : Bool) (un nx wn : Int) (f e s : Bool) :
    Rg ⟨c.Id, c.Guest, c.Gport, c.Remote, c.Rport, o, u, d, c.Begin, un, nx, wn, w, c.Mss, th, tg, ea, f, e, s, a, wt, tr⟩ :=
  ⟨h1, h2, h3, h.2.2.2.1, h.2.2.2.2.1, hw, h.2.2.2.2.2.2.1, h.2.2.2.2.2.2.2.1, ha, hwt, htr⟩
theorem data_k (s : Tstep) (x : TSeg) (hx : x.Data.length ≤ 5000) (h : Kc s.Conn) (hu : s.Conn.Up = true) (hf : s.Conn.Fin = false) : ∃ s', splice_step_data.f s x = some s' ∧ Kc s'.Conn ∧ s'.Conn.Up = true ∧ s'.Conn.Fin = false ∧ Kr (Dx x) s s' 0 0 ∧ s'.gone = s.gone := by
  have hT := h.rg.1
  have hE4 := h.rg.2.2.1
  unfold splice_step_data.f
  obtain ⟨b, q, hj, hb, hbV⟩ : ∃ b q, (lt (IntKind.u32.wrap (s.Conn.Want - x.Seq)) fun y1 => (if decide (0 < (IntKind.i32.wrap y1)) = true then (cut x.Data (min y1 (x.Data.length : Int)) (x.Data.length : Int)).bind fun x1 => some ((x1, s.Conn.Want)) else some ((x.Data, x.Seq)))) = some (b, q) ∧ b.length ≤ 5000 ∧ (∀ V, Vp V → Dx x V → ∀ (i : Nat) (y : Int), b[i]? = some y → y = V (q + i)) := by
    simp only [lt]
    have hr := u32r (s.Conn.Want - x.Seq)
    split
    · obtain ⟨x1, h1, h2⟩ := cut_some x.Data (min (IntKind.u32.wrap (s.Conn.Want - x.Seq)) (x.Data.length : Int)) (x.Data.length : Int) (by omega) (by omega) (by omega)
      have h1e := cut_eq h1
      rw [h1]
      refine ⟨x1, _, rfl, by omega, fun V hV hD i y hy => ?_⟩
      rw [h1e, List.take_of_length_le (by rw [List.length_drop]; omega), List.getElem?_drop] at hy
      have hlt := (List.getElem?_eq_some_iff.1 hy).1
      rw [hD _ y hy]
      refine hV _ _ ?_
      rw [u32w'] at hlt ⊢
      omega
    · exact ⟨_, _, rfl, hx, fun V hV hD i y hy => hD i y hy⟩
  rw [hj, Option.bind_some]
  have hr := u32r (q - s.Conn.Want)
  have er : max 0 (IntKind.i64.wrap (4096 - (s.Conn.ToHost.length : Int))) = 4096 - (s.Conn.ToHost.length : Int) := by rw [i64w (by omega) (by omega)]; omega
  simp only [lt, room_is, Option.bind_some, er]
  generalize hg : IntKind.u32.wrap (q - s.Conn.Want) = g at *
  rw [i64w (x := 4096 - (s.Conn.ToHost.length : Int) - g) (by omega) (by omega)]
  obtain ⟨b2, h1, h2⟩ := cut_some b 0 (max 0 (min (b.length : Int) (4096 - (s.Conn.ToHost.length : Int) - g))) (by omega) (by omega) (by omega)
  have h1e := cut_eq h1
  rw [h1, Option.bind_some]
  by_cases c0 : (b2.length : Int) = 0
  · simp only [c0, decide_true, if_true, Option.bind_some]
    exact ⟨s, rfl, h, hu, hf, Kr.refl s 0 0, rfl⟩
  obtain ⟨j2, hj2, hj3⟩ : ∃ j2, (if decide (0 < g) = true then some (decide (4 ≤ (s.Conn.Early.length : Int))) else some false) = some j2 ∧ (j2 = false → 0 < g → s.Conn.Early.length < 4) := by
    by_cases cg : 0 < g
    · simp only [cg, decide_true, if_true]
      exact ⟨_, rfl, fun e _ => by have := of_decide_eq_false e; omega⟩
    · simp only [cg, decide_false, Bool.false_eq_true, if_false]
      exact ⟨_, rfl, fun _ x => x.elim⟩
  simp only [c0, decide_false, Bool.false_eq_true, if_false, hj2, Option.bind_some]
  cases j2 with
  | true => rw [if_pos rfl]; exact ⟨s, rfl, h, hu, hf, Kr.refl s 0 0, rfl⟩
  | false =>
  have hcl : slices_Clone_s_api_Early_api_Early.f s.Conn.Early = some s.Conn.Early := by
    unfold slices_Clone_s_api_Early_api_Early.f
    rw [app_k _ _ (by simp; omega)]; rfl
  rw [if_neg (by simp), hcl, Option.bind_some, cloneB _ (by omega), Option.bind_some, app_k _ _ (by simp; omega), Option.bind_some]
  obtain ⟨th, w, p, hd, k1, k2, k3⟩ := drain_k ⟨{ s.Conn with Early := s.Conn.Early ++ [⟨q, b2⟩] }, s.now, s.segs, s.calls, s.gone⟩ hT (fun y hy => by
    rcases List.mem_append.1 hy with hy | hy
    · obtain ⟨e1, e2, e3⟩ := h.ear y hy
      exact ⟨e1, e3⟩
    · rw [List.mem_singleton.1 hy]
      refine ⟨by show 0 < b2.length; omega, ?_⟩
      show IntKind.u32.wrap (q - s.Conn.Want) + (b2.length : Int) + (s.Conn.ToHost.length : Int) ≤ 4096
      rw [hg]; omega) (by show (s.Conn.Early ++ [(⟨q, b2⟩ : TEarly)]).length ≤ 5; simp; omega)
  rw [hd, Option.bind_some]
  have hsub := h.up hu
  have hsh : s.Conn.Shut = false := by
    cases e : s.Conn.Shut with
    | false => rfl
    | true => exact absurd (hf.symm.trans (hsub.sh e).1) (by decide)
  have hlen : ((s.Conn.Early ++ [(⟨q, b2⟩ : TEarly)]).filter p).length ≤ 4 := by
    rw [List.filter_append, List.length_append]
    have f1 := List.length_filter_le p s.Conn.Early
    by_cases cp : p (⟨q, b2⟩ : TEarly) = true
    · have := (k2 (⟨q, b2⟩ : TEarly) (by simp) cp).1
      have hgg : 1 ≤ g := by rw [← hg]; exact this
      have := hj3 rfl (by omega)
      simp only [List.filter_cons, cp, if_true, List.filter_nil, List.length_singleton]
      omega
    · simp only [List.filter_cons, cp, if_false, List.filter_nil, List.length_nil, Bool.false_eq_true]
      omega
  refine ⟨_, rfl, ⟨h.rg.put th s.Conn.ToGuest _ k1 h.rg.2.1 hlen s.Conn.Win h.rg.2.2.2.2.2.1 s.Conn.At s.Conn.Wait s.Conn.Tries h.rg.2.2.2.2.2.2.2.2.1 h.rg.2.2.2.2.2.2.2.2.2.1 h.rg.2.2.2.2.2.2.2.2.2.2 _ _ _ _ _ _ _ _ _, fun y hy => ?_, fun _ => ⟨hsub.op, fun e => absurd (hsh.symm.trans e) (by decide), hsub.dn, hsub.fl⟩, fun e => absurd (hu.symm.trans e) (by decide), h.un⟩, hu, hf, ⟨fun V q0 g hV hD hh => ?_, fun _ _ _ _ hc => hc, rfl, by simp, by simp, fun h => h⟩, rfl⟩
  rotate_left
  · unfold Gt at hh ⊢
    rw [hf] at hh
    have := k3 V q0 (g ++ wr s.calls) hV ⟨hh.pf, hh.wt, fun y hy i z hz => by
      rcases List.mem_append.1 hy with hy | hy
      · exact hh.ea y hy i z hz
      · rw [List.mem_singleton.1 hy] at hz ⊢
        rw [h1e] at hz
        refine hbV V hV hD i z ?_
        rw [List.getElem?_take] at hz
        split at hz
        · simpa using hz
        · cases hz⟩
    refine ⟨this.pf, fun _ => this.wt rfl, fun y hy => this.ea y (List.mem_filter.1 hy).1⟩
  obtain ⟨hy1, hy2⟩ := List.mem_filter.1 hy
  obtain ⟨e1, e2, e3⟩ := k2 y hy1 hy2
  refine ⟨?_, e2, e3⟩
  rcases List.mem_append.1 hy1 with hy1 | hy1
  · exact (h.ear y hy1).1
  · rw [List.mem_singleton.1 hy1]; show 0 < b2.length; omega
theorem shut_k (s : Tstep) (h : Kc s.Conn) (hu : s.Conn.Up = true) (hs : s.calls.length ≤ 10000) : ∃ s', splice_step_shut.f s = some s' ∧ Kc s'.Conn ∧ s'.Conn.Up = true ∧ Kr D s s' 0 1 ∧ s'.gone = s.gone := by
  unfold splice_step_shut.f
  have hup := h.up hu
  by_cases c : s.Conn.Fin = true ∧ s.Conn.Shut = false ∧ s.Conn.ToHost.length = 0
  · obtain ⟨c1, c2, c3⟩ := c
    have c3' : ((s.Conn.ToHost.length : Nat) : Int) = 0 := by omega
    simp only [c1, c2, c3', Bool.not_false, decide_true, if_true, Option.bind_some, lt]
    obtain ⟨cl, hc, hk⟩ := call_k ⟨{ s.Conn with Shut := true }, s.now, s.segs, s.calls, s.gone⟩ 3 [] (by simp) hs (by decide)
    have hc' := hc
    dsimp only at hc'
    rw [c1] at hc'
    rw [hc', Option.bind_some]
    refine ⟨_, rfl, ⟨h.rg, h.ear, fun _ => ⟨hup.op, fun _ => ⟨rfl, c3⟩, hup.dn, hup.fl⟩, fun e => absurd (hu.symm.trans e) (by decide), h.un⟩, hu, ⟨fun V q0 g hV hD hh => by
      have := hk.gw V q0 g hV hD hh
      unfold Gt at this ⊢
      dsimp only at this ⊢
      first | exact this | (rw [c1] at this; exact this), hk.ct, hk.now, hk.sg, hk.cl, hk.dt⟩, rfl⟩
  · have : ((if s.Conn.Fin = true then (if (!s.Conn.Shut) = true then some (decide ((s.Conn.ToHost.length : Int) = 0)) else some (false)) else some (false)) : Option Bool) = some false := by
      cases c1 : s.Conn.Fin with
      | false => rfl
      | true =>
        cases c2 : s.Conn.Shut with
        | true => rfl
        | false =>
          have c3 : ¬ ((s.Conn.ToHost.length : Int) = 0) := fun e => c ⟨c1, c2, by omega⟩
          simp only [c3, Bool.not_false, if_true, decide_false]
    rw [this, Option.bind_some, if_neg (by simp)]
    exact ⟨s, rfl, h, hu, Kr.refl s 0 1, rfl⟩
theorem bits_b (x m : Int) : ∃ b : Bool, decide (0 < bits .and .i64 x m) = b := ⟨_, rfl⟩
theorem text_k (s : Tstep) (x : TSeg) (hx : x.Data.length ≤ 5000) (h : Kc s.Conn) (hu : s.Conn.Up = true) (hs : Sm s) (h9 : s.segs.length ≤ 900 ∧ s.calls.length ≤ 900) : ∃ s', splice_step_text.f s x = some s' ∧ Kc s'.Conn ∧ Kr (Dx x) s s' 5 1 := by
  unfold splice_step_text.f
  obtain ⟨y1, hy1⟩ := bits_b x.Flags 1
  simp only [lt, hy1]
  -- the bytes, and the end of them
  obtain ⟨s2, h2, k2, u2, r2⟩ : ∃ s2, (if (!s.Conn.Fin) = true then (splice_step_data.f s x).bind fun r1 => ((if y1 = true then some (decide (r1.Conn.Want = (IntKind.u32.wrap (x.Seq + (IntKind.u32.wrap (x.Data.length : Int)))))) else some (false))).bind (fun j1 => (if j1 = true then some (⟨(⟨r1.Conn.Id, r1.Conn.Guest, r1.Conn.Gport, r1.Conn.Remote, r1.Conn.Rport, r1.Conn.Opening, r1.Conn.Up, r1.Conn.Done, r1.Conn.Begin, r1.Conn.Una, r1.Conn.Next, IntKind.u32.wrap (r1.Conn.Want + 1), r1.Conn.Win, r1.Conn.Mss, r1.Conn.ToHost, r1.Conn.ToGuest, [], true, r1.Conn.Eof, r1.Conn.Shut, r1.Conn.At, r1.Conn.Wait, r1.Conn.Tries⟩ : TConn), r1.now, r1.segs, r1.calls, r1.gone⟩ : Tstep) else some (r1))) else some (s)) = some s2 ∧ Kc s2.Conn ∧ s2.Conn.Up = true ∧ Kr (Dx x) s s2 0 0 := by
    cases hf : s.Conn.Fin with
    | true => simp only [Bool.not_true, Bool.false_eq_true, if_false]; exact ⟨s, rfl, h, hu, Kr.refl s 0 0⟩
    | false =>
      obtain ⟨z, hz, kz, uz, fz, rz, _⟩ := data_k s x hx h hu hf
      simp only [Bool.not_false, if_true, hz, Option.bind_some]
      obtain ⟨j, hj⟩ : ∃ j, (if y1 = true then some (decide (z.Conn.Want = (IntKind.u32.wrap (x.Seq + (IntKind.u32.wrap (x.Data.length : Int)))))) else some (false)) = some j := by split <;> exact ⟨_, rfl⟩
      rw [hj, Option.bind_some]
      cases j with
      | false => exact ⟨z, rfl, kz, uz, rz⟩
      | true =>
        rw [if_pos rfl]
        have hup := kz.up uz
        have hsh : z.Conn.Shut = false := by
          cases e : z.Conn.Shut with
          | false => rfl
          | true => exact absurd (fz.symm.trans (hup.sh e).1) (by decide)
        refine ⟨_, rfl, ⟨kz.rg.put z.Conn.ToHost z.Conn.ToGuest [] kz.rg.1 kz.rg.2.1 (by simp) z.Conn.Win kz.rg.2.2.2.2.2.1 z.Conn.At z.Conn.Wait z.Conn.Tries kz.rg.2.2.2.2.2.2.2.2.1 kz.rg.2.2.2.2.2.2.2.2.2.1 kz.rg.2.2.2.2.2.2.2.2.2.2 _ _ _ _ _ _ _ _ _, fun y hy => (by cases hy), fun _ => ⟨hup.op, fun e => absurd (hsh.symm.trans e) (by decide), hup.dn, hup.fl⟩, fun e => absurd (uz.symm.trans e) (by decide), kz.un⟩, uz, ⟨fun V q0 g hV hD hh => ⟨(rz.gw V q0 g hV hD hh).pf, fun e => (by cases e), fun y hy => (by cases hy)⟩, rz.ct, rz.now, rz.sg, rz.cl, rz.dt⟩⟩
  rw [h2, Option.bind_some]
  obtain ⟨s3, h3, k3, u3, r3⟩ : ∃ s3, ((if y1 = true then some (true) else some (decide (0 < (x.Data.length : Int)))).bind (fun j3 => (if j3 = true then (splice_step_ack.f s2).bind fun r2 => some (r2) else some (s2)))) = some s3 ∧ Kc s3.Conn ∧ s3.Conn.Up = true ∧ Kr (Dx x) s2 s3 1 0 := by
    obtain ⟨j, hj⟩ : ∃ j, (if y1 = true then some (true) else some (decide (0 < (x.Data.length : Int)))) = some j := by split <;> exact ⟨_, rfl⟩
    rw [hj, Option.bind_some]
    cases j with
    | false => exact ⟨s2, rfl, k2, u2, Kr.refl s2 1 0⟩
    | true =>
      obtain ⟨sg, ha, hk⟩ := ack_k s2 (by have := r2.sg; omega)
      rw [if_pos rfl, ha]
      exact ⟨_, rfl, k2, u2, hk⟩
  rw [h3, Option.bind_some]
  have r13 := r2.trans r3
  obtain ⟨s4, h4, k4, u4, r4, _⟩ := shut_k s3 k3 u3 (by have := r13.cl; omega)
  rw [h4, Option.bind_some]
  have r14 := r13.trans r4
  obtain ⟨s5, h5, k5, r5, _⟩ := push_k s4 k4 ⟨by have := r14.sg; omega, by have := r14.cl; omega, by rw [r14.now]; exact hs.2.2.1, by rw [r14.now]; exact hs.2.2.2⟩
  rw [h5, Option.bind_some]
  have r15 := r14.trans r5
  split
  · exact ⟨_, rfl, k5, ⟨r15.gw, r15.ct, r15.now, r15.sg, r15.cl, r15.dt⟩⟩
  · exact ⟨_, rfl, k5, ⟨r15.gw, r15.ct, r15.now, r15.sg, r15.cl, r15.dt⟩⟩
theorem acked_k (s : Tstep) (x : TSeg) (hxa : 0 ≤ x.Ack ∧ x.Ack < 4294967296) (hxw : ishr .i64 x.Win 16 = 0) (h : Kc s.Conn) (ho : s.Conn.Opening = false) (hs : Sm s) : ∃ b s', splice_step_acked.f s x = some (b, s') ∧ Kc s'.Conn ∧ (b = true → s'.Conn.Up = true) ∧ Kr D s s' 1 0 := by
  unfold splice_step_acked.f
  simp only [lt, flown_is, Option.bind_some]
  have hkr := u32r (x.Ack - s.Conn.Una)
  generalize hk : IntKind.u32.wrap (x.Ack - s.Conn.Una) = k at *
  have hf0 := fl_r s.Conn
  by_cases c1 : Fl s.Conn < k
  · simp only [c1, decide_true, if_true]
    obtain ⟨b, hb⟩ : ∃ b, seg_Less.f x.Ack s.Conn.Una = some b := ⟨_, rfl⟩
    rw [hb, Option.bind_some]
    cases b with
    | true => rw [if_pos rfl]; exact ⟨_, s, rfl, h, fun e => e, Kr.refl s 1 0⟩
    | false =>
      obtain ⟨sg, ha, hkk⟩ := ack_k s (by have := hs.1; omega)
      rw [if_neg (by simp), ha, Option.bind_some]
      exact ⟨false, _, rfl, h, fun e => (by cases e), hkk⟩
  · simp only [c1, decide_false, Bool.false_eq_true, if_false]
    have hG := h.rg.2.1
    have hfe : Fl s.Conn = (s.Conn.Next - s.Conn.Una) % 4294967296 := u32w' _
    have hke : k = (x.Ack - s.Conn.Una) % 4294967296 := by rw [← hk]; exact u32w' _
    have hfl' : IntKind.u32.wrap (s.Conn.Next - x.Ack) = Fl s.Conn - k := by rw [u32w']; omega
    -- how many, and whether it is up
    obtain ⟨n, u, hj, hn0, hn1⟩ : ∃ n u, ((if decide (0 < k) = true then some ((!s.Conn.Up)) else some (false)).bind (fun j1 => (if j1 = true then some ((IntKind.i64.wrap (k - 1), (⟨(⟨s.Conn.Id, s.Conn.Guest, s.Conn.Gport, s.Conn.Remote, s.Conn.Rport, s.Conn.Opening, true, s.Conn.Done, s.Conn.Begin, s.Conn.Una, s.Conn.Next, s.Conn.Want, s.Conn.Win, s.Conn.Mss, s.Conn.ToHost, s.Conn.ToGuest, s.Conn.Early, s.Conn.Fin, s.Conn.Eof, s.Conn.Shut, s.Conn.At, s.Conn.Wait, s.Conn.Tries⟩ : TConn), s.now, s.segs, s.calls, s.gone⟩ : Tstep))) else some ((k, s))))) = some (n, ⟨{ s.Conn with Up := u }, s.now, s.segs, s.calls, s.gone⟩) ∧ (s.Conn.Up = true → u = true ∧ n = k) ∧ (s.Conn.Up = false → (k = 0 ∧ u = false ∧ n = 0) ∨ (k = 1 ∧ u = true ∧ n = 0 ∧ Fl s.Conn = 1)) := by
      cases hu : s.Conn.Up with
      | true =>
        refine ⟨k, true, ?_, fun _ => ⟨rfl, rfl⟩, fun e => by cases e⟩
        split <;> (simp only [Bool.not_true, Option.bind_some, Bool.false_eq_true, if_false]; rw [← hu])
      | false =>
        have hfr := h.fr hu
        have hf1 : Fl s.Conn = 1 := by
          have := hfr.nop ho
          unfold Fl
          rw [hfr.un]; exact this
        by_cases k0 : 0 < k
        · have hk1 : k = 1 := by omega
          refine ⟨0, true, ?_, fun e => (by cases e), fun _ => .inr ⟨hk1, rfl, rfl, hf1⟩⟩
          simp only [k0, decide_true, if_true, Option.bind_some, Bool.not_false]
          rw [hk1, show IntKind.i64.wrap (1 - 1) = 0 by decide]
        · have hk0 : k = 0 := by omega
          refine ⟨0, false, ?_, fun e => (by cases e), fun _ => .inl ⟨hk0, rfl, rfl⟩⟩
          simp only [k0, decide_false, Bool.false_eq_true, if_false, Option.bind_some]
          rw [hk0, ← hu]
    rw [hj, Option.bind_some]
    dsimp only
    -- what it is then: done
    have hnn : 0 ≤ n ∧ n ≤ k := by
      cases hu : s.Conn.Up with
      | true => have := (hn0 hu).2; omega
      | false => rcases hn1 hu with ⟨a, b, e⟩ | ⟨a, b, e, _⟩ <;> omega
    have hdn : ((if s.Conn.Done = true then some (⟨(⟨s.Conn.Id, s.Conn.Guest, s.Conn.Gport, s.Conn.Remote, s.Conn.Rport, s.Conn.Opening, u, true, s.Conn.Begin, s.Conn.Una, s.Conn.Next, s.Conn.Want, s.Conn.Win, s.Conn.Mss, s.Conn.ToHost, s.Conn.ToGuest, s.Conn.Early, s.Conn.Fin, s.Conn.Eof, s.Conn.Shut, s.Conn.At, s.Conn.Wait, s.Conn.Tries⟩ : TConn), s.now, s.segs, s.calls, s.gone⟩ : Tstep) else some (⟨(⟨s.Conn.Id, s.Conn.Guest, s.Conn.Gport, s.Conn.Remote, s.Conn.Rport, s.Conn.Opening, u, decide ((s.Conn.ToGuest.length : Int) < n), s.Conn.Begin, s.Conn.Una, s.Conn.Next, s.Conn.Want, s.Conn.Win, s.Conn.Mss, s.Conn.ToHost, s.Conn.ToGuest, s.Conn.Early, s.Conn.Fin, s.Conn.Eof, s.Conn.Shut, s.Conn.At, s.Conn.Wait, s.Conn.Tries⟩ : TConn), s.now, s.segs, s.calls, s.gone⟩ : Tstep))) = some ⟨{ s.Conn with Up := u, Done := (s.Conn.Done || decide ((s.Conn.ToGuest.length : Int) < n)) }, s.now, s.segs, s.calls, s.gone⟩ := by
      cases s.Conn.Done <;> rfl
    rw [hdn, Option.bind_some]
    dsimp only
    obtain ⟨tg, htg, htl⟩ := cut_some s.Conn.ToGuest (min n (s.Conn.ToGuest.length : Int)) (s.Conn.ToGuest.length : Int) (by omega) (by omega) (by omega)
    rw [htg, Option.bind_some, cloneB _ (by omega), Option.bind_some]
    -- the connection behind it
    have core : ∀ (a w t : Int), (0 ≤ a ∧ a ≤ 1099511627776) → (0 ≤ w ∧ w ≤ 32) → (0 ≤ t ∧ t ≤ 6) → Kc ⟨s.Conn.Id, s.Conn.Guest, s.Conn.Gport, s.Conn.Remote, s.Conn.Rport, s.Conn.Opening, u, (s.Conn.Done || decide ((s.Conn.ToGuest.length : Int) < n)), s.Conn.Begin, x.Ack, s.Conn.Next, s.Conn.Want, x.Win, s.Conn.Mss, s.Conn.ToHost, tg, s.Conn.Early, s.Conn.Fin, s.Conn.Eof, s.Conn.Shut, a, w, t⟩ := by
      intro a w t ha hw ht
      refine ⟨h.rg.put s.Conn.ToHost tg s.Conn.Early h.rg.1 (by omega) h.rg.2.2.1 x.Win hxw a w t ha hw ht _ _ _ _ _ _ _ _ _, h.ear, fun (e : u = true) => ⟨ho, ?_, ?_, ?_⟩, fun (e : u = false) => ?_, hxa⟩
      · intro (e2 : s.Conn.Shut = true)
        cases hu : s.Conn.Up with
        | true => exact (h.up hu).sh e2
        | false => exact absurd ((h.fr hu).sh.symm.trans e2) (by decide)
      · intro (e2 : (s.Conn.Done || decide ((s.Conn.ToGuest.length : Int) < n)) = true)
        show s.Conn.Eof = true ∧ tg.length = 0 ∧ IntKind.u32.wrap (s.Conn.Next - x.Ack) = 0
        cases hu : s.Conn.Up with
        | true =>
          have hup := h.up hu
          have hnk := (hn0 hu).2
          cases hd : s.Conn.Done with
          | true =>
            obtain ⟨a1, a2, a3⟩ := hup.dn hd
            exact ⟨a1, by omega, by rw [hfl']; omega⟩
          | false =>
            rw [hd, Bool.false_or, decide_eq_true_eq] at e2
            have hh := hup.fl hd
            cases he : s.Conn.Eof with
            | true => rw [he] at hh; simp at hh; exact ⟨rfl, by omega, by rw [hfl']; omega⟩
            | false => rw [he] at hh; simp at hh; omega
        | false =>
          rw [(h.fr hu).dn, Bool.false_or, decide_eq_true_eq] at e2
          rcases hn1 hu with ⟨_, _, e3⟩ | ⟨_, _, e3, _⟩ <;> omega
      · intro (e2 : (s.Conn.Done || decide ((s.Conn.ToGuest.length : Int) < n)) = false)
        show IntKind.u32.wrap (s.Conn.Next - x.Ack) ≤ (tg.length : Int) + (if s.Conn.Eof = true then 1 else 0)
        rw [Bool.or_eq_false_iff, decide_eq_false_iff_not] at e2
        rw [hfl']
        cases hu : s.Conn.Up with
        | true =>
          have hh := (h.up hu).fl e2.1
          have hnk := (hn0 hu).2
          cases he : s.Conn.Eof with
          | true => simp only [he, if_true] at hh ⊢; omega
          | false => simp only [he, Bool.false_eq_true, if_false] at hh ⊢; omega
        | false =>
          rcases hn1 hu with ⟨e3, e4, _⟩ | ⟨e3, e4, _, e5⟩
          · rw [e4] at e; cases e
          · split <;> omega
      · cases hu : s.Conn.Up with
        | true => rw [(hn0 hu).1] at e; cases e
        | false =>
          have hfr := h.fr hu
          rcases hn1 hu with ⟨e3, e4, e5⟩ | ⟨e3, e4, _, e5⟩
          · have hun := h.un
            have hax : x.Ack = s.Conn.Una := by omega
            refine ⟨hfr.fin, ?_, hfr.sh, hfr.th, hfr.ea, hax.trans hfr.un, fun e2 => absurd (ho.symm.trans e2) (by decide), hfr.nop⟩
            show (s.Conn.Done || decide ((s.Conn.ToGuest.length : Int) < n)) = false
            rw [hfr.dn, Bool.false_or, decide_eq_false_iff_not]; omega
          · rw [e4] at e; cases e
    have hT := h.rg.2.2.2.2.2.2.2.2.1
    have hW := h.rg.2.2.2.2.2.2.2.2.2.1
    have hR := h.rg.2.2.2.2.2.2.2.2.2.2
    have kr0 : ∀ a w t : Int, Kr D s ⟨⟨s.Conn.Id, s.Conn.Guest, s.Conn.Gport, s.Conn.Remote, s.Conn.Rport, s.Conn.Opening, u, (s.Conn.Done || decide ((s.Conn.ToGuest.length : Int) < n)), s.Conn.Begin, x.Ack, s.Conn.Next, s.Conn.Want, x.Win, s.Conn.Mss, s.Conn.ToHost, tg, s.Conn.Early, s.Conn.Fin, s.Conn.Eof, s.Conn.Shut, a, w, t⟩, s.now, s.segs, s.calls, s.gone⟩ 1 0 := fun _ _ _ => ⟨fun _ _ _ _ _ h => h, fun G f rp gp hc => ⟨⟨hc.1.gl, hc.1.be, hc.1.rp, hc.1.gp, fun (e : u = false) => ?_, fun (e : u = true) e2 => ?_⟩, hc.2⟩, rfl, by simp, by simp, fun h => h⟩
    rotate_left
    · show tg = G
      cases hu : s.Conn.Up with
      | true => exact absurd ((hn0 hu).1.symm.trans e) (by decide)
      | false =>
        rcases hn1 hu with ⟨e3, e4, e5⟩ | ⟨e3, e4, _, e5⟩
        · have := cut_eq htg
          rw [this, e5, ← hc.1.fr hu, List.take_of_length_le (by rw [List.length_drop]; omega)]
          have : (min 0 (s.Conn.ToGuest.length : Int)).toNat = 0 := by omega
          rw [this]; rfl
        · rw [e4] at e; cases e
    · show ∃ a : Nat, a ≤ G.length ∧ tg = G.drop a ∧ (x.Ack - f - 1 - a) % 4294967296 = 0
      rw [Bool.or_eq_false_iff, decide_eq_false_iff_not] at e2
      have ht : tg = s.Conn.ToGuest.drop n.toNat := by
        rw [cut_eq htg, List.take_of_length_le (by rw [List.length_drop]; omega)]
        congr 1; omega
      cases hu : s.Conn.Up with
      | true =>
        obtain ⟨a, a1, a2, a3⟩ := hc.1.up hu e2.1
        have hnk := (hn0 hu).2
        have hla : s.Conn.ToGuest.length = G.length - a := by rw [a2, List.length_drop]
        refine ⟨a + n.toNat, by omega, ?_, by omega⟩
        rw [ht, a2, List.drop_drop]
      | false =>
        rcases hn1 hu with ⟨e3, e4, _⟩ | ⟨e3, e4, e6, e5⟩
        · rw [e4] at e; cases e
        · refine ⟨0, Nat.zero_le _, ?_, ?_⟩
          · rw [ht, e6, ← hc.1.fr hu]; rfl
          · have := (h.fr hu).un
            have := hc.1.be
            omega
    have hnw : 0 ≤ IntKind.i64.wrap (s.now + 2) ∧ IntKind.i64.wrap (s.now + 2) ≤ 1099511627776 := by
      have := hs.2.2
      rw [i64w (by omega) (by omega)]; omega
    by_cases k0 : 0 < k
    · simp only [k0, decide_true, if_true, arm_is, Option.bind_some]
      split
      · exact ⟨u, _, rfl, core 0 2 0 (by decide) (by decide) (by decide), fun e => e, kr0 _ _ _⟩
      · exact ⟨u, _, rfl, core _ 2 0 hnw (by decide) (by decide), fun e => e, kr0 _ _ _⟩
    · simp only [k0, decide_false, Bool.false_eq_true, if_false, Option.bind_some]
      exact ⟨u, _, rfl, core _ _ _ hT hW hR, fun e => e, kr0 _ _ _⟩
theorem take_k (c : TConn) (h : Kc c) (now : Int) (hn : 0 ≤ now ∧ now ≤ 549755813888) (x : TSeg) (hx : x.Data.length ≤ 5000) (hb : Byt x.Data) (ha : 0 ≤ x.Ack ∧ x.Ack < 4294967296) : ∃ c' sg cl g, splice_Take.f c now x = some (c', sg, cl, g) ∧ Kc c' ∧ sg.length ≤ 10 ∧ cl.length ≤ 10 ∧ (∀ y ∈ cl, y.Data.length ≤ 4096) ∧ (∀ G f rp gp, CvK G f rp gp c → CvK G f rp gp c' ∧ CvS G f rp gp sg) ∧ (∀ V q0 g, Vp V → Dx x V → Gc V q0 g c → Gc V q0 (g ++ wr cl) c') := by
  unfold splice_Take.f
  rw [begin_is c now (kc_ck h) hn.1 hn.2, Option.bind_some]
  by_cases hok : hdOk x ∧ (0 ≤ x.Mss ∧ x.Mss < 65536) ∧ x.Data.length ≤ 60000
  case neg =>
    rw [put_no x 0 0 hok, Option.bind_some]
    have : ¬ ((2 : Int) = 0) := by decide
    simp only [this, decide_false, Bool.not_false, if_true, Option.bind_some]
    exact ⟨_, _, _, _, rfl, h, by simp, by simp, fun y hy => (by cases hy), fun G f rp gp hc => ⟨hc, fun y hy => (by cases hy)⟩, fun V q0 g _ _ hh => (by rw [show wr [] = [] from rfl, List.append_nil]; exact hh)⟩
  rw [put_is x 0 0 hok.1 hok.2.1 hok.2.2 hb, Option.bind_some]
  simp only [decide_true, Bool.not_true, Bool.false_eq_true, if_false, Option.bind_some]
  have hxw : ishr .i64 x.Win 16 = 0 := by
    have := hok.1.2.2.2
    unfold ishr
    rw [show (2 : Int) ^ min (16 : Int).toNat IntKind.i64.bits = 65536 by decide]; omega
  have key : ∃ s', splice_step_take.f ⟨c, now, [], [], false⟩ x = some s' ∧ Kc s'.Conn ∧ Kr (Dx x) ⟨c, now, [], [], false⟩ s' 10 10 := by
    unfold splice_step_take.f
    obtain ⟨y1, hy1⟩ := bits_b x.Flags 4
    obtain ⟨y2, hy2⟩ := bits_b x.Flags 2
    obtain ⟨y3, hy3⟩ := bits_b x.Flags 16
    simp only [lt, hy1, hy2, hy3]
    cases y1 with
    | true =>
      rw [if_pos rfl]
      split
      · obtain ⟨cl, hc, hk⟩ := call_k ⟨c, now, [], [], false⟩ 4 [] (by simp) (by simp) (by decide)
        rw [hc, Option.bind_some]
        exact ⟨_, rfl, h, ⟨hk.gw, hk.ct, hk.now, by have := hk.sg; simp, by have := hk.cl; simp at this ⊢; omega, hk.dt⟩⟩
      · exact ⟨_, rfl, h, Kr.refl _ 10 10⟩
    | false =>
      rw [if_neg (by simp)]
      cases ho : c.Opening with
      | true => exact ⟨_, rfl, h, Kr.refl _ 10 10⟩
      | false =>
        simp only [Bool.false_eq_true, if_false]
        obtain ⟨j, hj⟩ : ∃ j, (if y2 = true then (if decide ((bits .and .i64 x.Flags 16) = 0) = true then (if (!c.Up) = true then some (decide ((IntKind.u32.wrap (x.Seq + 1)) = c.Want)) else some (false)) else some (false)) else some (false)) = some j := by
          split
          · split
            · split <;> exact ⟨_, rfl⟩
            · exact ⟨_, rfl⟩
          · exact ⟨_, rfl⟩
        rw [hj, Option.bind_some]
        cases j with
        | true =>
          obtain ⟨sg, hs, hk⟩ := syn_k ⟨c, now, [], [], false⟩ (by simp)
          rw [if_pos rfl, hs]
          exact ⟨_, rfl, h, hk.mono (by omega) (by omega)⟩
        | false =>
          rw [if_neg (by simp)]
          cases y2 with
          | true =>
            obtain ⟨sg, hs, hk⟩ := ack_k ⟨c, now, [], [], false⟩ (by simp)
            rw [if_pos rfl, hs]
            exact ⟨_, rfl, h, hk.mono (by omega) (by omega)⟩
          | false =>
            rw [if_neg (by simp)]
            have hsm : Sm ⟨c, now, [], [], false⟩ := ⟨by simp, by simp, hn.1, hn.2⟩
            obtain ⟨b, s2, hb2, k2, u2, r2⟩ : ∃ b s2, (if y3 = true then (splice_step_acked.f ⟨c, now, [], [], false⟩ x).bind fun r4 => some ((r4.1, r4.2)) else some ((false, (⟨c, now, [], [], false⟩ : Tstep)))) = some (b, s2) ∧ Kc s2.Conn ∧ (b = true → s2.Conn.Up = true) ∧ Kr (Dx x) ⟨c, now, [], [], false⟩ s2 1 0 := by
              cases y3 with
              | true =>
                obtain ⟨b, s2, q1, q2, q3, q4⟩ := acked_k ⟨c, now, [], [], false⟩ x ha hxw h ho hsm
                rw [if_pos rfl, q1]
                exact ⟨b, s2, rfl, q2, q3, q4⟩
              | false => exact ⟨false, _, rfl, h, fun e => (by cases e), Kr.refl _ 1 0⟩
            rw [hb2, Option.bind_some]
            cases b with
            | true =>
              have h1 := r2.sg
              have h2 := r2.cl
              have h3 := r2.now
              simp at h1 h2
              obtain ⟨s3, q1, q2, q3⟩ := text_k s2 x hx k2 (u2 rfl) ⟨by omega, by simp [h2], by rw [h3]; exact hn.1, by rw [h3]; exact hn.2⟩ ⟨by omega, by simp [h2]⟩
              dsimp only
              rw [if_pos rfl, q1]
              exact ⟨s3, rfl, q2, (r2.trans q3).mono (by omega) (by omega)⟩
            | false =>
              dsimp only
              rw [if_neg (by simp)]
              exact ⟨s2, rfl, k2, r2.mono (by omega) (by omega)⟩
  obtain ⟨s', h1, h2, h3⟩ := key
  rw [h1, Option.bind_some]
  have q1 := h3.sg
  have q2 := h3.cl
  simp at q1 q2
  exact ⟨_, _, _, _, rfl, h2, q1, q2, h3.dt (fun y hy => by cases hy), fun G f rp gp hc => h3.ct G f rp gp ⟨hc, fun y hy => by cases hy⟩, fun V q0 g hV hD hh => h3.gw V q0 g hV hD (by unfold Gt; rw [show wr [] = [] from rfl, List.append_nil]; exact hh)⟩
end Go.Proofs.Ytpcbhkigmnpimaa.S
