/- Ranges over functions: the loop's record, the deferred calls' block, a round's body, an iterator's contract; each rule states its own conditions. -/
import Derived.Test.YtgkgekaiajjcaaaSlZ
import Derived.RangeFuncRecord
namespace Go.SL
open Go Go.RowKit
set_option linter.unusedVariables false
set_option linter.unusedSimpArgs false

/-! ### An object of one's own -/
def Obe (b : Nat) (x : Obj) : Ent := ⟨fun _ φ => φ b 0 = some (.obj x), fun _ hf h => hf _ _ _ h⟩
def NC (x : Obj) : Prop := ∀ c t fr, x ≠ .cells c t fr
theorem Mem.ob {F : Fr} {L : List Ent} {w : World} {b : Nat} {x : Obj} (h : Mem F L w) (i : Nat) (hi : L[i]? = some (Obe b x)) : w.heap[b]? = some x ∧ NC x := by
  obtain ⟨m, φ, _, hf, he⟩ := h.get hi
  exact hp_obj (hf _ _ _ he)
theorem Mem.newOb {F : Fr} {L : List Ent} {w : World} (h : Mem F L w) {x : Obj} (hx : NC x) : Mem F (Obe w.heap.size x :: L) (w.alloc x) := by
  have hp' := hp_alloco (w := w) hx
  refine h.add (fun m fr hh _ => ?_) (Ok.alloc w _)
  have hn : ∀ {f : Frag}, f.le (hp w) → f w.heap.size 0 = none := fun {f} hl => by
    cases e : f w.heap.size 0 with
    | none => rfl
    | some c => have := hl _ _ _ e; rw [hp_none (Nat.le_refl _)] at this; cases this
  let q : Frag := fun b o => if b = w.heap.size ∧ o = 0 then some (.obj x) else none
  have hq : ∀ {f : Frag}, f.le (hp w) → f.dj q := fun {f} hl b o => by
    by_cases c : b = w.heap.size ∧ o = 0
    · left; obtain ⟨rfl, rfl⟩ := c; exact hn hl
    · right; simp [q, c]
  have hle : (hp w).le (hp (w.alloc x)) := fun b o c hc => by
    rw [hp', if_neg]; exact hc
    rintro ⟨rfl, rfl⟩
    rw [hp_none (Nat.le_refl _)] at hc; cases hc
  have hql : q.le (hp (w.alloc x)) := fun b o c hc => by
    rw [hp']
    by_cases c' : b = w.heap.size ∧ o = 0
    · rw [if_pos c']; simpa [q, c'] using hc
    · simp [q, c'] at hc
  exact ⟨m, q, .rfl, ⟨(hq hh.l2).symm, (hq hh.l3).symm, hh.d3, hql, hh.l2.trans hle, hh.l3.trans hle⟩, by simp [q, Obe]⟩
theorem Mem.putOb {F : Fr} {L : List Ent} {w : World} {b : Nat} {x x' : Obj} (h : Mem F L w) (i : Nat) (hi : L[i]? = some (Obe b x)) (h1 : NC x') : Mem F (L.set i (Obe b x')) (w.putObj b x') := by
  obtain ⟨hx, h0⟩ := h.ob i hi
  obtain ⟨hhp, hok⟩ := hp_seto hx h0 h1
  refine h.upd i hi (fun m φ fr hh he _ => ?_) hok
  have g1 : φ b 0 = some (.obj x) := he
  let nf : Frag := fun b' o => if b' = b ∧ o = 0 then some (.obj x') else φ b' o
  have off : ∀ {f : Frag}, f.dj φ → f b 0 = none := fun {f} hd => by
    rcases hd b 0 with e | e
    · exact e
    · rw [g1] at e; cases e
  have dnf : ∀ {f : Frag}, f.dj φ → f.dj nf := fun {f} hd b' o => by
    by_cases c : b' = b ∧ o = 0
    · left; obtain ⟨rfl, rfl⟩ := c; exact off hd
    · rcases hd b' o with e | e
      · exact .inl e
      · right; simp only [nf, if_neg c]; exact e
  have lnf : ∀ {f : Frag}, f.le (hp w) → f b 0 = none → f.le (hp (w.putObj b x')) := fun {f} hl h0 b' o c hc => by
    show hp { w with heap := w.heap.setIfInBounds b x' } b' o = some c
    rw [hhp, if_neg]; exact hl _ _ _ hc
    rintro ⟨rfl, rfl⟩; rw [h0] at hc; cases hc
  have hnfl : nf.le (hp (w.putObj b x')) := fun b' o c hc => by
    show hp { w with heap := w.heap.setIfInBounds b x' } b' o = some c
    rw [hhp]
    by_cases c' : b' = b ∧ o = 0
    · rw [if_pos c']; simpa [nf, c'] using hc
    · rw [if_neg c']; simp only [nf, if_neg c'] at hc; exact hh.l1 _ _ _ hc
  exact ⟨m, nf, .rfl, ⟨(dnf hh.d1.symm).symm, (dnf hh.d2.symm).symm, hh.d3, hnfl, lnf hh.l2 (off hh.d1.symm), lnf hh.l3 (off hh.d2.symm)⟩, by simp [nf, Obe]⟩
theorem nc_loop {r : Loop} : NC (.loop r) := fun _ _ _ h => by cases h
theorem nc_def {d : Option (List Deferred)} : NC (.deferred d) := fun _ _ _ h => by cases h
/-- Several entries as one. -/
def Al (L : List Ent) : Ent := ⟨fun m φ => Own L m φ, fun a b h => Own.mono a b h⟩
theorem Mem.al {F : Fr} {L1 L2 : List Ent} {w : World} (h : Mem F (Al L1 :: L2) w) : Mem F (L1 ++ L2) w := h.map fun m φ ⟨f1, f2, a, b, d, h1, h2⟩ => Own.join a b d h1 h2
theorem Mem.toAl {F : Fr} {L1 L2 : List Ent} {w : World} (h : Mem F (L1 ++ L2) w) : Mem F (Al L1 :: L2) w := h.map fun m φ h => by
  obtain ⟨f1, f2, a, b, d, h1, h2⟩ := Own.append h
  exact ⟨f1, f2, a, b, d, h1, h2⟩

/-! ### A round -/
/-- What a loop's record holds: the function, the slots, the loop's variable, the body. -/
structure Rc where
  fn : FuncId
  tmps : Array Value
  p : Nat
  assign : Code
  body : Code
  D : Nat
def Rc.lp (r : Rc) (s : LoopState) (pe : Option Code) : Loop := { state := s, pending := pe, fn := r.fn, tmps := r.tmps, params := #[r.p], assign := r.assign, body := r.body, defers := r.D }
/-- Yield, called with v beside these entries and the loop's state X, hands back true, and X' is the state. -/
def YOk (P : Program) (l : Nat) (r : Rc) (v : Value) (Lp : List Ent) (X X' : Ent) : Prop :=
  ∀ (F : Fr) (w : World), Mem F (Obe l (.loop (r.lp .ready none)) :: X :: Lp) w →
    ∀ (c : Frame) (cs : List Frame), ∃ w', Mem F [Obe l (.loop (r.lp .ready none)), X'] w' ∧
      Steps P (lone (Frame.round l r.fn (r.tmps.setIfInBounds r.p v) r.assign r.body .normal) (c :: cs) w) (lone (c.finish (.bool true)) cs w')
variable {P : Program}
/-- A round out of its body's walk: the assignment is of the one variable. -/
theorem YOk.of {l : Nat} {r : Rc} {v : Value} {Lp : List Ent} {X X' : Ent} {n id d : Nat} {ty : TypeId} {pos : String} {E : List (Nat × Value)}
    (ha : r.assign = .region id #[⟨some d, .assign (.tmp r.p), ty, pos, #[], none⟩] false) (hE : Sl n E { tmps := r.tmps, defers := [] }) (hp : Nat.blt r.p n = true) (hd : Nat.blt d n = true)
    (h : ∀ (F : Fr) (a : Act) (w : World), St n F ((d, v) :: (r.p, v) :: E) (X :: Lp) a w → Go P ⟨r.fn, some l, []⟩ [.code r.body] a w (fun e w' => e = .returned (.bool true) ∧ Mem F [X'] w')) : YOk P l r v Lp X X' := by
  intro F w hm c cs
  let b : Bas := ⟨r.fn, some l, []⟩
  have hS1 : Sl n ((r.p, v) :: E) (Act.mk (r.tmps.setIfInBounds r.p v) []) := hE.put (Nat.le_of_ble_eq_true hp) v
  have hb0 : Frame.round l r.fn (r.tmps.setIfInBounds r.p v) r.assign r.body .normal = (fb b).atR (pl b.ds (Act.mk (r.tmps.setIfInBounds r.p v) [])) [.code r.assign, .beginRound, .code r.body] := by
    simp [Frame.round, Frame.atR, fb, pl, b]
  have key : ∃ w1 m1 F1, Mem F1 [X'] w1 ∧ (∀ w2 L2, Mem F1 L2 w2 → Mem F (Obe l (.loop (r.lp .busy none)) :: L2) w2) ∧ Steps P (lone (Frame.round l r.fn (r.tmps.setIfInBounds r.p v) r.assign r.body .normal) (c :: cs) w) m1 ∧ ∃ a', m1 = lone ((fb b).atR a' []) (c :: cs) w1 := by
    -- the record is busy
    have hob := (hm.ob 0 rfl).1
    have hm1 := hm.putOb 0 rfl (x' := .loop (r.lp .busy none)) nc_loop
    have hbr : (Instr.beginRound l).run P w = .ok () (w.putObj l (.loop (r.lp .busy none))) := run_beginRound hob rfl
    have hm2 : Mem F ((X :: Lp) ++ [Obe l (.loop (r.lp .busy none))]) (w.putObj l (.loop (r.lp .busy none))) := hm1.map fun m φ ⟨f1, f2, a, b, d, h1, h2⟩ => Own.join b a d.symm h2 ⟨f1, Frag.emp, .rfl, Frag.emp_le, Frag.dj_emp, h1, trivial⟩
    obtain ⟨F1, hF1, hback⟩ := hm2.frame
    have hgo : Go P b [.code r.assign, .beginRound, .code r.body] (Act.mk (r.tmps.setIfInBounds r.p v) []) w (fun e w' => e = .returned (.bool true) ∧ Mem F1 [X'] w') := by
      rw [ha]
      refine Go.reg (os := [⟨some d, .assign (.tmp r.p), ty, pos, #[], none⟩]) ?_
      refine GoR.oper rfl ?_
      have hv : (Act.mk (r.tmps.setIfInBounds r.p v) []).eval (.tmp r.p) = v := hS1.eval (by simp [opv, look])
      have hx : Oper.wp P ⟨some d, .assign (.tmp r.p), ty, pos, #[], none⟩ (Act.mk (r.tmps.setIfInBounds r.p v) []) w (fun a' w' => a' = (Act.mk (r.tmps.setIfInBounds r.p v) []).put (some d) v ∧ w' = w) (fun _ _ _ => False) := by
        unfold Oper.wp
        simp only [execOp, hv, Sem.run_pure]
        exact ⟨rfl, rfl⟩
      refine wp_mono2 ?_ (fun _ _ _ h => h) hx
      rintro a' w' ⟨rfl, rfl⟩
      refine GoR.done ?_
      refine Go.steps (w' := w'.putObj l (.loop (r.lp .busy none))) (fun cs => .one (stepR_beginRound rfl hbr)) ?_
      exact h F1 _ _ ⟨hS1.put (Nat.le_of_ble_eq_true hd) v, hF1⟩
    obtain ⟨e, w1, m1, ⟨rfl, hm'⟩, hc, hends⟩ := hgo.2 (c :: cs)
    obtain ⟨b1, a1, k1, e1, e2, e3, e4⟩ := hends
    cases e1
    exact ⟨w1, m1, F1, hm', fun w2 L2 h2 => (hback L2 w2 h2).map fun m φ h => by
      obtain ⟨f1, f2, a, b, d, h1, h2⟩ := Own.append h
      obtain ⟨g1, g2, a', b', d', h3, _⟩ := h2
      exact ⟨g1, f1, a'.trans b, a, (d.mono .rfl a').symm, h3, h1⟩, hb0 ▸ hc, a1, by rw [e2, e3 rfl]⟩
  obtain ⟨w1, m1, F1, hm1, hback, hs, a1, rfl⟩ := key
  have hm3 := hback _ _ hm1
  have hob := (hm3.ob 0 rfl).1
  have hend := run_endRound (P := P) none hob
  refine ⟨_, hm3.putOb 0 rfl (x' := .loop (r.lp .ready none)) nc_loop, hs.trans (.one (stepR_round_end (b := fb b) rfl rfl hend))⟩

/-! ### A region with a call of yield -/
def GoI (P : Program) (f : Bas) (ops : Array Oper) (i : Nat) (os : List Oper) (k : List Item) (a : Act) (w : World) (R : Ending → World → Prop) : Prop :=
  ops.toList.drop i = os → wpOpsIn (wf f.ro) 0 P ops (fun e a' w' => ∃ a0, a' = pl f.ds a0 ∧ e = .normal ∧ Go P f k a0 w' R) (List.range' i os.length) (pl f.ds a) w
section
variable {f : Bas} {k : List Item} {a : Act} {w : World} {R : Ending → World → Prop} {ops : Array Oper} {i : Nat} {os : List Oper}
theorem Go.regI {id : Nat} (hd : a.defers = []) (h : GoI P f (List.toArray os) 0 os k a w R) : Go P f (.code (.region id (List.toArray os) false) :: k) a w R :=
  have h' : wpOpsIn (wf f.ro) 0 P (List.toArray os) (fun e a' w' => ∃ a0, a' = pl f.ds a0 ∧ e = .normal ∧ Go P f k a0 w' R) (List.range (List.toArray os).size) (pl f.ds a) w := by rw [List.range_eq_range']; simpa using h rfl
  Go.wpIn hd (wpIn_region h') fun e a' w ⟨a0, e1, h1, h2⟩ => ⟨h1, a0, e1, h2⟩
theorem GoI.done (h : Go P f k a w R) : GoI P f ops i [] k a w R := fun _ => ⟨a, rfl, rfl, h⟩
theorem GoI.step {o : Oper} (hw : Region.wanted o (yielded ops a.tmps) = true) (h : ops[i]? = some o → (∀ a' w', GoI P f ops (i + 1) os k a' w' R → wpOpsIn (wf f.ro) 0 P ops (fun e a' w' => ∃ a0, a' = pl f.ds a0 ∧ e = .normal ∧ Go P f k a0 w' R) (List.range' (i + 1) os.length) (pl f.ds a') w') → Oper.wpIn (wf f.ro) 0 P o (pl f.ds a) w (wpOpsIn (wf f.ro) 0 P ops (fun e a' w' => ∃ a0, a' = pl f.ds a0 ∧ e = .normal ∧ Go P f k a0 w' R) (List.range' (i + 1) os.length)) (fun e a' w' => ∃ a0, a' = pl f.ds a0 ∧ e = .normal ∧ Go P f k a0 w' R)) : GoI P f ops i (o :: os) k a w R := by
  intro hd
  have ho : ops[i]? = some o := by
    have := congrArg (fun l => l[0]?) hd
    simpa using this
  have hd2 : ops.toList.drop (i + 1) = os := by
    rw [← List.drop_drop, hd]; rfl
  rw [List.length_cons, List.range'_succ]
  simp only [wpOpsIn, ho]
  rw [if_pos (show Region.wanted o (yielded ops (pl f.ds a).tmps) = true from hw)]
  exact h ho fun a' w' hg => hg hd2
theorem gi {σ : Type} {n : Nat} {F : Fr} {E : List (Nat × Value)} {L : List Ent} {d : Nat} {op : Op} {ty : TypeId} {pos : String} {aft : Array Edge} {ret : σ → Value} {out : σ → List Ent}
    (h : St n F E L a w) (hop : OpS P E L ⟨some d, op, ty, pos, aft, none⟩ ret out) (hd : Nat.blt d n = true) (K : ∀ s a w, St n F ((d, ret s) :: E) (out s) a w → GoI P f ops (i + 1) os k a w R) : GoI P f ops i (⟨some d, op, ty, pos, aft, none⟩ :: os) k a w R := by
  refine GoI.step rfl fun ho hnext => ?_
  have h1 : wpOp P ops (fun e a w => e = .normal ∧ Go P f k a w R) i (fun a' w' => a'.defers = [] ∧ ∃ s, a' = a.put (some d) (ret s) ∧ Mem F (out s) w') a w := by
    unfold wpOp
    simp only [ho]
    rw [if_pos (show Region.wanted _ _ = true from rfl)]
    refine .inl (wp_mono2 ?_ (fun _ _ _ h => h.elim) (hop n F a w h.sl h.mem))
    rintro a' w' ⟨s, rfl, hm⟩
    exact ⟨by rw [put_defers]; exact h.sl.df, s, rfl, hm⟩
  have h2 := wpOp_in (r := f.ro) (ds := f.ds) (fun _ _ _ h => ⟨h.1, h.2.1⟩) (fun _ _ h => h.1) h1
  unfold wpOpIn at h2
  simp only [ho] at h2
  rw [if_pos (show Region.wanted _ _ = true from rfl)] at h2
  refine Oper.wpIn_mono ?_ h2
  rintro a' w' ⟨a0, rfl, _, s, rfl, hm⟩
  exact hnext _ _ (K s _ _ ⟨h.sl.put (Nat.le_of_ble_eq_true hd) _, hm⟩)
/-- The call of yield. -/
theorem gi_yield {n : Nat} {F : Fr} {E : List (Nat × Value)} {L Lr Lp : List Ent} {d l : Nat} {r : Rc} {v : Value} {X X' : Ent} {t x : Operand} {tys : Array TypeId} {ty : TypeId} {pos : String} {aft : Array Edge}
    (h : St n F E L a w) (ht : opv E t = some (.func (.yield l) #[] #[])) (hx : opv E x = some v) (hy : YOk P l r v Lp X X') (hm : Mem F L w → Mem F ((Obe l (.loop (r.lp .ready none)) :: X :: Lp) ++ Lr) w) (hd : Nat.blt d n = true)
    (K : ∀ a w, St n F ((d, .bool true) :: E) (Obe l (.loop (r.lp .ready none)) :: X' :: Lr) a w → GoI P f ops (i + 1) os k a w R) : GoI P f ops i (⟨some d, .call { callee := .value t, args := #[x], argTypes := tys }, ty, pos, aft, none⟩ :: os) k a w R := by
  refine GoI.step rfl fun ho hnext => ⟨fun _ _ => trivial, ?_⟩
  have hm1 := hm h.mem
  have hob := (hm1.ob 0 rfl).1
  have hrun : (execOp a.eval ⟨some d, .call { callee := .value t, args := #[x], argTypes := tys }, ty, pos, aft, none⟩).run P w = .ok (.round l r.fn (r.tmps.setIfInBounds r.p v) r.assign r.body) w := by
    have hyl := run_yield (P := P) (args := #[v]) hob rfl
    simp only [Rc.lp] at hyl
    simp [execOp, resolve, h.sl.eval ht, h.sl.eval hx, Deferred.ofValue, invoke, hyl]
  rw [pl_eval, Oper.semAt_eq _ _ _ (fun c hc => by cases hc), hrun]
  obtain ⟨F1, hF1, hback⟩ := hm1.frame
  refine ⟨fun h => by simp [wf, Fence.wide] at h, trivial, fun c cs _ => ?_⟩
  obtain ⟨w', hm', hs⟩ := hy F1 w hF1 c cs
  exact ⟨.returned (.bool true), w', hnext _ _ (K _ _ ⟨h.sl.put (Nat.le_of_ble_eq_true hd) _, hback _ _ hm'⟩), (comesIn_wide (e := .returned (.bool true))).2 hs⟩
end

/-! ### An iterator, and the range over it -/
/-- Function gf, with what it captured (these entries), calls yield with each of ys, in order, and returns. -/
structure Iter {α : Type} (P : Program) (gf : FuncId) (caps : List Value) (Li : List Ent) (K : Kd α) (ys : List α) : Prop where
  fn : ∃ fn, P.funcs[gf]? = some fn ∧ (fn.name == "runtime.NumGoroutine") = false ∧ fn.body.isSome = true
  run : ∀ (l : Nat) (r : Rc) (X : Nat → Ent), (∀ (j : Nat) (hj : j < ys.length) (v : Value), YOk P l r v [Val K v ys[j]] (X j) (X (j + 1))) →
    ∀ (F : Fr) (w : World), Mem F (Obe l (.loop (r.lp .ready none)) :: X 0 :: Li) w →
      Calls P gf (Value.func (.yield l) #[] #[] :: caps).toArray w (fun e w' => e = .returned (tup []) ∧ Mem F [Obe l (.loop (r.lp .ready none)), X ys.length] w')
theorem Go.range {α : Type} {gf : FuncId} {caps : List Value} {Li : List Ent} {K : Kd α} {ys : List α} {fn : FuncId} {n : Nat} {F : Fr} {E : List (Nat × Value)} {L : List Ent} {a : Act} {w : World} {t p : Nat} {assign body : Code} {k : List Item} {R : Ending → World → Prop}
    (h : St n F E L a w) (it : Iter P gf caps Li K ys) (hx : look E t = some (.func (.func gf) #[] caps.toArray)) (X : Nat → Ent) {Lr : List Ent} (hm : ∀ F w, Mem F L w → Mem F ((X 0 :: Li) ++ Lr) w)
    (step : ∀ (l D j : Nat) (hj : j < ys.length) (v : Value), YOk P l ⟨fn, a.tmps, p, assign, body, D⟩ v [Val K v ys[j]] (X j) (X (j + 1)))
    (cont : ∀ (D : Nat) (w : World), St n F E (Obe D (.deferred (some [])) :: X ys.length :: Lr) a w → Go P ⟨fn, none, [⟨.collected D, #[]⟩]⟩ k a w R) :
    Go P ⟨fn, none, []⟩ (.code (.rangeFunc (.tmp t) #[p] assign body) :: k) a w R := by
  refine ⟨h.sl.df, fun cs => ?_⟩
  obtain ⟨D, hD⟩ : ∃ D, w.heap.size = D := ⟨_, rfl⟩
  have m1 := (hm F w h.mem).newOb (x := .deferred (some [])) nc_def
  have m2 := m1.newOb (x := .loop ((Rc.mk fn a.tmps p assign body D).lp .ready none)) nc_loop
  rw [World.size_alloc, hD] at m2
  obtain ⟨w2, hw2⟩ : ∃ w2, (w.alloc (.deferred (some []))).alloc (.loop ((Rc.mk fn a.tmps p assign body D).lp .ready none)) = w2 := ⟨_, rfl⟩
  rw [hw2] at m2
  have m3 : Mem F ((Obe (D + 1) (.loop ((Rc.mk fn a.tmps p assign body D).lp .ready none)) :: X 0 :: Li) ++ (Obe D (.deferred (some [])) :: Lr)) w2 := by
    refine m2.map fun m φ h => ?_
    obtain ⟨f1, f2, a1, b1, d1, h1, g1, g2, a2, b2, d2, h2, h3⟩ := h
    obtain ⟨e1, e2, a3, b3, d3, h4, h5⟩ := Own.append h3
    refine ⟨f1, f2, a1, b1, d1, h1, ?_⟩
    exact Own.join (L1 := X 0 :: Li) (a3.trans b2) (Frag.un_le a2 (b3.trans b2)) (Frag.dj_un (d2.mono .rfl a3).symm d3) h4 ⟨g1, e2, Frag.le_un_left, Frag.le_un_right (d2.mono .rfl b3), d2.mono .rfl b3, h2, h5⟩
  obtain ⟨F1, hF1, hback⟩ := m3.frame
  obtain ⟨fg, hfg, hng, hbg⟩ := it.fn
  have hcall := it.run (D + 1) ⟨fn, a.tmps, p, assign, body, D⟩ X (fun j hj v => step _ _ j hj v) F1 w2 hF1
  have he : (Instr.enterLoop (fb ⟨fn, none, []⟩).fn (pl [] a).tmps #[p] assign body (fb ⟨fn, none, []⟩).roundOf).run P w = .ok (D + 1, [{ target := .collected D, args := #[] }]) w2 := by
    have := run_enterLoop_outer (P := P) (w := w) fn a.tmps #[p] assign body
    rw [hD] at this
    rw [← hw2]; exact this
  have hev : (pl [] a).eval (.tmp t) = .func (.func gf) #[] caps.toArray := h.sl.eval (x := .tmp t) (by simpa [opv] using hx)
  have hres : (resolve (pl [] a).eval (rangeCall (.tmp t) (D + 1)) 0).run P w2 = .ok { target := .fn (.func gf) caps.toArray, args := #[.func (.yield (D + 1)) #[] #[]] } w2 := by
    simp only [resolve, hev]
    simp [go_sem, Deferred.ofValue, Act.eval]
  have hinv : (invoke (.fn (.func gf) caps.toArray) #[.func (.yield (D + 1)) #[] #[]]).run P w2 = .ok (.enter gf (Value.func (.yield (D + 1)) #[] #[] :: caps).toArray) w2 := by
    have := run_enter (P := P) (args := (Value.func (.yield (D + 1)) #[] #[] :: caps).toArray) (w := w2) hfg hng hbg
    simpa [invoke] using this
  have henter := stepR_rangeFunc (P := P) (b := fb ⟨fn, none, []⟩) (a := pl [] a) (k := k) (cs := cs) (w := w) he hres hinv
  obtain ⟨e, w3, fr, ⟨rfl, hm4⟩, hc, hfr, hleave⟩ := hcall ((fb ⟨fn, none, []⟩).atR { pl [] a with defers := [{ target := .collected D, args := #[] }] ++ (pl [] a).defers } (.inRangeFunc (D + 1) :: k) :: cs)
  have s1 := step_leave_returned (cs := cs) (c := (fb ⟨fn, none, []⟩).atR { pl [] a with defers := [{ target := .collected D, args := #[] }] ++ (pl [] a).defers } (.inRangeFunc (D + 1) :: k)) hleave
  rw [finish_atR_inRangeFunc] at s1
  have hm5 := hback _ _ hm4
  have hob := (hm5.ob 0 rfl).1
  have hend := run_endLoop (P := P) hob (by simp [Rc.lp])
  have s2 := stepR_endRangeFunc (b := fb ⟨fn, none, []⟩) (a := { pl [] a with defers := [{ target := .collected D, args := #[] }] ++ (pl [] a).defers }) (k := k) (cs := cs) hend
  have hm6 := hm5.putOb 0 rfl (x' := .loop { (Rc.mk fn a.tmps p assign body D).lp .ready none with state := .exhausted }) nc_loop
  have hm7 := (Mem.drop hm6)
  have hm8 : Mem F (Obe D (.deferred (some [])) :: X ys.length :: Lr) (w3.putObj (D + 1) (.loop { (Rc.mk fn a.tmps p assign body D).lp .ready none with state := .exhausted })) := Mem.swap hm7
  obtain ⟨e2, w4, m, hr, hc2, hf2⟩ := (cont D _ ⟨h.sl, hm8⟩).2 cs
  exact ⟨e2, w4, m, hr, .of_steps ((Steps.one henter).trans (Steps.trans hc ((Steps.one s1).trans (.one s2)))) hc2, hf2⟩
/-- Leaving, with the mark of a range over a function among the deferred calls. -/
theorem g_retm {fn : Func} {vs : List Value} {f : Bas} {n D : Nat} {F : Fr} {E : List (Nat × Value)} {L : List Ent} {a : Act} {w : World} {k : List Item} {R : Ending → World → Prop} (h : St n F E L a w) (i : Nat) (hi : L[i]? = some (Obe D (.deferred (some [])))) (hf : P.funcs[f.fn]? = some fn)
    (hv : ∀ w, St n F E (L.set i (Obe D (.deferred none))) a w → RV P w E fn.results.toList vs) (hR : ∀ w, St n F E (L.set i (Obe D (.deferred none))) a w → R (.returned (tup vs)) w) (hro : f.ro = none := by rfl) (hds : f.ds = [⟨.collected D, #[]⟩] := by rfl) : Go P f (.code .ret :: k) a w R := by
  refine ⟨h.sl.df, fun cs => ?_⟩
  have hob := (h.mem.ob i hi).1
  have hm := h.mem.putOb i hi (x' := .deferred none) nc_def
  have hS : St n F E (L.set i (Obe D (.deferred none))) a (w.putObj D (.deferred none)) := ⟨h.sl, hm⟩
  have s1 := stepR_ret (P := P) (b := fb f) (a := pl f.ds a) (k := k) (cs := cs) (w := w) hro
  have s2 := step_collected (P := P) (fr := { (fb f).atR (pl f.ds a) (.code .ret :: k) with mode := .returning }) (cs := cs) (by simp) (show _ = _ from hds) rfl (run_takeDeferred hob)
  refine ⟨_, _, _, hR _ hS, (Steps.one s1).trans (.one s2), ?_⟩
  unfold Bas.ends
  rw [hro]
  exact ⟨_, rfl, rfl, rfl, rfl, rfl, fn, hf, (show (results fn a.tmps).run P _ = _ from run_results h.sl (hv _ hS))⟩
/-! ### An iterator as a value -/
def Kd.it {α : Type} (P : Program) (K : Kd α) : Kd (List α) where
  n := 1
  agg := false
  C := fun m φ ys cs => ∃ gf caps Li, cs = [.func (.func gf) #[] (List.toArray caps)] ∧ Iter P gf caps Li K ys ∧ SL.Own Li m φ
  len := fun ⟨_, _, _, h, _⟩ => by rw [h]; rfl
  one := fun ⟨_, _, _, h, _⟩ c hc => by rw [h] at hc; simp at hc; subst hc; rfl
  mono := fun a b ⟨gf, caps, Li, h1, h2, h3⟩ => ⟨gf, caps, Li, h1, h2, h3.mono a b⟩
  sgl := fun _ => rfl
theorem Mem.mkit {α : Type} {F : Fr} {L Li : List Ent} {w : World} {gf : FuncId} {caps : List Value} {K : Kd α} {ys : List α} (h : Mem F L w) (it : Iter P gf caps Li K ys) (os : List Nat) (nd : os.Nodup) (hos : os.map (fun i => L[i]?) = Li.map some) : Mem F (Val (Kd.it P K) (.func (.func gf) #[] caps.toArray) ys :: holes os L) w := by
  obtain ⟨F', hm', hback⟩ := Mem.hand [] os (Lp := []) all_nil nd rfl hos h
  exact hback [_] w (hm'.map fun m φ h => ⟨φ, Frag.emp, .rfl, Frag.emp_le, Frag.dj_emp, ⟨_, ⟨gf, caps, Li, rfl, it, h⟩, rfl⟩, trivial⟩)
/-- The rounds over the items. -/
def rng {σ α : Type} (B : σ → α → Option σ) : List α → σ → Option σ
  | [], s => some s
  | y :: ys, s => (B s y).bind (rng B ys)
theorem rng_seq {σ α : Type} {B : σ → α → Option σ} : ∀ {ys : List α} {s o : σ}, rng B ys s = some o → ∃ st : Nat → σ, st 0 = s ∧ st ys.length = o ∧ ∀ (j : Nat) (hj : j < ys.length), B (st j) ys[j] = some (st (j + 1))
  | [], s, o, h => ⟨fun _ => s, rfl, by cases h; rfl, fun j hj => by cases hj⟩
  | y :: ys, s, o, h => by
    obtain ⟨s1, h1, h2⟩ := Option.bind_eq_some_iff.1 h
    obtain ⟨st, e0, e1, e2⟩ := rng_seq h2
    refine ⟨fun j => match j with | 0 => s | j + 1 => st j, rfl, e1, fun j hj => ?_⟩
    cases j with
    | zero => show B s y = some (st 0); rw [e0]; exact h1
    | succ j => exact e2 j (by simpa using hj)
theorem le_rng {σ α : Type} {B B' : σ → α → Option σ} (h : ∀ s y, Le (B s y) (B' s y)) : ∀ (ys : List α) (s : σ), Le (rng B ys s) (rng B' ys s)
  | [], s => le_refl _
  | y :: ys, s => le_bind (h s y) fun s' => le_rng h ys s'
theorem g_range {σ α : Type} {K : Kd α} {ys : List α} {fn : FuncId} {n : Nat} {F : Fr} {E : List (Nat × Value)} {L : List Ent} {a : Act} {w : World} {t p d id : Nat} {ty : TypeId} {pos : String} {body : Code} {k : List Item} {R : Ending → World → Prop} {v0 : Value}
    (h : St n F E L a w) (hx : look E t = some v0) {B : σ → α → Option σ} {s0 o : σ} (hl : rng B ys s0 = some o) (Ls : σ → List Ent) (Lr : List Ent) (is : List Nat) (nd : is.Nodup) (hp : is.map (fun j => L[j]?) = (Val (Kd.it P K) v0 ys :: (Ls s0 ++ Lr)).map some) (hp1 : Nat.blt p n = true) (hd1 : Nat.blt d n = true)
    (step : ∀ (s s' : σ) (y : α) (v : Value) (l : Nat) (F : Fr) (a : Act) (w : World), B s y = some s' → St n F ((d, v) :: (p, v) :: E) (Val K v y :: Ls s) a w → Go P ⟨fn, some l, []⟩ [.code body] a w (fun e w' => e = .returned (.bool true) ∧ Mem F (Ls s') w'))
    (cont : ∀ (D : Nat) (w : World), St n F E (Obe D (.deferred (some [])) :: (Ls o ++ Lr)) a w → Go P ⟨fn, none, [⟨.collected D, #[]⟩]⟩ k a w R) :
    Go P ⟨fn, none, []⟩ (.code (.rangeFunc (.tmp t) #[p] (.region id #[⟨some d, .assign (.tmp p), ty, pos, #[], none⟩] false) body) :: k) a w R := by
  obtain ⟨st, e0, e1, e2⟩ := rng_seq hl
  have h1 : Mem F (Val (Kd.it P K) v0 ys :: (Ls s0 ++ Lr)) w := h.mem.pick is nd hp
  obtain ⟨m, φ, hφ, hf, hv⟩ := h1.get (i := 0) rfl
  obtain ⟨cs, ⟨gf, caps, Li, rfl, it, _⟩, rfl⟩ := hv
  have hm : Mem F (Al Li :: (Ls s0 ++ Lr)) w ∨ True := .inr trivial
  -- the iterator's own entries, taken out
  have key : ∃ gf' caps' Li', Value.func (.func gf) #[] caps.toArray = .func (.func gf') #[] (List.toArray caps') ∧ Iter P gf' caps' Li' K ys ∧ Mem F (Al Li' :: (Ls s0 ++ Lr)) w := by
    obtain ⟨m, φ, ⟨f1, f2, a1, b1, d1, ⟨cs, ⟨gf', caps', Li', rfl, it', ho⟩, ev⟩, hr⟩, hh⟩ := h1
    exact ⟨gf', caps', Li', ev, it', m, φ, ⟨f1, f2, a1, b1, d1, ho, hr⟩, hh⟩
  obtain ⟨gf', caps', Li', ev, it', hm'⟩ := key
  have hS : St n F E (Al Li' :: (Ls s0 ++ Lr)) a w := ⟨h.sl, hm'⟩
  have hx' : look E t = some (.func (.func gf') #[] (List.toArray caps')) := by rw [hx]; exact congrArg some ev
  refine Go.range hS it' hx' (fun j => Al (Ls (st j))) (Lr := Lr) ?_ ?_ ?_
  · intro F w hm
    have := hm.al
    rw [e0]
    refine this.map fun m φ h => ?_
    obtain ⟨f1, f2, a1, b1, d1, h1, h2⟩ := Own.append h
    obtain ⟨g1, g2, a2, b2, d2, h3, h4⟩ := Own.append h2
    exact ⟨g1, f1.un g2, a2.trans b1, Frag.un_le a1 (b2.trans b1), Frag.dj_un (d1.mono .rfl a2).symm d2, h3, Own.join Frag.le_un_left (Frag.le_un_right (d1.mono .rfl b2)) (d1.mono .rfl b2) h1 h4⟩
  · intro l D j hj v
    have hE : Sl n E (Act.mk a.tmps []) := ⟨h.sl.sz, rfl, h.sl.at_⟩
    refine YOk.of (r := ⟨fn, a.tmps, p, _, body, D⟩) rfl hE hp1 hd1 ?_
    intro F a' w' hS'
    refine (step (st j) (st (j + 1)) ys[j] v l F a' w' (e2 j hj) ⟨hS'.sl, ?_⟩).mono ?_
    · exact Mem.swap (L := []) (hS'.mem.map fun m φ h => h) |>.map fun m φ ⟨f1, f2, a1, b1, d1, h1, g1, g2, a2, b2, d2, h2, _⟩ => ⟨f1, g1, a1, a2.trans b1, d1.mono .rfl a2, h1, h2⟩
    · rintro e w' ⟨rfl, hm⟩
      exact ⟨rfl, hm.map fun m φ h => ⟨φ, Frag.emp, .rfl, Frag.emp_le, Frag.dj_emp, h, trivial⟩⟩
  · intro D w' hS'
    refine cont D w' ⟨hS'.sl, ?_⟩
    rw [← e1]
    refine hS'.mem.map fun m φ h => ?_
    obtain ⟨f1, f2, a1, b1, d1, h1, g1, g2, a2, b2, d2, h2, h3⟩ := h
    exact ⟨f1, f2, a1, b1, d1, h1, Own.join a2 b2 d2 h2 h3⟩

/-- Counted rounds. -/
theorem Go.loopN {f : Bas} {k : List Item} {a : Act} {w : World} {R : Ending → World → Prop} {c : Code} (N : Nat) (Q : Nat → Act → World → Prop) (init : Q 0 a w)
    (step : ∀ j, j ≤ N → (j < N → ∀ a w, Q (j + 1) a w → Go P f (.code c :: .inLoop c :: k) a w R) → ∀ a w, Q j a w → Go P f (.code c :: .inLoop c :: k) a w R) : Go P f (.code (.loop c) :: k) a w R := by
  have key : ∀ (d j : Nat), j + d = N → ∀ a w, Q j a w → Go P f (.code c :: .inLoop c :: k) a w R := by
    intro d
    induction d with
    | zero => intro j hj a w hq; exact step j (by omega) (fun h => by omega) a w hq
    | succ d ih => intro j hj a w hq; exact step j (by omega) (fun _ => ih (j + 1) (by omega)) a w hq
  exact Go.loop (key N 0 (by omega) a w init)
/-! ### The pieces of a list -/
def chunks {α : Type} (xs : List α) (m : Nat) : List (List α) := (List.range ((xs.length + m - 1) / m)).map fun j => (xs.drop (j * m)).take m
theorem chunks_len {α : Type} (xs : List α) (m : Nat) (hm : 1 ≤ m) (j : Nat) : j < (chunks xs m).length ↔ j * m < xs.length := by
  unfold chunks
  rw [List.length_map, List.length_range, Nat.lt_iff_add_one_le, Nat.le_div_iff_mul_le (by omega), Nat.add_mul]
  omega
theorem chunks_get {α : Type} (xs : List α) (m j : Nat) (h : j < (chunks xs m).length) : (chunks xs m)[j] = (xs.drop (j * m)).take m := by simp [chunks]
theorem chunks_cut {α : Type} (xs : List α) (m j : Nat) (hm : 1 ≤ m) (h : j < (chunks xs m).length) : cut xs ((j * m : Nat) : Int) (xs.length : Int) = some (xs.drop (j * m)) ∧ cut xs ((j * m : Nat) : Int) (((j * m : Nat) : Int) + min (m : Int) ((xs.drop (j * m)).length : Int)) = some (chunks xs m)[j] := by
  have hj := (chunks_len xs m hm j).1 h
  rw [chunks_get]
  obtain ⟨q, hq⟩ : ∃ q, j * m = q := ⟨_, rfl⟩
  rw [hq] at hj ⊢
  have hl : (xs.drop q).length = xs.length - q := List.length_drop
  rw [hl]
  constructor
  · unfold cut
    rw [if_pos (by omega)]
    simp
  · unfold cut
    rw [if_pos (by omega), List.drop_take, Int.toNat_natCast]
    have e : ((q : Int) + min (m : Int) ((xs.length - q : Nat) : Int)).toNat - q = min m (xs.length - q) := by omega
    rw [e, Nat.min_def]
    split
    · rfl
    · rw [List.take_of_length_le (by omega), List.take_of_length_le (by omega)]
theorem in_i64 {x : Int} (h0 : -9223372036854775808 ≤ x) (h1 : x ≤ 9223372036854775807) : IntKind.i64.wrap x = x := by simp [IntKind.wrap, IntKind.bits, IntKind.signed]; omega
end Go.SL
