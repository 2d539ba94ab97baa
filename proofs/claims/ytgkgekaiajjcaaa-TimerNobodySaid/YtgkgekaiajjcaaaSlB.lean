/- Going on through a function's code, step by step, over the state of SlA; each rule states its own conditions. -/
import Derived.Test.YtgkgekaiajjcaaaSlA
import Derived.Scope
import Derived.RangeFuncLeaves
import Derived.OrdersIn
namespace Go.SL
open Go Go.RowKit
set_option linter.unusedVariables false
set_option linter.unusedSimpArgs false

/-! ### Slots -/
def look : List (Nat × Value) → Nat → Option Value
  | [], _ => none
  | (t, v) :: E, s => bif Nat.beq t s then some v else look E s
def opv (E : List (Nat × Value)) : Operand → Option Value
  | .tmp t => look E t
  | .const v => some v
  | .global g => some (.pointer (some ⟨g, 0, none⟩))
  | .func f => some (.func (.func f) #[] #[])
structure Sl (n : Nat) (E : List (Nat × Value)) (a : Act) : Prop where
  sz : a.tmps.size = n
  df : a.defers = []
  at_ : ∀ t v, look E t = some v → a.tmps.getD t undef = v
theorem Sl.eval {n : Nat} {E : List (Nat × Value)} {a : Act} (h : Sl n E a) {x : Operand} {v : Value} (hx : opv E x = some v) : a.eval x = v := by
  cases x with
  | tmp t => exact h.at_ t v hx
  | const u => cases hx; rfl
  | global g => cases hx; rfl
  | func f => cases hx; rfl
theorem Sl.put {n : Nat} {E : List (Nat × Value)} {a : Act} (h : Sl n E a) {d : Nat} (hd : d < n) (v : Value) : Sl n ((d, v) :: E) (a.put (some d) v) := by
  refine ⟨by simp [Act.put, h.sz], h.df, fun t u hu => ?_⟩
  simp only [look] at hu
  cases hb : Nat.beq d t with
  | true =>
    have := Nat.eq_of_beq_eq_true hb
    subst this
    rw [hb] at hu
    simp only [cond_true, Option.some.injEq] at hu
    subst hu
    have : d < a.tmps.size := by rw [h.sz]; exact hd
    simp [Act.put, Array.getD, this]
  | false =>
    rw [hb] at hu
    have hne : d ≠ t := fun e => by subst e; simp at hb
    have := h.at_ t u hu
    simp only [Act.put, Array.getD_eq_getD_getElem?] at this ⊢
    rw [Array.getElem?_setIfInBounds_ne hne]
    exact this
theorem Sl.sub {n : Nat} {E E' : List (Nat × Value)} {a : Act} (h : Sl n E a) (hs : E'.map (fun p => look E p.1) = E'.map (fun p => some p.2)) : Sl n E' a := by
  refine ⟨h.sz, h.df, fun t v ht => h.at_ t v ?_⟩
  induction E' with
  | nil => cases ht
  | cons p E' ih =>
    obtain ⟨d, u⟩ := p
    simp only [List.map_cons, List.cons.injEq] at hs
    simp only [look] at ht
    cases hb : Nat.beq d t with
    | true =>
      rw [hb] at ht
      have := Nat.eq_of_beq_eq_true hb
      subst this
      rw [hs.1]; exact ht
    | false => rw [hb] at ht; exact ih hs.2 ht

structure St (n : Nat) (F : Fr) (E : List (Nat × Value)) (L : List Ent) (a : Act) (w : World) : Prop where
  sl : Sl n E a
  mem : Mem F L w
/-- Fewer slots, and the entries at some places. -/
theorem St.wk {n : Nat} {F : Fr} {E : List (Nat × Value)} {L : List Ent} {a : Act} {w : World} (h : St n F E L a w) {E' : List (Nat × Value)} {L' : List Ent} (hs : E'.map (fun p => look E p.1) = E'.map (fun p => some p.2))
    (is : List Nat) (nd : is.Nodup) (hl : is.map (fun i => L[i]?) = L'.map some) : St n F E' L' a w := ⟨h.sl.sub hs, h.mem.pick is nd hl⟩
theorem St.mm {n : Nat} {F : Fr} {E : List (Nat × Value)} {L L' : List Ent} {a : Act} {w : World} (h : St n F E L a w) (hm : Mem F L w → Mem F L' w) : St n F E L' a w := ⟨h.sl, hm h.mem⟩

/-! ### Going on -/
/-- Where a function's code goes on: the function; the loop's record, if it is a round's body; the deferred calls laid so far. -/
structure Bas where
  fn : FuncId
  ro : Option Nat
  ds : List Deferred
instance : Coe FuncId Bas := ⟨fun f => ⟨f, none, []⟩⟩
def fb (f : Bas) : Frame := { (default : Frame) with fn := f.fn, kind := .normal, roundOf := f.ro }
def pl (ds : List Deferred) (a : Act) : Act := { a with defers := ds }
theorem pl_put {ds : List Deferred} {a : Act} {d : Option Nat} {v : Value} : pl ds (a.put d v) = (pl ds a).put d v := by cases d <;> rfl
theorem pl_eval {ds : List Deferred} {a : Act} : (pl ds a).eval = a.eval := funext fun x => by cases x <;> rfl
theorem pl_tmps {ds : List Deferred} {a : Act} : (pl ds a).tmps = a.tmps := rfl
theorem put_defers {a : Act} {d : Option Nat} {v : Value} : (a.put d v).defers = a.defers := by cases d <;> rfl
def Bas.ends (f : Bas) (P : Program) (cs : List Frame) (e : Ending) (w : World) (m : Machine) : Prop :=
  match f.ro with
  | none => ∃ fr, m = lone fr cs w ∧ fr.fn = f.fn ∧ fr.leaving P w e
  | some _ => ∃ b a k, e = .returned (.bool b) ∧ m = lone ((fb f).atR a k) cs w ∧ (b = true → k = []) ∧ (b = false → ∃ k1, k = .code .ret :: k1)
def Go (P : Program) (f : Bas) (k : List Item) (a : Act) (w : World) (R : Ending → World → Prop) : Prop :=
  a.defers = [] ∧ ∀ cs, ∃ e w' m, R e w' ∧ Comes P (lone ((fb f).atR (pl f.ds a) k) cs w) m e ∧ f.ends P cs e w' m
def wf (r : Option Nat) : Fence := { Fence.wide with round := r }
theorem room_wf {r : Option Nat} (n : Nat) : (wf r).room n := fun _ h => by simp [wf, Fence.wide] at h
section
variable {P : Program} {f : Bas} {k : List Item} {a a' : Act} {w w' : World} {R : Ending → World → Prop}
theorem Go.steps {k' : List Item} (hs : ∀ cs, Steps P (lone ((fb f).atR (pl f.ds a) k) cs w) (lone ((fb f).atR (pl f.ds a) k') cs w')) (h : Go P f k' a w' R) : Go P f k a w R := ⟨h.1, fun cs => by
  obtain ⟨e, w2, m, hr, hcm, hf⟩ := h.2 cs
  exact ⟨e, w2, m, hr, .of_steps (hs cs) hcm, hf⟩⟩
theorem Go.seq {x y : Code} (h : Go P f (.code x :: .code y :: k) a w R) : Go P f (.code (.seq x y) :: k) a w R := h.steps fun _ => .one stepR_seq
theorem Go.skip (h : Go P f k a w R) : Go P f (.code .skip :: k) a w R := h.steps fun _ => .one stepR_skip
theorem Go.label {l : Nat} (h : Go P f k a w R) : Go P f (.code (.label l) :: k) a w R := h.steps fun _ => .one stepR_label
theorem Go.inBlock {id : Nat} (h : Go P f k a w R) : Go P f (.inBlock id :: k) a w R := h.steps fun _ => .one stepR_inBlock
theorem Go.block {id : Nat} {c : Code} (h : Go P f (.code c :: .inBlock id :: k) a w R) : Go P f (.code (.block id c) :: k) a w R := h.steps fun _ => .one stepR_block
theorem Go.loop {c : Code} (h : Go P f (.code c :: .inLoop c :: k) a w R) : Go P f (.code (.loop c) :: k) a w R := h.steps fun _ => .one stepR_loop
theorem Go.inLoop {c : Code} (h : Go P f (.code c :: .inLoop c :: k) a w R) : Go P f (.inLoop c :: k) a w R := h.steps fun _ => .one stepR_inLoop
theorem Go.exit {id : Nat} {k' : List Item} (hk : exitTo id k = some k') (h : Go P f k' a w R) : Go P f (.code (.exit id) :: k) a w R := h.steps fun _ => .one (stepR_exit hk)
theorem Go.scope {c : Code} (h : Go P f (.code c :: .inScope c :: k) a w R) : Go P f (.code (.scope c) :: k) a w R :=
  h.steps fun cs => .one (step_lone_go (by simp [stepG, stepG.exec, Frame.atR]))
theorem Go.inScope {c : Code} (h : Go P f k a w R) : Go P f (.inScope c :: k) a w R :=
  h.steps fun cs => .one (step_lone_go (by simp [stepG, stepG.exec, Frame.atR]))
theorem Go.ifT {c : Operand} {x y : Code} (hc : a.eval c = .bool true) (h : Go P f (.code x :: k) a w R) : Go P f (.code (.cond c x y) :: k) a w R := h.steps fun _ => .one (stepR_cond (t := true) (by rw [pl_eval]; exact hc))
theorem Go.ifF {c : Operand} {x y : Code} (hc : a.eval c = .bool false) (h : Go P f (.code y :: k) a w R) : Go P f (.code (.cond c x y) :: k) a w R := h.steps fun _ => .one (stepR_cond (t := false) (by rw [pl_eval]; exact hc))
theorem Go.wpIn {c : Code} {Q : Exit → Act → World → Prop} (hd : a.defers = []) (h : c.wpIn (wf f.ro) 0 P Q (pl f.ds a) w) (hq : ∀ e a w, Q e a w → e = .normal ∧ ∃ a0, a = pl f.ds a0 ∧ Go P f k a0 w R) : Go P f (.code c :: k) a w R := ⟨hd, fun cs => by
  obtain ⟨e, a', w', q, harr⟩ := h (fb f) k cs rfl trivial (room_wf _)
  obtain ⟨rfl, a0, rfl, hg⟩ := hq e a' w' q
  obtain ⟨e, w2, m, hr, hc, hf⟩ := hg.2 cs
  exact ⟨e, w2, m, hr, .of_steps (StepsIn.steps harr) hc, hf⟩⟩
theorem Go.ret {fn : Func} {v : Value} (hf : P.funcs[f.fn]? = some fn) (hd : a.defers = []) (hr : (results fn a.tmps).run P w = .ok v w) (h : R (.returned v) w) (hro : f.ro = none := by rfl) (hds : f.ds = [] := by rfl) : Go P f (.code .ret :: k) a w R := ⟨hd, fun cs =>
  ⟨.returned v, w, _, h, .one (stepR_ret (by exact hro)), by
    unfold Bas.ends; rw [hro]
    exact ⟨_, rfl, rfl, rfl, hds, rfl, fn, hf, hr⟩⟩⟩
theorem Go.fin {fn : Func} {v : Value} (hf : P.funcs[f.fn]? = some fn) (hd : a.defers = []) (hr : (results fn a.tmps).run P w = .ok v w) (h : R (.returned v) w) (hro : f.ro = none := by rfl) (hds : f.ds = [] := by rfl) : Go P f [] a w R := ⟨hd, fun cs =>
  ⟨.returned v, w, _, h, .one (stepR_end (by exact hro)), by
    unfold Bas.ends; rw [hro]
    exact ⟨_, rfl, rfl, rfl, hds, rfl, fn, hf, hr⟩⟩⟩
/-- A round's body has come to its end, or hands back. -/
theorem Go.rend {l : Nat} (hd : a.defers = []) (h : R (.returned (.bool true)) w) (hro : f.ro = some l := by rfl) : Go P f [] a w R := ⟨hd, fun cs => ⟨_, w, _, h, Steps.refl _ _, by
  unfold Bas.ends; rw [hro]
  exact ⟨true, _, _, rfl, rfl, fun _ => rfl, fun e => by cases e⟩⟩⟩
theorem Go.rret {l : Nat} (hd : a.defers = []) (h : R (.returned (.bool false)) w) (hro : f.ro = some l := by rfl) : Go P f (.code .ret :: k) a w R := ⟨hd, fun cs => ⟨_, w, _, h, Steps.refl _ _, by
  unfold Bas.ends; rw [hro]
  exact ⟨false, _, _, rfl, rfl, fun e => (by cases e), fun _ => ⟨_, rfl⟩⟩⟩⟩
theorem Go.mono {R' : Ending → World → Prop} (h : Go P f k a w R) (hr : ∀ e w, R e w → R' e w) : Go P f k a w R' := ⟨h.1, fun cs => by
  obtain ⟨e, w', m, r, x⟩ := h.2 cs
  exact ⟨e, w', m, hr _ _ r, x⟩⟩
end
/-- The slots at a function's start. -/
def slots0 (i : Nat) : List Value → List (Nat × Value)
  | [] => []
  | v :: vs => (i, v) :: slots0 (i + 1) vs
theorem look_slots0 {i t : Nat} {v : Value} : ∀ {vs : List Value}, look (slots0 i vs) t = some v → i ≤ t ∧ vs[t - i]? = some v
  | [], h => by cases h
  | u :: vs, h => by
    simp only [slots0, look] at h
    cases hb : Nat.beq i t with
    | true =>
      have := Nat.eq_of_beq_eq_true hb
      subst this
      rw [hb] at h
      simpa using h
    | false =>
      rw [hb] at h
      obtain ⟨h1, h2⟩ := look_slots0 (i := i + 1) (vs := vs) h
      refine ⟨by omega, ?_⟩
      rw [show t - i = (t - (i + 1)) + 1 by omega]
      simpa using h2
theorem Calls.of_go {P : Program} {f : FuncId} {fn : Func} {c : Code} {args : List Value} {w : World} {R : Ending → World → Prop} (hf : P.funcs[f]? = some fn) (hb : fn.body = some c) {n : Nat} (hn : fn.ntmps = n) (hl : args.length ≤ n)
    (h : ∀ a, Sl n (slots0 0 args) a → Go P (f : Bas) [.code c] a w R) : Calls P f args.toArray w R := by
  intro cs
  have henter : Frame.enter P f args.toArray .normal = (fb (f : Bas)).atR (pl [] { tmps := args.toArray ++ Array.replicate (fn.ntmps - args.toArray.size) undef, defers := [] }) [.code c] := by
    simp [Frame.enter, hf, hb, Frame.atR, fb, pl]
  rw [henter]
  obtain ⟨e, w', m, hr, hc, fr, rfl, h1, h2⟩ := h { tmps := args.toArray ++ Array.replicate (fn.ntmps - args.toArray.size) undef, defers := [] } ⟨by simp [hn]; omega, rfl, fun t v ht => by
    obtain ⟨_, h2⟩ := look_slots0 ht
    simp only [Nat.sub_zero] at h2
    have hlt := (List.getElem?_eq_some_iff.1 h2).1
    rw [Array.getD_eq_getD_getElem?, Array.getElem?_append_left (by simpa using hlt)]
    simp [h2]⟩ |>.2 cs
  exact ⟨e, w', fr, hr, hc, h1, h2⟩

/-! ### Operations -/
/-- An operation: from these slots and entries to a value and entries. -/
def OpS {σ : Type} (P : Program) (E : List (Nat × Value)) (L : List Ent) (o : Oper) (ret : σ → Value) (out : σ → List Ent) : Prop :=
  ∀ (n : Nat) (F : Fr) (a : Act) (w : World), Sl n E a → Mem F L w → Oper.wp P o a w (fun a' w' => ∃ s, a' = a.put o.dst (ret s) ∧ Mem F (out s) w') (fun _ _ _ => False)
/-- The rest of a region, from operation i on, in its own order. -/
def GoR (P : Program) (f : Bas) (ops : Array Oper) (i : Nat) (os : List Oper) (k : List Item) (a : Act) (w : World) (R : Ending → World → Prop) : Prop :=
  ops.toList.drop i = os → wpOps P ops (fun e a w => e = .normal ∧ Go P f k a w R) (List.range' i os.length) a w
theorem wp_mono2 {P : Program} {o : Oper} {a : Act} {w : World} {K K' : Act → World → Prop} {Q Q' : Exit → Act → World → Prop} (hk : ∀ a w, K a w → K' a w) (hq : ∀ e a w, Q e a w → Q' e a w) (h : Oper.wp P o a w K Q) : Oper.wp P o a w K' Q' := by
  unfold Oper.wp at *
  generalize (execOp a.eval o).run P w = r at *
  cases r with
  | ok n w' =>
    cases n <;> simp only [Oper.upon] at h ⊢ <;>
      first
        | exact hk _ _ h
        | exact Calls.mono h (fun e w'' he => by cases e <;> first | exact hk _ _ he | exact hq _ _ _ he | (obtain ⟨a, w, hh⟩ := he; exact ⟨a, w, hq _ _ _ hh⟩))
        | exact Rows.mono h (fun _ _ he => hk _ _ he)
  | halt x w' => cases x <;> simp only [Oper.upon] at h ⊢ <;> first | exact hq _ _ _ h | exact h
/-! ### The same operation in a round's frame, or beside deferred calls -/
section
variable {P : Program} {ops : Array Oper} {Q : Exit → Act → World → Prop} {md : Region.Mode} {r : Option Nat} {ds : List Deferred}
theorem wpOp_dz {i : Nat} {K : Act → World → Prop} {a : Act} {w : World} (hQ : ∀ e a w, Q e a w → e = .normal ∧ a.defers = []) (hK : ∀ a w, K a w → a.defers = []) (h : wpOp P ops Q i K a w) : a.defers = [] := by
  unfold wpOp at h
  split at h
  · exact hK _ _ h
  · split at h
    · rcases h with h | ⟨_, a0, w0, hq⟩
      · unfold Oper.wp at h
        generalize (execOp a.eval _).run P w = res at h
        cases res with
        | ok x w' =>
          cases x <;> simp only [Oper.upon] at h
          case value v => have := hK _ _ h; rwa [put_defers] at this
          case skip => have := hK _ _ h; rwa [put_defers] at this
          case defer d => have := hK _ _ h; rw [put_defers] at this; cases this
          case enter g args =>
            obtain ⟨e, w2, fr, he, _⟩ := h []
            cases e with
            | returned v => have := hK _ _ he; rwa [put_defers] at this
            | panicked c => cases (hQ _ _ _ he).1
            | outgrown => obtain ⟨a0, w0, hq⟩ := he; cases (hQ _ _ _ hq).1
          case row rw args =>
            obtain ⟨v, w2, he, _⟩ := h default []
            have := hK _ _ he; rwa [put_defers] at this
        | halt x w' =>
          cases x <;> simp only [Oper.upon] at h
          case panic v => cases (hQ _ _ _ h).1
      · cases (hQ _ _ _ hq).1
    · have := hK _ _ h; rwa [put_defers] at this
theorem wpOp_in {i : Nat} {K : Act → World → Prop} {a : Act} {w : World} (hQ : ∀ e a w, Q e a w → e = .normal ∧ a.defers = []) (hK : ∀ a w, K a w → a.defers = []) (h : wpOp P ops Q i K a w) :
    wpOpIn (wf r) 0 P ops (fun e a' w' => ∃ a0, a' = pl ds a0 ∧ Q e a0 w') i (fun a' w' => ∃ a0, a' = pl ds a0 ∧ K a0 w') (pl ds a) w := by
  have hall := wpOp_dz hQ hK h
  unfold wpOp at h
  unfold wpOpIn
  split at h
  · rename_i ho; rw [ho]; exact ⟨a, rfl, h⟩
  · rename_i o ho
    rw [ho]
    dsimp only
    split at h
    · rename_i hw
      rw [if_pos (show Region.wanted o (yielded ops (pl ds a).tmps) = true from hw)]
      rcases h with h | ⟨_, a0, w0, hq⟩
      · refine ⟨fun _ _ => trivial, ?_⟩
        rw [pl_eval]
        by_cases hd : ∃ c, o.op = .defer c
        · obtain ⟨c, hc⟩ := hd
          exfalso
          unfold Oper.wp at h
          simp only [execOp, hc, Sem.run_bind] at h
          generalize (resolve a.eval c o.type).run P w = res at h
          cases res with
          | ok d w' =>
            simp only [Result.andThen_ok, Sem.run_pure, Oper.upon] at h
            have := hK _ _ h; rw [put_defers] at this; cases this
          | halt x w' =>
            simp only [Result.andThen] at h
            cases x <;> simp only [Oper.upon] at h
            case panic v => cases (hQ _ _ _ h).1
        · rw [Oper.semAt_eq _ _ _ (fun c hc => hd ⟨c, hc⟩)]
          unfold Oper.wp at h
          generalize (execOp a.eval o).run P w = res at h
          cases res with
          | ok x w' =>
            cases x <;> simp only [Oper.upon, Oper.uponIn] at h ⊢
            case value v => exact ⟨_, pl_put.symm, h⟩
            case skip => exact ⟨_, pl_put.symm, h⟩
            case defer d => have := hK _ _ h; rw [put_defers] at this; cases this
            case enter g args =>
              refine ⟨fun h => by simp [wf, Fence.wide] at h, trivial, fun cs _ => ?_⟩
              obtain ⟨e, w2, fr, he, hc, hx⟩ := h cs
              cases e with
              | returned v => exact ⟨.returned v, w2, fr, ⟨_, pl_put.symm, he⟩, (comesIn_wide (e := .returned v)).2 hc, hx⟩
              | panicked c => cases (hQ _ _ _ he).1
              | outgrown => obtain ⟨a0, w0, hq⟩ := he; cases (hQ _ _ _ hq).1
            case row rw args =>
              refine ⟨fun h => by simp [wf, Fence.wide] at h, fun c cs _ => ?_⟩
              obtain ⟨v, w2, he, hc⟩ := h c cs
              exact ⟨v, w2, ⟨_, pl_put.symm, he⟩, stepsIn_wide.2 hc⟩
          | halt x w' =>
            cases x <;> simp only [Oper.upon] at h
            case panic v => cases (hQ _ _ _ h).1
      · cases (hQ _ _ _ hq).1
    · rename_i hw
      rw [if_neg (show ¬ Region.wanted o (yielded ops (pl ds a).tmps) = true from hw)]
      exact ⟨fun _ _ => trivial, _, pl_put.symm, h⟩
theorem wpOps_dz (hQ : ∀ e a w, Q e a w → e = .normal ∧ a.defers = []) : ∀ (l : List Nat) (a : Act) (w : World), wpOps P ops Q l a w → a.defers = []
  | [], a, w, h => (hQ _ _ _ h).2
  | i :: l, a, w, h => by rw [wpOps_cons] at h; exact wpOp_dz hQ (wpOps_dz hQ l) h
theorem wpOps_in (hQ : ∀ e a w, Q e a w → e = .normal ∧ a.defers = []) : ∀ (l : List Nat) (a : Act) (w : World), wpOps P ops Q l a w → wpOpsIn (wf r) 0 P ops (fun e a' w' => ∃ a0, a' = pl ds a0 ∧ Q e a0 w') l (pl ds a) w
  | [], a, w, h => ⟨a, rfl, h⟩
  | i :: l, a, w, h => by
    rw [wpOps_cons] at h
    rw [wpOpsIn_cons]
    refine wpOpIn_mono ?_ (wpOp_in hQ (wpOps_dz hQ l) h)
    rintro a' w' ⟨a0, rfl, h0⟩
    exact wpOps_in hQ l a0 w' h0
theorem wpAny_dz (hQ : ∀ e a w, Q e a w → e = .normal ∧ a.defers = []) : ∀ (fuel : Nat) (listed : Array Bool) (a : Act) (w : World), wpAny P md ops Q fuel listed a w → a.defers = []
  | 0, listed, a, w, h => (hQ _ _ _ h.2).2
  | fuel + 1, listed, a, w, h => by
    cases hr : Region.ready md ops listed with
    | nil => exact (hQ _ _ _ (h.1 hr)).2
    | cons i l => exact wpOp_dz hQ (wpAny_dz hQ fuel _) (h.2 i (by rw [hr]; simp))
theorem wpAny_in (hQ : ∀ e a w, Q e a w → e = .normal ∧ a.defers = []) : ∀ (fuel : Nat) (listed : Array Bool) (a : Act) (w : World), wpAny P md ops Q fuel listed a w → wpAnyIn (wf r) 0 P md ops (fun e a' w' => ∃ a0, a' = pl ds a0 ∧ Q e a0 w') fuel listed (pl ds a) w
  | 0, listed, a, w, h => ⟨h.1, a, rfl, h.2⟩
  | fuel + 1, listed, a, w, h => ⟨fun hr => ⟨a, rfl, h.1 hr⟩, fun i hi => by
    refine wpOpIn_mono ?_ (wpOp_in hQ (wpAny_dz hQ fuel _) (h.2 i hi))
    rintro a' w' ⟨a0, rfl, h0⟩
    exact wpAny_in hQ fuel _ a0 w' h0⟩
end
section
variable {P : Program} {f : Bas} {k : List Item} {a a' : Act} {w w' : World} {R : Ending → World → Prop}
theorem Go.reg {id : Nat} {os : List Oper} (h : GoR P f (List.toArray os) 0 os k a w R) : Go P f (.code (.region id (List.toArray os) false) :: k) a w R :=
  have h' : wpOps P (List.toArray os) (fun e a w => e = .normal ∧ Go P f k a w R) (List.range (List.toArray os).size) a w := by rw [List.range_eq_range']; simpa using h rfl
  have hq : ∀ (e : Exit) (a : Act) (w : World), (e = .normal ∧ Go P f k a w R) → e = .normal ∧ a.defers = [] := fun e a w h => ⟨h.1, h.2.1⟩
  Go.wpIn (wpOps_dz hq _ _ _ h') (wpIn_region (wpOps_in hq _ _ _ h')) fun e a' w ⟨a0, e1, h1, h2⟩ => ⟨h1, a0, e1, h2⟩
theorem Go.any {id : Nat} {os : List Oper} (hm : P.follows .mixedOrders = true) (h : wpAny P .any (List.toArray os) (fun e a w => e = .normal ∧ Go P f k a w R) (List.toArray os).size (Array.replicate (List.toArray os).size false) a { w with drawn := w.drawn + 1 }) : Go P f (.code (.region id (List.toArray os) true) :: k) a w R :=
  have hq : ∀ (e : Exit) (a : Act) (w : World), (e = .normal ∧ Go P f k a w R) → e = .normal ∧ a.defers = [] := fun e a w h => ⟨h.1, h.2.1⟩
  Go.wpIn (wpAny_dz hq _ _ _ _ h) (wpIn_region_any hm (wpAny_in hq _ _ _ _ h)) fun e a' w ⟨a0, e1, h1, h2⟩ => ⟨h1, a0, e1, h2⟩
theorem GoR.done {ops : Array Oper} {i : Nat} (h : Go P f k a w R) : GoR P f ops i [] k a w R := fun _ => ⟨rfl, h⟩
theorem GoR.oper {ops : Array Oper} {i : Nat} {os : List Oper} {o : Oper} (hw : Region.wanted o (yielded ops a.tmps) = true)
    (h : Oper.wp P o a w (fun a' w' => GoR P f ops (i + 1) os k a' w' R) (fun _ _ _ => False)) : GoR P f ops i (o :: os) k a w R := by
  intro hd
  have ho : ops[i]? = some o := by
    have := congrArg (fun l => l[0]?) hd
    simpa using this
  have hd2 : ops.toList.drop (i + 1) = os := by
    rw [← List.drop_drop, hd]; rfl
  rw [List.length_cons, List.range'_succ]
  simp only [wpOps, ho, hw, if_true]
  exact .inl (wp_mono2 (fun a w h => h hd2) (fun _ _ _ h => h.elim) h)
theorem GoR.skip {ops : Array Oper} {i : Nat} {os : List Oper} {o : Oper} (hw : Region.wanted o (yielded ops a.tmps) = false)
    (h : GoR P f ops (i + 1) os k (a.put o.dst undef) w R) : GoR P f ops i (o :: os) k a w R := by
  intro hd
  have ho : ops[i]? = some o := by
    have := congrArg (fun l => l[0]?) hd
    simpa using this
  have hd2 : ops.toList.drop (i + 1) = os := by
    rw [← List.drop_drop, hd]; rfl
  rw [List.length_cons, List.range'_succ]
  simp only [wpOps, ho, hw, if_false, Bool.false_eq_true]
  exact h hd2
/-- One operation without a guard. -/
theorem gs {σ : Type} {n : Nat} {F : Fr} {E : List (Nat × Value)} {L : List Ent} {ops : Array Oper} {i : Nat} {os : List Oper} {d : Nat} {op : Op} {ty : TypeId} {pos : String} {aft : Array Edge} {ret : σ → Value} {out : σ → List Ent}
    (h : St n F E L a w) (hop : OpS P E L ⟨some d, op, ty, pos, aft, none⟩ ret out) (hd : Nat.blt d n = true) (K : ∀ s a w, St n F ((d, ret s) :: E) (out s) a w → GoR P f ops (i + 1) os k a w R) : GoR P f ops i (⟨some d, op, ty, pos, aft, none⟩ :: os) k a w R :=
  GoR.oper rfl (Oper.wp_mono (fun a' w' ⟨s, ha, hm⟩ => by subst ha; exact K s _ _ ⟨h.sl.put (Nat.le_of_ble_eq_true hd) _, hm⟩) (hop n F a w h.sl h.mem))
/-- One operation without a guard and without a slot. -/
theorem gs0 {σ : Type} {n : Nat} {F : Fr} {E : List (Nat × Value)} {L : List Ent} {ops : Array Oper} {i : Nat} {os : List Oper} {op : Op} {ty : TypeId} {pos : String} {aft : Array Edge} {ret : σ → Value} {out : σ → List Ent}
    (h : St n F E L a w) (hop : OpS P E L ⟨none, op, ty, pos, aft, none⟩ ret out) (K : ∀ s a w, St n F E (out s) a w → GoR P f ops (i + 1) os k a w R) : GoR P f ops i (⟨none, op, ty, pos, aft, none⟩ :: os) k a w R :=
  GoR.oper rfl (Oper.wp_mono (fun a' w' ⟨s, ha, hm⟩ => by subst ha; exact K s _ _ ⟨h.sl, hm⟩) (hop n F a w h.sl h.mem))
end
/-- A contract: called with these, and these entries (some that take nothing, some that are handed over), it returns, with those. -/
structure Spc {σ : Type} (P : Program) (f : FuncId) (args : List Value) (Lp Lo : List Ent) (ret : σ → Value) (out : σ → List Ent) : Prop where
  per : ∀ e ∈ Lp, e.Per
  fn : ∃ fn, P.funcs[f]? = some fn ∧ (fn.name == "runtime.NumGoroutine") = false ∧ fn.body.isSome = true
  run : ∀ (F : Fr) (w : World), Mem F (Lp ++ Lo) w → Calls P f args.toArray w fun e w' => ∃ s, e = .returned (ret s) ∧ Mem F (out s) w'
theorem Spc.go {σ : Type} {P : Program} {f : FuncId} {args : List Value} {Lp Lo : List Ent} {ret : σ → Value} {out : σ → List Ent} {fn : Func} {c : Code} (hf : P.funcs[f]? = some fn) (hb : fn.body = some c) (hnm : (fn.name == "runtime.NumGoroutine") = false) {n : Nat} (hn : fn.ntmps = n) (hl : Nat.ble args.length n = true)
    (per : ∀ e ∈ Lp, e.Per) (h : ∀ F a w, St n F (slots0 0 args) (Lp ++ Lo) a w → Go P (f : Bas) [.code c] a w (fun e w' => ∃ s, e = .returned (ret s) ∧ Mem F (out s) w')) : Spc P f args Lp Lo ret out :=
  ⟨per, ⟨fn, hf, hnm, by rw [hb]; rfl⟩, fun F w hm => Calls.of_go hf hb hn (Nat.le_of_ble_eq_true hl) fun a ha => h F a w ⟨ha, hm⟩⟩
theorem all_nil {p : Ent → Prop} : ∀ e ∈ ([] : List Ent), p e := fun e h => by cases h
theorem all_cons {p : Ent → Prop} {x : Ent} {L : List Ent} (h : p x) (k : ∀ e ∈ L, p e) : ∀ e ∈ x :: L, p e := fun e he => by
  cases he with
  | head => exact h
  | tail _ h2 => exact k e h2
end Go.SL
