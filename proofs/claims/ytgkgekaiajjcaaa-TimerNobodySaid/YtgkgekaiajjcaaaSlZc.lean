/- Regions whose order is drawn, but where the order does not matter: walked once, in the order of the text; each rule states its own conditions. -/
import Derived.Test.YtgkgekaiajjcaaaSlZs
namespace Go.SL
open Go Go.RowKit
set_option linter.unusedVariables false
set_option linter.unusedSimpArgs false

/-! ### What looks at no world -/
section
variable {α β : Type} {P : Program}
def NOk (P : Program) (s : Sem α) : Prop := ∀ w x w', s.run P w ≠ .ok x w'
def Ind (P : Program) (s : Sem α) : Prop := (∃ v, ∀ w, s.run P w = .ok v w) ∨ NOk P s
/-- It leaves the world as it is. -/
def Kp (P : Program) (s : Sem α) : Prop := ∀ w x w', s.run P w = .ok x w' → w' = w
theorem Ind.pure (v : α) : Ind P (Pure.pure v : Sem α) := .inl ⟨v, fun w => by simp⟩
theorem Ind.no {s : Sem α} (h : NOk P s) : Ind P s := .inr h
theorem Ind.kp {s : Sem α} (h : Ind P s) : Kp P s := fun w x w' e => by
  rcases h with ⟨v, hv⟩ | h
  · rw [hv w] at e; cases e; rfl
  · exact absurd e (h w x w')
theorem NOk.halt (h : Halt) : NOk P (Sem.halt h : Sem α) := fun w x w' e => by simp at e
theorem NOk.bind {s : Sem α} {f : α → Sem β} (h : ∀ v, NOk P (f v)) : NOk P (s >>= f) := fun w x w' e => by
  rw [Sem.run_bind] at e
  cases hs : s.run P w with
  | ok v w2 => rw [hs] at e; exact h v _ _ _ e
  | halt q w2 => rw [hs] at e; cases e
theorem NOk.bind1 {s : Sem α} {f : α → Sem β} (h : NOk P s) : NOk P (s >>= f) := fun w x w' e => by
  rw [Sem.run_bind] at e
  cases hs : s.run P w with
  | ok v w2 => exact h _ _ _ hs
  | halt q w2 => rw [hs] at e; cases e
theorem Ind.bind {s : Sem α} {f : α → Sem β} (h : Ind P s) (hf : ∀ v, Ind P (f v)) : Ind P (s >>= f) := by
  rcases h with ⟨v, hv⟩ | h
  · rcases hf v with ⟨u, hu⟩ | hu
    · exact .inl ⟨u, fun w => by rw [Sem.run_bind, hv w]; exact hu w⟩
    · refine .inr fun w x w' e => ?_
      rw [Sem.run_bind, hv w] at e
      exact hu _ _ _ e
  · exact .inr (.bind1 h)
theorem Ind.prog : Ind P program := .inl ⟨P, fun w => by simp⟩
theorem Ind.mark (m : Mark) : Ind P (Go.mark m) := .inl ⟨(), fun w => rfl⟩
theorem Kp.pure (v : α) : Kp P (Pure.pure v : Sem α) := (Ind.pure v).kp
theorem Kp.bind {s : Sem α} {f : α → Sem β} (h : Kp P s) (hf : ∀ v, Kp P (f v)) : Kp P (s >>= f) := fun w x w' e => by
  rw [Sem.run_bind] at e
  cases hs : s.run P w with
  | ok v w2 => rw [hs] at e; exact (hf v _ _ _ e).trans (h _ _ _ hs)
  | halt q w2 => rw [hs] at e; cases e
theorem nok_panic {e : RuntimeError} : NOk P (runtimePanic e : Sem α) := by
  unfold runtimePanic
  refine .bind fun p => ?_
  cases e <;> first | exact .halt _ | exact .bind fun _ => .bind fun _ => .halt _
theorem nok_bounds {k : IntKind} {x y : Int} {c : BoundsCode} : NOk P (boundsPanic k x y c : Sem α) := by
  unfold boundsPanic
  dsimp only
  split
  · exact .bind fun _ => nok_panic
  · exact .bind fun _ => nok_panic
theorem ind_info (t : TypeId) : Ind P (typeInfo t) := by
  unfold typeInfo
  refine .bind .prog fun p => ?_
  split
  · exact .pure _
  · exact .no (.halt _)
theorem ind_und (t : TypeId) : Ind P (underlying t) := by
  unfold underlying
  refine .bind .prog fun p => ?_
  split
  · exact .pure _
  · exact .no (.halt _)
theorem ind_size (t : TypeId) : Ind P (Go.sizeOf t) := by
  unfold Go.sizeOf
  exact .bind (ind_info t) fun i => .pure _
theorem ind_agg (t : TypeId) : Ind P (isAgg t) := by
  unfold isAgg
  refine .bind (ind_und t) fun d => ?_
  split <;> exact .pure _
theorem ind_part (t : TypeId) (cs : Array Value) (o : Nat) : Ind P (part t cs o) := by
  unfold part
  refine .bind (ind_agg t) fun b => ?_
  split
  · exact .bind (ind_size t) fun _ => .pure _
  · split
    · exact .pure _
    · exact .no (.halt _)
theorem ind_asInt (v : Value) : Ind P (asIntOf v) := by
  unfold asIntOf
  split
  · exact .pure _
  · exact .no (.halt _)
  · exact .no (.halt _)
theorem ind_asAddr (v : Value) : Ind P (asAddr v) := by
  unfold asAddr
  split
  · exact .pure _
  · exact .no nok_panic
  · exact .no (.halt _)
theorem ind_sure (v : Value) : Ind P (Instr.sureAddr v) := by
  unfold Instr.sureAddr
  split
  · exact .pure _
  · exact .no (.halt _)
theorem ind_asAgg (v : Value) : Ind P (asAgg v) := by
  unfold asAgg
  split
  · exact .pure _
  · exact .no (.halt _)
theorem ind_asBool (v : Value) : Ind P (asBool v) := by
  unfold asBool
  split
  · exact .pure _
  · exact .no (.halt _)
theorem ind_sb (x : Value) (y : Nat) (c : BoundsCode) : Ind P (Instr.sliceBound x y c) := by
  unfold Instr.sliceBound
  refine .bind (ind_asInt x) fun r => ?_
  dsimp only
  split
  · exact .pure _
  · exact .no nok_bounds
theorem ind_sbs (b : Bool) (l c : Nat) (lo hi mx : Option Value) : Ind P (Instr.sliceBounds b l c lo hi mx) := by
  unfold Instr.sliceBounds
  dsimp only
  repeat' (first | exact ind_sb _ _ _ | exact .pure _ | exact .no (.halt _) | refine .bind ?_ fun _ => ?_ | split)
theorem ind_slice (t : TypeId) (x : Value) (lo hi mx : Option Value) : Ind P (Instr.slice t x lo hi mx) := by
  unfold Instr.slice
  refine .bind (ind_und t) fun d => ?_
  repeat' (first | exact ind_sbs _ _ _ _ _ _ | exact ind_size _ | exact ind_und _ | exact ind_asAddr _ | exact .pure _ | exact .no (.halt _) | refine .bind ?_ fun _ => ?_ | split)
theorem ind_sliceAt (t : TypeId) (x : Value) (lo hi mx : Option Value) : Ind P (Instr.sliceAt t x lo hi mx) := by
  unfold Instr.sliceAt
  refine .bind (ind_und t) fun d => ?_
  split
  · exact .bind (ind_sure _) fun _ => .bind (ind_sbs _ _ _ _ _ _) fun _ => .bind (ind_size _) fun _ => .pure _
  · exact ind_slice _ _ _ _ _
theorem ind_indexAt (t : TypeId) (x y : Value) : Ind P (Instr.indexAt t x y) := by
  unfold Instr.indexAt
  refine .bind (ind_asInt y) fun ki => .bind (ind_und t) fun d => ?_
  repeat' (first | exact ind_sure _ | exact ind_size _ | exact ind_und _ | exact .pure _ | exact .no (.halt _) | exact .no nok_bounds | refine .bind ?_ fun _ => ?_ | split | dsimp only)
theorem ind_field (t : TypeId) (x : Value) (i : Nat) : Ind P (Instr.field t x i) := by
  unfold Instr.field
  refine .bind (ind_und t) fun d => ?_
  split
  · split
    · exact .bind (ind_asAgg _) fun _ => ind_part _ _ _
    · exact .no (.halt _)
  · exact .no (.halt _)
theorem ind_extract (x : Value) (i : Nat) : Ind P (Instr.extract x i) := by
  unfold Instr.extract
  split
  · split
    · exact .pure _
    · exact .no (.halt _)
  · exact .no (.halt _)
theorem ind_blind : ∀ (l : List FieldStep) (t : TypeId) (x : Option Value), Ind P (followBlind l t x)
  | [], t, x => .pure _
  | s :: rest, t, x => by
    unfold followBlind
    refine .bind (ind_und _) fun d => ?_
    repeat' (first | exact ind_blind _ _ _ | exact ind_part _ _ _ | exact .pure _ | exact .no (.halt _) | refine .bind ?_ fun _ => ?_ | split)
theorem ind_ahead : ∀ (n : Nat) (t : TypeId) (v : Value) (name : String), Ind P (nilAhead n t v name)
  | 0, t, v, name => .pure _
  | n + 1, t, v, name => by
    unfold nilAhead
    refine .bind (ind_info _) fun i => ?_
    split
    · refine .bind (ind_blind _ _ _) fun r => ?_
      split
      · exact .pure _
      · split
        · exact ind_ahead _ _ _ _
        · exact .pure _
        · exact .no (.halt _)
        · exact .pure _
        · exact .pure _
        · refine .bind (ind_und _) fun d => ?_
          split <;> exact .pure _
    · exact .no (.halt _)
end
/-! ### Operations that look at no world, or only look -/
section
variable {P : Program}
def IndV (P : Program) (s : Sem Next) : Prop := (∃ v, ∀ w, s.run P w = .ok (.value v) w) ∨ NOk P s
def KpV (P : Program) (s : Sem Next) : Prop := ∀ w x w', s.run P w = .ok x w' → w' = w ∧ ∃ v, x = .value v
theorem IndV.bind {α : Type} {s : Sem α} {f : α → Sem Next} (h : Ind P s) (hf : ∀ v, IndV P (f v)) : IndV P (s >>= f) := by
  rcases h with ⟨v, hv⟩ | h
  · rcases hf v with ⟨u, hu⟩ | hu
    · exact .inl ⟨u, fun w => by rw [Sem.run_bind, hv w]; exact hu w⟩
    · refine .inr fun w x w' e => ?_
      rw [Sem.run_bind, hv w] at e
      exact hu _ _ _ e
  · exact .inr (.bind1 h)
theorem IndV.pure (v : Value) : IndV P (Pure.pure (Next.value v)) := .inl ⟨v, fun w => by simp⟩
theorem IndV.of {s : Sem Value} (h : Ind P s) : IndV P (do Pure.pure (.value (← s))) := by
  rcases h with ⟨v, hv⟩ | h
  · exact .inl ⟨v, fun w => by rw [Sem.run_bind, hv w]; rfl⟩
  · exact .inr (.bind1 h)
theorem KpV.of {s : Sem Value} (h : Kp P s) : KpV P (do pure (.value (← s))) := fun w x w' e => by
  rw [Sem.run_bind] at e
  cases hs : s.run P w with
  | ok v w2 =>
    rw [hs] at e
    simp only [Result.andThen_ok, Sem.run_pure, Result.ok.injEq] at e
    exact ⟨e.2 ▸ h _ _ _ hs, v, e.1.symm⟩
  | halt q w2 => rw [hs] at e; cases e
theorem Ind.bindv {α β : Type} {s : Sem α} {f : α → Sem β} {v : α} (hv : ∀ w, s.run P w = .ok v w) (h : Ind P (f v)) : Ind P (s >>= f) := by
  rcases h with ⟨u, hu⟩ | hu
  · exact .inl ⟨u, fun w => by rw [Sem.run_bind, hv w]; exact hu w⟩
  · refine .inr fun w x w' e => ?_
    rw [Sem.run_bind, hv w] at e
    exact hu _ _ _ e
/-- The field is not of no size. -/
def nzF (P : Program) (t : TypeId) (i : Nat) : Bool := match P.underlying t with
  | some (.struct fs) => (match fs[i]? with
    | some f => (match P.info? f.type with | some q => q.size != 0 | none => true)
    | none => true)
  | _ => true
theorem ind_fieldAt {t : TypeId} {x : Value} {i : Nat} (h : nzF P t i = true) : Ind P (Instr.fieldAt t x i) := by
  unfold Instr.fieldAt
  unfold nzF at h
  cases hu : P.underlying t with
  | none => exact .no (.bind1 (fun w x w' e => by simp [underlying, hu] at e))
  | some d =>
    refine .bindv (v := d) (fun w => by simp [underlying, hu]) ?_
    rw [hu] at h
    split
    · rename_i fs
      dsimp only at h
      split
      · rename_i f hf
        rw [hf] at h
        dsimp only at h
        refine .bind (ind_sure _) fun a => .bind ?_ fun _ => .pure _
        unfold fieldPlace
        cases hi : P.info? f.type with
        | none => exact .no (.bind1 (fun w x w' e => by simp [Go.sizeOf, typeInfo, hi] at e))
        | some q =>
          refine .bindv (v := q.size) (fun w => by simp [Go.sizeOf, typeInfo, hi]) ?_
          rw [hi] at h
          rw [if_neg (by simpa using h)]
          exact .pure _
      · exact .no (.halt _)
    · exact .no (.halt _)
def isInd (P : Program) : Op → Bool
  | .move _ | .assign _ | .pick _ _ _ | .extract _ _ | .nilCheck _ | .indexAddr _ _ _ | .field _ _ _ | .makeFunc _ _ _ | .slice _ _ _ _ _ | .makeInterface _ _ | .unOp _ _ _ => true
  | .fieldAddr t _ i => nzF P t i
  | _ => false
theorem isInd_spec {o : Oper} (h : isInd P o.op = true) (ρ : Operand → Value) : IndV P (execOp ρ o) := by
  obtain ⟨d, op, ty, pos, aft, g⟩ := o
  dsimp only at h
  cases op <;> simp only [isInd, Bool.false_eq_true] at h <;> simp only [execOp]
  case move x => exact .inl ⟨ρ x, fun w => by simp⟩
  case assign x => exact .inl ⟨ρ x, fun w => by simp⟩
  case pick c x y =>
    rcases ind_asBool (P := P) (ρ c) with ⟨b, hb⟩ | hb
    · exact .inl ⟨_, fun w => by rw [Sem.run_bind, hb w]; rfl⟩
    · exact .inr (.bind1 hb)
  case extract x i => exact .of (ind_extract _ _)
  case indexAddr t x y => exact .of (ind_indexAt _ _ _)
  case field t x i => exact .of (ind_field _ _ _)
  case makeFunc f a b => exact .of (.pure _)
  case slice t x lo hi mx => exact .of (ind_sliceAt _ _ _ _ _)
  case fieldAddr t x i => exact .of (ind_fieldAt h)
  case makeInterface t x =>
    refine .of (.bind (ind_und _) fun d => ?_)
    split
    · exact .no (.halt _)
    · exact .pure _
  case unOp op t x =>
    refine .of ?_
    unfold Op.unary
    split <;> first | exact .pure _ | exact .no (.halt _) | (unfold Op.intArith; split <;> first | exact .pure _ | exact .no (.halt _)) | (unfold Op.intBits; repeat' (first | exact .pure _ | exact .no (.halt _) | refine .bind ?_ fun _ => ?_ | split))
  case nilCheck x =>
    repeat' (first | exact IndV.pure _ | exact .inr nok_panic | exact .inr (.halt _) | exact ind_ahead _ _ _ _ | exact .prog | refine IndV.bind ?_ fun _ => ?_ | split)
theorem kp_load (a : Addr) : Kp P (load a) := fun w x w' e => by
  simp only [load, Sem.run] at e
  split at e
  · cases e; rfl
  · split at e
    · cases e; rfl
    · cases e
theorem kp_cells (a : Addr) : ∀ (n i : Nat) (acc : Array Value), Kp P (loadCellsFrom a i n acc)
  | 0, i, acc => .pure _
  | n + 1, i, acc => by
    unfold loadCellsFrom
    exact .bind (kp_load _) fun v => kp_cells a n _ _
theorem kp_loadAt (t : TypeId) (x : Value) : Kp P (Instr.loadAt t x) := by
  unfold Instr.loadAt loadVar loadCells
  refine .bind (ind_sure _).kp fun a => .bind (ind_agg _).kp fun b => ?_
  split
  · exact .bind (ind_size _).kp fun n => .bind (kp_cells _ _ _ _) fun _ => .pure _
  · exact kp_load _
theorem kp_getObj (r : Nat) : Kp P (getObj r) := fun w x w' e => by
  simp only [getObj, Sem.run] at e
  split at e
  · cases e
  · cases e; rfl
  · cases e
theorem kp_len (a : Array TypeId) (t : TypeId) (args : Array Value) : Kp P (Builtin.len_ a t args) := by
  unfold Builtin.len_
  split
  · refine .bind (ind_und _).kp fun d => ?_
    split
    · exact .pure _
    · exact .pure _
    · refine .bind (ind_und _).kp fun d => ?_
      split
      · exact .pure _
      · exact (NOk.halt _ : NOk P _) |> Ind.no |>.kp
    · exact .pure _
    · exact .pure _
    · exact .pure _
    · refine .bind (kp_getObj _) fun o => ?_
      split
      · exact .pure _
      · exact (Ind.no (.halt _)).kp
    · refine .bind (kp_getObj _) fun o => ?_
      split
      · exact .pure _
      · exact (Ind.no (.halt _)).kp
    · exact (Ind.no (.halt _)).kp
  · exact (Ind.no (.halt _)).kp
def isRd : Op → Bool
  | .load _ _ => true
  | .call { callee := .builtin .len, .. } => true
  | _ => false
theorem isRd_spec {o : Oper} (h : isRd o.op = true) (ρ : Operand → Value) : KpV P (execOp ρ o) := by
  obtain ⟨d, op, ty, pos, aft, g⟩ := o
  dsimp only at h
  unfold isRd at h
  split at h
  · simp only [execOp]; exact .of (kp_loadAt _ _)
  · simp only [execOp, resolve, invoke, builtin]
    exact .of (kp_len _ _ _)
  · cases h
end
/-! ### Operations that may change places -/
section
variable {P : Program} {ops : Array Oper} {Q : Exit → Act → World → Prop}
/-- Operations that are shown, one by one, to look at no world. -/
def isV : Op → Bool
  | .binOp .. | .convert .. => true
  | _ => false
def Nrm (Q : Exit → Act → World → Prop) : Prop := ∀ e a w, Q e a w → e = .normal
theorem Yields.uniq {o : Oper} {v u : Value} {a : Act} (h : Yields P ops o v a) (k : Yields P ops o u a) (w : World) : v = u := by
  rcases h with ⟨h1, h2⟩ | ⟨h1, h2⟩ <;> rcases k with ⟨k1, k2⟩ | ⟨k1, k2⟩
  · have := (h2 w).symm.trans (k2 w); cases this; rfl
  · rw [h1] at k1; cases k1
  · rw [h1] at k1; cases k1
  · rw [h2, k2]
/-- What it gives at one world. -/
def YAt (P : Program) (ops : Array Oper) (o : Oper) (v : Value) (a : Act) (w : World) : Prop :=
  (Region.wanted o (yielded ops a.tmps) = true ∧ (execOp a.eval o).run P w = .ok (.value v) w) ∨ (Region.wanted o (yielded ops a.tmps) = false ∧ v = undef)
theorem YAt.wpOp {i : Nat} {o : Oper} {v : Value} {a : Act} {w : World} (hi : ops[i]? = some o) (hy : YAt P ops o v a w) {K : Act → World → Prop} (h : K (a.put o.dst v) w) : wpOp P ops Q i K a w := by
  unfold Go.wpOp
  simp only [hi]
  rcases hy with ⟨hw, hv⟩ | ⟨hw, rfl⟩
  · simp only [hw, if_true, Oper.wp, hv, Oper.upon]; exact .inl h
  · simp only [hw, Bool.false_eq_true, if_false]; exact h
theorem Yields.at {o : Oper} {v : Value} {a : Act} (h : Yields P ops o v a) (w : World) : YAt P ops o v a w := h.imp (fun ⟨x, y⟩ => ⟨x, y w⟩) id
theorem YAt.of_same {o : Oper} {v : Value} {a a' : Act} {w : World} (hy : YAt P ops o v a w) (he : execOp a'.eval o = execOp a.eval o) (hw : Region.wanted o (yielded ops a'.tmps) = Region.wanted o (yielded ops a.tmps)) : YAt P ops o v a' w := by
  unfold YAt at *
  rw [he, hw]
  exact hy
/-- One operation of the walk. -/
def stC (P : Program) (ops : Array Oper) (Q : Exit → Act → World → Prop) (i : Nat) (K : Act → World → Prop) (a : Act) (w : World) : Prop := match ops[i]? with
  | none => K a w
  | some o => if isV o.op = true then ∃ v, Yields P ops o v a ∧ K (a.put o.dst v) w else wpOp P ops Q i K a w
theorem stC.mono {i : Nat} {K K' : Act → World → Prop} {a : Act} {w : World} (h : ∀ a w, K a w → K' a w) (hh : stC P ops Q i K a w) : stC P ops Q i K' a w := by
  unfold stC at *
  cases ho : ops[i]? with
  | none => rw [ho] at hh; exact h _ _ hh
  | some o =>
    rw [ho] at hh
    dsimp only at hh ⊢
    split
    · rename_i hv
      rw [if_pos hv] at hh
      obtain ⟨v, hy, hk⟩ := hh
      exact ⟨v, hy, h _ _ hk⟩
    · rename_i hv
      rw [if_neg hv] at hh
      exact wpOp_mono h hh
theorem stC.wp {i : Nat} {K : Act → World → Prop} {a : Act} {w : World} (hh : stC P ops Q i K a w) : wpOp P ops Q i K a w := by
  unfold stC at hh
  cases ho : ops[i]? with
  | none => rw [ho] at hh; unfold wpOp; rw [ho]; exact hh
  | some o =>
    rw [ho] at hh
    dsimp only at hh
    split at hh
    · obtain ⟨v, hy, hk⟩ := hh
      exact hy.wpOp ho hk
    · exact hh
theorem stC.of_wp {i : Nat} {o : Oper} {K : Act → World → Prop} {a : Act} {w : World} (ho : ops[i]? = some o) (hv : isV o.op = false) (h : wpOp P ops Q i K a w) : stC P ops Q i K a w := by
  unfold stC; rw [ho]; dsimp only; rw [if_neg (by rw [hv]; exact Bool.false_ne_true)]; exact h
/-- 0: it looks at no world; 1: it only looks; 2: whatever. -/
def cl (P : Program) (o : Op) : Nat := if isV o = true ∨ isInd P o = true then 0 else if isRd o = true then 1 else 2
theorem cl_0 {o : Op} (h : cl P o = 0) : isV o = true ∨ isInd P o = true := by
  unfold cl at h
  split at h
  · assumption
  · split at h <;> cases h
theorem cl_1 {o : Op} (h : cl P o = 1) : isRd o = true ∧ isV o = false := by
  unfold cl at h
  split at h
  · cases h
  · rename_i hn
    split at h
    · rename_i hr; exact ⟨hr, by cases hq : isV o with | false => rfl | true => exact absurd (.inl hq) hn⟩
    · cases h
theorem st0 (hQ : Nrm Q) {i : Nat} {o : Oper} {K : Act → World → Prop} {a : Act} {w : World} (ho : ops[i]? = some o) (hc : cl P o.op = 0) (h : stC P ops Q i K a w) : ∃ v, Yields P ops o v a ∧ K (a.put o.dst v) w := by
  unfold stC at h
  rw [ho] at h
  dsimp only at h
  split at h
  · exact h
  · rename_i hv
    have hi := (cl_0 hc).resolve_left hv
    unfold wpOp at h
    rw [ho] at h
    dsimp only at h
    split at h
    · rename_i hw
      rcases h with h | ⟨_, a0, w0, hq⟩
      · rcases isInd_spec hi a.eval with ⟨v, hv⟩ | hn
        · refine ⟨v, .inl ⟨hw, hv⟩, ?_⟩
          unfold Oper.wp at h; rw [hv w] at h; exact h
        · unfold Oper.wp at h
          cases hr : (execOp a.eval o).run P w with
          | ok x w' => exact absurd hr (hn _ _ _)
          | halt x w' =>
            rw [hr] at h
            cases x <;> simp only [Oper.upon] at h
            case panic v => cases hQ _ _ _ h
      · cases hQ _ _ _ hq
    · rename_i hw
      exact ⟨undef, .inr ⟨by simpa using hw, rfl⟩, h⟩
theorem st1 (hQ : Nrm Q) {i : Nat} {o : Oper} {K : Act → World → Prop} {a : Act} {w : World} (ho : ops[i]? = some o) (hc : cl P o.op = 0 ∨ cl P o.op = 1) (h : stC P ops Q i K a w) : ∃ v, YAt P ops o v a w ∧ K (a.put o.dst v) w := by
  rcases hc with hc | hc
  · obtain ⟨v, hy, hk⟩ := st0 hQ ho hc h
    exact ⟨v, Yields.at hy w, hk⟩
  · obtain ⟨hr, hv⟩ := cl_1 hc
    unfold stC at h
    rw [ho] at h
    dsimp only at h
    rw [if_neg (by rw [hv]; exact Bool.false_ne_true)] at h
    unfold wpOp at h
    rw [ho] at h
    dsimp only at h
    split at h
    · rename_i hw
      rcases h with h | ⟨_, a0, w0, hq⟩
      · unfold Oper.wp at h
        cases he : (execOp a.eval o).run P w with
        | ok x w' =>
          obtain ⟨rfl, v, rfl⟩ := isRd_spec hr a.eval w x w' he
          rw [he] at h
          exact ⟨v, .inl ⟨hw, he⟩, h⟩
        | halt x w' =>
          rw [he] at h
          cases x <;> simp only [Oper.upon] at h
          case panic v => cases hQ _ _ _ h
      · cases hQ _ _ _ hq
    · rename_i hw
      exact ⟨undef, .inr ⟨by simpa using hw, rfl⟩, h⟩
/-- There is a way on. -/
theorem wpOp_some (hQ : Nrm Q) {j : Nat} {o : Oper} {K : Act → World → Prop} {a : Act} {w : World} (ho : ops[j]? = some o) (h : wpOp P ops Q j K a w) : ∃ a' w' u, a'.tmps = (a.put o.dst u).tmps ∧ K a' w' := by
  unfold wpOp at h
  rw [ho] at h
  dsimp only at h
  split at h
  · rcases h with h | ⟨_, a0, w0, hq⟩
    · unfold Oper.wp at h
      generalize (execOp a.eval o).run P w = r at h
      cases r with
      | ok n w' =>
        cases n <;> simp only [Oper.upon] at h
        case value v => exact ⟨_, _, v, rfl, h⟩
        case skip => exact ⟨_, _, undef, rfl, h⟩
        case defer d => exact ⟨_, _, undef, by cases o.dst <;> rfl, h⟩
        case enter f args =>
          obtain ⟨e, w2, fr, he, _⟩ := h []
          cases e with
          | returned v => exact ⟨_, _, v, rfl, he⟩
          | panicked c => cases hQ _ _ _ he
          | outgrown => obtain ⟨a0, w0, hq⟩ := he; cases hQ _ _ _ hq
        case row rw args =>
          obtain ⟨v, w2, he, _⟩ := h default []
          exact ⟨_, _, v, rfl, he⟩
      | halt x w' =>
        cases x <;> simp only [Oper.upon] at h
        case panic v => cases hQ _ _ _ h
    · cases hQ _ _ _ hq
  · exact ⟨_, _, undef, rfl, h⟩
theorem eval_tmps {a a' : Act} (h : a'.tmps = a.tmps) : a'.eval = a.eval := funext fun x => by cases x <;> simp [Act.eval, h]
theorem wpOp_keep (hQ : Nrm Q) {j : Nat} {o : Oper} {K : Act → World → Prop} {a : Act} {w : World} (ho : ops[j]? = some o) (h : wpOp P ops Q j K a w) : wpOp P ops Q j (fun a' w' => (∃ u, a'.tmps = (a.put o.dst u).tmps) ∧ K a' w') a w := by
  unfold wpOp at *
  simp only [ho] at *
  split
  · rename_i hw
    simp only [hw, if_true] at h
    rcases h with h | ⟨_, a0, w0, hq⟩
    case inr => cases hQ _ _ _ hq
    refine .inl ?_
    unfold Oper.wp at *
    generalize (execOp a.eval o).run P w = r at *
    cases r with
    | ok n w' =>
      cases n <;> simp only [Oper.upon] at h ⊢
      case value u => exact ⟨⟨u, rfl⟩, h⟩
      case skip => exact ⟨⟨undef, rfl⟩, h⟩
      case defer d => exact ⟨⟨undef, by cases o.dst <;> rfl⟩, h⟩
      case enter f args =>
        refine Calls.mono h fun e w'' he => ?_
        cases e with
        | returned u => exact ⟨⟨u, rfl⟩, he⟩
        | panicked c => cases hQ _ _ _ he
        | outgrown => exact he
      case row row args => exact Rows.mono h fun u w'' he => ⟨⟨u, rfl⟩, he⟩
    | halt x w' =>
      cases x <;> simp only [Oper.upon] at h ⊢
      case panic u => cases hQ _ _ _ h
  · rename_i hw
    simp only [hw] at h
    exact ⟨⟨undef, rfl⟩, h⟩
/-- An operation behind one that was done ahead. -/
theorem wpOp_ahead (hQ : Nrm Q) {j : Nat} {oi oj : Oper} {v : Value} (hj : ops[j]? = some oj) (hap : oi.apart ops oj = true) (hsj : ∀ cs b, oj.op ≠ .select cs b) {K : Act → World → Prop} {a : Act} {w : World}
    (h : wpOp P ops Q j (fun a' w' => K (a'.put oi.dst v) w') a w) : wpOp P ops Q j K (a.put oi.dst v) w := by
  obtain ⟨h1, h2, h3⟩ := Oper.apart_spec hap
  unfold wpOp at *
  simp only [hj] at *
  rw [wanted_put oj a oi.dst v h1]
  split
  · rename_i hw
    simp only [hw, if_true] at h
    rcases h with h | ⟨_, a0, w0, hq⟩
    case inr => cases hQ _ _ _ hq
    refine .inl ?_
    unfold Oper.wp at *
    rw [execOp_put oj hsj a oi.dst v h1]
    generalize (execOp a.eval oj).run P w = r at *
    cases r with
    | ok n w' =>
      cases n <;> simp only [Oper.upon] at h ⊢
      case value u => rw [Act.put_comm a v u h2]; exact h
      case skip => rw [Act.put_comm a v undef h2]; exact h
      case defer d => rw [Act.put_defers, Act.put_comm _ v undef h2]; exact h
      case enter f args =>
        refine Calls.mono h fun e w'' he => ?_
        cases e with
        | returned u => dsimp only at he ⊢; rw [Act.put_comm a v u h2]; exact he
        | panicked c => cases hQ _ _ _ he
        | outgrown => exact he
      case row row args => exact Rows.mono h fun u w'' he => by rw [Act.put_comm a v u h2]; exact he
    | halt x w' =>
      cases x <;> simp only [Oper.upon] at h ⊢
      case panic u => cases hQ _ _ _ h
  · rename_i hw
    simp only [hw] at h
    rw [Act.put_comm a v undef h2]; exact h
theorem Oper.apart_symm {x y : Oper} (h : x.apart ops y = true) : y.apart ops x = true := by
  obtain ⟨h1, h2, h3⟩ := Oper.apart_spec h
  unfold Oper.apart
  cases hx : x.dst with
  | none =>
    cases hy : y.dst with
    | none => rfl
    | some e => simp [h3 e hy]
  | some d =>
    cases hy : y.dst with
    | none => simp [h1 d hx]
    | some e =>
      have h4 := h1 d hx
      have h5 := h3 e hy
      have h6 := h2 d hx
      rw [hy] at h6
      simp [h4, h5]
      intro hh; exact h6 (by rw [hh])
/-- May these two change places? -/
def comm (P : Program) (ops : Array Oper) (x y : Oper) : Bool := (Nat.beq (cl P x.op) 0 || Nat.beq (cl P y.op) 0 || (Nat.beq (cl P x.op) 1 && Nat.beq (cl P y.op) 1)) && x.apart ops y
theorem st_swap (hQ : Nrm Q) {i j : Nat} {oi oj : Oper} (hi : ops[i]? = some oi) (hj : ops[j]? = some oj) (hc : comm P ops oj oi = true) (hsi : ∀ cs b, oi.op ≠ .select cs b) (hsj : ∀ cs b, oj.op ≠ .select cs b) {K : Act → World → Prop} {a : Act} {w : World}
    (h : stC P ops Q j (fun a w => stC P ops Q i K a w) a w) : stC P ops Q i (fun a w => stC P ops Q j K a w) a w := by
  unfold comm at hc
  simp only [Bool.and_eq_true, Bool.or_eq_true, Nat.beq_eq] at hc
  obtain ⟨hc, hap⟩ := hc
  have hap' := Oper.apart_symm hap
  obtain ⟨h1, h2, h3⟩ := Oper.apart_spec hap
  have put0 : ∀ {i : Nat} {o : Oper} (ho : ops[i]? = some o) {v : Value} {K : Act → World → Prop} {a : Act} {w : World}, Yields P ops o v a → K (a.put o.dst v) w → stC P ops Q i K a w := by
    intro i o ho v K a w hy hk
    unfold stC; rw [ho]; dsimp only
    split
    · exact ⟨v, hy, hk⟩
    · exact hy.wpOp ho hk
  have put1 : ∀ {i : Nat} {o : Oper} (ho : ops[i]? = some o) (hv : isV o.op = false) {v : Value} {K : Act → World → Prop} {a : Act} {w : World}, YAt P ops o v a w → K (a.put o.dst v) w → stC P ops Q i K a w := by
    intro i o ho hv v K a w hy hk
    exact .of_wp ho hv (hy.wpOp ho hk)
  by_cases hj0 : cl P oj.op = 0
  · -- the first one looks at no world
    obtain ⟨u, hu, hk⟩ := st0 hQ hj hj0 h
    by_cases hi0 : cl P oi.op = 0
    · obtain ⟨v, hv, hk⟩ := st0 hQ hi hi0 hk
      have hv' : Yields P ops oi v a := hv.of_same (execOp_put oi hsi a oj.dst u h1).symm (wanted_put oi a oj.dst u h1).symm
      refine put0 hi hv' (put0 hj (v := u) (hu.of_same (execOp_put oj hsj a oi.dst v h3) (wanted_put oj a oi.dst v h3)) ?_)
      rw [← Act.put_comm a u v h2]; exact hk
    · have hvi : isV oi.op = false := by
        cases hq : isV oi.op with
        | false => rfl
        | true => exact absurd (by unfold cl; rw [if_pos (.inl hq)]) hi0
      refine .of_wp hi hvi (wpOp_mono ?_ (wpOp_put hi hap hsj hsi (fun c a w hq => by cases hQ _ _ _ hq) hu hk.wp))
      rintro a' w' ⟨hy, hk⟩
      exact put0 hj hy hk
  · have hvj : isV oj.op = false := by
      cases hq : isV oj.op with
      | false => rfl
      | true => exact absurd (by unfold cl; rw [if_pos (.inl hq)]) hj0
    by_cases hi0 : cl P oi.op = 0
    · have hw := h.wp
      obtain ⟨a', w', u, hu, hk⟩ := wpOp_some hQ hj hw
      obtain ⟨v, hv, _⟩ := st0 hQ hi hi0 hk
      have same : ∀ (a' : Act) (u : Value), a'.tmps = (a.put oj.dst u).tmps → execOp a.eval oi = execOp a'.eval oi ∧ Region.wanted oi (yielded ops a.tmps) = Region.wanted oi (yielded ops a'.tmps) := fun a' u hu =>
        ⟨by rw [eval_tmps hu]; exact (execOp_put oi hsi a oj.dst u h1).symm, by rw [hu]; exact (wanted_put oi a oj.dst u h1).symm⟩
      have hv' : Yields P ops oi v a := hv.of_same (same a' u hu).1 (same a' u hu).2
      refine put0 hi hv' (.of_wp hj hvj (wpOp_ahead hQ hj hap' hsj ?_))
      have keep := wpOp_keep (P := P) (ops := ops) (Q := Q) (o := oj) (j := j) hQ hj hw
      refine wpOp_mono ?_ keep
      rintro b wb ⟨⟨u', hu'⟩, hk⟩
      obtain ⟨v', hy, hk⟩ := st0 hQ hi hi0 hk
      have : v' = v := Yields.uniq (hy.of_same (same b u' hu').1 (same b u' hu').2) hv' wb
      subst this
      exact hk
    · rcases hc with (hc | hc) | ⟨hcj, hci⟩
      · exact absurd hc hj0
      · exact absurd hc hi0
      · obtain ⟨u, hu, hk⟩ := st1 hQ hj (.inr hcj) h
        obtain ⟨v, hv, hk⟩ := st1 hQ hi (.inr hci) hk
        have hv' : YAt P ops oi v a w := hv.of_same (execOp_put oi hsi a oj.dst u h1).symm (wanted_put oi a oj.dst u h1).symm
        refine put1 hi (cl_1 hci).2 hv' (put1 hj hvj (v := u) (hu.of_same (execOp_put oj hsj a oi.dst v h3) (wanted_put oj a oi.dst v h3)) ?_)
        rw [← Act.put_comm a u v h2]; exact hk
end
/-! ### The walk in the text's order -/
section
variable {P : Program} {Q : Exit → Act → World → Prop}
def wpC (P : Program) (ops : Array Oper) (Q : Exit → Act → World → Prop) : List Nat → Act → World → Prop
  | [], a, w => Q .normal a w
  | i :: r, a, w => stC P ops Q i (wpC P ops Q r) a w
def noSel (o : Op) : Bool := match o with | .select .. => false | _ => true
theorem noSel_spec {o : Op} (h : noSel o = true) (cs : Array SelectCase) (b : Bool) : o ≠ .select cs b := fun e => by subst e; cases h
/-- Those that an operation does not wait for may change places with it. -/
def calmAt (P : Program) (os : List Oper) (bs : List Nat) (j : Nat) (o : Oper) : Bool :=
  noSel o.op && (dirs o).all (fun k => Nat.blt k j) && (List.range j).all fun i => tb (bs.getD j 0) i || (match os[i]? with | some x => comm P (List.toArray os) x o | none => true)
def calmGo (P : Program) (os : List Oper) (bs : List Nat) : Nat → List Oper → Bool
  | _, [] => true
  | j, o :: r => calmAt P os bs j o && calmGo P os bs (j + 1) r
def calm (P : Program) (os : List Oper) : Bool := calmGo P os (ancs os []) 0 os
theorem calmGo_spec {os : List Oper} {bs : List Nat} : ∀ {r : List Oper} {j : Nat}, os.drop j = r → calmGo P os bs j r = true → ∀ i o, j ≤ i → os[i]? = some o → calmAt P os bs i o = true
  | [], j, hd, _, i, o, hij, ho => by
    have h1 := (List.getElem?_eq_some_iff.1 ho).1
    have h2 := congrArg List.length hd
    simp at h2; omega
  | x :: r, j, hd, h, i, o, hij, ho => by
    simp only [calmGo, Bool.and_eq_true] at h
    by_cases e : i = j
    · subst e
      have := congrArg (fun l => l[0]?) hd
      simp only [List.getElem?_drop, Nat.add_zero, List.getElem?_cons_zero] at this
      rw [this] at ho; cases ho; exact h.1
    · exact calmGo_spec (r := r) (j := j + 1) (by rw [← List.drop_drop, hd]; rfl) h.2 i o (by omega) ho
theorem bubble {os : List Oper} (hQ : Nrm Q) {i : Nat} {oi : Oper} (hi : os[i]? = some oi) (hs : noSel oi.op = true) {l2 : List Nat} : ∀ (l1 : List Nat), (∀ j ∈ l1, ∃ oj, os[j]? = some oj ∧ noSel oj.op = true ∧ comm P (List.toArray os) oj oi = true) → ∀ (a : Act) (w : World), wpC P (List.toArray os) Q (l1 ++ i :: l2) a w → stC P (List.toArray os) Q i (wpC P (List.toArray os) Q (l1 ++ l2)) a w
  | [], _, a, w, h => h
  | j :: l1, hc, a, w, h => by
    obtain ⟨oj, hj, hsj, hcm⟩ := hc j (by simp)
    have h1 : stC P (List.toArray os) Q j (fun a w => stC P (List.toArray os) Q i (wpC P (List.toArray os) Q (l1 ++ l2)) a w) a w :=
      stC.mono (fun a w h => bubble hQ hi hs l1 (fun k hk => hc k (by simp [hk])) a w h) h
    exact st_swap hQ (by simpa using hi) (by simpa using hj) hcm (noSel_spec hs) (noSel_spec hsj) h1
theorem any_of_C {os : List Oper} (hQ : Nrm Q) (hc : calm P os = true) : ∀ (fuel : Nat) (rem : List Nat) (listed : Array Bool) (a : Act) (w : World), rem.Pairwise (· < ·) → (∀ j, j ∈ rem ↔ j < os.length ∧ listed.getD j true = false) → Dn os listed → rem.length ≤ fuel → wpC P (List.toArray os) Q rem a w → wpAny P .any (List.toArray os) Q fuel listed a w := by
  have hcs : ∀ i o, os[i]? = some o → calmAt P os (ancs os []) i o = true := fun i o ho => calmGo_spec (j := 0) rfl hc i o (Nat.zero_le _) ho
  have hanc : ∀ i j, tb ((ancs os []).getD i 0) j = true → Rch os i j := fun i j h => by
    rw [tb_iff] at h
    cases hg : (ancs os [])[i]? with
    | none => simp [List.getD, hg] at h
    | some l => exact ancs_sound (os := os) os [] rfl (fun i l h => by simp at h) i l hg j (by simpa [List.getD, hg] using h)
  intro fuel
  induction fuel with
  | zero =>
    intro rem listed a w hp hm hd hl h
    have : rem = [] := List.eq_nil_of_length_eq_zero (by omega)
    subst this
    refine ⟨?_, h⟩
    rw [List.eq_nil_iff_forall_not_mem]
    intro i hi
    obtain ⟨o, ho, hl2, _⟩ := ready_iff.1 hi
    have := (hm i).2 ⟨(List.getElem?_eq_some_iff.1 ho).1, hl2⟩
    cases this
  | succ fuel ih =>
    intro rem listed a w hp hm hd hl h
    refine ⟨fun hr => ?_, fun i hi => ?_⟩
    · cases rem with
      | nil => exact h
      | cons i rem =>
        exfalso
        obtain ⟨hi1, hi2⟩ := (hm i).1 (by simp)
        have ho : os[i]? = some os[i] := List.getElem?_eq_getElem hi1
        have hk := hcs i _ ho
        simp only [calmAt, Bool.and_eq_true, List.all_eq_true] at hk
        have : i ∈ Region.ready .any (List.toArray os) listed := ready_iff.2 ⟨_, ho, hi2, fun k hkd => by
          have hlt := Nat.le_of_ble_eq_true (hk.1.2 k hkd)
          have hlt : k < i := hlt
          have hks : k < listed.size := by rw [hd.1]; omega
          rw [getD_tf hks (b' := true)]
          cases hlk : listed.getD k true with
          | true => rfl
          | false =>
            have hmem := (hm k).2 ⟨by omega, hlk⟩
            cases hmem with
            | head => omega
            | tail _ hmem => have := (List.pairwise_cons.1 hp).1 k hmem; omega⟩
        rw [hr] at this; cases this
    · obtain ⟨o, ho, hli, hk⟩ := ready_iff.1 hi
      have hmem := (hm i).2 ⟨(List.getElem?_eq_some_iff.1 ho).1, hli⟩
      obtain ⟨l1, l2, rfl⟩ := List.append_of_mem hmem
      have hci := hcs i o ho
      simp only [calmAt, Bool.and_eq_true, List.all_eq_true] at hci
      have hp' := List.pairwise_append.1 hp
      have hb := bubble (P := P) (Q := Q) hQ ho hci.1.1 (l2 := l2) l1 (fun j hj => by
        have hji : j < i := hp'.2.2 j hj i (by simp)
        obtain ⟨hj1, hj2⟩ := (hm j).1 (by simp [hj])
        have hoj : os[j]? = some os[j] := List.getElem?_eq_getElem hj1
        refine ⟨_, hoj, ?_, ?_⟩
        · have := hcs j _ hoj
          simp only [calmAt, Bool.and_eq_true] at this
          exact this.1.1
        · have := hci.2 j (List.mem_range.2 hji)
          rw [hoj] at this
          simp only [Bool.or_eq_true] at this
          refine this.resolve_left fun ht => ?_
          have hr := (hanc i j ht).listed hd (fun o' ho' k hkd => by
            rw [ho] at ho'; cases ho'
            have h1 := hk k hkd
            have hks : k < listed.size := by
              by_cases hlt : k < listed.size
              · exact hlt
              · simp [Array.getD, hlt] at h1
            rw [getD_tf hks (b' := false)]; exact h1)
          rw [hr] at hj2; cases hj2) a w h
      refine wpOp_mono ?_ hb.wp
      intro a' w' h'
      have hi1 : i < listed.size := by rw [hd.1]; exact (List.getElem?_eq_some_iff.1 ho).1
      refine ih (l1 ++ l2) _ a' w' ?_ ?_ (hd.set ho hk) (by simp at hl ⊢; omega) h'
      · refine List.pairwise_append.2 ⟨hp'.1, (List.pairwise_cons.1 hp'.2.1).2, fun x hx y hy => hp'.2.2 x hx y (by simp [hy])⟩
      · intro j
        rw [getD_set hi1]
        constructor
        · intro hj
          have hne : i ≠ j := by
            rintro rfl
            rcases List.mem_append.1 hj with hj | hj
            · have := hp'.2.2 i hj i (by simp); omega
            · have := (List.pairwise_cons.1 hp'.2.1).1 i hj; omega
          rw [if_neg hne]
          exact (hm j).1 (by rcases List.mem_append.1 hj with hj | hj <;> simp [hj])
        · rintro ⟨hj1, hj2⟩
          split at hj2
          · cases hj2
          · rename_i hne
            have := (hm j).2 ⟨hj1, hj2⟩
            simp only [List.mem_append, List.mem_cons] at this ⊢
            rcases this with h | rfl | h
            · exact .inl h
            · exact absurd rfl hne
            · exact .inr h
end
/-- The rest of a region whose order is drawn, from operation i on, in the text's order. -/
def GoC (P : Program) (f : Bas) (ops : Array Oper) (i : Nat) (os : List Oper) (k : List Item) (a : Act) (w : World) (R : Ending → World → Prop) : Prop :=
  ops.toList.drop i = os → wpC P ops (fun e a w => e = .normal ∧ Go P f k a w R) (List.range' i os.length) a w
section
variable {P : Program} {f : Bas} {k : List Item} {a : Act} {w : World} {R : Ending → World → Prop}
theorem wpC.ops {ops : Array Oper} {Q : Exit → Act → World → Prop} : ∀ {l : List Nat} {a : Act} {w : World}, wpC P ops Q l a w → wpOps P ops Q l a w
  | [], a, w, h => h
  | i :: l, a, w, h => by rw [wpOps_cons]; exact wpOp_mono (fun a w h => wpC.ops h) (stC.wp h)
theorem Go.calm {id : Nat} {os : List Oper} (hc : SL.calm P os = true) (hm : P.follows .mixedOrders = true) (h : ∀ {w'}, w' = { w with drawn := w.drawn + 1 } → GoC P f (List.toArray os) 0 os k a w' R) : Go P f (.code (.region id (List.toArray os) true) :: k) a w R := by
  refine Go.any hm ?_
  have h1 := h rfl rfl
  refine any_of_C (fun e a w h => h.1) hc _ (List.range' 0 os.length) _ a _ (List.pairwise_lt_range' ..) (fun j => ?_) ⟨by simp, fun i o ho hl k hk => ?_⟩ (by simp) h1
  · simp only [List.mem_range'_1, Nat.zero_le, true_and, Nat.zero_add]
    constructor
    · intro hj; exact ⟨hj, by simp [Array.getD, hj]⟩
    · exact fun h => h.1
  · have hi := (List.getElem?_eq_some_iff.1 ho).1
    simp [Array.getD, hi] at hl
end
end Go.SL
