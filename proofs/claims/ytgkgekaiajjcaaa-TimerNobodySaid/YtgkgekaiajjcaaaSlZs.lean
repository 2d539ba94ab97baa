/- Strings cut, added, read byte by byte and turned into bytes; ranges over functions that are left; each rule states its own conditions. -/
import Derived.Test.YtgkgekaiajjcaaaSlZk
import Derived.Laws.IdiomStrings
import Derived.Laws.Concat
import Derived.Laws.Strings3
import Derived.Below
namespace Go.SL
open Go Go.RowKit
set_option linter.unusedVariables false
set_option linter.unusedSimpArgs false

/-! ### Strings -/
theorem pv_eq {L : List Ent} {v : Value} (hv : v.oneCell' = true) : PV (Kd.eq v) v () L := fun _ _ _ => ⟨[v], ⟨rfl, hv⟩, rfl⟩
theorem mkS_beq2 {x y : List Int} (hx : Bs x) (hy : Bs y) : (mkS x == mkS y) = decide (x = y) := by
  show ((mkS x).data == (mkS y).data) = decide (x = y)
  by_cases h : x = y
  · subst h; rw [decide_eq_true rfl]; exact beq_self_eq_true _
  · have : (mkS x).data ≠ (mkS y).data := fun e => h (mkS_inj hx hy (by rw [ByteArray.ext e]))
    rw [decide_eq_false h]; exact beq_eq_false_iff_ne.2 this
theorem checkKey_str {P : Program} {kt : TypeId} {x : ByteArray} (h : P.underlying kt = some .string) (e : Bool) (n : Nat) (w : World) : (Instr.checkKey e (n + 1) kt (.string x)).run P w = .ok () w := by
  simp [Instr.checkKey, run_underlying h]
theorem mkey_str {P : Program} {kt : TypeId} (h : P.underlying kt = some .string) : MKey P kt Kd.str where
  chk := fun e w {m φ x cs} hc => by
    obtain ⟨rfl, _⟩ := hc
    exact checkKey_str h e 9999 w
  eq := fun w {m φ x cs m' φ' y ds} hc hd => eq_str h 9999 w m φ x cs m' φ' y ds hc hd
  now := .inl fun d hd {m φ x cs m' φ' y ds} hc hd' => by
    rw [h] at hd; cases hd
    obtain ⟨rfl, b1⟩ := hc; obtain ⟨rfl, b2⟩ := hd'
    show Instr.sameNow .string (.string (mkS x)) (.string (mkS y)) = _
    exact congrArg some (mkS_beq2 b1 b2)
  bits := fun {m φ x cs m' φ' ds} hc hd => by
    obtain ⟨rfl, _⟩ := hc; obtain ⟨rfl, _⟩ := hd
    show ((mkS x) == (mkS x)) = true
    show ((mkS x).data == (mkS x).data) = true
    exact beq_self_eq_true _
  und := ⟨_, h⟩
theorem mkS_app (p q : List Int) : mkS p ++ mkS q = mkS (p ++ q) := by
  unfold mkS; rw [ByteArray.mk_append_mk]; simp
theorem mkS_ext (p : List Int) (a b : Nat) : (mkS p).extract a b = mkS ((p.take b).drop a) := by
  unfold mkS
  rw [ByteArray.extract_mk]
  congr 2
  rw [← List.map_drop, ← List.map_take, List.drop_take]
theorem mkS_get (p : List Int) (hB : Bs p) (i : Nat) (h : i < (mkS p).size) : (((mkS p)[i]).toNat : Int) = p[i]'(by rw [← mkS_size (x := p)]; exact h) := by
  have hl : i < p.length := by rw [← mkS_size (x := p)]; exact h
  have hb := toNat_inR (hB p[i] (List.getElem_mem hl))
  show (((p.map fun b => UInt8.ofNat b.toNat).toArray[i]'(by simpa using hl)).toNat : Int) = _
  simp
  omega
theorem S_of (s : ByteArray) : ∃ a : List Int, s = mkS a ∧ Bs a := by
  refine ⟨s.data.toList.map fun b => (b.toNat : Int), ?_, fun b hb => ?_⟩
  · apply ByteArray.ext
    apply Array.ext'
    simp only [mkS, List.map_map, List.toList_toArray]
    conv => lhs; rw [← List.map_id s.data.toList]
    refine List.map_congr_left fun b _ => ?_
    simp
  · obtain ⟨x, _, rfl⟩ := List.mem_map.1 hb
    have := x.toNat_lt
    unfold InR
    simp [IntKind.wrap, IntKind.bits, IntKind.signed]
    omega
theorem Bs.cut {p q : List Int} {a b : Int} (h : Bs p) (hq : cut p a b = some q) : Bs q := by
  obtain ⟨_, _, _, rfl⟩ := cut_spec hq
  exact fun x hx => h x (List.mem_of_mem_take (List.mem_of_mem_drop hx))
theorem Bs.app {p q r : List Int} (h : Bs p) (k : Bs q) (hr : app p q = some r) : Bs r := by
  obtain ⟨_, rfl⟩ := app_spec hr
  exact fun x hx => (List.mem_append.1 hx).elim (h x) (k x)
theorem Bs.idx {p : List Int} {i x : Int} (h : Bs p) (hx : idx p i = some x) : InR .u8 x := h x (List.mem_of_getElem? (idx_spec hx).2.2)
section
variable {P : Program} {E : List (Nat × Value)} {L : List Ent} {d : Option Tmp} {ty : TypeId} {pos : String} {aft : Array Edge} {g : Option (Nat × Bool)}
theorem o_sls {t : TypeId} {x lo hi : Operand} {k1 k2 : IntKind} {p q : List Int} {a b : Int} (hx : opv E x = some (.string (mkS p))) (hl : opv E lo = some (.int k1 a)) (hh : opv E hi = some (.int k2 b)) (h : cut p a b = some q) (ht : P.underlying t = some .string) :
    OpS (σ := Unit) P E L ⟨d, .slice t x (some lo) (some hi) none, ty, pos, aft, g⟩ (fun _ => .string (mkS q)) (fun _ => L) := by
  obtain ⟨h0, h1, h2, rfl⟩ := cut_spec h
  exact .pure fun n ac w hs => by
    have := run_slice_string (P := P) w t (mkS p) k1 k2 a b ht h0 h1 (by rw [mkS_size]; exact h2)
    simp [execOp, hs.eval hx, hs.eval hl, hs.eval hh, run_sliceAt_string (P := P) w t _ _ _ _ ht, this, mkS_ext]
theorem o_slsl {t : TypeId} {x lo : Operand} {k1 : IntKind} {p q : List Int} {a : Int} (hx : opv E x = some (.string (mkS p))) (hl : opv E lo = some (.int k1 a)) (h : cut p a (p.length : Int) = some q) (ht : P.underlying t = some .string) :
    OpS (σ := Unit) P E L ⟨d, .slice t x (some lo) none none, ty, pos, aft, g⟩ (fun _ => .string (mkS q)) (fun _ => L) := by
  obtain ⟨h0, h1, h2, rfl⟩ := cut_spec h
  exact .pure fun n ac w hs => by
    have := run_slice_string_from_if (P := P) w t (mkS p) k1 a ht
    rw [if_pos ⟨h0, by rw [mkS_size]; exact h1⟩] at this
    simp [execOp, hs.eval hx, hs.eval hl, run_sliceAt_string (P := P) w t _ _ _ _ ht, this, mkS_ext, mkS_size]
theorem o_slsh {t : TypeId} {x hi : Operand} {k1 : IntKind} {p q : List Int} {b : Int} (hx : opv E x = some (.string (mkS p))) (hl : opv E hi = some (.int k1 b)) (h : cut p 0 b = some q) (ht : P.underlying t = some .string) :
    OpS (σ := Unit) P E L ⟨d, .slice t x none (some hi) none, ty, pos, aft, g⟩ (fun _ => .string (mkS q)) (fun _ => L) := by
  obtain ⟨h0, h1, h2, rfl⟩ := cut_spec h
  exact .pure fun n ac w hs => by
    have := run_slice_string_to_if (P := P) w t (mkS p) k1 b ht
    rw [if_pos ⟨h1, by rw [mkS_size]; exact h2⟩] at this
    simp [execOp, hs.eval hx, hs.eval hl, run_sliceAt_string (P := P) w t _ _ _ _ ht, this, mkS_ext]
theorem o_adds {t u : TypeId} {x y : Operand} {p q r : List Int} (hx : opv E x = some (.string (mkS p))) (hy : opv E y = some (.string (mkS q))) (h : app p q = some r) :
    OpS (σ := Unit) P E L ⟨d, .binOp .add t x y u, ty, pos, aft, g⟩ (fun _ => .string (mkS r)) (fun _ => L) := by
  obtain ⟨h0, rfl⟩ := app_spec h
  exact .pure fun n a w hs => by
    have := run_string_add_sum (P := P) w (mkS p) (mkS q) (by rw [mkS_size, mkS_size]; omega)
    simp [execOp, hs.eval hx, hs.eval hy, eqGuard, binOp, this, mkS_app]
theorem o_ixs {t : TypeId} {x y : Operand} {k : IntKind} {p : List Int} {i b : Int} (hx : opv E x = some (.string (mkS p))) (hy : opv E y = some (.int k i)) (hB : Bs p) (h : idx p i = some b) (ht : P.underlying t = some .string) :
    OpS (σ := Unit) P E L ⟨d, .index t x y, ty, pos, aft, g⟩ (fun _ => .int .u8 b) (fun _ => L) := by
  obtain ⟨h0, h1, h2⟩ := idx_spec h
  have hlt : i.toNat < p.length := by omega
  rw [List.getElem?_eq_getElem hlt] at h2
  have h3 := Option.some.inj h2
  exact .pure fun n a w hs => by
    have := run_index_string (P := P) w t (mkS p) k i ht
    rw [dif_pos ⟨h0, by rw [mkS_size]; exact h1⟩, mkS_get p hB, h3] at this
    simp [execOp, hs.eval hx, hs.eval hy, this]
def s2b (p : List Int) : Option (List Int) := if p.length ≤ 68719476736 then some p else none
theorem o_s2b {s t : TypeId} {x : Operand} {p q : List Int} (e : TypeId) (hx : opv E x = some (.string (mkS p))) (hB : Bs p) (h : s2b p = some q) (hs : P.underlying s = some .string) (ht : P.underlying t = some (.slice e)) (he : P.underlying e = some (.int .u8)) :
    OpS P E L ⟨d, .convert s t x, ty, pos, aft, g⟩ (fun v => v) (fun v => Val (Kd.osl (Kd.int .u8)) v q :: L) :=
  .run fun n F a w hS hm => by
    have hq : q = p ∧ p.length ≤ 68719476736 := by
      unfold s2b at h
      split at h
      · cases h; exact ⟨rfl, by assumption⟩
      · cases h
    obtain ⟨rfl, hlen⟩ := hq
    have hrun := run_bytes_of_string (P := P) w s t e (mkS q) hs ht he
    rw [mkS_size] at hrun
    generalize hcap : grownCap w q.length 0 e = cp at hrun
    have hge : q.length ≤ cp := hcap ▸ grownCap_ge w _ _ _
    have hcm : cp ≤ maxLen := hcap ▸ grownCap_le_maxLen w _ _ _ (by simp only [maxLen]; omega)
    have hrow : bytesRow (mkS q) cp = (q.map (Value.int .u8) ++ List.replicate (cp - q.length) (Value.int .u8 0)).toArray := by
      unfold bytesRow
      rw [mkS_size]
      apply Array.ext'
      simp only [mkS, Array.toList_append, Array.toList_map, List.map_map, List.toList_toArray, Array.toList_replicate]
      congr 1
      refine List.map_congr_left fun b hb => ?_
      have := toNat_inR (hB b hb)
      simp
      omega
    have hsz : (bytesRow (mkS q) cp).size = (q.map (Value.int .u8) ++ List.replicate (cp - q.length) (Value.int .u8 0)).length := by rw [hrow]; simp
    rw [hsz, hrow] at hrun
    have hE : ∀ m : Frag, Enc (Kd.int .u8) m q ((q.map (Value.int .u8) ++ List.replicate (cp - q.length) (Value.int .u8 0)).take (q.length * (Kd.int .u8).n)) := fun m => by
      have e1 : (q.map (Value.int .u8) ++ List.replicate (cp - q.length) (Value.int .u8 0)).take (q.length * (Kd.int .u8).n) = q.map (Value.int .u8) := by
        rw [show q.length * (Kd.int .u8).n = (q.map (Value.int .u8)).length by simp [Kd.int], List.take_left]
      rw [e1]
      refine ⟨by simp [Kd.int], fun i x hx => ?_⟩
      have hlt := (List.getElem?_eq_some_iff.1 hx).1
      refine ⟨?_, hB x (List.mem_of_getElem? hx)⟩
      apply List.ext_getElem?
      intro j
      cases j with
      | zero => simp [Kd.int, hx]
      | succ j => simp [Kd.int]; omega
    have hcl : (q.map (Value.int .u8) ++ List.replicate (cp - q.length) (Value.int .u8 0)).length = cp * (Kd.int .u8).n := by simp [Kd.int]; omega
    generalize q.map (Value.int .u8) ++ List.replicate (cp - q.length) (Value.int .u8 0) = cs at *
    refine ⟨.slice (some ⟨w.heap.size, 0, none⟩) q.length cp, w.drew.alloc (.cells cs.toArray e (cs.length, cs.length + 1)), by simp [execOp, hS.eval hx, hrun], ?_⟩
    have hm1 := (hm.drew).made (K := Kd.int .u8) (xs := q) (cap := cp) (cs := cs) (t := e) hge hcm hcl (fun m φ _ => hE m)
    obtain ⟨m, φ, ho, hh, hpp, hkk⟩ := hm1
    obtain ⟨_, _, _, _, _, hk0⟩ := hm.drew
    exact ⟨m, φ, ho, ⟨hh.d1, hh.d2, hh.d3, hp_allocfz ▸ hh.l1, hp_allocfz ▸ hh.l2, hp_allocfz ▸ hh.l3⟩, hpp, hk0.trans (Ok.alloc w.drew _)⟩
/-- What a slice tells of its length, whatever becomes of its memory. -/
theorem o_lni {x : Operand} {t : TypeId} {n N : Nat} {v : Value} (hv : IsSl v N) (hx : opv E x = some v) (ht : slTy P t n = true) :
    OpS (σ := Unit) P E L ⟨d, .call { callee := .builtin .len, args := #[x], argTypes := #[t] }, ty, pos, aft, g⟩ (fun _ => .int .i64 (N : Int)) (fun _ => L) := by
  obtain ⟨e, ei, h1, h2, h3, _⟩ := slTy_spec ht
  obtain ⟨a0, cap, rfl, _⟩ := hv
  exact .pure fun n a w hs => by
    have := hs.eval hx
    simp [execOp, this, resolve, invoke, builtin, Builtin.len_, run_underlying h1, goInt, Builtin.lenOf]
end
/-- What lies below the heap's end is as it was. -/
theorem Mem.below {F : Fr} {L : List Ent} {w w' : World} (h : Mem F L w) (hb : Below w.heap.size w w')  (hd : w.drawn ≤ w'.drawn)  : Mem F L w' := by
  obtain ⟨m, φ, ho, hh, hp', hk⟩ := h
  have hle : (hp w).le (hp w') := fun b o c hc => by
    have hlt : b < w.heap.size := by
      by_cases hlt : b < w.heap.size
      · exact hlt
      · rw [hp_none (by omega)] at hc; cases hc
    have := hb.block b hlt
    unfold hp at hc ⊢
    rw [this]; exact hc
  refine ⟨m, φ, ho, ⟨hh.d1, hh.d2, hh.d3, hh.l1.trans hle, hh.l2.trans hle, hh.l3.trans hle⟩, hp', hk.trans ⟨hb.os, hb.tape, hb.output, hb.size, fun b hlt => by rw [hb.block b hlt], hd ⟩⟩

/-! ### A range over a function that may be left -/
/-- Yield, called with v, hands back false: the round is left by 'return'. -/
def YOut (P : Program) (l : Nat) (r : Rc) (v : Value) (Lp : List Ent) (X X' : Ent) : Prop :=
  ∀ (F : Fr) (w : World), Mem F (Obe l (.loop (r.lp .ready none)) :: X :: Lp) w →
    ∀ (c : Frame) (cs : List Frame), ∃ w', Mem F [Obe l (.loop (r.lp .done (some .ret))), X'] w' ∧
      Steps P (lone (Frame.round l r.fn (r.tmps.setIfInBounds r.p v) r.assign r.body .normal) (c :: cs) w) (lone (c.finish (.bool false)) cs w')
variable {P : Program}
/-- A round that is left, out of its body's walk. -/
theorem YOut.of {l : Nat} {r : Rc} {v : Value} {Lp : List Ent} {X X' : Ent} {n id d : Nat} {ty : TypeId} {pos : String} {E : List (Nat × Value)}
    (ha : r.assign = .region id #[⟨some d, .assign (.tmp r.p), ty, pos, #[], none⟩] false) (hE : Sl n E { tmps := r.tmps, defers := [] }) (hp : Nat.blt r.p n = true) (hd : Nat.blt d n = true)
    (h : ∀ (F : Fr) (a : Act) (w : World), St n F ((d, v) :: (r.p, v) :: E) (X :: Lp) a w → Go P ⟨r.fn, some l, []⟩ [.code r.body] a w (fun e w' => e = .returned (.bool false) ∧ Mem F [X'] w')) : YOut P l r v Lp X X' := by
  intro F w hm c cs
  let b : Bas := ⟨r.fn, some l, []⟩
  have hS1 : Sl n ((r.p, v) :: E) (Act.mk (r.tmps.setIfInBounds r.p v) []) := hE.put (Nat.le_of_ble_eq_true hp) v
  have hb0 : Frame.round l r.fn (r.tmps.setIfInBounds r.p v) r.assign r.body .normal = (fb b).atR (pl b.ds (Act.mk (r.tmps.setIfInBounds r.p v) [])) [.code r.assign, .beginRound, .code r.body] := by
    simp [Frame.round, Frame.atR, fb, pl, b]
  have key : ∃ w1 m1 F1, Mem F1 [X'] w1 ∧ (∀ w2 L2, Mem F1 L2 w2 → Mem F (Obe l (.loop (r.lp .busy none)) :: L2) w2) ∧ Steps P (lone (Frame.round l r.fn (r.tmps.setIfInBounds r.p v) r.assign r.body .normal) (c :: cs) w) m1 ∧ ∃ a' k', m1 = lone ((fb b).atR a' (.code .ret :: k')) (c :: cs) w1 := by
    have hob := (hm.ob 0 rfl).1
    have hm1 := hm.putOb 0 rfl (x' := .loop (r.lp .busy none)) nc_loop
    have hbr : (Instr.beginRound l).run P w = .ok () (w.putObj l (.loop (r.lp .busy none))) := run_beginRound hob rfl
    have hm2 : Mem F ((X :: Lp) ++ [Obe l (.loop (r.lp .busy none))]) (w.putObj l (.loop (r.lp .busy none))) := hm1.map fun m φ ⟨f1, f2, a, b, d, h1, h2⟩ => Own.join b a d.symm h2 ⟨f1, Frag.emp, .rfl, Frag.emp_le, Frag.dj_emp, h1, trivial⟩
    obtain ⟨F1, hF1, hback⟩ := hm2.frame
    have hgo : Go P b [.code r.assign, .beginRound, .code r.body] (Act.mk (r.tmps.setIfInBounds r.p v) []) w (fun e w' => e = .returned (.bool false) ∧ Mem F1 [X'] w') := by
      rw [ha]
      refine Go.reg (os := [⟨some d, .assign (.tmp r.p), ty, pos, #[], none⟩]) ?_
      refine GoR.oper rfl ?_
      have hv : (Act.mk (r.tmps.setIfInBounds r.p v) []).eval (.tmp r.p) = v := hS1.eval (by simp [opv, look])
      have hx : Oper.wp P ⟨some d, .assign (.tmp r.p), ty, pos, #[], none⟩ (Act.mk (r.tmps.setIfInBounds r.p v) []) w (fun a' w' => a' = (Act.mk (r.tmps.setIfInBounds r.p v) []).put (some d) v ∧ w' = w) (fun _ _ _ => False) := by
        unfold Oper.wp
        simp only [execOp, hv, Sem.run_pure]
        exact ⟨rfl, rfl⟩
      refine wp_mono2 ?_ (fun _ _ _ h => h) hx
      rintro a' w' ⟨rfl, rfl⟩
      refine GoR.done ?_
      refine Go.steps (w' := w'.putObj l (.loop (r.lp .busy none))) (fun cs => .one (stepR_beginRound rfl hbr)) ?_
      exact h F1 _ _ ⟨hS1.put (Nat.le_of_ble_eq_true hd) v, hF1⟩
    obtain ⟨e, w1, m1, ⟨rfl, hm'⟩, hc, hends⟩ := hgo.2 (c :: cs)
    obtain ⟨b1, a1, k1, e1, e2, e3, e4⟩ := hends
    cases e1
    obtain ⟨k2, rfl⟩ := e4 rfl
    exact ⟨w1, m1, F1, hm', fun w2 L2 h2 => (hback L2 w2 h2).map fun m φ h => by
      obtain ⟨f1, f2, a, b, d, h1, h2⟩ := Own.append h
      obtain ⟨g1, g2, a', b', d', h3, _⟩ := h2
      exact ⟨g1, f1, a'.trans b, a, (d.mono .rfl a').symm, h3, h1⟩, hb0 ▸ hc, a1, k2, e2⟩
  obtain ⟨w1, m1, F1, hm1, hback, hs, a1, k1, rfl⟩ := key
  have hm3 := hback _ _ hm1
  have hob := (hm3.ob 0 rfl).1
  have hend := run_endRound (P := P) (some .ret) hob
  refine ⟨_, hm3.putOb 0 rfl (x' := .loop (r.lp .done (some .ret))) nc_loop, hs.trans (.one (stepR_round_ret (b := fb b) rfl rfl hend))⟩
/-- The call of yield that is told to stop. -/
theorem gi_out {f : Bas} {k : List Item} {a : Act} {w : World} {R : Ending → World → Prop} {ops : Array Oper} {i : Nat} {os : List Oper} {n : Nat} {F : Fr} {E : List (Nat × Value)} {L Lr Lp : List Ent} {d l : Nat} {r : Rc} {v : Value} {X X' : Ent} {t x : Operand} {tys : Array TypeId} {ty : TypeId} {pos : String} {aft : Array Edge}
    (h : St n F E L a w) (ht : opv E t = some (.func (.yield l) #[] #[])) (hx : opv E x = some v) (hy : YOut P l r v Lp X X') (hm : Mem F L w → Mem F ((Obe l (.loop (r.lp .ready none)) :: X :: Lp) ++ Lr) w) (hd : Nat.blt d n = true)
    (K : ∀ a w, St n F ((d, .bool false) :: E) (Obe l (.loop (r.lp .done (some .ret))) :: X' :: Lr) a w → GoI P f ops (i + 1) os k a w R) : GoI P f ops i (⟨some d, .call { callee := .value t, args := #[x], argTypes := tys }, ty, pos, aft, none⟩ :: os) k a w R := by
  refine GoI.step rfl fun ho hnext => ⟨fun _ _ => trivial, ?_⟩
  have hm1 := hm h.mem
  have hob := (hm1.ob 0 rfl).1
  have hrun : (execOp a.eval ⟨some d, .call { callee := .value t, args := #[x], argTypes := tys }, ty, pos, aft, none⟩).run P w = .ok (.round l r.fn (r.tmps.setIfInBounds r.p v) r.assign r.body) w := by
    have hyl := run_yield (P := P) (args := #[v]) hob rfl
    simp only [Rc.lp] at hyl
    simp [execOp, resolve, h.sl.eval ht, h.sl.eval hx, Deferred.ofValue, invoke, hyl]
  rw [pl_eval, Oper.semAt_eq _ _ _ (fun c hc => by cases hc), hrun]
  obtain ⟨F1, hF1, hback⟩ := hm1.frame
  refine ⟨fun h => by simp [wf, Fence.wide] at h, trivial, fun c cs _ => ?_⟩
  obtain ⟨w', hm', hs⟩ := hy F1 w hF1 c cs
  exact ⟨.returned (.bool false), w', hnext _ _ (K _ _ ⟨h.sl.put (Nat.le_of_ble_eq_true hd) _, hback _ _ hm'⟩), (comesIn_wide (e := .returned (.bool false))).2 hs⟩
/-- Function gf, with what it captured, calls yield with each of ys, in order, till it is told to stop, and returns. -/
structure Itr {α : Type} (P : Program) (gf : FuncId) (caps : List Value) (Li : List Ent) (K : Kd α) (ys : List α) : Prop where
  fn : ∃ fn, P.funcs[gf]? = some fn ∧ (fn.name == "runtime.NumGoroutine") = false ∧ fn.body.isSome = true
  run : ∀ (l : Nat) (r : Rc) (X : Nat → Ent) (N : Nat) (st : Bool) (Xo : Ent), (st = false → N = ys.length) → (st = true → N < ys.length) → (∀ (j : Nat) (hj : j < ys.length), j < N → ∀ (v : Value), YOk P l r v [Val K v ys[j]] (X j) (X (j + 1))) →
    (st = true → ∀ (hj : N < ys.length) (v : Value), YOut P l r v [Val K v ys[N]] (X N) Xo) →
    ∀ (F : Fr) (w : World), Mem F (Obe l (.loop (r.lp .ready none)) :: X 0 :: Li) w →
      Calls P gf (Value.func (.yield l) #[] #[] :: caps).toArray w (fun e w' => e = .returned (tup []) ∧ Mem F (if st = true then [Obe l (.loop (r.lp .done (some .ret))), Xo] else [Obe l (.loop (r.lp .ready none)), X ys.length]) w')
theorem Go.rangeL {α : Type} {gf : FuncId} {caps : List Value} {Li : List Ent} {K : Kd α} {ys : List α} {fn : FuncId} {n : Nat} {F : Fr} {E : List (Nat × Value)} {L : List Ent} {a : Act} {w : World} {t p : Nat} {assign body : Code} {k : List Item} {R : Ending → World → Prop}
    (h : St n F E L a w) (it : Itr P gf caps Li K ys) (hx : look E t = some (.func (.func gf) #[] caps.toArray)) (X : Nat → Ent) (N : Nat) (sp : Bool) (Xo : Ent) (hN0 : sp = false → N = ys.length) (hN1 : sp = true → N < ys.length) {Lr : List Ent} (hm : ∀ F w, Mem F L w → Mem F ((X 0 :: Li) ++ Lr) w)
    (step : ∀ (l D j : Nat) (hj : j < ys.length), j < N → ∀ (v : Value), YOk P l ⟨fn, a.tmps, p, assign, body, D⟩ v [Val K v ys[j]] (X j) (X (j + 1)))
    (out : sp = true → ∀ (l D : Nat) (hj : N < ys.length) (v : Value), YOut P l ⟨fn, a.tmps, p, assign, body, D⟩ v [Val K v ys[N]] (X N) Xo)
    (cont : sp = false → ∀ (D : Nat) (w : World), St n F E (Obe D (.deferred (some [])) :: X ys.length :: Lr) a w → Go P ⟨fn, none, [⟨.collected D, #[]⟩]⟩ k a w R)
    (contO : sp = true → ∀ (D : Nat) (w : World), St n F E (Obe D (.deferred (some [])) :: Xo :: Lr) a w → Go P ⟨fn, none, [⟨.collected D, #[]⟩]⟩ (.code .ret :: k) a w R) :
    Go P ⟨fn, none, []⟩ (.code (.rangeFunc (.tmp t) #[p] assign body) :: k) a w R := by
  refine ⟨h.sl.df, fun cs => ?_⟩
  obtain ⟨D, hD⟩ : ∃ D, w.heap.size = D := ⟨_, rfl⟩
  have m1 := (hm F w h.mem).newOb (x := .deferred (some [])) nc_def
  have m2 := m1.newOb (x := .loop ((Rc.mk fn a.tmps p assign body D).lp .ready none)) nc_loop
  rw [World.size_alloc, hD] at m2
  obtain ⟨w2, hw2⟩ : ∃ w2, (w.alloc (.deferred (some []))).alloc (.loop ((Rc.mk fn a.tmps p assign body D).lp .ready none)) = w2 := ⟨_, rfl⟩
  rw [hw2] at m2
  have m3 : Mem F ((Obe (D + 1) (.loop ((Rc.mk fn a.tmps p assign body D).lp .ready none)) :: X 0 :: Li) ++ (Obe D (.deferred (some [])) :: Lr)) w2 := by
    refine m2.map fun m φ h => ?_
    obtain ⟨f1, f2, a1, b1, d1, h1, g1, g2, a2, b2, d2, h2, h3⟩ := h
    obtain ⟨e1, e2, a3, b3, d3, h4, h5⟩ := Own.append h3
    refine ⟨f1, f2, a1, b1, d1, h1, ?_⟩
    exact Own.join (L1 := X 0 :: Li) (a3.trans b2) (Frag.un_le a2 (b3.trans b2)) (Frag.dj_un (d2.mono .rfl a3).symm d3) h4 ⟨g1, e2, Frag.le_un_left, Frag.le_un_right (d2.mono .rfl b3), d2.mono .rfl b3, h2, h5⟩
  obtain ⟨F1, hF1, hback⟩ := m3.frame
  obtain ⟨fg, hfg, hng, hbg⟩ := it.fn
  have hcall := it.run (D + 1) ⟨fn, a.tmps, p, assign, body, D⟩ X N sp Xo hN0 hN1 (fun j hj hlt v => step _ _ j hj hlt v) (fun hs hj v => out hs _ _ hj v) F1 w2 hF1
  have he : (Instr.enterLoop (fb ⟨fn, none, []⟩).fn (pl [] a).tmps #[p] assign body (fb ⟨fn, none, []⟩).roundOf).run P w = .ok (D + 1, [{ target := .collected D, args := #[] }]) w2 := by
    have := run_enterLoop_outer (P := P) (w := w) fn a.tmps #[p] assign body
    rw [hD] at this
    rw [← hw2]; exact this
  have hev : (pl [] a).eval (.tmp t) = .func (.func gf) #[] caps.toArray := h.sl.eval (x := .tmp t) (by simpa [opv] using hx)
  have hres : (resolve (pl [] a).eval (rangeCall (.tmp t) (D + 1)) 0).run P w2 = .ok { target := .fn (.func gf) caps.toArray, args := #[.func (.yield (D + 1)) #[] #[]] } w2 := by
    simp only [resolve, hev]
    simp [go_sem, Deferred.ofValue, Act.eval]
  have hinv : (invoke (.fn (.func gf) caps.toArray) #[.func (.yield (D + 1)) #[] #[]]).run P w2 = .ok (.enter gf (Value.func (.yield (D + 1)) #[] #[] :: caps).toArray) w2 := by
    have := run_enter (P := P) (args := (Value.func (.yield (D + 1)) #[] #[] :: caps).toArray) (w := w2) hfg hng hbg
    simpa [invoke] using this
  have henter := stepR_rangeFunc (P := P) (b := fb ⟨fn, none, []⟩) (a := pl [] a) (k := k) (cs := cs) (w := w) he hres hinv
  obtain ⟨e, w3, fr, ⟨rfl, hm4⟩, hc, hfr, hleave⟩ := hcall ((fb ⟨fn, none, []⟩).atR { pl [] a with defers := [{ target := .collected D, args := #[] }] ++ (pl [] a).defers } (.inRangeFunc (D + 1) :: k) :: cs)
  have s1 := step_leave_returned (cs := cs) (c := (fb ⟨fn, none, []⟩).atR { pl [] a with defers := [{ target := .collected D, args := #[] }] ++ (pl [] a).defers } (.inRangeFunc (D + 1) :: k)) hleave
  rw [finish_atR_inRangeFunc] at s1
  have hm5 := hback _ _ hm4
  cases sp with
  | false =>
    rw [if_neg (by simp)] at hm5
    have hob := (hm5.ob 0 rfl).1
    have hend := run_endLoop (P := P) hob (by simp [Rc.lp])
    have s2 := stepR_endRangeFunc (b := fb ⟨fn, none, []⟩) (a := { pl [] a with defers := [{ target := .collected D, args := #[] }] ++ (pl [] a).defers }) (k := k) (cs := cs) hend
    have hm6 := hm5.putOb 0 rfl (x' := .loop { (Rc.mk fn a.tmps p assign body D).lp .ready none with state := .exhausted }) nc_loop
    have hm7 := (Mem.drop hm6)
    have hm8 : Mem F (Obe D (.deferred (some [])) :: X ys.length :: Lr) (w3.putObj (D + 1) (.loop { (Rc.mk fn a.tmps p assign body D).lp .ready none with state := .exhausted })) := Mem.swap hm7
    obtain ⟨e2, w4, m, hr, hc2, hf2⟩ := (cont rfl D _ ⟨h.sl, hm8⟩).2 cs
    exact ⟨e2, w4, m, hr, .of_steps ((Steps.one henter).trans (Steps.trans hc ((Steps.one s1).trans (.one s2)))) hc2, hf2⟩
  | true =>
    rw [if_pos rfl] at hm5
    have hob := (hm5.ob 0 rfl).1
    have hend := run_endLoop (P := P) hob (by simp [Rc.lp])
    have s2 := stepR_endRangeFunc (b := fb ⟨fn, none, []⟩) (a := { pl [] a with defers := [{ target := .collected D, args := #[] }] ++ (pl [] a).defers }) (k := k) (cs := cs) hend
    have hm6 := hm5.putOb 0 rfl (x' := .loop { (Rc.mk fn a.tmps p assign body D).lp .done (some .ret) with state := .exhausted }) nc_loop
    have hm7 := (Mem.drop hm6)
    have hm8 : Mem F (Obe D (.deferred (some [])) :: Xo :: Lr) (w3.putObj (D + 1) (.loop { (Rc.mk fn a.tmps p assign body D).lp .done (some .ret) with state := .exhausted })) := Mem.swap hm7
    obtain ⟨e2, w4, m, hr, hc2, hf2⟩ := (contO rfl D _ ⟨h.sl, hm8⟩).2 cs
    exact ⟨e2, w4, m, hr, .of_steps ((Steps.one henter).trans (Steps.trans hc ((Steps.one s1).trans (.one s2)))) hc2, hf2⟩
/-- Such an iterator as a value. -/
def Kd.itl {α : Type} (P : Program) (K : Kd α) : Kd (List α) where
  n := 1
  agg := false
  C := fun m φ ys cs => ∃ gf caps Li, cs = [.func (.func gf) #[] (List.toArray caps)] ∧ Itr P gf caps Li K ys ∧ SL.Own Li m φ
  len := fun ⟨_, _, _, h, _⟩ => by rw [h]; rfl
  one := fun ⟨_, _, _, h, _⟩ c hc => by rw [h] at hc; simp at hc; subst hc; rfl
  mono := fun a b ⟨gf, caps, Li, h1, h2, h3⟩ => ⟨gf, caps, Li, h1, h2, h3.mono a b⟩
  sgl := fun _ => rfl
theorem Mem.mkitl {α : Type} {F : Fr} {L Li : List Ent} {w : World} {gf : FuncId} {caps : List Value} {K : Kd α} {ys : List α} (h : Mem F L w) (it : Itr P gf caps Li K ys) (os : List Nat) (nd : os.Nodup) (hos : os.map (fun i => L[i]?) = Li.map some) : Mem F (Val (Kd.itl P K) (.func (.func gf) #[] caps.toArray) ys :: holes os L) w := by
  obtain ⟨F', hm', hback⟩ := Mem.hand [] os (Lp := []) all_nil nd rfl hos h
  exact hback [_] w (hm'.map fun m φ h => ⟨φ, Frag.emp, .rfl, Frag.emp_le, Frag.dj_emp, ⟨_, ⟨gf, caps, Li, rfl, it, h⟩, rfl⟩, trivial⟩)
/-- The rounds over the items, till one is left. -/
def rnx {σ ρ α : Type} (B : σ → α → Option (σ ⊕ ρ)) : List α → σ → Option (σ ⊕ ρ)
  | [], s => some (.inl s)
  | y :: ys, s => (B s y).bind (Sum.elim (rnx B ys) fun r => some (.inr r))
theorem rnx_seq {σ ρ α : Type} {B : σ → α → Option (σ ⊕ ρ)} : ∀ {ys : List α} {s : σ} {o : σ ⊕ ρ}, rnx B ys s = some o → ∃ (st : Nat → σ) (N : Nat), st 0 = s ∧ N ≤ ys.length ∧ (∀ (j : Nat) (hj : j < ys.length), j < N → B (st j) ys[j] = some (.inl (st (j + 1)))) ∧ ((N = ys.length ∧ o = .inl (st N)) ∨ ∃ (hN : N < ys.length) (r : ρ), o = .inr r ∧ B (st N) ys[N] = some (.inr r))
  | [], s, o, h => ⟨fun _ => s, 0, rfl, Nat.le_refl _, fun j hj => (by cases hj), .inl ⟨rfl, by cases h; rfl⟩⟩
  | y :: ys, s, o, h => by
    obtain ⟨s1, h1, h2⟩ := Option.bind_eq_some_iff.1 h
    cases s1 with
    | inr r =>
      cases h2
      exact ⟨fun _ => s, 0, rfl, Nat.zero_le _, fun j hj hlt => (by omega), .inr ⟨by simp, r, rfl, h1⟩⟩
    | inl s1 =>
      obtain ⟨st, N, e0, e1, e2, e3⟩ := rnx_seq h2
      refine ⟨fun j => match j with | 0 => s | j + 1 => st j, N + 1, rfl, by simp; omega, fun j hj hlt => ?_, ?_⟩
      · cases j with
        | zero => show B s y = some (.inl (st 0)); rw [e0]; exact h1
        | succ j => exact e2 j (by simpa using hj) (by omega)
      · rcases e3 with ⟨e3, e4⟩ | ⟨hN, r, e3, e4⟩
        · exact .inl ⟨by simp [e3], e4⟩
        · exact .inr ⟨by simp; omega, r, e3, by simpa using e4⟩
theorem le_rnx {σ ρ α : Type} {B B' : σ → α → Option (σ ⊕ ρ)} (h : ∀ s y, Le (B s y) (B' s y)) : ∀ (ys : List α) (s : σ), Le (rnx B ys s) (rnx B' ys s)
  | [], s => le_refl _
  | y :: ys, s => le_bind (h s y) fun s' => by
    cases s' with
    | inl s' => exact le_rnx h ys s'
    | inr r => exact le_refl _
theorem g_rangeL {σ ρ α : Type} {K : Kd α} {ys : List α} {fn : FuncId} {n : Nat} {F : Fr} {E : List (Nat × Value)} {L : List Ent} {a : Act} {w : World} {t p d id : Nat} {ty : TypeId} {pos : String} {body : Code} {k : List Item} {R : Ending → World → Prop} {v0 : Value}
    (h : St n F E L a w) (hx : look E t = some v0) {B : σ → α → Option (σ ⊕ ρ)} {s0 : σ} {o : σ ⊕ ρ} (hl : rnx B ys s0 = some o) (Ls : σ → List Ent) (Lo : ρ → List Ent) (Lr : List Ent) (is : List Nat) (nd : is.Nodup) (hp : is.map (fun j => L[j]?) = (Val (Kd.itl P K) v0 ys :: (Ls s0 ++ Lr)).map some) (hp1 : Nat.blt p n = true) (hd1 : Nat.blt d n = true)
    (step : ∀ (s : σ) (o : σ ⊕ ρ) (y : α) (v : Value) (l : Nat) (F : Fr) (a : Act) (w : World), B s y = some o → St n F ((d, v) :: (p, v) :: E) (Val K v y :: Ls s) a w → Go P ⟨fn, some l, []⟩ [.code body] a w (fun e w' => (∃ s', o = .inl s' ∧ e = .returned (.bool true) ∧ Mem F (Ls s') w') ∨ ∃ r, o = .inr r ∧ e = .returned (.bool false) ∧ Mem F (Lo r) w'))
    (cont : ∀ s, o = .inl s → ∀ (D : Nat) (w : World), St n F E (Obe D (.deferred (some [])) :: (Ls s ++ Lr)) a w → Go P ⟨fn, none, [⟨.collected D, #[]⟩]⟩ k a w R)
    (contO : ∀ r, o = .inr r → ∀ (D : Nat) (w : World), St n F E (Obe D (.deferred (some [])) :: (Lo r ++ Lr)) a w → Go P ⟨fn, none, [⟨.collected D, #[]⟩]⟩ (.code .ret :: k) a w R) :
    Go P ⟨fn, none, []⟩ (.code (.rangeFunc (.tmp t) #[p] (.region id #[⟨some d, .assign (.tmp p), ty, pos, #[], none⟩] false) body) :: k) a w R := by
  obtain ⟨st, N, e0, eN, e2, e3⟩ := rnx_seq hl
  have h1 : Mem F (Val (Kd.itl P K) v0 ys :: (Ls s0 ++ Lr)) w := h.mem.pick is nd hp
  obtain ⟨m, φ, hφ, hf, hv⟩ := h1.get (i := 0) rfl
  obtain ⟨cs, ⟨gf, caps, Li, rfl, it, _⟩, rfl⟩ := hv
  have key : ∃ gf' caps' Li', Value.func (.func gf) #[] caps.toArray = .func (.func gf') #[] (List.toArray caps') ∧ Itr P gf' caps' Li' K ys ∧ Mem F (Al Li' :: (Ls s0 ++ Lr)) w := by
    obtain ⟨m, φ, ⟨f1, f2, a1, b1, d1, ⟨cs, ⟨gf', caps', Li', rfl, it', ho⟩, ev⟩, hr⟩, hh⟩ := h1
    exact ⟨gf', caps', Li', ev, it', m, φ, ⟨f1, f2, a1, b1, d1, ho, hr⟩, hh⟩
  obtain ⟨gf', caps', Li', ev, it', hm'⟩ := key
  have hS : St n F E (Al Li' :: (Ls s0 ++ Lr)) a w := ⟨h.sl, hm'⟩
  have hx' : look E t = some (.func (.func gf') #[] (List.toArray caps')) := by rw [hx]; exact congrArg some ev
  have hE : Sl n E (Act.mk a.tmps []) := ⟨h.sl.sz, rfl, h.sl.at_⟩
  have hsw : ∀ (F : Fr) (w : World) (v : Value) (y : α) (s : σ), Mem F [Al (Ls s), Val K v y] w → Mem F (Val K v y :: Ls s) w := fun F w v y s hm =>
    hm.map fun m φ ⟨f1, f2, a1, b1, d1, h1, g1, g2, a2, b2, d2, h2, _⟩ => ⟨g1, f1, a2.trans b1, a1, (d1.mono .rfl a2).symm, h2, h1⟩
  have hal : ∀ (F : Fr) (w : World) (L : List Ent), Mem F L w → Mem F [Al L] w := fun F w L hm => hm.map fun m φ h => ⟨φ, Frag.emp, .rfl, Frag.emp_le, Frag.dj_emp, h, trivial⟩
  have h0 : ∀ F w, Mem F (Al Li' :: (Ls s0 ++ Lr)) w → Mem F ((Al (Ls (st 0)) :: Li') ++ Lr) w := fun F w hm => by
    have := hm.al
    rw [e0]
    refine this.map fun m φ h => ?_
    obtain ⟨f1, f2, a1, b1, d1, h1, h2⟩ := Own.append h
    obtain ⟨g1, g2, a2, b2, d2, h3, h4⟩ := Own.append h2
    exact ⟨g1, f1.un g2, a2.trans b1, Frag.un_le a1 (b2.trans b1), Frag.dj_un (d1.mono .rfl a2).symm d2, h3, Own.join Frag.le_un_left (Frag.le_un_right (d1.mono .rfl b2)) (d1.mono .rfl b2) h1 h4⟩
  have hst : ∀ (l D j : Nat) (hj : j < ys.length), j < N → ∀ (v : Value), YOk P l ⟨fn, a.tmps, p, .region id #[⟨some d, .assign (.tmp p), ty, pos, #[], none⟩] false, body, D⟩ v [Val K v ys[j]] (Al (Ls (st j))) (Al (Ls (st (j + 1)))) := fun l D j hj hlt v => by
    refine YOk.of (r := ⟨fn, a.tmps, p, _, body, D⟩) rfl hE hp1 hd1 ?_
    intro F a' w' hS'
    refine (step (st j) _ ys[j] v l F a' w' (e2 j hj hlt) ⟨hS'.sl, hsw _ _ _ _ _ hS'.mem⟩).mono ?_
    rintro e w' (⟨s', e4, rfl, hm⟩ | ⟨r, e4, _⟩)
    · cases e4; exact ⟨rfl, hal _ _ _ hm⟩
    · cases e4
  have hcl : ∀ (D : Nat) (w' : World) (L1 : List Ent), St n F E (Obe D (.deferred (some [])) :: Al L1 :: Lr) a w' → St n F E (Obe D (.deferred (some [])) :: (L1 ++ Lr)) a w' := fun D w' L1 hS' => ⟨hS'.sl, hS'.mem.map fun m φ h => by
    obtain ⟨f1, f2, a1, b1, d1, h1, g1, g2, a2, b2, d2, h2, h3⟩ := h
    exact ⟨f1, f2, a1, b1, d1, h1, Own.join a2 b2 d2 h2 h3⟩⟩
  rcases e3 with ⟨hN, eo⟩ | ⟨hN, r, eo, er⟩
  · refine Go.rangeL hS it' hx' (fun j => Al (Ls (st j))) N false Ent.nul (fun _ => hN) (fun e => by cases e) h0 hst (fun e => by cases e) (fun _ D w' hS' => ?_) (fun e => by cases e)
    rw [← hN] at hS'
    exact cont _ eo D w' (hcl _ _ _ hS')
  · refine Go.rangeL hS it' hx' (fun j => Al (Ls (st j))) N true (Al (Lo r)) (fun e => by cases e) (fun _ => hN) h0 hst (fun _ l D hj v => ?_) (fun e => by cases e) (fun _ D w' hS' => contO r eo D w' (hcl _ _ _ hS'))
    refine YOut.of (r := ⟨fn, a.tmps, p, _, body, D⟩) rfl hE hp1 hd1 ?_
    intro F a' w' hS'
    refine (step (st N) _ ys[N] v l F a' w' er ⟨hS'.sl, hsw _ _ _ _ _ hS'.mem⟩).mono ?_
    rintro e w' (⟨s', e4, _⟩ | ⟨r', e4, rfl, hm⟩)
    · cases e4
    · cases e4; exact ⟨rfl, hal _ _ _ hm⟩
/-- Leaving, with the mark of a range over a function among the deferred calls: what is handed back is read behind it. -/
theorem g_retx {fn : Func} {f : Bas} {n D : Nat} {F : Fr} {E : List (Nat × Value)} {L : List Ent} {a : Act} {w : World} {k : List Item} {R : Ending → World → Prop} (h : St n F E L a w) (i : Nat) (hi : L[i]? = some (Obe D (.deferred (some [])))) (hf : P.funcs[f.fn]? = some fn)
    (hR : ∀ w, St n F E (L.set i (Obe D (.deferred none))) a w → ∃ vs, RV P w E fn.results.toList vs ∧ R (.returned (tup vs)) w) (hro : f.ro = none := by rfl) (hds : f.ds = [⟨.collected D, #[]⟩] := by rfl) : Go P f (.code .ret :: k) a w R := by
  refine ⟨h.sl.df, fun cs => ?_⟩
  have hob := (h.mem.ob i hi).1
  have hm := h.mem.putOb i hi (x' := .deferred none) nc_def
  have hS : St n F E (L.set i (Obe D (.deferred none))) a (w.putObj D (.deferred none)) := ⟨h.sl, hm⟩
  obtain ⟨vs, hv, hr⟩ := hR _ hS
  have s1 := stepR_ret (P := P) (b := fb f) (a := pl f.ds a) (k := k) (cs := cs) (w := w) hro
  have s2 := step_collected (P := P) (fr := { (fb f).atR (pl f.ds a) (.code .ret :: k) with mode := .returning }) (cs := cs) (by simp) (show _ = _ from hds) rfl (run_takeDeferred hob)
  refine ⟨_, _, _, hr, (Steps.one s1).trans (.one s2), ?_⟩
  unfold Bas.ends
  rw [hro]
  exact ⟨_, rfl, rfl, rfl, rfl, rfl, fn, hf, (show (results fn a.tmps).run P _ = _ from run_results h.sl hv)⟩

/-! ### The pieces between the places of a byte -/
def splitc (c : Int) : List Int → List (List Int)
  | [] => [[]]
  | x :: t => if x = c then [] :: splitc c t else (x :: (splitc c t).headD []) :: (splitc c t).tail
def bef (c : Int) : List Int → List Int
  | [] => []
  | x :: t => if x = c then [] else x :: bef c t
def aft (c : Int) : List Int → List Int
  | [] => []
  | x :: t => if x = c then t else aft c t
theorem splitc_ne (c : Int) : ∀ p : List Int, splitc c p ≠ []
  | [] => by simp [splitc]
  | x :: t => by unfold splitc; split <;> simp
theorem splitc_no {c : Int} : ∀ {p : List Int}, c ∉ p → splitc c p = [p]
  | [], _ => rfl
  | x :: t, h => by
    have h1 : x ≠ c := fun e => h (by simp [e])
    rw [splitc, if_neg h1, splitc_no (fun e => h (by simp [e]))]
    rfl
theorem splitc_at {c : Int} : ∀ {p : List Int}, c ∈ p → splitc c p = bef c p :: splitc c (aft c p)
  | [], h => by cases h
  | x :: t, h => by
    by_cases e : x = c
    · rw [splitc, if_pos e, bef, if_pos e, aft, if_pos e]
    · have ht : c ∈ t := (List.mem_cons.1 h).resolve_left fun e2 => e e2.symm
      rw [splitc, if_neg e, bef, if_neg e, aft, if_neg e, splitc_at ht]
      rfl
def rstc (c : Int) (p : List Int) : Nat → List Int
  | 0 => p
  | j + 1 => aft c (rstc c p j)
theorem rstc_drop (c : Int) (p : List Int) : ∀ j, j < (splitc c p).length → splitc c (rstc c p j) = (splitc c p).drop j
  | 0, _ => rfl
  | j + 1, h => by
    have ih := rstc_drop c p j (by omega)
    have hc : c ∈ rstc c p j := Classical.byContradiction fun hn => by
      rw [splitc_no hn] at ih
      have := congrArg List.length ih
      rw [List.length_drop] at this
      simp at this; omega
    rw [splitc_at hc] at ih
    show splitc c (aft c (rstc c p j)) = _
    have := congrArg List.tail ih
    simpa using this
theorem rstc_mem (c : Int) (p : List Int) (j : Nat) (h : j < (splitc c p).length) : c ∈ rstc c p j ↔ j + 1 < (splitc c p).length := by
  have ih := rstc_drop c p j h
  constructor
  · intro hc
    rw [splitc_at hc] at ih
    have := congrArg List.length ih
    rw [List.length_drop, List.length_cons] at this
    have := List.length_pos_iff.2 (splitc_ne c (aft c (rstc c p j)))
    omega
  · intro h2
    refine Classical.byContradiction fun hn => ?_
    rw [splitc_no hn] at ih
    have := congrArg List.length ih
    rw [List.length_drop] at this
    simp at this; omega
theorem rstc_get (c : Int) (p : List Int) (j : Nat) (h : j < (splitc c p).length) : (c ∈ rstc c p j → (splitc c p)[j] = bef c (rstc c p j)) ∧ (c ∉ rstc c p j → (splitc c p)[j] = rstc c p j) := by
  have ih := rstc_drop c p j h
  have e : (splitc c p)[j] = ((splitc c p).drop j)[0]'(by rw [List.length_drop]; omega) := by simp
  constructor
  · intro hc
    rw [splitc_at hc] at ih
    rw [e]; simp only [← ih, List.getElem_cons_zero]
  · intro hc
    rw [splitc_no hc] at ih
    rw [e]; simp only [← ih, List.getElem_cons_zero]
theorem bef_aft {c : Int} : ∀ {p : List Int}, c ∈ p → p = bef c p ++ c :: aft c p
  | [], h => by cases h
  | x :: t, h => by
    by_cases e : x = c
    · rw [bef, if_pos e, aft, if_pos e, e]; rfl
    · have ht : c ∈ t := (List.mem_cons.1 h).resolve_left fun e2 => e e2.symm
      rw [bef, if_neg e, aft, if_neg e]
      exact congrArg (x :: ·) (bef_aft ht)
theorem bef_mem {c x : Int} : ∀ {p : List Int}, x ∈ bef c p → x ∈ p
  | [], h => by cases h
  | y :: t, h => by
    unfold bef at h
    split at h
    · cases h
    · rcases List.mem_cons.1 h with rfl | h
      · simp
      · exact List.mem_cons_of_mem _ (bef_mem h)
theorem aft_mem {c x : Int} : ∀ {p : List Int}, x ∈ aft c p → x ∈ p
  | [], h => by cases h
  | y :: t, h => by
    unfold aft at h
    split at h
    · exact List.mem_cons_of_mem _ h
    · exact List.mem_cons_of_mem _ (aft_mem h)
theorem rstc_bs {c : Int} {p : List Int} (h : Bs p) : ∀ j, Bs (rstc c p j)
  | 0 => h
  | j + 1 => fun x hx => rstc_bs h j x (aft_mem hx)
/-- The pieces of p between the places of sep, a single byte. -/
def splitq (sep p : List Int) : List (List Int) := splitc (sep.headD 0) p
def firstc (c : Int) (p : List Int) : Int := if c ∈ p then ((bef c p).length : Int) else -1
theorem cut_bef {c : Int} {p : List Int} (h : c ∈ p) : cut p 0 ((bef c p).length : Int) = some (bef c p) ∧ cut p ((bef c p).length + 1 : Int) (p.length : Int) = some (aft c p) := by
  have e := bef_aft h
  generalize bef c p = x at *
  generalize aft c p = y at *
  subst e
  constructor
  · unfold cut
    rw [if_pos (by rw [List.length_append, List.length_cons]; omega)]
    simp
  · unfold cut
    rw [if_pos (by rw [List.length_append, List.length_cons]; omega)]
    congr 1
    have e1 : (x.length + 1 : Int).toNat = x.length + 1 := by omega
    rw [e1, List.take_of_length_le (by rw [Int.toNat_natCast]; exact Nat.le_refl _)]
    rw [← List.drop_drop, List.drop_left]; rfl
theorem aft_len (c : Int) : ∀ p : List Int, (aft c p).length ≤ p.length
  | [] => Nat.le_refl _
  | x :: t => by
    unfold aft
    split
    · simp
    · have := aft_len c t; simp; omega
theorem rstc_len (c : Int) (p : List Int) : ∀ j, (rstc c p j).length ≤ p.length
  | 0 => Nat.le_refl _
  | j + 1 => Nat.le_trans (aft_len c _) (rstc_len c p j)
theorem Mem.strv {F : Fr} {L : List Ent} {w : World} {v : Value} {x : List Int} (h : Mem F L w) (i : Nat) (hi : L[i]? = some (Val Kd.str v x)) : v = .string (mkS x) ∧ Bs x := by
  obtain ⟨m, φ, _, _, cs, ⟨rfl, hB⟩, rfl⟩ := h.get hi
  exact ⟨rfl, hB⟩
theorem Mem.boolv {F : Fr} {L : List Ent} {w : World} {v : Value} {x : Bool} (h : Mem F L w) (i : Nat) (hi : L[i]? = some (Val Kd.bool v x)) : v = .bool x := by
  obtain ⟨m, φ, _, _, cs, rfl, rfl⟩ := h.get hi
  rfl
theorem hp_lt {w : World} {b o : Nat} {c : Ct} (h : hp w b o = some c) : b < w.heap.size := by
  by_cases hlt : b < w.heap.size
  · exact hlt
  · rw [hp_none (by omega)] at h; cases h
end Go.SL
