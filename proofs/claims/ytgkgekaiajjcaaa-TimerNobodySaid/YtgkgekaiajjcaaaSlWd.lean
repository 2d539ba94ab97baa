/- Deletions from a map of one's own; the rule states its own conditions. -/
import Derived.Test.YtgkgekaiajjcaaaSlWa
namespace Go.SL
open Go Go.RowKit
set_option linter.unusedVariables false
set_option linter.unusedSimpArgs false
variable {α κ : Type}
def mdel [DecidableEq κ] (xs : List (κ × α)) (k : κ) : List (κ × α) := match mfind k xs 0 with
  | some (i, _) => xs.eraseIdx i
  | none => xs
section
variable {P : Program} {E : List (Nat × Value)} {L : List Ent} {d : Option Nat} {ty : TypeId} {pos : String} {aft : Array Edge} {g : Option (Nat × Bool)}
theorem o_mdel [DecidableEq κ] {x y : Operand} {t t2 kt et : TypeId} {Kk : Kd κ} {Kv : Kd α} {v u : Value} {xs : List (κ × α)} {k : κ} (p : Nat) (hx : opv E x = some v) (hy : opv E y = some u) (hp : L[p]? = some (Val (Kd.mp Kk Kv) v xs)) (hu : PV Kk u k L) (ht : P.underlying t = some (.map kt et)) (K : MKey P kt Kk) :
    OpS (σ := Unit) P E L ⟨d, .call { callee := .builtin .delete, args := #[x, y], argTypes := #[t, t2] }, ty, pos, aft, g⟩ (fun _ => .tuple #[]) (fun _ => L.set p (Val (Kd.mp Kk Kv) v (mdel xs k))) :=
  .run fun n F a w hs hm => by
    obtain ⟨m0, φ0, ho0, hh0, _⟩ := id hm
    obtain ⟨f0, hf0, cs, ⟨r, es, clk, rfl, h1, h2, h3⟩, rfl⟩ := ho0.get hp
    obtain ⟨kc, hkc, hue⟩ := hu m0 φ0 ho0
    subst hue
    have hobj := (hp_obj ((hf0.trans hh0.l1) _ _ _ h1)).1
    obtain ⟨o, hoo, hfk⟩ := find_key K hkc w h2 h3
    have hck := K.chk es.isEmpty w hkc
    rw [show pack (Kd.mp Kk Kv).agg [.map (some r)] = .map (some r) from rfl] at hx hp
    have hget := MapKept.run_getObj_map (P := P) hobj
    have e1 : (underlying t).run P w = .ok (.map kt et) w := run_underlying ht w
    have key : ∃ es' clk', (Builtin.delete_ #[t, t2] ty #[.map (some r), pack Kk.agg kc]).run P w = .ok (.tuple #[]) { w with heap := w.heap.setIfInBounds r (.map es' clk') } ∧ es'.size = (mdel xs k).length ∧ ∀ {m : Frag}, (∀ (j : Nat) (p : κ × α), xs[j]? = some p → ∃ e, es[j]? = some e ∧ Kk.V m Frag.emp p.1 e.key ∧ Kv.V m Frag.emp p.2 e.val) → ∀ (i : Nat) (p : κ × α), (mdel xs k)[i]? = some p → ∃ e, es'[i]? = some e ∧ Kk.V m Frag.emp p.1 e.key ∧ Kv.V m Frag.emp p.2 e.val := by
      rcases hoo with ⟨rfl, hn⟩ | ⟨j, y, yv, rfl, hn, hy⟩
      · refine ⟨es, clk, ?_, by simp [mdel, hn, h2], fun {m} hA i p hi => ?_⟩
        · have := fun o' => MapKept.run_setObj_map (P := P) o' hobj
          simp [Builtin.delete_, e1, hget, hck, hfk, this]
        · simp only [mdel, hn] at hi; exact hA i p hi
      · obtain ⟨_, hj⟩ := mfind_lt hn
        rw [Nat.sub_zero] at hj
        have hjl := (List.getElem?_eq_some_iff.1 hj).1
        refine ⟨es.eraseIdxIfInBounds j, clk, ?_, ?_, fun {m} hA i p hi => ?_⟩
        · have := fun o' => MapKept.run_setObj_map (P := P) o' hobj
          simp [Builtin.delete_, e1, hget, hck, hfk, this]
        · have hj2 : j < es.size := by omega
          simp [mdel, hn, h2, List.length_eraseIdx, hjl, Array.eraseIdxIfInBounds, hj2]
        · have hj2 : j < es.size := by omega
          simp only [mdel, hn] at hi
          rw [Array.eraseIdxIfInBounds, dif_pos hj2, Array.getElem?_eraseIdx]
          rw [List.getElem?_eraseIdx] at hi
          by_cases hij : i < j
          · rw [if_pos hij] at hi ⊢; exact hA i p hi
          · rw [if_neg hij] at hi ⊢; exact hA (i + 1) p hi
    obtain ⟨es', clk', hrun, hsz, hent⟩ := key
    obtain ⟨hhp, hok⟩ := hp_seto (x' := .map es' clk') hobj (fun _ _ _ h => by cases h) (fun _ _ _ h => by cases h)
    refine ⟨(), { w with heap := w.heap.setIfInBounds r (.map es' clk') }, by simp [execOp, hs.eval hx, hs.eval hy, resolve, invoke, builtin, hrun], ?_⟩
    obtain ⟨m, φ, ho, hh, hpp, hkk⟩ := hm
    obtain ⟨f1, f2, l1, l2, d12, he, _, hset⟩ := ho.split hp
    obtain ⟨cs2, ⟨r2, es2, clk2, rfl, g1, g2, g3⟩, e2⟩ := he
    have er : r2 = r := by
      have e3 : Value.map (some r) = .map (some r2) := e2
      simpa using e3.symm
    subst er
    have hobj2 := (hp_obj ((l1.trans hh.l1) _ _ _ g1)).1
    rw [hobj] at hobj2
    cases hobj2
    let nf : Frag := fun b o => if b = r2 ∧ o = 0 then some (.obj (.map es' clk')) else f1 b o
    have off : ∀ {f : Frag}, f.dj f1 → f r2 0 = none := fun {f} hd => by
      rcases hd r2 0 with e | e
      · exact e
      · rw [g1] at e; cases e
    have dnf : ∀ {f : Frag}, f.dj f1 → f.dj nf := fun {f} hd b o => by
      by_cases c : b = r2 ∧ o = 0
      · left; obtain ⟨rfl, rfl⟩ := c; exact off hd
      · rcases hd b o with e | e
        · exact .inl e
        · right; simp only [nf, if_neg c]; exact e
    have lnf : ∀ {f : Frag}, f.le (SL.hp w) → f r2 0 = none → f.le (SL.hp { w with heap := w.heap.setIfInBounds r2 (.map es' clk') }) := fun {f} hl h0 b o c hc => by
      rw [hhp, if_neg]; exact hl _ _ _ hc
      rintro ⟨rfl, rfl⟩; rw [h0] at hc; cases hc
    have mf1 : m.dj f1 := (hh.d1.mono l1 .rfl).symm
    have of1 : F.own.dj f1 := (hh.d2.mono l1 .rfl).symm
    have hnfl : nf.le (SL.hp { w with heap := w.heap.setIfInBounds r2 (.map es' clk') }) := fun b o c hc => by
      rw [hhp]
      by_cases c' : b = r2 ∧ o = 0
      · rw [if_pos c']; simpa [nf, c'] using hc
      · rw [if_neg c']; simp only [nf, if_neg c'] at hc; exact (l1.trans hh.l1) _ _ _ hc
    have d2 := dnf d12.symm
    refine ⟨m, nf.un f2, hset m nf (nf.un f2) _ .rfl Frag.le_un_left (Frag.le_un_right d2.symm) d2.symm ⟨[.map (some r2)], ⟨r2, es', clk', rfl, by simp [nf], hsz, hent g3⟩, rfl⟩, ⟨Frag.un_dj (dnf mf1).symm (hh.d1.mono l2 .rfl), Frag.un_dj (dnf of1).symm (hh.d2.mono l2 .rfl), hh.d3, Frag.un_le hnfl (lnf (l2.trans hh.l1) (off d12.symm)), lnf hh.l2 (off mf1), lnf hh.l3 (off of1)⟩, hpp, hkk.trans hok⟩
end
end Go.SL
