/- Rows of leases that may be, and what a message makes of them; each states its own conditions. -/
import Derived.Test.YtmmaojclfggioaaPureLeaseSort
namespace Go.Proofs.Ytmmaojclfggioaa.S
open Go Go.SL
set_option linter.unusedVariables false
set_option linter.unusedSimpArgs false
theorem low_k : ∀ (l : List TLease) (b : Int), (∀ x ∈ l, b ≤ x.Ip ∧ x.Ip < 167772695) → l.Pairwise Lx → b + l.length ≤ 167772695 ∨ l = []
  | [], _, _, _ => .inr rfl
  | x :: t, b, h, hp => by
    left
    have hx := h x (by simp)
    rw [List.pairwise_cons] at hp
    have := low_k t (x.Ip + 1) (fun y hy => ⟨by have := (hp.1 y hy).1; omega, (h y (by simp [hy])).2⟩) hp.2
    rcases this with h2 | h2
    · simp; omega
    · rw [h2]; simp; omega
theorem Cp.cks {l : List TLease} (h : Cp l) : Cks l := by
  refine ⟨?_, h⟩
  rcases low_k l 167772687 (fun x hx => (h.1 x hx).1) h.2 with h2 | h2
  · omega
  · rw [h2]; simp
theorem Cp.uniq {l : List TLease} (h : Cp l) {y z : TLease} (hy : y ∈ l) (hz : z ∈ l) (e : y.Ip = z.Ip ∨ y.Mac = z.Mac) : y = z := by
  obtain ⟨i, hi, rfl⟩ := List.getElem_of_mem hy
  obtain ⟨j, hj, rfl⟩ := List.getElem_of_mem hz
  have hp := List.pairwise_iff_getElem.1 h.2
  rcases Nat.lt_trichotomy i j with c | c | c
  · have := hp i j hi hj c
    rcases e with e | e
    · have := this.1; omega
    · exact absurd e this.2
  · subst c; rfl
  · have := hp j i hj hi c
    rcases e with e | e
    · have := this.1; omega
    · exact absurd e.symm this.2
theorem hold_of {l : List TLease} {now : Int} {p : TLease → Bool} {y : TLease} (hc : Cks l) (hn : Tk now) (hy : y ∈ l) (hu : now < y.Until) (hp : p y = true) (h1 : ∀ z ∈ l, p z = true → z = y) : hold l now p = some y := by
  unfold hold
  rw [if_pos ⟨hc, hn⟩]
  cases hf : l.find? (fun x => decide (now < x.Until) && p x) with
  | none =>
    have := List.find?_eq_none.1 hf y hy
    simp [hu, hp] at this
  | some z =>
    have h2 := List.find?_some hf
    simp at h2
    rw [h1 z (List.mem_of_find?_eq_some hf) h2.2]
theorem Cp.filter {l : List TLease} (h : Cp l) (p : TLease → Bool) : Cp (l.filter p) := ⟨fun x hx => h.1 x (List.mem_filter.1 hx).1, h.2.filter p⟩
theorem parts : ∀ (l : List TLease) (w : Int), l.Pairwise Lx → (∀ x ∈ l, x.Ip ≠ w) → l = l.filter (fun x => decide (x.Ip < w)) ++ l.filter (fun x => decide (w < x.Ip))
  | [], _, _, _ => rfl
  | x :: t, w, hp, hn => by
    rw [List.pairwise_cons] at hp
    have ih := parts t w hp.2 fun y hy => hn y (by simp [hy])
    by_cases c : x.Ip < w
    · have c2 : ¬ w < x.Ip := by omega
      rw [List.filter_cons_of_pos (by simpa using c), List.filter_cons_of_neg (by simpa using c2), List.cons_append, ← ih]
    · have c2 : w < x.Ip := by have := hn x (by simp); omega
      have e1 : t.filter (fun x => decide (x.Ip < w)) = [] := List.filter_eq_nil_iff.2 fun y hy => by have := (hp.1 y hy).1; simp; omega
      have e2 : t.filter (fun x => decide (w < x.Ip)) = t := List.filter_eq_self.2 fun y hy => by have := (hp.1 y hy).1; simp; omega
      rw [List.filter_cons_of_neg (by simpa using c), List.filter_cons_of_pos (by simpa using c2), e1, e2]; rfl
/-- The row with one more in its place. -/
def putr (l : List TLease) (now : Int) (d : TDhcp) : List TLease := (others l d).filter (fun x => decide (x.Ip < wanted d)) ++ lease1 now d :: (others l d).filter (fun x => decide (wanted d < x.Ip))
theorem others_ne {l : List TLease} {d : TDhcp} {x : TLease} (h : x ∈ others l d) : x ∈ l ∧ x.Ip ≠ wanted d ∧ x.Mac ≠ d.Mac := by
  obtain ⟨h1, h2⟩ := List.mem_filter.1 h
  simp at h2
  exact ⟨h1, h2.1, h2.2⟩
theorem others_is {l : List TLease} {d : TDhcp} {x : TLease} (h : x ∈ l) (h1 : x.Ip ≠ wanted d) (h2 : x.Mac ≠ d.Mac) : x ∈ others l d := List.mem_filter.2 ⟨h, by simp [h1, h2]⟩
theorem putr_mem {l : List TLease} {now : Int} {d : TDhcp} {x : TLease} : x ∈ putr l now d ↔ x = lease1 now d ∨ x ∈ others l d := by
  unfold putr
  rw [List.mem_append, List.mem_cons, List.mem_filter, List.mem_filter]
  constructor
  · rintro (h | h | h)
    · exact .inr h.1
    · exact .inl h
    · exact .inr h.1
  · rintro (h | h)
    · exact .inr (.inl h)
    · have := (others_ne h).2.1
      by_cases c : x.Ip < wanted d
      · exact .inl ⟨h, by simpa using c⟩
      · exact .inr (.inr ⟨h, by simp; omega⟩)
theorem putr_ck {l : List TLease} {now : Int} {d : TDhcp} (hc : Cks l) (hn : Tk now) (hm : d.Mac.length = 6) (hw : Pool (wanted d)) : Cks (putr l now d) := by
  have ho := hc.2.filter (fun x => !(decide (x.Ip = wanted d) || decide (x.Mac = d.Mac)))
  refine Cp.cks ⟨fun x hx => ?_, ?_⟩
  · rcases putr_mem.1 hx with rfl | h
    · have h1 := hn.1
      have h2 := hn.2
      exact ⟨hw, hm, by show 0 ≤ now + 3600; omega, by show now + 3600 ≤ _; omega⟩
    · exact ho.1 x h
  · refine List.pairwise_append.2 ⟨ho.2.filter _, List.pairwise_cons.2 ⟨fun b hb => ?_, ho.2.filter _⟩, fun a ha b hb => ?_⟩
    · obtain ⟨h1, h2⟩ := List.mem_filter.1 hb
      exact ⟨of_decide_eq_true h2, fun e => (others_ne h1).2.2 e.symm⟩
    · obtain ⟨h1, h2⟩ := List.mem_filter.1 ha
      have h2' : a.Ip < wanted d := of_decide_eq_true h2
      rcases List.mem_cons.1 hb with rfl | hb
      · exact ⟨h2', (others_ne h1).2.2⟩
      · obtain ⟨h3, h4⟩ := List.mem_filter.1 hb
        have h4' : wanted d < b.Ip := of_decide_eq_true h4
        refine ⟨by omega, fun e => ?_⟩
        have := ho.uniq h1 h3 (.inr e)
        rw [this] at h2'; omega
theorem putr_sort (l : List TLease) (now : Int) (d : TDhcp) (hc : Cks l) : slices_SortFunc_s_api_Lease_api_Lease_at_lease_server_request_2.f (others l d ++ [lease1 now d]) = some (putr l now d) := by
  have ho := hc.2.filter (fun x => !(decide (x.Ip = wanted d) || decide (x.Mac = d.Mac)))
  have hp := parts (others l d) (wanted d) ho.2 fun x hx => (others_ne hx).2.1
  have hl : (others l d).length ≤ 8 := Nat.le_trans (List.length_filter_le _ _) hc.1
  have hll := congrArg List.length hp
  rw [List.length_append] at hll
  have := sort_e ((others l d).filter (fun x => decide (x.Ip < wanted d))) ((others l d).filter (fun x => decide (wanted d < x.Ip))) (lease1 now d) (by rw [← hp]; exact ho.2.imp fun h => h.1) (fun y hy => of_decide_eq_true (List.mem_filter.1 hy).2) (fun y hy => of_decide_eq_true (List.mem_filter.1 hy).2) (by omega)
  rw [← hp] at this
  exact this
theorem putr_g {l : List TLease} {now : Int} {d : TDhcp} (hg : ∀ x ∈ l, gLease x) (hd : d.Mac.length ≤ maxLen ∧ ∀ z ∈ d.Mac, InR .u8 z) (hw : Pool (wanted d)) (hn : Tk now) : ∀ x ∈ putr l now d, gLease x := fun x hx => by
  rcases putr_mem.1 hx with rfl | h
  · have h1 := hn.1
    have h2 := hn.2
    have h3 := hw.1
    have h4 := hw.2
    refine ⟨hd, ?_, ?_⟩
    · show IntKind.u32.wrap (wanted d) = wanted d; rw [u32w']; omega
    · show IntKind.i64.wrap (now + 3600) = now + 3600; exact i64w (by omega) (by omega)
  · exact hg x (others_ne h).1
end Go.Proofs.Ytmmaojclfggioaa.S
