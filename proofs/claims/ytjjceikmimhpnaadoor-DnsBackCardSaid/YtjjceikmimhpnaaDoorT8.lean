/- Contracts, printed by a program of this session. -/
import Derived.Test.YtjjceikmimhpnaaDoorT2
import Derived.Test.YtjjceikmimhpnaaDoorSlZs
namespace Go.Proofs.YtjjceikmimhpnaaDoor.S
open Go Go.SL Go.RowKit
set_option linter.unusedVariables false
set_option linter.unusedSimpArgs false
/-! strings.Join -/
def toB (x : List Int) : List UInt8 := x.map fun b => UInt8.ofNat b.toNat
theorem toB_app (x y : List Int) : toB (x ++ y) = toB x ++ toB y := List.map_append
theorem toB_inter (sep : List Int) : ∀ xs : List (List Int), (toB sep).intercalate (xs.map toB) = toB (sep.intercalate xs)
  | [] => rfl
  | [x] => by simp [List.intercalate, List.intersperse]
  | x :: y :: t => by
    have h := toB_inter sep (y :: t)
    simp only [List.intercalate, List.map_cons, List.intersperse, List.flatten_cons] at h ⊢
    rw [h, toB_app, toB_app]
theorem inter_len (sep : List Int) (xs : List (List Int)) : ((toB sep).intercalate (xs.map toB)).length = (sep.intercalate xs).length := by rw [toB_inter]; simp [toB]
theorem inter_mem {sep : List Int} {b : Int} : ∀ {xs : List (List Int)}, b ∈ sep.intercalate xs → b ∈ sep ∨ ∃ x ∈ xs, b ∈ x
  | [], h => by cases h
  | [x], h => by
    have e : sep.intercalate [x] = x := by simp [List.intercalate, List.intersperse]
    rw [e] at h; exact .inr ⟨x, by simp, h⟩
  | x :: y :: t, h => by
    have e : sep.intercalate (x :: y :: t) = x ++ (sep ++ sep.intercalate (y :: t)) := by simp [List.intercalate, List.intersperse]
    rw [e, List.mem_append, List.mem_append] at h
    rcases h with h | h | h
    · exact .inr ⟨x, by simp, h⟩
    · exact .inl h
    · rcases inter_mem h with h | ⟨z, hz, h⟩
      · exact .inl h
      · exact .inr ⟨z, List.mem_cons_of_mem _ hz, h⟩
def strings_Join.f (a1 : List (List Int)) (a2 : List Int) : Option (List Int) := if a1.length ≤ 68719476736 ∧ (a2.intercalate a1).length ≤ 68719476736 then some (a2.intercalate a1) else none
theorem strings_Join.spc (v1 : Value) (a1 : List (List Int)) (a2 : List Int) (ha2 : Bs a2) (r : List Int) (H : strings_Join.f a1 a2 = some r) : Spc Tryd.prog 24 [v1, .string (mkS a2)] [Val (Kd.sl Kd.str) v1 a1] [] (fun (s : Unit) => .string (mkS r)) (fun s => [Ent.pur (Bs r)]) := by
  unfold strings_Join.f at H
  split at H
  case isFalse => cases H
  rename_i hg
  obtain ⟨hg1, hg2⟩ := hg
  cases H
  refine ⟨all_cons (Val.per Per_sl) all_nil, ⟨_, Tryd.func24, by kernel_rfl, rfl⟩, fun F w hm => ?_⟩
  have hm : Mem F [Val (Kd.sl Kd.str) v1 a1] w := hm
  obtain ⟨m, φ, hmw, hfw, cs0, ⟨ad, cap, rfl, ⟨hcap, hcm⟩, cs, hE, hrow⟩, rfl⟩ := hm.get (i := 0) rfl
  have hel : ∀ (j : Nat) (x : List Int), a1[j]? = some x → cs[j]? = some (.string (mkS x)) ∧ Bs x := fun j x hx => by
    obtain ⟨h1, h2⟩ := hE.at_ j x hx
    refine ⟨?_, h2⟩
    have := congrArg (fun l => l[0]?) h1
    simpa [Kd.str, List.getElem?_drop, List.getElem?_take] using this
  have hB : Bs (a2.intercalate a1) := fun b hb => by
    rcases inter_mem hb with h | ⟨x, hx, h⟩
    · exact ha2 b h
    · obtain ⟨j, hj⟩ := List.mem_iff_getElem?.1 hx
      exact (hel j x hj).2 b h
  have hout : ∀ w', Mem F [Val (Kd.sl Kd.str) (pack false [.slice ad a1.length cap]) a1] w' → Mem F [Ent.pur (Bs (a2.intercalate a1))] w' := fun w' h => h.map fun m φ _ => ⟨Frag.emp, Frag.emp, Frag.emp_le, Frag.emp_le, Frag.emp_dj, hB, trivial⟩
  cases a1 with
  | nil =>
    refine (Tryd.strings_Join_none ad cap (mkS a2) w).mono ?_
    rintro e w' ⟨rfl, rfl⟩
    exact ⟨(), rfl, hout _ hm⟩
  | cons x0 t0 =>
    have hr0 := hrow 0 _ (hel 0 x0 rfl).1
    obtain ⟨b, o, fz0, rfl, hb0⟩ := hr0
    have hcell : ∀ (j : Nat) (x : List Int), (x0 :: t0)[j]? = some x → w.cell? ⟨b, o + j, none⟩ = some (.string (mkS x)) := fun j x hx => by
      obtain ⟨b', o', fz, e, hj⟩ := hrow j _ (hel j x hx).1
      cases e
      exact (hp_cell (hmw _ _ _ hj)).1
    have hjoin : Lib.join (((x0 :: t0).map mkS).map (·.data.toList)) (mkS a2).data.toList = toB (a2.intercalate (x0 :: t0)) := by
      have e1 : ((x0 :: t0).map mkS).map (·.data.toList) = (x0 :: t0).map toB := by rw [List.map_map]; rfl
      rw [e1]
      exact toB_inter a2 (x0 :: t0)
    have hc := Tryd.strings_Join b o cap ((x0 :: t0).map mkS) (mkS a2) w (fun j x hx => by
      rw [List.getElem?_map, Option.map_eq_some_iff] at hx
      obtain ⟨y, hy, rfl⟩ := hx
      exact hcell j y hy) (by
      have := hp_lt (hmw _ _ _ hb0)
      exact this) (by rw [List.length_map]; omega) (by rw [List.length_map]; exact hcap) (by rw [hjoin]; simp [toB] at *; omega)
    rw [hjoin, List.length_map] at hc
    refine hc.mono ?_
    rintro e w' ⟨rfl, hb⟩
    exact ⟨(), rfl, hout _ (hm.below hb)⟩
def strings_Join.g (k_ : Nat) (a1 : List (List Int)) (a2 : List Int) : Option (List Int) := strings_Join.f a1 a2
theorem strings_Join.le (k_ : Nat) (a1 : List (List Int)) (a2 : List Int) : Le (strings_Join.g k_ a1 a2) (strings_Join.f a1 a2) := le_refl _
end Go.Proofs.YtjjceikmimhpnaaDoor.S
