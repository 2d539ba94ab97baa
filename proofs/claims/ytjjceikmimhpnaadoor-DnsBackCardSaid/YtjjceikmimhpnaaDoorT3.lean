/- Contracts, printed by a program of this session. -/
import Derived.Test.YtjjceikmimhpnaaDoorT2
import Derived.Test.YtjjceikmimhpnaaDoorSlZs
namespace Go.Proofs.YtjjceikmimhpnaaDoor.S
open Go Go.SL Go.RowKit
set_option linter.unusedVariables false
set_option linter.unusedSimpArgs false
/-! strings.Index -/
theorem firstc_is {c : Int} (hc : InR .u8 c) : ∀ {p : List Int}, Bs p → Lib.indexByte (p.map fun b => UInt8.ofNat b.toNat) (UInt8.ofNat c.toNat) = firstc c p
  | [], _ => rfl
  | x :: t, h => by
    have ih := firstc_is hc (p := t) fun b hb => h b (List.mem_cons_of_mem _ hb)
    have hx := h x (by simp)
    rw [List.map_cons, Lib.indexByte, ih]
    by_cases e : x = c
    · subst e
      simp [firstc, bef]
    · have hne : (UInt8.ofNat x.toNat == UInt8.ofNat c.toNat) = false := by
        rw [beq_eq_false_iff_ne]
        exact fun e2 => e (byte_inj hx hc e2)
      rw [hne]
      by_cases ht : c ∈ t
      · have h1 : firstc c t = ((bef c t).length : Int) := if_pos ht
        have h2 : firstc c (x :: t) = ((bef c (x :: t)).length : Int) := if_pos (List.mem_cons_of_mem _ ht)
        rw [h1, h2, bef, if_neg e]
        have : (((bef c t).length : Int) == -1) = false := by rw [beq_eq_false_iff_ne]; omega
        simp [this]
      · have h1 : firstc c t = -1 := if_neg ht
        have h2 : firstc c (x :: t) = -1 := if_neg (by simp [ht]; exact fun e2 => e e2.symm)
        rw [h1, h2]; rfl
def strings_Index.f (a1 a2 : List Int) : Option Int := match a2 with | [c] => some (firstc c a1) | _ => none
theorem strings_Index.spc (a1 : List Int) (ha1 : Bs a1) (a2 : List Int) (ha2 : Bs a2) (r : Int) (H : strings_Index.f a1 a2 = some r) : Spc Tryd.prog 70 [.string (mkS a1), .string (mkS a2)] [] [] (fun (s : Unit) => .int .i64 r) (fun s => [Ent.pur True]) := by
  match a2, H with
  | [c], H =>
    cases H
    refine ⟨all_nil, ⟨_, Tryd.func70, by kernel_rfl, rfl⟩, fun F w hm => ?_⟩
    refine (Tryd.strings_Index_one (mkS a1) (UInt8.ofNat c.toNat) w).mono ?_
    rintro e w' ⟨rfl, rfl⟩
    refine ⟨(), ?_, hm.map fun m φ _ => ⟨Frag.emp, Frag.emp, Frag.emp_le, Frag.emp_le, Frag.emp_dj, trivial, trivial⟩⟩
    have := firstc_is (ha2 c (by simp)) ha1
    rw [← this]; rfl
def strings_Index.g (k_ : Nat) (a1 a2 : List Int) : Option Int := strings_Index.f a1 a2
theorem strings_Index.le (k_ : Nat) (a1 a2 : List Int) : Le (strings_Index.g k_ a1 a2) (strings_Index.f a1 a2) := le_refl _
end Go.Proofs.YtjjceikmimhpnaaDoor.S
