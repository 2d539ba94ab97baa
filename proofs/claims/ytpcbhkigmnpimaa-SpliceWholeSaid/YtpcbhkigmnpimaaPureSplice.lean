/- Plain facts on connections that may be; each states its own conditions. -/
import Derived.Test.YtpcbhkigmnpimaaPureSegPut
namespace Go.Proofs.Ytpcbhkigmnpimaa.S
open Go Go.SL
set_option linter.unusedVariables false
set_option linter.unusedSimpArgs false
theorem heads_g : law28_heads.g 100 = some true := by kernel_rfl
theorem heads : law28_heads.f = some true := law28_heads.le 100 _ heads_g
def gEarly (x : TEarly) : Prop := InR .u32 x.Seq ∧ (x.Data.length ≤ maxLen ∧ ∀ z ∈ x.Data, InR .u8 z)
def gConn (c : TConn) : Prop := InR .i64 c.Id ∧ InR .u32 c.Guest ∧ InR .i64 c.Gport ∧ InR .u32 c.Remote ∧ InR .i64 c.Rport ∧ True ∧ True ∧ True ∧ InR .u32 c.Begin ∧ InR .u32 c.Una ∧ InR .u32 c.Next ∧ InR .u32 c.Want ∧ InR .i64 c.Win ∧ InR .i64 c.Mss ∧ (c.ToHost.length ≤ maxLen ∧ ∀ z ∈ c.ToHost, InR .u8 z) ∧ (c.ToGuest.length ≤ maxLen ∧ ∀ z ∈ c.ToGuest, InR .u8 z) ∧ (c.Early.length ≤ maxLen ∧ ∀ z ∈ c.Early, gEarly z) ∧ True ∧ True ∧ True ∧ InR .i64 c.At ∧ InR .i64 c.Wait ∧ InR .i64 c.Tries
theorem in_is (a b c : Int) : splice_ranges_1.f a b c = some (decide (b ≤ a ∧ a ≤ c)) := by
  unfold splice_ranges_1.f lt
  by_cases h : b ≤ a
  · by_cases k : a ≤ c <;> simp [h, k]
  · simp [h]
/-- What is asked of a connection's numbers. -/
def Rg (c : TConn) : Prop := c.ToHost.length ≤ 4096 ∧ c.ToGuest.length ≤ 4096 ∧ c.Early.length ≤ 4 ∧ ishr .i64 c.Gport 16 = 0 ∧ ishr .i64 c.Rport 16 = 0 ∧ ishr .i64 c.Win 16 = 0 ∧ (1 ≤ c.Id ∧ c.Id ≤ 8) ∧ (64 ≤ c.Mss ∧ c.Mss ≤ 1460) ∧ (0 ≤ c.At ∧ c.At ≤ 1099511627776) ∧ (0 ≤ c.Wait ∧ c.Wait ≤ 32) ∧ (0 ≤ c.Tries ∧ c.Tries ≤ 6)
instance (c : TConn) : Decidable (Rg c) := inferInstanceAs (Decidable (_ ∧ _))
theorem ranges_is (c : TConn) : splice_ranges.f c = some (decide (Rg c)) := by
  unfold splice_ranges.f Rg lt
  simp only [in_is, Option.bind_some]
  by_cases c1 : c.ToHost.length ≤ 4096
  · have d1 : (c.ToHost.length : Int) ≤ 4096 := by omega
    by_cases c2 : c.ToGuest.length ≤ 4096
    · have d2 : (c.ToGuest.length : Int) ≤ 4096 := by omega
      by_cases c3 : c.Early.length ≤ 4
      · have d3 : (c.Early.length : Int) ≤ 4 := by omega
        by_cases c4 : ishr .i64 c.Gport 16 = 0
        · by_cases c5 : ishr .i64 c.Rport 16 = 0
          · by_cases c6 : ishr .i64 c.Win 16 = 0
            · by_cases c7 : 1 ≤ c.Id ∧ c.Id ≤ 8
              · by_cases c8 : 64 ≤ c.Mss ∧ c.Mss ≤ 1460
                · by_cases c9 : 0 ≤ c.At ∧ c.At ≤ 1099511627776
                  · by_cases c10 : 0 ≤ c.Wait ∧ c.Wait ≤ 32
                    · by_cases c11 : 0 ≤ c.Tries ∧ c.Tries ≤ 6 <;> simp [c1, c2, c3, c4, c5, c6, c7, c8, c9, c10, c11, d1, d2, d3]
                    · simp [c1, c2, c3, c4, c5, c6, c7, c8, c9, c10, d1, d2, d3]
                  · simp [c1, c2, c3, c4, c5, c6, c7, c8, c9, d1, d2, d3]
                · simp [c1, c2, c3, c4, c5, c6, c7, c8, d1, d2, d3]
              · simp [c1, c2, c3, c4, c5, c6, c7, d1, d2, d3]
            · simp [c1, c2, c3, c4, c5, c6, d1, d2, d3]
          · simp [c1, c2, c3, c4, c5, d1, d2, d3]
        · simp [c1, c2, c3, c4, d1, d2, d3]
      · have d3 : ¬ (c.Early.length : Int) ≤ 4 := by omega
        by_cases c4 : ishr .i64 c.Gport 16 = 0 <;> by_cases c5 : ishr .i64 c.Rport 16 = 0 <;> simp [c1, c2, c3, c4, c5, d1, d2, d3]
    · have d2 : ¬ (c.ToGuest.length : Int) ≤ 4096 := by omega
      by_cases c4 : ishr .i64 c.Gport 16 = 0 <;> by_cases c5 : ishr .i64 c.Rport 16 = 0 <;> simp [c1, c2, c4, c5, d1, d2]
  · have d1 : ¬ (c.ToHost.length : Int) ≤ 4096 := by omega
    by_cases c4 : ishr .i64 c.Gport 16 = 0 <;> by_cases c5 : ishr .i64 c.Rport 16 = 0 <;> simp [c1, c4, c5, d1]
theorem room_is (c : TConn) : splice_room.f c = some (max 0 (IntKind.i64.wrap (4096 - (c.ToHost.length : Int)))) := rfl
/-- Is a piece ahead of its time out of place? -/
def odd (c : TConn) (x : TEarly) : Bool := decide ((x.Data.length : Int) = 0) || (decide (IntKind.u32.wrap (x.Seq - c.Want) < 1) || decide (IntKind.i64.wrap (max 0 (IntKind.i64.wrap (4096 - (c.ToHost.length : Int))) - (x.Data.length : Int)) < IntKind.u32.wrap (x.Seq - c.Want)))
theorem odd_is (x : TEarly) (c : TConn) : splice_Check_1.f x c = some (odd c x) := by
  unfold splice_Check_1.f odd lt
  simp only [room_is, Option.bind_some]
  by_cases c1 : (x.Data.length : Int) = 0
  · simp only [c1, decide_true, if_true, Option.bind_some, Bool.true_or]
  · by_cases c2 : IntKind.u32.wrap (x.Seq - c.Want) < 1
    · simp only [c1, c2, decide_true, decide_false, Bool.false_eq_true, if_false, if_true, Option.bind_some, Bool.false_or, Bool.true_or]
    · simp only [c1, c2, decide_false, Bool.false_eq_true, if_false, Option.bind_some, Bool.false_or]
theorem early_is (l : List TEarly) (c : TConn) (hl : l.length ≤ 4611686018427387904) : slices_ContainsFunc_s_api_Early_api_Early_at_splice_Check_1.f l c = some (l.any (odd c)) := by
  unfold slices_ContainsFunc_s_api_Early_api_Early_at_splice_Check_1.f slices_IndexFunc_s_api_Early_api_Early_at_splice_Check_1.f
  obtain ⟨k, hk, h1, h2, hlp⟩ := find_run (B := fun s1 : Int => (if decide (s1 < (l.length : Int)) = true then (idx l s1).bind fun x1 => (splice_Check_1.f x1 c).bind fun r1 => (if r1 = true then some (.inr (.inr (s1))) else some (.inl (IntKind.i64.wrap (s1 + 1)))) else some (.inr (.inl (())))))
    (fun i => if h : i < l.length then odd c l[i] else false) l.length (fun i => (i : Int)) (fun i => if i < l.length then (.inr (i : Int) : Unit ⊕ Int) else .inl ())
    (fun i hi hf => by
      rw [dif_pos hi] at hf
      have c : ((i : Int) < (l.length : Int)) := by omega
      simp only [c, decide_true, if_true, ix l i hi, Option.bind_some, odd_is, hf, Bool.false_eq_true, if_false]
      rw [stepw hi (by omega)])
    (fun i hi hf => by
      rw [dif_pos hi] at hf
      have c : ((i : Int) < (l.length : Int)) := by omega
      simp only [c, decide_true, if_true, ix l i hi, Option.bind_some, odd_is, hf]
      rw [if_pos hi])
    (by simp)
  rw [show loop _ (0 : Int) = _ from hlp, Option.bind_some]
  by_cases hkl : k < l.length
  · rw [if_pos hkl]
    have := h2 hkl
    rw [dif_pos hkl] at this
    have ha : l.any (odd c) = true := List.any_eq_true.2 ⟨_, List.getElem_mem hkl, this⟩
    rw [ha]
    simp [lt]
  · rw [if_neg hkl]
    have ha : l.any (odd c) = false := by
      rw [Bool.eq_false_iff]
      intro h
      obtain ⟨x, hx, ho⟩ := List.any_eq_true.1 h
      obtain ⟨i, hi, rfl⟩ := List.getElem_of_mem hx
      have := h1 i (by omega)
      rw [dif_pos hi, ho] at this
      cases this
    rw [ha]
    simp [lt]
/-- Of one that nobody has heard of yet. -/
def Fsh (c : TConn) : Bool := !(c.Fin || c.Done || c.Shut || decide (0 < c.ToHost.length) || decide (0 < c.Early.length) || !decide (c.Una = c.Begin)) && (if c.Opening = true then decide (c.Next = c.Begin) && !c.Eof && decide (c.ToGuest.length = 0) && decide (c.At = 0) else decide (IntKind.u32.wrap (c.Next - c.Begin) = 1))
theorem fresh_is (c : TConn) : splice_fresh.f c = some (Fsh c) := by
  unfold splice_fresh.f Fsh lt
  cases c.Fin <;> cases c.Done <;> cases c.Shut <;> simp
  by_cases c1 : c.ToHost = []
  · by_cases c2 : c.Early = []
    · by_cases c3 : c.Una = c.Begin
      · cases c.Opening
        · simp [c1, c2, c3]
        · by_cases c4 : c.Next = c.Begin
          · by_cases c5 : c.ToGuest = [] <;> cases c.Eof <;> simp [c1, c2, c3, c4, c5]
          · simp [c1, c2, c3, c4]
      · simp [c1, c2, c3]
    · have : 0 < c.Early.length := List.length_pos_iff.2 c2
      simp [c1, c2, this]
  · have : 0 < c.ToHost.length := List.length_pos_iff.2 c1
    simp [c1, this]
/-- What stands in the way of one that is up. -/
def Upk (c : TConn) : Bool := !(c.Opening || c.Shut && (!c.Fin || decide (0 < c.ToHost.length))) && (if c.Done = true then c.Eof && decide (c.ToGuest.length = 0) && decide (IntKind.u32.wrap (c.Next - c.Una) = 0) else decide (IntKind.u32.wrap (c.Next - c.Una) ≤ (c.ToGuest.length : Int) + (if c.Eof = true then 1 else 0)))
def Ckc (c : TConn) : Bool := decide (Rg c) && !c.Early.any (odd c) && (if c.Up = true then Upk c else Fsh c)
theorem check_is (c : TConn) : splice_Check.f c = some (Ckc c) := by
  unfold splice_Check.f Ckc
  rw [ranges_is, Option.bind_some]
  by_cases hR : Rg c
  · have hE := hR.2.2.1
    have hG := hR.2.1
    rw [early_is _ _ (by omega), fresh_is]
    simp only [hR, decide_true, Bool.not_true, Bool.false_eq_true, if_false, Option.bind_some, Bool.true_and, lt]
    cases c.Early.any (odd c) with
    | true => simp
    | false =>
      cases c.Up with
      | false => simp
      | true =>
        simp only [Bool.false_eq_true, if_false, Bool.not_true, Bool.not_false, Bool.true_and, if_true]
        unfold Upk
        rw [i64w (by omega) (by omega)]
        cases c.Opening <;> cases c.Shut <;> cases c.Fin <;> cases c.Done <;> cases c.Eof <;> simp
        all_goals (try (by_cases q1 : c.ToHost = [] <;> by_cases q2 : c.ToGuest = [] <;> simp [q1, q2, List.length_pos_iff]))
  · simp [hR]
end Go.Proofs.Ytpcbhkigmnpimaa.S
