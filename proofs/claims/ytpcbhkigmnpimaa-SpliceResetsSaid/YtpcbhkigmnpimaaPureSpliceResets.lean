/- What the law SpliceResets answers: true; what a reset makes of a connection that may be. Its conditions: what the connection's data are. -/
import Derived.Test.YtpcbhkigmnpimaaPureSegPut
namespace Go.Proofs.Ytpcbhkigmnpimaa.S
open Go Go.SL
set_option linter.unusedVariables false
set_option linter.unusedSimpArgs false
theorem heads_g : law28_heads.g 100 = some true := by kernel_rfl
theorem heads : law28_heads.f = some true := law28_heads.le 100 _ heads_g
def gEarly (x : TEarly) : Prop := InR .u32 x.Seq ∧ (x.Data.length ≤ maxLen ∧ ∀ z ∈ x.Data, InR .u8 z)
def gConn (c : TConn) : Prop := InR .i64 c.Id ∧ InR .u32 c.Guest ∧ InR .i64 c.Gport ∧ InR .u32 c.Remote ∧ InR .i64 c.Rport ∧ True ∧ True ∧ True ∧ InR .u32 c.Begin ∧ InR .u32 c.Una ∧ InR .u32 c.Next ∧ InR .u32 c.Want ∧ InR .i64 c.Win ∧ InR .i64 c.Mss ∧ (c.ToHost.length ≤ maxLen ∧ ∀ z ∈ c.ToHost, InR .u8 z) ∧ (c.ToGuest.length ≤ maxLen ∧ ∀ z ∈ c.ToGuest, InR .u8 z) ∧ (c.Early.length ≤ maxLen ∧ ∀ z ∈ c.Early, gEarly z) ∧ True ∧ True ∧ True ∧ InR .i64 c.At ∧ InR .i64 c.Wait ∧ InR .i64 c.Tries
theorem in_is (a b c : Int) : splice_ranges_1.f a b c = some (decide (b ≤ a ∧ a ≤ c)) := by
  unfold splice_ranges_1.f lt
  by_cases h : b ≤ a
  · by_cases k : a ≤ c <;> simp [h, k]
  · simp [h]
/-- What is asked of a connection's numbers. -/
def Rg (c : TConn) : Prop := c.ToHost.length ≤ 4096 ∧ c.ToGuest.length ≤ 4096 ∧ c.Early.length ≤ 4 ∧ ishr .i64 c.Gport 16 = 0 ∧ ishr .i64 c.Rport 16 = 0 ∧ ishr .i64 c.Win 16 = 0 ∧ (1 ≤ c.Id ∧ c.Id ≤ 8) ∧ (64 ≤ c.Mss ∧ c.Mss ≤ 1460) ∧ (0 ≤ c.At ∧ c.At ≤ 1099511627776) ∧ (0 ≤ c.Wait ∧ c.Wait ≤ 32) ∧ (0 ≤ c.Tries ∧ c.Tries ≤ 6)
instance (c : TConn) : Decidable (Rg c) := inferInstanceAs (Decidable (_ ∧ _))
theorem ranges_is (c : TConn) : splice_ranges.f c = some (decide (Rg c)) := by
  unfold splice_ranges.f Rg lt
  simp only [in_is, Option.bind_some]
  by_cases c1 : c.ToHost.length ≤ 4096
  · have d1 : (c.ToHost.length : Int) ≤ 4096 := by omega
    by_cases c2 : c.ToGuest.length ≤ 4096
    · have d2 : (c.ToGuest.length : Int) ≤ 4096 := by omega
      by_cases c3 : c.Early.length ≤ 4
      · have d3 : (c.Early.length : Int) ≤ 4 := by omega
        by_cases c4 : ishr .i64 c.Gport 16 = 0
        · by_cases c5 : ishr .i64 c.Rport 16 = 0
          · by_cases c6 : ishr .i64 c.Win 16 = 0
            · by_cases c7 : 1 ≤ c.Id ∧ c.Id ≤ 8
              · by_cases c8 : 64 ≤ c.Mss ∧ c.Mss ≤ 1460
                · by_cases c9 : 0 ≤ c.At ∧ c.At ≤ 1099511627776
                  · by_cases c10 : 0 ≤ c.Wait ∧ c.Wait ≤ 32
                    · by_cases c11 : 0 ≤ c.Tries ∧ c.Tries ≤ 6 <;> simp [c1, c2, c3, c4, c5, c6, c7, c8, c9, c10, c11, d1, d2, d3]
                    · simp [c1, c2, c3, c4, c5, c6, c7, c8, c9, c10, d1, d2, d3]
                  · simp [c1, c2, c3, c4, c5, c6, c7, c8, c9, d1, d2, d3]
                · simp [c1, c2, c3, c4, c5, c6, c7, c8, d1, d2, d3]
              · simp [c1, c2, c3, c4, c5, c6, c7, d1, d2, d3]
            · simp [c1, c2, c3, c4, c5, c6, d1, d2, d3]
          · simp [c1, c2, c3, c4, c5, d1, d2, d3]
        · simp [c1, c2, c3, c4, d1, d2, d3]
      · have d3 : ¬ (c.Early.length : Int) ≤ 4 := by omega
        by_cases c4 : ishr .i64 c.Gport 16 = 0 <;> by_cases c5 : ishr .i64 c.Rport 16 = 0 <;> simp [c1, c2, c3, c4, c5, d1, d2, d3]
    · have d2 : ¬ (c.ToGuest.length : Int) ≤ 4096 := by omega
      by_cases c4 : ishr .i64 c.Gport 16 = 0 <;> by_cases c5 : ishr .i64 c.Rport 16 = 0 <;> simp [c1, c2, c4, c5, d1, d2]
  · have d1 : ¬ (c.ToHost.length : Int) ≤ 4096 := by omega
    by_cases c4 : ishr .i64 c.Gport 16 = 0 <;> by_cases c5 : ishr .i64 c.Rport 16 = 0 <;> simp [c1, c4, c5, d1]
theorem room_is (c : TConn) : splice_room.f c = some (max 0 (IntKind.i64.wrap (4096 - (c.ToHost.length : Int)))) := rfl
/-- Is a piece ahead of its time out of place? -/
def odd (c : TConn) (x : TEarly) : Bool := decide ((x.Data.length : Int) = 0) || (decide (IntKind.u32.wrap (x.Seq - c.Want) < 1) || decide (IntKind.i64.wrap (max 0 (IntKind.i64.wrap (4096 - (c.ToHost.length : Int))) - (x.Data.length : Int)) < IntKind.u32.wrap (x.Seq - c.Want)))
theorem odd_is (x : TEarly) (c : TConn) : splice_Check_1.f x c = some (odd c x) := by
  unfold splice_Check_1.f odd lt
  simp only [room_is, Option.bind_some]
  by_cases c1 : (x.Data.length : Int) = 0
  · simp only [c1, decide_true, if_true, Option.bind_some, Bool.true_or]
  · by_cases c2 : IntKind.u32.wrap (x.Seq - c.Want) < 1
    · simp only [c1, c2, decide_true, decide_false, Bool.false_eq_true, if_false, if_true, Option.bind_some, Bool.false_or, Bool.true_or]
    · simp only [c1, c2, decide_false, Bool.false_eq_true, if_false, Option.bind_some, Bool.false_or]
theorem early_is (l : List TEarly) (c : TConn) (hl : l.length ≤ 4611686018427387904) : slices_ContainsFunc_s_api_Early_api_Early_at_splice_Check_1.f l c = some (l.any (odd c)) := by
  unfold slices_ContainsFunc_s_api_Early_api_Early_at_splice_Check_1.f slices_IndexFunc_s_api_Early_api_Early_at_splice_Check_1.f
  obtain ⟨k, hk, h1, h2, hlp⟩ := find_run (B := fun s1 : Int => (if decide (s1 < (l.length : Int)) = true then (idx l s1).bind fun x1 => (splice_Check_1.f x1 c).bind fun r1 => (if r1 = true then some (.inr (.inr (s1))) else some (.inl (IntKind.i64.wrap (s1 + 1)))) else some (.inr (.inl (())))))
    (fun i => if h : i < l.length then odd c l[i] else false) l.length (fun i => (i : Int)) (fun i => if i < l.length then (.inr (i : Int) : Unit ⊕ Int) else .inl ())
    (fun i hi hf => by
      rw [dif_pos hi] at hf
      have c : ((i : Int) < (l.length : Int)) := by omega
      simp only [c, decide_true, if_true, ix l i hi, Option.bind_some, odd_is, hf, Bool.false_eq_true, if_false]
      rw [stepw hi (by omega)])
    (fun i hi hf => by
      rw [dif_pos hi] at hf
      have c : ((i : Int) < (l.length : Int)) := by omega
      simp only [c, decide_true, if_true, ix l i hi, Option.bind_some, odd_is, hf]
      rw [if_pos hi])
    (by simp)
  rw [show loop _ (0 : Int) = _ from hlp, Option.bind_some]
  by_cases hkl : k < l.length
  · rw [if_pos hkl]
    have := h2 hkl
    rw [dif_pos hkl] at this
    have ha : l.any (odd c) = true := List.any_eq_true.2 ⟨_, List.getElem_mem hkl, this⟩
    rw [ha]
    simp [lt]
  · rw [if_neg hkl]
    have ha : l.any (odd c) = false := by
      rw [Bool.eq_false_iff]
      intro h
      obtain ⟨x, hx, ho⟩ := List.any_eq_true.1 h
      obtain ⟨i, hi, rfl⟩ := List.getElem_of_mem hx
      have := h1 i (by omega)
      rw [dif_pos hi, ho] at this
      cases this
    rw [ha]
    simp [lt]
/-- Of one that nobody has heard of yet. -/
def Fsh (c : TConn) : Bool := !(c.Fin || c.Done || c.Shut || decide (0 < c.ToHost.length) || decide (0 < c.Early.length) || !decide (c.Una = c.Begin)) && (if c.Opening = true then decide (c.Next = c.Begin) && !c.Eof && decide (c.ToGuest.length = 0) && decide (c.At = 0) else decide (IntKind.u32.wrap (c.Next - c.Begin) = 1))
theorem fresh_is (c : TConn) : splice_fresh.f c = some (Fsh c) := by
  unfold splice_fresh.f Fsh lt
  cases c.Fin <;> cases c.Done <;> cases c.Shut <;> simp
  by_cases c1 : c.ToHost = []
  · by_cases c2 : c.Early = []
    · by_cases c3 : c.Una = c.Begin
      · cases c.Opening
        · simp [c1, c2, c3]
        · by_cases c4 : c.Next = c.Begin
          · by_cases c5 : c.ToGuest = [] <;> cases c.Eof <;> simp [c1, c2, c3, c4, c5]
          · simp [c1, c2, c3, c4]
      · simp [c1, c2, c3]
    · have : 0 < c.Early.length := List.length_pos_iff.2 c2
      simp [c1, c2, this]
  · have : 0 < c.ToHost.length := List.length_pos_iff.2 c1
    simp [c1, this]
/-- What stands in the way of one that is up. -/
def Upk (c : TConn) : Bool := !(c.Opening || c.Shut && (!c.Fin || decide (0 < c.ToHost.length))) && (if c.Done = true then c.Eof && decide (c.ToGuest.length = 0) && decide (IntKind.u32.wrap (c.Next - c.Una) = 0) else decide (IntKind.u32.wrap (c.Next - c.Una) ≤ (c.ToGuest.length : Int) + (if c.Eof = true then 1 else 0)))
def Ckc (c : TConn) : Bool := decide (Rg c) && !c.Early.any (odd c) && (if c.Up = true then Upk c else Fsh c)
theorem check_is (c : TConn) : splice_Check.f c = some (Ckc c) := by
  unfold splice_Check.f Ckc
  rw [ranges_is, Option.bind_some]
  by_cases hR : Rg c
  · have hE := hR.2.2.1
    have hG := hR.2.1
    rw [early_is _ _ (by omega), fresh_is]
    simp only [hR, decide_true, Bool.not_true, Bool.false_eq_true, if_false, Option.bind_some, Bool.true_and, lt]
    cases c.Early.any (odd c) with
    | true => simp
    | false =>
      cases c.Up with
      | false => simp
      | true =>
        simp only [Bool.false_eq_true, if_false, Bool.not_true, Bool.not_false, Bool.true_and, if_true]
        unfold Upk
        rw [i64w (by omega) (by omega)]
        cases c.Opening <;> cases c.Shut <;> cases c.Fin <;> cases c.Done <;> cases c.Eof <;> simp
        all_goals (try (by_cases q1 : c.ToHost = [] <;> by_cases q2 : c.ToGuest = [] <;> simp [q1, q2, List.length_pos_iff]))
  · simp [hR]
theorem small_is (c : TConn) (hl : c.Early.length ≤ 4611686018427387904) : ∃ b, law28_small.f c = some b := by
  unfold law28_small.f
  by_cases c1 : 5000 < (c.ToHost.length : Int)
  · simp [c1]
  by_cases c2 : 5000 < (c.ToGuest.length : Int)
  · simp [c1, c2]
  by_cases c3 : 20 < (c.Early.length : Int)
  · simp [c1, c2, c3]
  simp only [c1, c2, c3, decide_false, Bool.false_eq_true, if_false, Option.bind_some, lt]
  obtain ⟨k, hk, h1, h2, hlp⟩ := find_run (B := fun s1 : Int => (if decide (s1 < (c.Early.length : Int)) = true then (idx c.Early s1).bind fun x1 => (if decide (5000 < (x1.Data.length : Int)) = true then some (.inr (.inr (false))) else some (.inl (IntKind.i64.wrap (s1 + 1)))) else some (.inr (.inl (())))))
    (fun i => if h : i < c.Early.length then decide (5000 < (c.Early[i].Data.length : Int)) else false) c.Early.length (fun i => (i : Int)) (fun i => if i < c.Early.length then (.inr false : Unit ⊕ Bool) else .inl ())
    (fun i hi hf => by
      rw [dif_pos hi] at hf
      have c : ((i : Int) < (c.Early.length : Int)) := by omega
      simp only [c, decide_true, if_true, ix _ i hi, Option.bind_some, hf, Bool.false_eq_true, if_false]
      rw [stepw hi (by omega)])
    (fun i hi hf => by
      rw [dif_pos hi] at hf
      have c : ((i : Int) < (c.Early.length : Int)) := by omega
      simp only [c, decide_true, if_true, ix _ i hi, Option.bind_some, hf]
      rw [if_pos hi])
    (by simp)
  rw [show loop _ (0 : Int) = _ from hlp, Option.bind_some]
  split
  · exact ⟨_, rfl⟩
  · exact ⟨_, rfl⟩
theorem sameC (c : TConn) (hl : c.Early.length ≤ 4611686018427387904) : ref28_Same.f c c = some true := by
  unfold ref28_Same.f
  simp only [decide_true, Bool.not_true, Bool.false_eq_true, if_false, Option.bind_some]
  have hlp := loop_run (B := fun s1 : Int => (if decide (s1 < (c.Early.length : Int)) = true then ((idx c.Early s1).bind fun x1 => (idx c.Early s1).bind fun x2 => (if (!decide (x1.Seq = x2.Seq)) = true then some (true) else (idx c.Early s1).bind fun x3 => (idx c.Early s1).bind fun x4 => some ((!decide (x3.Data = x4.Data))))).bind (fun j2 => (if j2 = true then some (.inr (.inr (false))) else lt (IntKind.i64.wrap (s1 + 1)) fun y1 => some (.inl (y1)))) else some (.inr (.inl (())))))
    (fun i => (i : Int)) c.Early.length (fun i hi => by
      have c' : ((i : Int) < (c.Early.length : Int)) := by omega
      simp only [c', decide_true, if_true, ix _ i hi, Option.bind_some, Bool.not_true, Bool.false_eq_true, if_false, lt]
      rw [stepw hi (by omega)]) (r := (.inl () : Unit ⊕ Bool)) (by simp)
  rw [show loop _ (0 : Int) = _ from hlp]
  simp [lt]
theorem spliceResets (c : TConn) (gc : gConn c) (now : Int) (hn : InR .i64 now) (seq : Int) (hs : InR .u32 seq) : law28_SpliceResets.f c now seq = some true := by
  obtain ⟨g1, g2, g3, g4, g5, g6, g7, g8, g9, g10, g11, g12, g13, g14, g15, g16, g17, g18, g19, g20, g21, g22, g23⟩ := gc
  unfold law28_SpliceResets.f
  by_cases hE : c.Early.length ≤ 4611686018427387904
  · obtain ⟨b, hb⟩ := small_is c hE
    rw [hb, check_is]
    cases b with
    | false => simp [heads]
    | true =>
      by_cases hck : Ckc c = true
      · by_cases n1 : now < 0
        · simp [hck, n1, heads]
        · by_cases n2 : 549755813888 < now
          · simp [hck, n1, n2, heads]
          · have hR : Rg c := by
              unfold Ckc at hck
              simp only [Bool.and_eq_true, decide_eq_true_eq] at hck
              exact hck.1.1
            have hG := hR.2.2.2.1
            have hP := hR.2.2.2.2.1
            unfold ishr at hG hP
            rw [show (2 : Int) ^ min (16 : Int).toNat IntKind.i64.bits = 65536 by decide] at hG hP
            have hput : seg_Put.f ⟨c.Gport, c.Rport, seq, 0, 4, 0, 0, []⟩ 0 0 = some (headOf ⟨c.Gport, c.Rport, seq, 0, 4, 0, 0, []⟩ (by2 (ckOf ⟨c.Gport, c.Rport, seq, 0, 4, 0, 0, []⟩ 0 0) ++ [0, 0]), 0) := put_is _ 0 0 ⟨⟨by show 0 ≤ c.Gport; omega, by show c.Gport < 65536; omega⟩, ⟨by show 0 ≤ c.Rport; omega, by show c.Rport < 65536; omega⟩, ⟨(show (0 : Int) ≤ 4 by decide), (show (4 : Int) ≤ 63 by decide)⟩, ⟨(show (0 : Int) ≤ 0 by decide), (show (0 : Int) < 65536 by decide)⟩⟩ ⟨(show (0 : Int) ≤ 0 by decide), (show (0 : Int) < 65536 by decide)⟩ (by simp) (fun x hx => by simp at hx)
            have hbeg : splice_begin.f c now = some (some ⟨c, now, [], [], false⟩, true) := by
              unfold splice_begin.f lt
              have k1 : 0 ≤ now := by omega
              have k2 : now ≤ 549755813888 := by omega
              rw [check_is]
              simp [hck, k1, k2]
            have hf4 : (0 : Int) < bits .and .i64 4 4 := by decide
            have hcall : splice_step_call.f ⟨c, now, [], [], false⟩ 4 [] = some ⟨c, now, [], [⟨4, c.Id, 0, 0, []⟩], false⟩ := by
              unfold splice_step_call.f slices_Clone_s_byte_byte.f
              rw [app_k _ _ (by simp), Option.bind_some, Option.bind_some, app_k _ _ (by simp)]; rfl
            have htake : splice_Take.f c now ⟨c.Gport, c.Rport, seq, 0, 4, 0, 0, []⟩ = some (if seq = c.Want then (c, [], [⟨4, c.Id, 0, 0, []⟩], true) else (c, [], [], false)) := by
              unfold splice_Take.f
              rw [hbeg, Option.bind_some, hput]
              unfold splice_step_take.f lt
              by_cases hw : seq = c.Want
              · simp [hf4, hw, hcall]
              · simp [hf4, hw]
            simp only [Option.bind_some, Bool.not_true, Bool.false_eq_true, if_false, hck, n1, n2, decide_false]
            rw [htake]
            by_cases hw : seq = c.Want
            · simp only [hw, if_true, Option.bind_some, sameC c hE]
              simp [idx, heads]
            · simp only [hw, if_false, Option.bind_some, sameC c hE]
              simp [hw, heads]
      · simp [hck, heads]
  · have : law28_small.f c = some false := by
      unfold law28_small.f
      by_cases c1 : 5000 < (c.ToHost.length : Int)
      · simp [c1]
      by_cases c2 : 5000 < (c.ToGuest.length : Int)
      · simp [c1, c2]
      have c3 : 20 < (c.Early.length : Int) := by omega
      simp [c1, c2, c3]
    rw [this]
    simp [heads]
end Go.Proofs.Ytpcbhkigmnpimaa.S
