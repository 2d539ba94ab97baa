/- What the law ReasmStays answers: true; what reasm.Add and reasm.Expire make of a row that may be. Its conditions: what the row's data are. -/
import Derived.Test.YtlpjgmbbcibkjaaPureReasm
import Derived.Test.YtlpjgmbbcibkjaaPureIpPut
namespace Go.Proofs.Ytlpjgmbbcibkjaa.S
open Go Go.SL
set_option linter.unusedVariables false
set_option linter.unusedSimpArgs false
def gIp (p : TIp) : Prop := InR .i64 p.Tos ∧ InR .i64 p.Id ∧ InR .i64 p.Flags ∧ InR .i64 p.Off ∧ InR .i64 p.Ttl ∧ InR .i64 p.Proto ∧ InR .u32 p.Src ∧ InR .u32 p.Dst ∧ (p.Options.length ≤ maxLen ∧ ∀ z ∈ p.Options, InR .u8 z) ∧ (p.Data.length ≤ maxLen ∧ ∀ z ∈ p.Data, InR .u8 z)
def gPiece (x : TPiece) : Prop := InR .u32 x.Src ∧ InR .u32 x.Dst ∧ InR .i64 x.Id ∧ InR .i64 x.Proto ∧ InR .i64 x.Until ∧ (x.Data.length ≤ maxLen ∧ ∀ z ∈ x.Data, InR .u8 z) ∧ (x.Have.length ≤ maxLen ∧ ∀ z ∈ x.Have, True) ∧ InR .i64 x.Total
theorem Ck.iff (l : List TPiece) : Ck l ↔ l.length ≤ 4 ∧ (∀ x ∈ l, Rt x) ∧ l.Pairwise (fun a b => who a ≠ who b) := by
  unfold Ck
  constructor
  · rintro ⟨h, k⟩
    refine ⟨h, fun x hx => ?_, ?_⟩
    · obtain ⟨i, hi, rfl⟩ := List.getElem_of_mem hx
      exact (k i hi).1
    · rw [List.pairwise_iff_getElem]
      exact fun i j hi hj hij => (k j hj).2 i hij
  · rintro ⟨h, k, m⟩
    rw [List.pairwise_iff_getElem] at m
    exact ⟨h, fun i hi => ⟨k _ (List.getElem_mem hi), fun j hj => m j i (by omega) hi hj⟩⟩
theorem Ck.sub {l m : List TPiece} (h : Ck l) (s : m.Sublist l) : Ck m := by
  rw [Ck.iff] at h ⊢
  exact ⟨Nat.le_trans s.length_le h.1, fun x hx => h.2.1 x (s.subset hx), h.2.2.sublist s⟩
theorem Ck.set {l : List TPiece} (h : Ck l) {k : Nat} (hk : k < l.length) {x : TPiece} (hx : Rt x) (hw : who x = who l[k]) : Ck (l.set k x) := by
  have hg : ∀ i (hi : i < l.length), who ((l.set k x)[i]'(by simpa using hi)) = who l[i] := fun i hi => by
    rw [List.getElem_set]
    split
    · rename_i e; subst e; exact hw
    · rfl
  refine ⟨by simpa using h.1, fun i hi => ?_⟩
  have hi' : i < l.length := by simpa using hi
  refine ⟨?_, fun j hj => ?_⟩
  · rw [List.getElem_set]
    split
    · exact hx
    · exact (h.2 i hi').1
  · rw [hg i hi', hg j (by omega)]
    exact (h.2 i hi').2 j hj
theorem Ck.snoc {l : List TPiece} (h : Ck l) (hl : l.length < 4) {x : TPiece} (hx : Rt x) (hw : ∀ i (h : i < l.length), who l[i] ≠ who x) : Ck (l ++ [x]) := by
  rw [Ck.iff] at h ⊢
  refine ⟨by simp; omega, fun y hy => ?_, ?_⟩
  · rcases List.mem_append.1 hy with hy | hy
    · exact h.2.1 y hy
    · rw [List.mem_singleton.1 hy]; exact hx
  · rw [List.pairwise_append]
    refine ⟨h.2.2, List.pairwise_singleton _ _, fun a ha b hb => ?_⟩
    obtain ⟨i, hi, rfl⟩ := List.getElem_of_mem ha
    rw [List.mem_singleton.1 hb]
    exact hw i hi
theorem tick_is (n : Int) : reasm_tick.f n = some (decide (0 ≤ n ∧ n ≤ 1099511627746)) := by
  unfold reasm_tick.f lt
  by_cases c : 0 ≤ n
  · by_cases d : n ≤ 1099511627746 <;> simp [c, d]
  · simp [c]
theorem tail_ok (a1 row : List TPiece) (k : Nat) (hk : k < row.length) (hrow : Ck row) (ha : Ck a1) (p : TIp) (y1 : Bool) (y2 y3 : Int) (h2 : 0 ≤ y2) (h3 : y3 = y2 + p.Data.length) (h4 : y3 ≤ 8192) : ∃ a x ok, ((reasm_drops.f row[k] y1 y3).bind fun r7 => (if r7 = true then some ((a1, (⟨0, 0, 0, 0, 0, 0, 0, 0, [], []⟩ : TIp), false)) else (reasm_put.f row[k] y2 p.Data).bind fun r8 => ((if y1 = true then some ((⟨r8.Src, r8.Dst, r8.Id, r8.Proto, r8.Until, r8.Data, r8.Have, y3⟩ : TPiece)) else some (r8))).bind (fun j6 => ((if (!decide ((j6.Data.length : Int) = j6.Total)) = true then some (true) else (slices_Contains_s_bool_bool.f j6.Have false).bind fun r9 => some (r9))).bind (fun j7 => (if j7 = true then (idx row (k : Int)).bind fun x3 => lt (row.set (k : Int).toNat j6) fun y6 => some ((y6, (⟨0, 0, 0, 0, 0, 0, 0, 0, [], []⟩ : TIp), false)) else (slices_Delete_s_api_Piece_api_Piece.f row (k : Int) (IntKind.i64.wrap ((k : Int) + 1))).bind fun r10 => some ((r10, (⟨p.Tos, p.Id, 0, 0, p.Ttl, p.Proto, p.Src, p.Dst, p.Options, j6.Data⟩ : TIp), true))))))) = some (a, x, ok) ∧ Ck a ∧ (ok = true ∨ x.Data = []) := by
  have hR := (hrow.2 k hk).1
  have hR' := hR
  obtain ⟨⟨q1, q2⟩, q3, q4, q5, q6⟩ := hR
  obtain ⟨dr, hdr0, hdr⟩ : ∃ dr, reasm_drops.f row[k] y1 y3 = some dr ∧ (dr = false → (y1 = true → (¬ (0 ≤ row[k].Total ∧ row[k].Total ≠ y3) ∧ ¬ y3 < row[k].Data.length)) ∧ (y1 = false → ¬ (0 ≤ row[k].Total ∧ row[k].Total < y3))) := by
    rw [drops_is]
    refine ⟨_, rfl, ?_⟩
    cases y1 with
    | true => 
      simp only [if_true, decide_eq_false_iff_not]
      intro h; exact ⟨fun _ => by omega, fun h => (by cases h)⟩
    | false =>
      simp only [Bool.false_eq_true, if_false, decide_eq_false_iff_not]
      intro h; exact ⟨fun h => (by cases h), fun _ => by omega⟩
  rw [hdr0, Option.bind_some]
  cases dr with
  | true => exact ⟨_, _, _, rfl, ha, .inr (by rfl)⟩
  | false =>
  have hdr1 := hdr rfl
  clear hdr
  rw [if_neg (by simp)]
  obtain ⟨d, h, hd, hh, hput⟩ := put_is row[k] y2 p.Data h2 (by omega) q5 q4
  rw [hput, Option.bind_some]
  have hmax : (d.length : Int) = max (row[k].Data.length : Int) y3 := by omega
  obtain ⟨j6, hj, hj1, hj2⟩ : ∃ j6 : TPiece, (if y1 = true then some (⟨row[k].Src, row[k].Dst, row[k].Id, row[k].Proto, row[k].Until, d, h, y3⟩ : TPiece) else some (⟨row[k].Src, row[k].Dst, row[k].Id, row[k].Proto, row[k].Until, d, h, row[k].Total⟩ : TPiece)) = some j6 ∧ Rt j6 ∧ who j6 = who row[k] := by
    cases y1 with
    | true =>
      refine ⟨_, rfl, ⟨⟨q1, q2⟩, q3, hh, ?_, ?_⟩, rfl⟩
      · show d.length ≤ 8192
        omega
      · show y3 = -1 ∨ (d.length : Int) ≤ y3 ∧ y3 ≤ 8192
        have := hdr1.1 rfl
        omega
    | false =>
      refine ⟨_, rfl, ⟨⟨q1, q2⟩, q3, hh, ?_, ?_⟩, rfl⟩
      · show d.length ≤ 8192
        omega
      · show row[k].Total = -1 ∨ (d.length : Int) ≤ row[k].Total ∧ row[k].Total ≤ 8192
        have := hdr1.2 rfl
        omega
  rw [hj, Option.bind_some]
  obtain ⟨j7, hj7⟩ : ∃ j7, (if (!decide ((j6.Data.length : Int) = j6.Total)) = true then some (true) else (slices_Contains_s_bool_bool.f j6.Have false).bind fun r9 => some (r9)) = some j7 := by
    split
    · exact ⟨_, rfl⟩
    · obtain ⟨c, hc⟩ := contains_is j6.Have false (by have := hj1.2.2.1; have := hj1.2.2.2.1; omega)
      rw [hc]; exact ⟨_, rfl⟩
  rw [hj7, Option.bind_some]
  have hlen := hrow.1
  split
  · rw [ix row k hk, Option.bind_some]
    simp only [lt, Int.toNat_natCast]
    exact ⟨_, _, _, rfl, hrow.set hk hj1 hj2, .inr (by rfl)⟩
  · rw [i64w (by omega) (by omega), delete_is row k hk (by omega), Option.bind_some]
    refine ⟨_, _, _, rfl, ?_, .inl (by rfl)⟩
    rw [← List.eraseIdx_eq_take_drop_succ]
    exact hrow.sub (List.eraseIdx_sublist _ _)
theorem clone_is (l : List TPiece) (h : l.length ≤ 100000) : slices_Clone_s_api_Piece_api_Piece.f l = some l := by
  unfold slices_Clone_s_api_Piece_api_Piece.f
  rw [app_k _ _ (by simp; omega)]; rfl
theorem add_stays (l : List TPiece) (hl : Ck l) (now : Int) (p : TIp) (ho : p.Options.length ≤ 9223372036854775807) (hb : Byt p.Options) : ∃ a x ok, reasm_Add.f l now p = some (a, x, ok) ∧ Ck a ∧ (ok = true ∨ x.Data = []) := by
  have h4 := hl.1
  unfold reasm_Add.f
  obtain ⟨b, c, hp, hc⟩ := ipput_is p ho hb
  obtain ⟨ck, hk, hck⟩ := check_is l
  have hck' := hck.2 hl
  subst hck'
  rw [hp, Option.bind_some, hk, tick_is]
  simp only [Option.bind_some, Bool.not_true, Bool.false_eq_true, if_false]
  by_cases hc0 : c ≠ 0
  · simp only [hc0, decide_false, Bool.not_false, if_true, Option.bind_some]
    exact ⟨_, _, _, rfl, hl, .inr (by rfl)⟩
  replace hc0 : c = 0 := by omega
  simp only [hc0, decide_true, Bool.not_true, Bool.false_eq_true, if_false, Option.bind_some]
  have hir := hc.1 hc0
  by_cases hn : ¬ (0 ≤ now ∧ now ≤ 1099511627746)
  · simp only [hn, decide_false, Bool.not_false, if_true, Option.bind_some]
    exact ⟨_, _, _, rfl, hl, .inr (by rfl)⟩
  replace hn : 0 ≤ now ∧ now ≤ 1099511627746 := by omega
  simp only [hn, and_self, decide_true, Bool.not_true, Bool.false_eq_true, if_false, lt]
  generalize hy : decide (bits .and .i64 p.Flags 1 = 0) = last
  have hoff : 0 ≤ p.Off ∧ p.Off < 8192 := by
    have := hir.2.2.2.1
    unfold ishr at this
    rw [show (2 : Int) ^ min (13 : Int).toNat IntKind.i64.bits = 8192 by decide] at this
    omega
  have hdl := hir.2.2.2.2.2.2
  have e1 : IntKind.i64.wrap (8 * p.Off) = 8 * p.Off := i64w (by omega) (by omega)
  have e2 : IntKind.i64.wrap (8 * p.Off + (p.Data.length : Int)) = 8 * p.Off + (p.Data.length : Int) := i64w (by omega) (by omega)
  rw [e1, e2]
  obtain ⟨j2, hj2⟩ : ∃ j2, (if last = true then some (decide (p.Off = 0)) else some false) = some j2 := by split <;> exact ⟨_, rfl⟩
  rw [hj2, Option.bind_some]
  split
  · exact ⟨_, _, _, rfl, hl, .inl (by rfl)⟩
  by_cases h81 : 8192 < 8 * p.Off + (p.Data.length : Int)
  · simp only [h81, decide_true, if_true, Option.bind_some]
    exact ⟨_, _, _, rfl, hl, .inr (by rfl)⟩
  simp only [h81, decide_false, Bool.false_eq_true, if_false]
  obtain ⟨j3, hj3⟩ : ∃ j3, (if (!last) = true then (if decide ((p.Data.length : Int) = 0) = true then some (true) else some (decide (0 < (Int.tmod (p.Data.length : Int) 8)))) else some (false)) = some j3 := by
    split
    · split <;> exact ⟨_, rfl⟩
    · exact ⟨_, rfl⟩
  rw [hj3, Option.bind_some]
  split
  · exact ⟨_, _, _, rfl, hl, .inr (by rfl)⟩
  rw [i64w (x := now + 30) (by omega) (by omega), whose_is, Option.bind_some]
  obtain ⟨k, hk1, hk2, hk3, hsk⟩ := seek_is l (who ⟨p.Src, p.Dst, p.Id, p.Proto, now + 30, [], [], -1⟩) h4
  rw [hsk, Option.bind_some, clone_is l (by omega), Option.bind_some]
  by_cases hkl : k < l.length
  · have c1 : ((k : Int) < (l.length : Int)) := by omega
    simp only [c1, decide_true, if_true, ix l k hkl, Option.bind_some, Sum.elim_inl]
    have := tail_ok l l k hkl hl hl p last (8 * p.Off) (8 * p.Off + (p.Data.length : Int)) (by omega) rfl (by omega)
    simp only [ix l k hkl, Option.bind_some, lt] at this
    exact this
  · have c1 : ¬ ((k : Int) < (l.length : Int)) := by omega
    simp only [c1, decide_false, Bool.false_eq_true, if_false]
    by_cases c4 : (k : Int) = 4
    · simp only [c4, decide_true, if_true, Option.bind_some, Sum.elim_inr]
      exact ⟨_, _, _, rfl, hl, .inr (by rfl)⟩
    · simp only [c4, decide_false, Bool.false_eq_true, if_false]
      rw [app_k _ _ (by simp; omega)]
      simp only [Option.bind_some, Sum.elim_inl]
      have hkk : k = l.length := by omega
      have hnew : Rt ⟨p.Src, p.Dst, p.Id, p.Proto, now + 30, [], [], -1⟩ := by
        refine ⟨⟨hir.2.1, hir.1.2.2⟩, ⟨?_, ?_⟩, rfl, by simp, .inl rfl⟩
        · show 0 ≤ now + 30
          omega
        · show now + 30 ≤ 1099511627776
          omega
      have hrow : Ck (l ++ [⟨p.Src, p.Dst, p.Id, p.Proto, now + 30, [], [], -1⟩]) := hl.snoc (by omega) hnew fun i h => hk2 i h (by omega)
      have hget : (l ++ [(⟨p.Src, p.Dst, p.Id, p.Proto, now + 30, [], [], -1⟩ : TPiece)])[k]'(by simp; omega) = ⟨p.Src, p.Dst, p.Id, p.Proto, now + 30, [], [], -1⟩ := by
        subst hkk; simp
      have := tail_ok l _ k (by simp; omega) hrow hl p last (8 * p.Off) (8 * p.Off + (p.Data.length : Int)) (by omega) rfl (by omega)
      rw [hget] at this
      exact this
theorem expire_stays (l : List TPiece) (hl : Ck l) (now : Int) : ∃ b, reasm_Expire.f l now = some b ∧ Ck b ∧ b.length ≤ l.length := by
  have h4 := hl.1
  unfold reasm_Expire.f
  obtain ⟨ck, hk, hck⟩ := check_is l
  have hck' := hck.2 hl
  subst hck'
  rw [hk, tick_is]
  simp only [Option.bind_some, Bool.not_true, Bool.false_eq_true, if_false]
  split
  · exact ⟨_, rfl, hl, Nat.le_refl _⟩
  · rw [clone_is l (by omega), Option.bind_some, deleteFunc_is l now (by omega), Option.bind_some]
    exact ⟨_, rfl, hl.sub List.filter_sublist, List.length_filter_le _ _⟩
theorem check_true (l : List TPiece) (h : Ck l) : reasm_Check.f l = some true := by
  obtain ⟨c, h1, h2⟩ := check_is l
  rw [h1, h2.2 h]
theorem small_is (l : List TPiece) (p : TIp) : ∃ c, law24_small.f l p = some c := by
  unfold law24_small.f
  by_cases c1 : 20 < (l.length : Int)
  · rw [if_pos (by simpa using c1)]; exact ⟨_, rfl⟩
  rw [if_neg (by simpa using c1), Option.bind_some]
  split
  · exact ⟨_, rfl⟩
  have hl : l.length ≤ 20 := by omega
  have key : ∀ k i, i + k = l.length → ∃ r, loop (fun s1 : Int => ((if decide (s1 < (l.length : Int)) = true then ((idx l s1).bind fun x1 => (if decide (9000 < (x1.Data.length : Int)) = true then some (true) else (idx l s1).bind fun x2 => some (decide (9000 < (x2.Have.length : Int))))).bind (fun j2 => (if j2 = true then some (.inr (.inr (false))) else lt (IntKind.i64.wrap (s1 + 1)) fun y1 => some (.inl (y1)))) else some (.inr (.inl (())))) : Option (Int ⊕ (Unit ⊕ Bool)))) (i : Int) = some r := by
    intro k
    induction k with
    | zero =>
      intro i hi
      refine ⟨.inl (), ?_⟩
      refine loop_out ?_
      rw [if_neg (by simp; omega)]
    | succ k ih =>
      intro i hi
      have hil : i < l.length := by omega
      have c : ((i : Int) < (l.length : Int)) := by omega
      have hb : ∀ x : TPiece, ∃ b, (if decide (9000 < (x.Data.length : Int)) = true then some (true) else (idx l (i : Int)).bind fun x2 => some (decide (9000 < (x2.Have.length : Int)))) = some b := fun x => by
        rw [ix l i hil]
        split <;> exact ⟨_, rfl⟩
      obtain ⟨b, hb⟩ := hb l[i]
      cases b with
      | true => exact ⟨_, loop_out (by simp only [c, decide_true, if_true, ix l i hil, Option.bind_some] at hb ⊢; rw [hb]; rfl)⟩
      | false =>
        obtain ⟨r, hr⟩ := ih (i + 1) (by omega)
        refine ⟨r, ?_⟩
        rw [loop_in (s' := ((i + 1 : Nat) : Int)) (by simp only [c, decide_true, if_true, ix l i hil, Option.bind_some, lt] at hb ⊢; rw [hb, Option.bind_some, if_neg (by simp), stepw hil (by omega)])]
        exact hr
  obtain ⟨r, hr⟩ := key l.length 0 (by omega)
  rw [show loop _ (0 : Int) = _ from hr, Option.bind_some]
  cases r <;> exact ⟨_, rfl⟩
theorem reasmStays (l : List TPiece) (gl : l.length ≤ maxLen ∧ ∀ z ∈ l, gPiece z) (now : Int) (hn : InR .i64 now) (p : TIp) (gp : gIp p) : law24_ReasmStays.f l now p = some true := by
  obtain ⟨_, _, _, _, _, _, _, _, ⟨ho, hb⟩, _⟩ := gp
  have hb' : Byt p.Options := Byt.of hb
  unfold law24_ReasmStays.f
  obtain ⟨sm, hs⟩ := small_is l p
  rw [hs, Option.bind_some]
  cases sm with
  | false => simp [heads]
  | true =>
    obtain ⟨c, h1, h2⟩ := check_is l
    cases c with
    | false => simp [heads, h1]
    | true =>
      have hck := h2.1 rfl
      obtain ⟨a, x, ok, ha, hca, hx⟩ := add_stays l hck now p ho hb'
      obtain ⟨b, hb1, hb2, hb3⟩ := expire_stays l hck now
      have h4 := hca.1
      have e4 : (a.length : Int) ≤ 4 := by omega
      have e5 : (b.length : Int) ≤ (l.length : Int) := by omega
      simp only [h1, ha, hb1, Bool.not_true, Bool.false_eq_true, if_false, Option.bind_some, check_true a hca, check_true b hb2, if_true, e4, e5, decide_true, heads]
      rcases hx with rfl | hx
      · simp
      · simp [hx]
end Go.Proofs.Ytlpjgmbbcibkjaa.S
