/- What the law IpPieces answers: true. Its conditions: what the data are. -/
import Derived.Test.YtaiadolmjmacfaaDoorPureIpGet
namespace Go.Proofs.YtaiadolmjmacfaaDoor.S
open Go Go.SL
set_option linter.unusedVariables false
set_option linter.unusedSimpArgs false
theorem lt_eq {α β : Type} (e : α) (f : α → Option β) : lt e f = f e := by unfold lt; exact rfl
/-- One piece as the law wants it. -/
structure POk (a1 : TIp) (a2 : Int) (l : List TIp) (A : Nat → List Int) (j : Nat) (x : TIp) : Prop where
  put : ∃ b, ip_Put.f x = some (b, 0) ∧ (b.length : Int) ≤ a2
  off : x.Off = IntKind.i64.wrap (a1.Off + (IntKind.i64.wrap (Int.tdiv ((A j).length : Int) 8)))
  m8 : Int.tmod ((A j).length : Int) 8 = 0
  more : j + 1 < l.length → ¬ Int.tmod x.Flags 2 = 0
  last : j + 1 = l.length → x.Flags = a1.Flags
  id : x.Id = a1.Id
  app : app (A j) x.Data = some (A (j + 1))
theorem pieces_loop (a1 : TIp) (a2 : Int) (r2 : List TIp × Int) (A : Nat → List Int) (hA0 : A 0 = []) (hk : r2.1.length ≤ 100000) (h : ∀ j (hj : j < r2.1.length), POk a1 a2 r2.1 A j r2.1[j]) :
    loop (fun s1 => (if decide (s1.2 < (r2.1.length : Int)) = true then (idx r2.1 s1.2).bind fun x1 => (ip_Put.f x1).bind fun r4 => ((if (!decide (r4.2 = 0)) = true then some (true) else (if decide (a2 < (r4.1.length : Int)) = true then some (true) else (idx r2.1 s1.2).bind fun x2 => (if (!decide (x2.Off = (IntKind.i64.wrap (a1.Off + (IntKind.i64.wrap (Int.tdiv (s1.1.length : Int) 8)))))) = true then some (true) else (if (!decide ((Int.tmod (s1.1.length : Int) 8) = 0)) = true then some (true) else (if decide (s1.2 < (IntKind.i64.wrap ((r2.1.length : Int) - 1))) = true then (idx r2.1 s1.2).bind fun x3 => (if decide ((Int.tmod x3.Flags 2) = 0) = true then some (true) else (if decide (s1.2 = (IntKind.i64.wrap ((r2.1.length : Int) - 1))) = true then (idx r2.1 s1.2).bind fun x4 => (if (!decide (x4.Flags = a1.Flags)) = true then some (true) else (idx r2.1 s1.2).bind fun x5 => some ((!decide (x5.Id = a1.Id)))) else (idx r2.1 s1.2).bind fun x6 => some ((!decide (x6.Id = a1.Id))))) else (if decide (s1.2 = (IntKind.i64.wrap ((r2.1.length : Int) - 1))) = true then (idx r2.1 s1.2).bind fun x7 => (if (!decide (x7.Flags = a1.Flags)) = true then some (true) else (idx r2.1 s1.2).bind fun x8 => some ((!decide (x8.Id = a1.Id)))) else (idx r2.1 s1.2).bind fun x9 => some ((!decide (x9.Id = a1.Id)))))))))).bind (fun j2 => (if j2 = true then some (.inr (.inr (false))) else (idx r2.1 s1.2).bind fun x10 => (app s1.1 x10.Data).bind fun x11 => lt (IntKind.i64.wrap (s1.2 + 1)) fun y1 => some (.inl (x11, y1)))) else some (.inr (.inl (s1.1))))) (([] : List Int), (0 : Int)) = (some (.inl (A r2.1.length)) : Option (List Int ⊕ Bool)) := by
  have key := loop_run (σ := List Int × Int) (ρ := List Int ⊕ Bool) (B := (fun s1 => (if decide (s1.2 < (r2.1.length : Int)) = true then (idx r2.1 s1.2).bind fun x1 => (ip_Put.f x1).bind fun r4 => ((if (!decide (r4.2 = 0)) = true then some (true) else (if decide (a2 < (r4.1.length : Int)) = true then some (true) else (idx r2.1 s1.2).bind fun x2 => (if (!decide (x2.Off = (IntKind.i64.wrap (a1.Off + (IntKind.i64.wrap (Int.tdiv (s1.1.length : Int) 8)))))) = true then some (true) else (if (!decide ((Int.tmod (s1.1.length : Int) 8) = 0)) = true then some (true) else (if decide (s1.2 < (IntKind.i64.wrap ((r2.1.length : Int) - 1))) = true then (idx r2.1 s1.2).bind fun x3 => (if decide ((Int.tmod x3.Flags 2) = 0) = true then some (true) else (if decide (s1.2 = (IntKind.i64.wrap ((r2.1.length : Int) - 1))) = true then (idx r2.1 s1.2).bind fun x4 => (if (!decide (x4.Flags = a1.Flags)) = true then some (true) else (idx r2.1 s1.2).bind fun x5 => some ((!decide (x5.Id = a1.Id)))) else (idx r2.1 s1.2).bind fun x6 => some ((!decide (x6.Id = a1.Id))))) else (if decide (s1.2 = (IntKind.i64.wrap ((r2.1.length : Int) - 1))) = true then (idx r2.1 s1.2).bind fun x7 => (if (!decide (x7.Flags = a1.Flags)) = true then some (true) else (idx r2.1 s1.2).bind fun x8 => some ((!decide (x8.Id = a1.Id)))) else (idx r2.1 s1.2).bind fun x9 => some ((!decide (x9.Id = a1.Id)))))))))).bind (fun j2 => (if j2 = true then some (.inr (.inr (false))) else (idx r2.1 s1.2).bind fun x10 => (app s1.1 x10.Data).bind fun x11 => lt (IntKind.i64.wrap (s1.2 + 1)) fun y1 => some (.inl (x11, y1)))) else some (.inr (.inl (s1.1)))))) (fun j => (A j, (j : Int))) r2.1.length (fun j hj => ?_) (r := (.inl (A r2.1.length) : List Int ⊕ Bool)) ?_
  · simpa [hA0] using key
  · obtain ⟨⟨b, h1, h2⟩, h3, h4, h5, h6, h7, h8⟩ := h j hj
    have c : ((j : Int) < (r2.1.length : Int)) := by omega
    have hw : IntKind.i64.wrap ((r2.1.length : Int) - 1) = (r2.1.length : Int) - 1 := i64w (by omega) (by omega)
    have c2 : ¬ (a2 < (b.length : Int)) := by omega
    have st := stepw hj (by omega)
    by_cases hl : j + 1 < r2.1.length
    · have d1 : ((j : Int) < (r2.1.length : Int) - 1) := by omega
      have d2 : ¬ ((j : Int) = (r2.1.length : Int) - 1) := by omega
      have d3 := h5 hl
      simp only [c, decide_true, if_true, ix r2.1 j hj, Option.bind_some, h1, Bool.not_true, Bool.false_eq_true, if_false, c2, decide_false, ← h3, h4, hw, d1, d2, d3, h7, h8, lt_eq, st]
    · have d1 : ¬ ((j : Int) < (r2.1.length : Int) - 1) := by omega
      have d2 : ((j : Int) = (r2.1.length : Int) - 1) := by omega
      have d3 := h6 (by omega)
      simp only [c, decide_true, if_true, ix r2.1 j hj, Option.bind_some, h1, Bool.not_true, Bool.false_eq_true, if_false, c2, decide_false, ← h3, h4, hw, d1, decide_eq_true d2, d3, h7, h8, lt_eq, st]
  · have c : ¬ (((r2.1.length : Nat) : Int) < (r2.1.length : Int)) := by omega
    simp only [c, decide_false, Bool.false_eq_true, if_false]
/-- What the rounds over the pieces make. -/
def pcs (q : TIp) : List (List Int) → List TIp
  | [] => []
  | y :: ys => ⟨q.Tos, q.Id, bits .or .i64 q.Flags 1, q.Off, q.Ttl, q.Proto, q.Src, q.Dst, q.Options, y⟩ :: pcs ⟨q.Tos, q.Id, q.Flags, IntKind.i64.wrap (q.Off + (IntKind.i64.wrap (Int.tdiv (y.length : Int) 8))), q.Ttl, q.Proto, q.Src, q.Dst, q.Options, q.Data⟩ ys
theorem pcs_len : ∀ (ys : List (List Int)) (q : TIp), (pcs q ys).length = ys.length
  | [], q => rfl
  | y :: ys, q => by simp [pcs, pcs_len ys]
theorem pcs_rng : ∀ (ys : List (List Int)) (out : List TIp) (q : TIp), out.length + ys.length ≤ 100000 → (∀ y ∈ ys, y.length ≤ 100000) →
    ∃ q', q'.Flags = q.Flags ∧ rng (fun (s1 : List TIp × TIp) y6 => (slices_Clone_s_byte_byte.f y6).bind fun r3 => lt (⟨s1.2.Tos, s1.2.Id, s1.2.Flags, s1.2.Off, s1.2.Ttl, s1.2.Proto, s1.2.Src, s1.2.Dst, s1.2.Options, r3⟩ : TIp) fun y7 => lt (⟨y7.Tos, y7.Id, bits .or .i64 y7.Flags 1, y7.Off, y7.Ttl, y7.Proto, y7.Src, y7.Dst, y7.Options, y7.Data⟩ : TIp) fun y8 => (app s1.1 ([y8] : List TIp)).bind fun x1 => lt (⟨s1.2.Tos, s1.2.Id, s1.2.Flags, IntKind.i64.wrap (s1.2.Off + (IntKind.i64.wrap (Int.tdiv (y6.length : Int) 8))), s1.2.Ttl, s1.2.Proto, s1.2.Src, s1.2.Dst, s1.2.Options, s1.2.Data⟩ : TIp) fun y9 => some (x1, y9)) ys (out, q) = some (out ++ pcs q ys, q')
  | [], out, q, _, _ => ⟨q, rfl, by simp [rng, pcs]⟩
  | y :: ys, out, q, h, hy => by
    have h' : out.length + (ys.length + 1) ≤ 100000 := by simpa using h
    obtain ⟨q', e1, e2⟩ := pcs_rng ys (out ++ [⟨q.Tos, q.Id, bits .or .i64 q.Flags 1, q.Off, q.Ttl, q.Proto, q.Src, q.Dst, q.Options, y⟩]) ⟨q.Tos, q.Id, q.Flags, IntKind.i64.wrap (q.Off + (IntKind.i64.wrap (Int.tdiv (y.length : Int) 8))), q.Ttl, q.Proto, q.Src, q.Dst, q.Options, q.Data⟩ (by simp; omega) (fun z hz => hy z (by simp [hz]))
    refine ⟨q', e1, ?_⟩
    unfold rng
    rw [cloneB y (by have := hy y (by simp); omega), Option.bind_some]
    simp only [lt_eq]
    rw [app_k _ _ (by simp; omega), Option.bind_some, Option.bind_some]
    simp only [lt_eq] at e2
    rw [e2, List.append_assoc]
    rfl
/-- The pieces, one by one. -/
theorem pcs_get : ∀ (ys : List (List Int)) (q : TIp) (u : Nat), (∀ i (hi : i < ys.length), i + 1 < ys.length → ys[i].length = 8 * u) → (0 ≤ q.Off ∧ q.Off ≤ 8192) → u * ys.length ≤ 100000 → ys.length ≤ 100000 → u ≤ 100000 →
    ∀ j (hj : j < ys.length), (pcs q ys)[j]? = some ⟨q.Tos, q.Id, bits .or .i64 q.Flags 1, q.Off + (j * u : Nat), q.Ttl, q.Proto, q.Src, q.Dst, q.Options, ys[j]⟩ := by
  intro ys
  have gen : ∀ (ys : List (List Int)) (q : TIp) (u B : Nat), (∀ i (hi : i < ys.length), i + 1 < ys.length → ys[i].length = 8 * u) → (0 ≤ q.Off ∧ q.Off + (u * ys.length : Nat) ≤ B) → B ≤ 1000000 → u ≤ 100000 →
    ∀ j (hj : j < ys.length), (pcs q ys)[j]? = some ⟨q.Tos, q.Id, bits .or .i64 q.Flags 1, q.Off + (j * u : Nat), q.Ttl, q.Proto, q.Src, q.Dst, q.Options, ys[j]⟩ := by
    intro ys
    induction ys with
    | nil => intro q u B _ _ _ _ j hj; simp at hj
    | cons y ys ih =>
      intro q u B h1 h2 hB hu j hj
      cases j with
      | zero => simp [pcs]
      | succ j =>
        have hj' : j < ys.length := by simpa using hj
        have hy : y.length = 8 * u := h1 0 (by simp) (by simp; omega)
        have e0 : u * (ys.length + 1) = u * ys.length + u := Nat.mul_succ u ys.length
        have h2' : q.Off + ((u * ys.length + u : Nat) : Int) ≤ B := by rw [← e0]; simpa using h2.2
        have e1 : IntKind.i64.wrap (q.Off + (IntKind.i64.wrap (Int.tdiv (y.length : Int) 8))) = q.Off + u := by
          rw [hy, Int.tdiv_eq_ediv_of_nonneg (by omega), i64w (x := ((8 * u : Nat) : Int) / 8) (by omega) (by omega), i64w (by omega) (by omega)]
          omega
        have := ih ⟨q.Tos, q.Id, q.Flags, IntKind.i64.wrap (q.Off + (IntKind.i64.wrap (Int.tdiv (y.length : Int) 8))), q.Ttl, q.Proto, q.Src, q.Dst, q.Options, q.Data⟩ u B (fun i hi hi2 => by
          have := h1 (i + 1) (by simp; omega) (by simp; omega)
          simpa using this) (by simp only [e1]; omega) hB hu j hj'
        simp only [pcs, List.getElem?_cons_succ, List.getElem_cons_succ]
        rw [this]
        simp only [e1]
        have e2 : q.Off + (u : Int) + ((j * u : Nat) : Int) = q.Off + (((j + 1) * u : Nat) : Int) := by rw [Nat.succ_mul]; omega
        rw [e2]
  intro q u h1 h2 h3 h4 h5 j hj
  exact gen ys q u 200000 h1 ⟨h2.1, by omega⟩ (by omega) h5 j hj
theorem or1 (f : Int) (h : 0 ≤ f ∧ f < 8) : bits .or .i64 f 1 = f / 2 * 2 + 1 := by
  have : ∀ k : Fin 8, bits .or .i64 (k.val : Int) 1 = (k.val : Int) / 2 * 2 + 1 := by decide +kernel
  have := this ⟨f.toNat, by omega⟩
  simpa [Int.toNat_of_nonneg h.1] using this
def gIp (p : TIp) : Prop := InR .i64 p.Tos ∧ InR .i64 p.Id ∧ InR .i64 p.Flags ∧ InR .i64 p.Off ∧ InR .i64 p.Ttl ∧ InR .i64 p.Proto ∧ InR .u32 p.Src ∧ InR .u32 p.Dst ∧ (p.Options.length ≤ maxLen ∧ ∀ z ∈ p.Options, InR .u8 z) ∧ (p.Data.length ≤ maxLen ∧ ∀ z ∈ p.Data, InR .u8 z)
/-- What Cut answers. -/
theorem cut_cases (p : TIp) (gp : gIp p) (mtu : Int) (hmtu : -9223372036854775808 ≤ mtu ∧ mtu < 9223372036854775808) (hD : p.Data.length ≤ 20000) :
    (∃ e, e ≠ 0 ∧ ip_Cut.f p mtu = some ([], e)) ∨ ∃ L A, ip_Cut.f p mtu = some (L, 0) ∧ A 0 = [] ∧ A L.length = p.Data ∧ 0 < L.length ∧ L.length ≤ 100000 ∧ ∀ j (hj : j < L.length), POk p mtu L A j L[j] := by
  obtain ⟨_, _, _, _, _, _, gs, gd, go, gD⟩ := gp
  have hs := inrU32 gs
  have hd := inrU32 gd
  have hob : Byt p.Options := Byt.of go.2
  unfold ip_Cut.f
  simp only [lt_eq]
  rw [ipright_is p go.1, Option.bind_some]
  by_cases h : IR p
  case neg => left; exact ⟨2, by decide, by simp [h]⟩
  obtain ⟨h1, h2, h3, h4, h5, h6, h7, h8, h9⟩ := ir_num h
  have e1 : IntKind.i64.wrap (20 + (p.Options.length : Int)) = 20 + (p.Options.length : Int) := i64w (by omega) (by omega)
  have e2 : IntKind.i64.wrap (Int.tdiv (IntKind.i64.wrap ((IntKind.i64.wrap ((p.Data.length : Int) + 8)) - 1)) 8) = ((p.Data.length : Int) + 7) / 8 := by
    rw [i64w (x := (p.Data.length : Int) + 8) (by omega) (by omega), i64w (x := (p.Data.length : Int) + 8 - 1) (by omega) (by omega), Int.tdiv_eq_ediv_of_nonneg (by omega), i64w (by omega) (by omega)]; omega
  have e3 : IntKind.i64.wrap (20 + (p.Options.length : Int) + (p.Data.length : Int)) = 20 + (p.Options.length : Int) + p.Data.length := i64w (by omega) (by omega)
  have e4 : IntKind.i64.wrap (20 + (p.Options.length : Int) + 8) = 28 + (p.Options.length : Int) := by rw [i64w (by omega) (by omega)]; omega
  have e5 : IntKind.i64.wrap (p.Off + ((p.Data.length : Int) + 7) / 8) = p.Off + ((p.Data.length : Int) + 7) / 8 := i64w (by omega) (by omega)
  simp only [e1, e2, e3, e4, e5, h, decide_true, Bool.not_true, Bool.false_eq_true, if_false]
  by_cases c1 : 20 + (p.Options.length : Int) + p.Data.length ≤ mtu
  · right
    refine ⟨[p], fun j => if j = 0 then [] else p.Data, by simp [c1], rfl, rfl, by simp, by simp, fun j hj => ?_⟩
    have hj0 : j = 0 := by simpa using hj
    subst hj0
    refine ⟨⟨putP p, by rw [List.getElem_cons_zero, ipPut_is p go.1 hob hs hd, if_pos h], ?_⟩, ?_, by simp, fun hh => by simp at hh, fun _ => rfl, rfl, ?_⟩
    · unfold putP; rw [List.length_append, len_patched]; omega
    · have : IntKind.i64.wrap (Int.tdiv (((if (0 : Nat) = 0 then [] else p.Data : List Int).length : Nat) : Int) 8) = 0 := by simp; decide
      rw [this, i64w (by omega) (by omega)]; simp
    · show app ([] : List Int) p.Data = some p.Data
      rw [app_k _ _ (by simp; omega)]; rfl
  simp only [c1, decide_false, Bool.false_eq_true, if_false]
  by_cases c2 : 0 < bits .and .i64 p.Flags 2
  · left; exact ⟨161, by decide, by simp [c2]⟩
  simp only [c2, decide_false, Bool.false_eq_true, if_false]
  by_cases c3 : mtu < 28 + (p.Options.length : Int)
  · left; exact ⟨2, by decide, by simp [c3]⟩
  by_cases c4 : 8191 < p.Off + ((p.Data.length : Int) + 7) / 8
  · left; exact ⟨2, by decide, by simp [c3, c4]⟩
  simp only [c3, c4, decide_false, Bool.false_eq_true, if_false, Option.bind_some]
  right
  obtain ⟨u, hu⟩ : ∃ u : Nat, (u : Int) = (mtu - (20 + (p.Options.length : Int))) / 8 := ⟨((mtu - (20 + (p.Options.length : Int))) / 8).toNat, by omega⟩
  have hu1 : 1 ≤ u := by omega
  have hu2 : u ≤ 2500 := by omega
  have e6 : IntKind.i64.wrap ((IntKind.i64.wrap (Int.tdiv (IntKind.i64.wrap (mtu - (20 + (p.Options.length : Int)))) 8)) * 8) = ((8 * u : Nat) : Int) := by
    rw [i64w (x := mtu - _) (by omega) (by omega), Int.tdiv_eq_ediv_of_nonneg (by omega), ← hu, i64w (x := (u : Int)) (by omega) (by omega), i64w (by omega) (by omega)]; omega
  have ech : slices_Chunk_s_byte_byte.f p.Data ((8 * u : Nat) : Int) = some (chunks p.Data (8 * u)) := by
    unfold slices_Chunk_s_byte_byte.f
    have a1 : ¬ (((8 * u : Nat) : Int) < 1) := by omega
    have a2 : 1 ≤ ((8 * u : Nat) : Int) ∧ (p.Data.length : Int) + ((8 * u : Nat) : Int) ≤ 9223372036854775807 := ⟨by omega, by omega⟩
    simp only [a1, decide_false, Bool.false_eq_true, if_false]
    rw [if_pos a2, Int.toNat_natCast]
  rw [e6, ech, Option.bind_some]
  obtain ⟨ys, hys⟩ : ∃ ys, chunks p.Data (8 * u) = ys := ⟨_, rfl⟩
  have hlen : ∀ j, j < ys.length ↔ j * (8 * u) < p.Data.length := fun j => by rw [← hys]; exact chunks_len _ _ (by omega) j
  have hget : ∀ j (hj : j < ys.length), ys[j] = (p.Data.drop (j * (8 * u))).take (8 * u) := fun j hj => by subst hys; exact chunks_get _ _ j hj
  rw [hys]
  have hk0 : 0 < ys.length := (hlen 0).2 (by omega)
  obtain ⟨k, hk⟩ : ∃ k, ys.length = k + 1 := ⟨ys.length - 1, by omega⟩
  have m8 : ∀ j : Nat, j * (8 * u) = 8 * (j * u) := fun j => Nat.mul_left_comm j 8 u
  have hkD := (hlen k).1 (by omega)
  rw [m8] at hkD
  have hku : (k + 1) * u = k * u + u := Nat.succ_mul k u
  have hkk : k ≤ k * u := Nat.le_mul_of_pos_right k (by omega)
  have hyl : ∀ y ∈ ys, y.length ≤ 100000 := fun y hy => by
    obtain ⟨i, hi, rfl⟩ := List.getElem_of_mem hy
    rw [hget i hi, List.length_take]; omega
  obtain ⟨q', hq1, hq2⟩ := pcs_rng ys [] p (by simp; omega) hyl
  simp only [lt_eq] at hq2
  rw [hq2, Option.bind_some, List.nil_append]
  have hpl := pcs_len ys p
  have hfull : ∀ i (hi : i < ys.length), i + 1 < ys.length → ys[i].length = 8 * u := fun i hi hi2 => by
    have a := (hlen (i + 1)).1 hi2
    rw [hget i hi, List.length_take, List.length_drop]
    rw [Nat.succ_mul] at a
    omega
  have hpg := pcs_get ys p u hfull ⟨h6.1, by omega⟩ (by rw [hk, Nat.mul_comm, hku]; omega) (by omega) (by omega)
  have ew : IntKind.i64.wrap (((pcs p ys).length : Int) - 1) = (k : Int) := by rw [hpl, hk, i64w (by omega) (by omega)]; omega
  have hx2 : idx (pcs p ys) (k : Int) = some ⟨p.Tos, p.Id, bits .or .i64 p.Flags 1, p.Off + (k * u : Nat), p.Ttl, p.Proto, p.Src, p.Dst, p.Options, ys[k]⟩ := by
    unfold idx; rw [if_pos (by omega), Int.toNat_natCast]; exact hpg k (by omega)
  rw [ew, hx2, Option.bind_some, Int.toNat_natCast, hq1]
  obtain ⟨L, hL⟩ : ∃ L, (pcs p ys).set k ⟨p.Tos, p.Id, p.Flags, p.Off + (k * u : Nat), p.Ttl, p.Proto, p.Src, p.Dst, p.Options, ys[k]⟩ = L := ⟨_, rfl⟩
  rw [hL]
  have hLl : L.length = k + 1 := by rw [← hL, List.length_set, hpl, hk]
  have hLg : ∀ j (hj : j < L.length), ∃ fl, L[j] = ⟨p.Tos, p.Id, fl, p.Off + (j * u : Nat), p.Ttl, p.Proto, p.Src, p.Dst, p.Options, ys[j]'(by omega)⟩ ∧ (0 ≤ fl ∧ fl < 8) ∧ (j + 1 < L.length → ¬ Int.tmod fl 2 = 0) ∧ (j + 1 = L.length → fl = p.Flags) := fun j hj => by
    have hj2 : j < ys.length := by omega
    by_cases hjk : j = k
    · subst hjk
      refine ⟨p.Flags, ?_, h5, fun hh => by omega, fun _ => rfl⟩
      have : L[j]? = some ⟨p.Tos, p.Id, p.Flags, p.Off + (j * u : Nat), p.Ttl, p.Proto, p.Src, p.Dst, p.Options, ys[j]⟩ := by
        rw [← hL, List.getElem?_set_self (by omega)]
      rw [List.getElem?_eq_getElem hj] at this
      exact Option.some.inj this
    · refine ⟨bits .or .i64 p.Flags 1, ?_, ?_, fun _ => ?_, fun hh => by omega⟩
      · have := hpg j hj2
        have h2 : L[j]? = (pcs p ys)[j]? := by rw [← hL, List.getElem?_set_ne (by omega)]
        rw [← h2, List.getElem?_eq_getElem hj] at this
        exact Option.some.inj this
      · rw [or1 _ h5]; omega
      · rw [or1 _ h5, Int.tmod_eq_emod_of_nonneg (by omega)]; omega
  refine ⟨L, fun j => p.Data.take (j * (8 * u)), rfl, by simp, ?_, by omega, by omega, fun j hj => ?_⟩
  · show p.Data.take (L.length * (8 * u)) = p.Data
    rw [hLl, ← hk, List.take_of_length_le]
    exact Nat.le_of_not_lt fun hh => Nat.lt_irrefl _ ((hlen ys.length).2 hh)
  · obtain ⟨fl, g1, g2, g3, g4⟩ := hLg j hj
    have hj2 : j < ys.length := by omega
    have hjD := (hlen j).1 hj2
    have hjD' : 8 * (j * u) < p.Data.length := by rw [← m8]; exact hjD
    have hAl : (p.Data.take (j * (8 * u))).length = 8 * (j * u) := by rw [List.length_take, m8]; omega
    have hyj : (ys[j]).length ≤ 8 * u := by rw [hget j hj2, List.length_take]; omega
    obtain ⟨x, hx⟩ : ∃ x, L[j] = x := ⟨_, rfl⟩
    rw [hx]
    rw [hx] at g1
    have hIR : IR x := by
      obtain ⟨a1, a2, _, _, a5, a6, _⟩ := h
      rw [g1]
      refine ⟨a1, a2, ?_, ?_, a5, a6, ?_⟩
      · show ishr .i64 fl 3 = 0
        rw [shr3]; omega
      · show ishr .i64 (p.Off + (j * u : Nat)) 13 = 0
        rw [shr13]; omega
      · show ((ys[j]).length : Int) ≤ 65515 - p.Options.length
        omega
    have hxo : x.Options = p.Options := by rw [g1]
    have hxs : x.Src = p.Src := by rw [g1]
    have hxd : x.Dst = p.Dst := by rw [g1]
    have hxD : x.Data = ys[j] := by rw [g1]
    refine ⟨⟨putP x, by rw [ipPut_is x (by rw [hxo]; exact go.1) (by rw [hxo]; exact hob) (by rw [hxs]; exact hs) (by rw [hxd]; exact hd), if_pos hIR], ?_⟩, ?_, ?_, fun hh => ?_, fun hh => ?_, by rw [g1], ?_⟩
    · unfold putP; rw [List.length_append, len_patched, hxo, hxD]; omega
    · show x.Off = IntKind.i64.wrap (p.Off + IntKind.i64.wrap (Int.tdiv ((p.Data.take (j * (8 * u))).length : Int) 8))
      rw [hAl, Int.tdiv_eq_ediv_of_nonneg (by omega), i64w (x := ((8 * (j * u) : Nat) : Int) / 8) (by omega) (by omega), i64w (by omega) (by omega), g1]
      show p.Off + ((j * u : Nat) : Int) = _
      omega
    · show Int.tmod ((p.Data.take (j * (8 * u))).length : Int) 8 = 0
      rw [hAl, Int.tmod_eq_emod_of_nonneg (by omega)]; omega
    · rw [g1]; exact g3 hh
    · rw [g1]; exact g4 hh
    · show app (p.Data.take (j * (8 * u))) x.Data = some (p.Data.take ((j + 1) * (8 * u)))
      rw [hxD, hget j hj2]
      generalize 8 * u = M
      rw [Nat.succ_mul, List.take_add, app_k _ _ (by
        have b1 := List.length_take_le' (j * M) p.Data
        have b2 := List.length_take_le' M (p.Data.drop (j * M))
        have b3 := List.length_drop (i := j * M) (l := p.Data)
        omega)]
theorem ipPieces (p : TIp) (gp : gIp p) (mtu : Int) (gm : InR .i64 mtu) : law17_IpPieces.f p mtu = some true := by
  unfold law17_IpPieces.f
  by_cases c : 20000 < (p.Data.length : Int)
  · simp [c, heads17]
  simp only [c, decide_false, Bool.false_eq_true, if_false]
  rcases cut_cases p gp mtu (inr64 gm) (by omega) with ⟨e, h1, h2⟩ | ⟨L, A, h1, h2, h3, h4, h5, h6⟩
  · rw [h2]; simp [h1, heads17]
  · rw [h1]
    have hl := pieces_loop p mtu (L, 0) A h2 h5 h6
    simp only [Option.bind_some, decide_true, Bool.not_true, Bool.false_eq_true, if_false]
    rw [show loop _ (([] : List Int), (0 : Int)) = _ from hl, Option.bind_some]
    have c4 : (0 : Int) < (L.length : Int) := by omega
    simp [h3, rsame, heads17, h4]
end Go.Proofs.YtaiadolmjmacfaaDoor.S
