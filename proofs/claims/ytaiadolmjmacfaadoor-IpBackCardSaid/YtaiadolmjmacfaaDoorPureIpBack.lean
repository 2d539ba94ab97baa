/- What the law IpBack answers: true. Its conditions: what the data are. -/
import Derived.Test.YtaiadolmjmacfaaDoorPureIpGet
namespace Go.Proofs.YtaiadolmjmacfaaDoor.S
open Go Go.SL
set_option linter.unusedVariables false
set_option linter.unusedSimpArgs false
def gIp (p : TIp) : Prop := InR .i64 p.Tos ∧ InR .i64 p.Id ∧ InR .i64 p.Flags ∧ InR .i64 p.Off ∧ InR .i64 p.Ttl ∧ InR .i64 p.Proto ∧ InR .u32 p.Src ∧ InR .u32 p.Dst ∧ (p.Options.length ≤ maxLen ∧ ∀ z ∈ p.Options, InR .u8 z) ∧ (p.Data.length ≤ maxLen ∧ ∀ z ∈ p.Data, InR .u8 z)
theorem same1 (p q : TIp) : ref17_Same.f [p] [q] = some (decide (p = q)) := by
  unfold ref17_Same.f
  have e0 : idx [p] 0 = some p := rfl
  have e1 : idx [q] 0 = some q := rfl
  by_cases h : p = q
  · subst h
    have hw : IntKind.i64.wrap (0 + 1) = 1 := by decide
    rw [loop_in (s' := (1 : Int)) (by simp [e0, lt]; decide), loop_out (r := (.inl () : Unit ⊕ Bool)) (by simp)]
    simp
  · have key : (if (!decide (p.Tos = q.Tos)) = true then some (true) else (if (!decide (p.Id = q.Id)) = true then some (true) else (if (!decide (p.Flags = q.Flags)) = true then some (true) else (if (!decide (p.Off = q.Off)) = true then some (true) else (if (!decide (p.Ttl = q.Ttl)) = true then some (true) else (if (!decide (p.Proto = q.Proto)) = true then some (true) else (if (!decide (p.Src = q.Src)) = true then some (true) else (if (!decide (p.Dst = q.Dst)) = true then some (true) else (if (!decide (p.Options = q.Options)) = true then some (true) else some ((!decide (p.Data = q.Data)))))))))))) = some true := by
      by_cases a1 : p.Tos = q.Tos
      case neg => simp [a1]
      by_cases a2 : p.Id = q.Id
      case neg => simp [a1, a2]
      by_cases a3 : p.Flags = q.Flags
      case neg => simp [a1, a2, a3]
      by_cases a4 : p.Off = q.Off
      case neg => simp [a1, a2, a3, a4]
      by_cases a5 : p.Ttl = q.Ttl
      case neg => simp [a1, a2, a3, a4, a5]
      by_cases a6 : p.Proto = q.Proto
      case neg => simp [a1, a2, a3, a4, a5, a6]
      by_cases a7 : p.Src = q.Src
      case neg => simp [a1, a2, a3, a4, a5, a6, a7]
      by_cases a8 : p.Dst = q.Dst
      case neg => simp [a1, a2, a3, a4, a5, a6, a7, a8]
      by_cases a9 : p.Options = q.Options
      case neg => simp [a1, a2, a3, a4, a5, a6, a7, a8, a9]
      by_cases a10 : p.Data = q.Data
      case neg => simp [a1, a2, a3, a4, a5, a6, a7, a8, a9, a10]
      exact absurd (by cases p; cases q; simp_all) h
    have hc : ((0 : Int) < (([p] : List TIp).length : Int)) := by simp
    have hlen : (([p] : List TIp).length : Int) = (([q] : List TIp).length : Int) := rfl
    simp only [hlen, decide_true, Bool.not_true, Bool.false_eq_true, if_false]
    rw [loop_out (r := (.inr false : Unit ⊕ Bool)) (by
      simp only [e0, e1, Option.bind_some]
      rw [if_pos (by simp), key]
      simp)]
    simp [h]
theorem getput (p : TIp) (h : IR p) (hb : Byt p.Options) (hD : Byt p.Data) (hs : 0 ≤ p.Src ∧ p.Src < 4294967296) (hd : 0 ≤ p.Dst ∧ p.Dst < 4294967296) (more : List Int) (hm : more.length ≤ 1000) : ip_Get.f (putP p ++ more) = some (p, 0) := by
  obtain ⟨h1, h2, h3, h4, h5, h6, h7, h8, h9⟩ := ir_num h
  obtain ⟨c, hc⟩ : ∃ c, ck (h10 p) (tl p) = c := ⟨_, rfl⟩
  have hp := (patch10 _ _ _ _ _ _ _ _ _ _ 0 0 (tl p) (byt_h10 h) (byt_tl hb) (by simp [tl, by4]; omega)).2
  have hp' : fold (sumP (patched (h10 p) (tl p))) = 65535 := hp
  have hpb : Byt (patched (h10 p) (tl p)) := Byt.app (byt_h10 h) (byt_cons (by omega) (byt_cons (by omega) (byt_tl hb)))
  have hlp := len_patched p
  obtain ⟨B, hB⟩ : ∃ B, putP p ++ more = B := ⟨_, rfl⟩
  have hBl : B.length = 20 + p.Options.length + p.Data.length + more.length := by rw [← hB]; unfold putP; rw [List.length_append, List.length_append, hlp]
  have hx : B = (64 + (5 + (p.Options.length : Int) / 4)) :: p.Tos :: ((20 + (p.Options.length : Int) + p.Data.length) / 256) :: ((20 + (p.Options.length : Int) + p.Data.length) % 256) :: (p.Id / 256) :: (p.Id % 256) :: (p.Flags * 32 + p.Off / 256) :: (p.Off % 256) :: p.Ttl :: p.Proto :: (c / 256 % 256) :: (c % 256) :: (p.Src / 16777216 % 256) :: (p.Src / 65536 % 256) :: (p.Src / 256 % 256) :: (p.Src % 256) :: (p.Dst / 16777216 % 256) :: (p.Dst / 65536 % 256) :: (p.Dst / 256 % 256) :: (p.Dst % 256) :: (p.Options ++ (p.Data ++ more)) := by
    rw [← hB, ← hc]; simp [putP, patched, h10, tl, by4]
  have hi0 : idx B 0 = some (64 + (5 + (p.Options.length : Int) / 4)) := by rw [hx]; rfl
  have cu : ∀ (lo hi : Nat) (x : List Int), hi ≤ B.length → lo ≤ hi → (B.take hi).drop lo = x → cut B (lo : Int) (hi : Int) = some x := fun lo hi x a1 a2 a3 => by
    unfold cut; rw [if_pos (by omega), Int.toNat_natCast, Int.toNat_natCast, a3]
  have g2 : ip_get_1.f 2 2 B = some (20 + (p.Options.length : Int) + p.Data.length) := gn B _ _ 2 2 4 (by decide) (cu 2 4 [_, _] (by omega) (by omega) (by rw [hx]; rfl)) (by rw [get2 (by omega) (by omega)]; congr 1; omega) (by omega)
  have g1 : ip_get_1.f 1 1 B = some p.Tos := gn B _ _ 1 1 2 (by decide) (cu 1 2 [_] (by omega) (by omega) (by rw [hx]; rfl)) (get1 h1) (by omega)
  have g4 : ip_get_1.f 4 2 B = some p.Id := gn B _ _ 4 2 6 (by decide) (cu 4 6 [_, _] (by omega) (by omega) (by rw [hx]; rfl)) (by rw [get2 (by omega) (by omega)]; congr 1; omega) (by omega)
  have g6 : ip_get_1.f 6 1 B = some (p.Flags * 32 + p.Off / 256) := gn B _ _ 6 1 7 (by decide) (cu 6 7 [_] (by omega) (by omega) (by rw [hx]; rfl)) (get1 (by omega)) (by omega)
  have g62 : ip_get_1.f 6 2 B = some (p.Flags * 8192 + p.Off) := gn B _ _ 6 2 8 (by decide) (cu 6 8 [_, _] (by omega) (by omega) (by rw [hx]; rfl)) (by rw [get2 (by omega) (by omega)]; congr 1; omega) (by omega)
  have g8 : ip_get_1.f 8 1 B = some p.Ttl := gn B _ _ 8 1 9 (by decide) (cu 8 9 [_] (by omega) (by omega) (by rw [hx]; rfl)) (get1 h2) (by omega)
  have g9 : ip_get_1.f 9 1 B = some p.Proto := gn B _ _ 9 1 10 (by decide) (cu 9 10 [_] (by omega) (by omega) (by rw [hx]; rfl)) (get1 h3) (by omega)
  have g12 : ip_get_1.f 12 4 B = some p.Src := gn B _ _ 12 4 16 (by decide) (cu 12 16 (by4 p.Src) (by omega) (by omega) (by rw [hx]; rfl)) (get_by4 hs) (by omega)
  have g16 : ip_get_1.f 16 4 B = some p.Dst := gn B _ _ 16 4 20 (by decide) (cu 16 20 (by4 p.Dst) (by omega) (by omega) (by rw [hx]; rfl)) (get_by4 hd) (by omega)
  have hh : cut B 0 (20 + (p.Options.length : Int)) = some (patched (h10 p) (tl p)) := by
    rw [← hB]; unfold putP
    rw [List.append_assoc]
    exact cut_at [] (patched (h10 p) (tl p)) (p.Data ++ more) 0 (20 + (p.Options.length : Int)) rfl (by simp only [List.length_nil]; omega)
  have ho : cut B 20 (20 + (p.Options.length : Int)) = some p.Options := by
    have hdrop : B.drop 20 = p.Options ++ (p.Data ++ more) := by rw [hx]; rfl
    have ht : (20 + (p.Options.length : Int)).toNat = 20 + p.Options.length := by omega
    unfold cut
    rw [if_pos (by omega), ht, show (20 : Int).toNat = 20 from rfl, List.drop_take, hdrop, show 20 + p.Options.length - 20 = p.Options.length by omega, List.take_left]
  have hda : cut B (20 + (p.Options.length : Int)) (20 + (p.Options.length : Int) + p.Data.length) = some p.Data := by
    rw [← hB]; unfold putP
    rw [List.append_assoc]
    exact cut_at _ _ _ _ _ (by rw [hlp]; omega) (by rw [hlp]; omega)
  have e0 : ¬ ((B.length : Int) < 20) := by omega
  have e1 : IntKind.i64.wrap (bits .and .u8 (64 + (5 + (p.Options.length : Int) / 4)) 15 * 4) = 20 + (p.Options.length : Int) := by rw [and15 _ (by omega), i64w (by omega) (by omega)]; omega
  have e2 : ishr .u8 (64 + (5 + (p.Options.length : Int) / 4)) 4 = 4 := by rw [shr4]; omega
  have e3 : ¬ (20 + (p.Options.length : Int) < 20) := by omega
  have e4 : ¬ ((B.length : Int) < 20 + (p.Options.length : Int)) := by omega
  have e5 : ¬ (20 + (p.Options.length : Int) + p.Data.length < 20 + (p.Options.length : Int)) := by omega
  have e6 : ¬ ((B.length : Int) < 20 + (p.Options.length : Int) + p.Data.length) := by omega
  have e7 : ishr .i64 (p.Flags * 32 + p.Off / 256) 5 = p.Flags := by rw [shr5]; omega
  have e8 : bits .and .i64 (p.Flags * 8192 + p.Off) 8191 = p.Off := by rw [and13]; omega
  have e9 : IntKind.u32.wrap p.Src = p.Src := by rw [u32w']; omega
  have e10 : IntKind.u32.wrap p.Dst = p.Dst := by rw [u32w']; omega
  have er : sum_Right.f (patched (h10 p) (tl p)) = some true := by rw [right_is hpb (by omega), hp']; rfl
  have eo := cloneB p.Options (by omega)
  have ed := cloneB p.Data (by omega)
  rw [hB]
  unfold ip_Get.f ip_get.f
  simp only [lt, e0, decide_false, Bool.false_eq_true, if_false, hi0, Option.bind_some, e1, e2, decide_true, Bool.not_true, e3, e4, hh, er, g2, e5, e6, g1, g4, g6, g62, g8, g9, g12, g16, ho, eo, hda, ed, e7, e8, e9, e10, ip_errno.f]
theorem ipBack (p : TIp) (gp : gIp p) (more : List Int) (gm : more.length ≤ maxLen ∧ ∀ z ∈ more, InR .u8 z) : law17_IpBack.f p more = some true := by
  obtain ⟨_, _, _, _, _, _, gs, gd, go, gD⟩ := gp
  have hs := inrU32 gs
  have hd := inrU32 gd
  unfold law17_IpBack.f
  by_cases c1 : 20000 < (p.Data.length : Int)
  · simp [c1, heads17]
  by_cases c2 : 1000 < (more.length : Int)
  · simp [c1, c2, heads17]
  simp only [c1, c2, decide_false, Bool.false_eq_true, if_false, Option.bind_some]
  rw [ipPut_is p go.1 (Byt.of go.2) hs hd]
  by_cases h : IR p
  case neg => simp [h, heads17]
  obtain ⟨h1, h2, h3, h4, h5, h6, h7, h8, h9⟩ := ir_num h
  have hl : (putP p).length = 20 + p.Options.length + p.Data.length := by unfold putP; rw [List.length_append, len_patched]
  rw [if_pos h]
  simp only [Option.bind_some, decide_true, Bool.not_true, Bool.false_eq_true, if_false, if_true]
  rw [app_k _ _ (by simp; omega), Option.bind_some, app_k _ _ (by simp; omega), Option.bind_some, List.nil_append, getput p h (Byt.of go.2) (Byt.of gD.2) hs hd more (by omega)]
  have e1 : IntKind.i64.wrap (IntKind.i64.wrap (20 + (p.Options.length : Int)) + (p.Data.length : Int)) = 20 + (p.Options.length : Int) + p.Data.length := by rw [i64w (x := 20 + _) (by omega) (by omega), i64w (by omega) (by omega)]
  simp only [Option.bind_some, decide_true, if_true, law17_one.f, same1, e1, hl]
  have e2 : (((20 + p.Options.length + p.Data.length : Nat) : Int)) = 20 + (p.Options.length : Int) + p.Data.length := by omega
  simp [e2, heads17]
end Go.Proofs.YtaiadolmjmacfaaDoor.S
