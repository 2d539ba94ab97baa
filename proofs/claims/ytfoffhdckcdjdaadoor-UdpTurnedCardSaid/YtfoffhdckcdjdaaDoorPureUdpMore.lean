/- More plain facts on datagrams; each states its own conditions. -/
import Derived.Test.YtfoffhdckcdjdaaDoorPureUdp
namespace Go.Proofs.YtfoffhdckcdjdaaDoor.S
open Go Go.SL
set_option linter.unusedVariables false
set_option linter.unusedSimpArgs false
theorem get_put (u : TUdp) (a b : Int) (h : uOk u) (hd : Byt u.Data) (ck : Int) (hck : 1 ≤ ck ∧ ck ≤ 65535) (x y : Int) (hr : fold (sumP (pseudoP x y 17 (8 + u.Data.length) ++ headU u (by2 ck))) = 65535) (more : List Int) (hm : Byt more) (hml : more.length ≤ 100) :
    udp_Get.f (headU u (by2 ck) ++ more) x y = some (u, 0) := by
  obtain ⟨h1, h2, h3⟩ := id h
  have hl := headU_len u (by2 ck) rfl
  have hbb : Byt (headU u (by2 ck) ++ more) := (byt_headU hd (byt2 _)).app hm
  obtain ⟨v0, v1, v2, v3, hloop, ⟨x0, k0, _, s0⟩, ⟨x2, k2, _, s2⟩, ⟨x4, k4, _, s4⟩, ⟨p, q, hp, hq, hv3, hpb, hqb⟩, b0, b1, b2⟩ := get_loop (headU u (by2 ck) ++ more) hbb (by rw [List.length_append]; omega)
  have e0 : cut (headU u (by2 ck) ++ more) 0 2 = some (by2 u.Src) := by
    have := cut_at [] (by2 u.Src) (by2 u.Dst ++ (by2 (8 + u.Data.length) ++ (by2 ck ++ u.Data)) ++ more) 0 2 rfl rfl
    simpa [headU] using this
  have e2 : cut (headU u (by2 ck) ++ more) 2 4 = some (by2 u.Dst) := by
    have := cut_at (by2 u.Src) (by2 u.Dst) ((by2 (8 + u.Data.length) ++ (by2 ck ++ u.Data)) ++ more) 2 4 rfl rfl
    simpa [headU] using this
  have e4 : cut (headU u (by2 ck) ++ more) 4 6 = some (by2 (8 + u.Data.length)) := by
    have := cut_at (by2 u.Src ++ by2 u.Dst) (by2 (8 + u.Data.length)) ((by2 ck ++ u.Data) ++ more) 4 6 rfl rfl
    simpa [headU] using this
  rw [e0] at k0; rw [e2] at k2; rw [e4] at k4
  cases k0; cases k2; cases k4
  rw [get_by2 h1] at s0; rw [get_by2 h2] at s2; rw [get_by2 ⟨by omega, by omega⟩] at s4
  have z0 : v0 = u.Src := by simpa using s0.symm
  have z1 : v1 = u.Dst := by simpa using s2.symm
  have z2 : v2 = 8 + u.Data.length := by simpa using s4.symm
  have hp' : p = ck / 256 % 256 := by
    have : (headU u (by2 ck) ++ more)[6]? = some (ck / 256 % 256) := rfl
    rw [this] at hp; simpa using hp.symm
  have hq' : q = ck % 256 := by
    have : (headU u (by2 ck) ++ more)[7]? = some (ck % 256) := rfl
    rw [this] at hq; simpa using hq.symm
  rw [get_res _ hbb (by rw [List.length_append]; omega) x y (by rw [List.length_append]; omega) hloop b2]
  unfold gRes
  have ht : (headU u (by2 ck) ++ more).take v2.toNat = headU u (by2 ck) := by
    rw [List.take_append_of_le_length (by omega), List.take_of_length_le (by omega)]
  rw [ht, if_neg (by omega), if_neg (by rw [List.length_append]; omega), if_neg (by rw [z2, hr]; simp)]
  subst z0; subst z1
  rfl
theorem sum_headU (u : TUdp) (x : Int) (p : List Int) (hp : p.length % 2 = 0) : sumP (p ++ headU u (by2 x)) = sumP (p ++ headU u [0, 0]) + (x / 256 % 256 * 256 + x % 256) := by
  rw [sumP_append _ _ hp, sumP_append _ _ hp]
  simp only [headU, by2, List.cons_append, List.nil_append, sumP]
  omega
theorem right_put (u : TUdp) (a b : Int) (hd : Byt u.Data) : fold (sumP (pseudoP a b 17 (8 + u.Data.length) ++ headU u (by2 (ckU u a b)))) = 65535 := by
  rw [sum_headU _ _ _ (by rw [psp_len])]
  have h0 := sU_nn u a b hd
  have hf := fold_bd h0
  have hck := ckU_bd u a b hd
  have hw : ckU u a b / 256 % 256 * 256 + ckU u a b % 256 = ckU u a b := by omega
  rw [hw]
  show fold (sU u a b + ckU u a b) = 65535
  unfold ckU
  generalize sU u a b = S at *
  unfold fold at *
  split at * <;> split <;> split at * <;> omega
end Go.Proofs.YtfoffhdckcdjdaaDoor.S
