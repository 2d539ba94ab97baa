/- What the function of the law UdpBack answers: true, whatever the datagram, the addresses and what stands behind. Its conditions: what data of these types are. -/
import Derived.Test.YtfoffhdckcdjdaaDoorPureUdpMore
namespace Go.Proofs.YtfoffhdckcdjdaaDoor.S
open Go Go.SL
set_option linter.unusedVariables false
set_option linter.unusedSimpArgs false
theorem same_self (u : TUdp) : ref18_Same.f u u = some true := by simp [ref18_Same.f, lt]
theorem udpBack (u : TUdp) (g : gUdp u) (a : Int) (ha : InR .u32 a) (b : Int) (hb : InR .u32 b) (more : List Int) (hm : more.length ≤ maxLen ∧ ∀ z ∈ more, InR .u8 z) : law18_UdpBack.f u a b more = some true := by
  obtain ⟨g1, g2, g8, g9⟩ := g
  have hd : Byt u.Data := Byt.of g9
  have hbm : Byt more := Byt.of hm.2
  unfold law18_UdpBack.f
  by_cases c1 : (70000 : Int) < u.Data.length
  · rw [if_pos (by simpa using c1), Option.bind_some, if_pos rfl, heads]; rfl
  rw [if_neg (by simpa using c1), Option.bind_some]
  by_cases c2 : (100 : Int) < more.length
  · rw [if_pos (by simpa using c2), heads]; rfl
  rw [if_neg (by simpa using c2)]
  by_cases h : uOk u
  case neg =>
    rw [put_no u a b h, Option.bind_some, if_pos (by simp), if_pos (by simp), heads]; rfl
  have hck := ckU_bd u a b hd
  have hl := headU_len u (by2 (ckU u a b)) rfl
  obtain ⟨h1, h2, h3⟩ := id h
  rw [put_is u a b h hd, Option.bind_some, if_neg (by simp), app_ok _ _ (by simp; omega), Option.bind_some, List.nil_append, app_ok _ _ (by show (headU u (by2 (ckU u a b))).length + more.length ≤ _; omega), Option.bind_some, get_put u a b h hd _ hck a b (right_put u a b hd) more hbm (by omega), Option.bind_some]
  have x6 : idx (headU u (by2 (ckU u a b))) 6 = some (ckU u a b / 256 % 256) := rfl
  have x7 : idx (headU u (by2 (ckU u a b))) 7 = some (ckU u a b % 256) := rfl
  have hlen : ((headU u (by2 (ckU u a b))).length : Int) = IntKind.i64.wrap (8 + (u.Data.length : Int)) := by rw [i64w (by omega) (by omega), hl]; push_cast; rfl
  simp only [decide_true, if_true, same_self, Option.bind_some, hlen, x6, x7, heads]
  by_cases c : ckU u a b / 256 % 256 = 0
  · have : ¬ ckU u a b % 256 = 0 := by omega
    simp [c, this]
  · simp [c]
end Go.Proofs.YtfoffhdckcdjdaaDoor.S
