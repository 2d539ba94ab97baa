/- Plain facts on messages of who gets an address: their bytes, their options; each states its own conditions. -/
import Derived.OpenShut
import Derived.Test.YtpbofaghnfheiaaPx1
import Derived.Test.YtpbofaghnfheiaaPx2
import Derived.Test.YtpbofaghnfheiaaPx3
import Derived.Test.YtpbofaghnfheiaaPx4
import Derived.Test.YtpbofaghnfheiaaPx5
namespace Go.Proofs.Ytpbofaghnfheiaa.Pure
set_option linter.unusedVariables false
open Go.RowKit Go.Proofs.Ytpbofaghnfheiaa.Aux Go.Proofs.Ytpbofaghnfheiaa.P Go.Proofs.YtpbofaghnfheiaaW.PrintWords Go.Proofs.YtpbofaghnfheiaaW.PrintLast Go.Proofs.YtpbofaghnfheiaaW.PrintMore
def okB (l : List Int) : Prop := ∀ x ∈ l, 0 ≤ x ∧ x < 256
theorem okB_of {l : List Int} (h : ∀ x ∈ l, (Lit.int .u8 x).wf = true) : okB l := fun x hx => by
  have := bounds_u8 (h x hx)
  omega
theorem okB_sub {a b : List Int} (h : ∀ x ∈ a, x ∈ b) (hb : okB b) : okB a := fun x hx => hb x (h x hx)
theorem okB_append {a b : List Int} (ha : okB a) (hb : okB b) : okB (a ++ b) := fun x hx => (List.mem_append.1 hx).elim (ha x) (hb x)
theorem okB_cons {a : Int} {b : List Int} (h0 : 0 ≤ a) (h1 : a < 256) (hb : okB b) : okB (a :: b) := fun x hx => by
  rcases List.mem_cons.1 hx with rfl | hx
  · exact ⟨h0, h1⟩
  · exact hb x hx
theorem okB_nil : okB [] := fun x hx => by cases hx
theorem okB_zeros (n : Nat) : okB (List.replicate n 0) := fun x hx => by rw [List.eq_of_mem_replicate hx]; omega
theorem w64 {x : Int} (h0 : -9223372036854775808 ≤ x) (h1 : x ≤ 9223372036854775807) : wrap64 x = x := by unfold wrap64; omega
theorem wu64 {x : Int} (h0 : 0 ≤ x) (h1 : x < 18446744073709551616) : IntKind.u64.wrap x = x := wraps_u64 x h0 h1
theorem wu32 (x : Int) : IntKind.u32.wrap x = x % 4294967296 := by rfl
theorem wu8 (x : Int) : IntKind.u8.wrap x = x % 256 := by rfl
/-- A number's four bytes. -/
def u4 (x : Int) : List Int := [x / 16777216 % 256, x / 65536 % 256, x / 256 % 256, x % 256]
/-- Four bytes' number. -/
def g4 : List Int → Int
  | [a, b, c, d] => a * 16777216 + b * 65536 + c * 256 + d
  | [a] => a
  | _ => 0
theorem u4_len (x : Int) : (u4 x).length = 4 := rfl
theorem u4_ok (x : Int) : okB (u4 x) := okB_cons (by omega) (by omega) (okB_cons (by omega) (by omega) (okB_cons (by omega) (by omega) (okB_cons (by omega) (by omega) okB_nil)))
theorem g4_u4 {x : Int} (h0 : 0 ≤ x) (h1 : x < 4294967296) : g4 (u4 x) = x := by
  simp only [u4, g4]; omega
theorem g4_bd : ∀ {l : List Int}, okB l → 0 ≤ g4 l ∧ g4 l < 4294967296
  | [a, b, c, d], h => by
    have h1 := h a (by simp); have h2 := h b (by simp); have h3 := h c (by simp); have h4 := h d (by simp)
    simp only [g4]; omega
  | [a], h => by have h1 := h a (by simp); simp only [g4]; omega
  | [], _ => by simp [g4]
  | [_, _], _ => by simp [g4]
  | [_, _, _], _ => by simp [g4]
  | _ :: _ :: _ :: _ :: _ :: _, _ => by simp [g4]
theorem or_swap (x y : Int) : bits .or .u64 x y = bits .or .u64 y x := by
  simp only [bits, BitVec.or_comm]
theorem join64_0 (x y : Int) (h0 : 0 ≤ x) (h1 : x < 1) (h2 : 0 ≤ y) (h3 : y < 256) : bits .or .u64 x (shl .u64 (IntKind.u64.wrap y) 0) = x + y * 1 := by
  rw [wu64 h2 (by omega), show shl .u64 y 0 = y * 1 from by unfold shl; exact wu64 (x := y * 1) (by omega) (by omega), or_swap, bits_join .u64 63 (by decide) (fun n a b => wraps_u64 n a (by omega)) 0 (y * 1) x (by omega) (by show y * 1 % 1 = 0; omega) (by show y * 1 < 9223372036854775808; omega) h0 (by show x < 1; omega) (by show x < 9223372036854775808; omega)]
  omega
theorem join64_8 (x y : Int) (h0 : 0 ≤ x) (h1 : x < 256) (h2 : 0 ≤ y) (h3 : y < 256) : bits .or .u64 x (shl .u64 (IntKind.u64.wrap y) 8) = x + y * 256 := by
  rw [wu64 h2 (by omega), show shl .u64 y 8 = y * 256 from by unfold shl; exact wu64 (x := y * 256) (by omega) (by omega), or_swap, bits_join .u64 63 (by decide) (fun n a b => wraps_u64 n a (by omega)) 8 (y * 256) x (by omega) (by show y * 256 % 256 = 0; omega) (by show y * 256 < 9223372036854775808; omega) h0 (by show x < 256; omega) (by show x < 9223372036854775808; omega)]
  omega
theorem join64_16 (x y : Int) (h0 : 0 ≤ x) (h1 : x < 65536) (h2 : 0 ≤ y) (h3 : y < 256) : bits .or .u64 x (shl .u64 (IntKind.u64.wrap y) 16) = x + y * 65536 := by
  rw [wu64 h2 (by omega), show shl .u64 y 16 = y * 65536 from by unfold shl; exact wu64 (x := y * 65536) (by omega) (by omega), or_swap, bits_join .u64 63 (by decide) (fun n a b => wraps_u64 n a (by omega)) 16 (y * 65536) x (by omega) (by show y * 65536 % 65536 = 0; omega) (by show y * 65536 < 9223372036854775808; omega) h0 (by show x < 65536; omega) (by show x < 9223372036854775808; omega)]
  omega
theorem join64_24 (x y : Int) (h0 : 0 ≤ x) (h1 : x < 16777216) (h2 : 0 ≤ y) (h3 : y < 256) : bits .or .u64 x (shl .u64 (IntKind.u64.wrap y) 24) = x + y * 16777216 := by
  rw [wu64 h2 (by omega), show shl .u64 y 24 = y * 16777216 from by unfold shl; exact wu64 (x := y * 16777216) (by omega) (by omega), or_swap, bits_join .u64 63 (by decide) (fun n a b => wraps_u64 n a (by omega)) 24 (y * 16777216) x (by omega) (by show y * 16777216 % 16777216 = 0; omega) (by show y * 16777216 < 9223372036854775808; omega) h0 (by show x < 16777216; omega) (by show x < 9223372036854775808; omega)]
  omega
theorem bits_Put_4 (x : Int) : bits_Put.f 20 x 4 true = some [x / 16777216 % 256, x / 65536 % 256, x / 256 % 256, x / 1 % 256] := by kernel_rfl
theorem bits_Get_1 (a : Int) : bits_Get.f 20 [a] true = some (bits .or .u64 0 (shl .u64 (IntKind.u64.wrap a) 0)) := by kernel_rfl
theorem bits_Get_4 (a b c d : Int) : bits_Get.f 20 [a, b, c, d] true = some (bits .or .u64 (bits .or .u64 (bits .or .u64 (bits .or .u64 0 (shl .u64 (IntKind.u64.wrap d) 0)) (shl .u64 (IntKind.u64.wrap c) 8)) (shl .u64 (IntKind.u64.wrap b) 16)) (shl .u64 (IntKind.u64.wrap a) 24)) := by kernel_rfl
theorem put4 {k : Nat} (hk : 20 ≤ k) {x : Int} (h0 : 0 ≤ x) (h1 : x < 4294967296) : bits_Put.f k (IntKind.u64.wrap x) 4 true = some (u4 x) := by
  rw [wu64 h0 (by omega)]
  have h := bits_Put_4 x
  rw [Int.ediv_one] at h
  exact at_rounds (g := fun k => bits_Put.f k x 4 true) (fun k => bits_Put.mono _ _ _ k) hk h
theorem get1 {k : Nat} (hk : 20 ≤ k) {a : Int} (h0 : 0 ≤ a) (h1 : a < 256) : bits_Get.f k [a] true = some a := by
  have h := bits_Get_1 a
  rw [show bits .or .u64 0 (shl .u64 (IntKind.u64.wrap a) 0) = a from by have := join64_0 0 a (by omega) (by omega) h0 h1; omega] at h
  exact at_rounds (g := fun k => bits_Get.f k [a] true) (fun k => bits_Get.mono _ _ k) hk h
theorem get4 {k : Nat} (hk : 20 ≤ k) {l : List Int} (hl : l.length = 4) (h : okB l) : bits_Get.f k l true = some (g4 l) := by
  match l, hl with
  | [a, b, c, d], _ =>
    have h1 := h a (by simp); have h2 := h b (by simp); have h3 := h c (by simp); have h4 := h d (by simp)
    have e := bits_Get_4 a b c d
    rw [show bits .or .u64 0 (shl .u64 (IntKind.u64.wrap d) 0) = d from by have := join64_0 0 d (by omega) (by omega) h4.1 h4.2; omega,
      show bits .or .u64 d (shl .u64 (IntKind.u64.wrap c) 8) = d + c * 256 from join64_8 d c h4.1 (by omega) h3.1 h3.2,
      show bits .or .u64 (d + c * 256) (shl .u64 (IntKind.u64.wrap b) 16) = d + c * 256 + b * 65536 from join64_16 _ b (by omega) (by omega) h2.1 h2.2,
      show bits .or .u64 (d + c * 256 + b * 65536) (shl .u64 (IntKind.u64.wrap a) 24) = d + c * 256 + b * 65536 + a * 16777216 from join64_24 _ a (by omega) (by omega) h1.1 h1.2] at e
    rw [show g4 [a, b, c, d] = d + c * 256 + b * 65536 + a * 16777216 from by simp only [g4]; omega]
    exact at_rounds (g := fun k => bits_Get.f k [a, b, c, d] true) (fun k => bits_Get.mono _ _ k) hk e
theorem put1 {k : Nat} (hk : 20 ≤ k) {l : List Int} {a x : Int} (ha : 0 ≤ a) (hl : a + 4 ≤ (l.length : Int)) (h0 : 0 ≤ x) (h1 : x < 4294967296) : dhcp_Put_1.f k l a x = some (splice l a.toNat (u4 x)) := by
  unfold dhcp_Put_1.f
  rw [if_pos ⟨ha, hl⟩, put4 hk h0 h1]
  rfl
theorem rdL_0 (a b c : List Int) : rd_L3 [a, b, c] 0 = a := rfl
theorem rdL_1 (a b c : List Int) : rd_L3 [a, b, c] 1 = b := rfl
theorem rdL_2 (a b c : List Int) : rd_L3 [a, b, c] 2 = c := rfl
theorem concat3 {k : Nat} (hk : 20 ≤ k) (a b c : List Int) (h : a.length + b.length + c.length < 140737488355328) : slices_Concat_byte_byte.f k [a, b, c] = some (a ++ b ++ c) := by
  refine at_rounds (g := fun k => slices_Concat_byte_byte.f k [a, b, c]) (fun k => slices_Concat_byte_byte.mono _ k) hk ?_
  show slices_Concat_byte_byte.f 20 [a, b, c] = _
  have e1 : wrap64 (0 + 1) = 1 := w64 (by decide) (by decide)
  have e2 : wrap64 (1 + 1) = 2 := w64 (by decide) (by decide)
  have e3 : wrap64 (2 + 1) = 3 := w64 (by decide) (by decide)
  have f1 : wrap64 (0 + (a.length : Int)) = a.length := w64 (by omega) (by omega) |>.trans (by omega)
  have f2 : wrap64 ((a.length : Int) + (b.length : Int)) = a.length + b.length := w64 (by omega) (by omega)
  have f3 : wrap64 ((a.length : Int) + (b.length : Int) + (c.length : Int)) = a.length + b.length + c.length := w64 (by omega) (by omega)
  have n1 : ¬ ((a.length : Int) < 0) := by omega
  have n2 : ¬ ((a.length : Int) + (b.length : Int) < 0) := by omega
  have n3 : ¬ ((a.length : Int) + (b.length : Int) + (c.length : Int) < 0) := by omega
  have g1 : slices_Grow_byte_byte.f ([] : List Int) ((a.length : Int) + b.length + c.length) = some [] := by
    unfold slices_Grow_byte_byte.f
    rw [if_pos (by omega)]
  have m1 : ([] : List Int).length + a.length < 140737488355328 := by simp; omega
  have m2 : (([] : List Int) ++ a).length + b.length < 140737488355328 := by simp; omega
  have m3 : (([] : List Int) ++ a ++ b).length + c.length < 140737488355328 := by simp; omega
  unfold slices_Concat_byte_byte.f
  rw [show (([a, b, c] : List (List Int)).length : Int) = 3 from rfl]
  have L : (([a, b, c] : List (List Int)).length : Int) = 3 := rfl
  rw [slices_Concat_byte_byte.l0, if_pos (by decide), if_pos (by decide), if_pos (by rw [L]; decide), rdL_0, f1, if_neg n1, e1]
  rw [slices_Concat_byte_byte.l0, if_pos (by decide), if_pos (by decide), if_pos (by rw [L]; decide), rdL_1, f2, if_neg n2, e2]
  rw [slices_Concat_byte_byte.l0, if_pos (by decide), if_pos (by decide), if_pos (by rw [L]; decide), rdL_2, f3, if_neg n3, e3]
  rw [slices_Concat_byte_byte.l0, if_neg (by decide), g1, Option.bind_some, L]
  rw [slices_Concat_byte_byte.l1, if_pos (by decide), if_pos (by decide), if_pos (by rw [L]; decide), rdL_0, if_pos m1, e1]
  rw [slices_Concat_byte_byte.l1, if_pos (by decide), if_pos (by decide), if_pos (by rw [L]; decide), rdL_1, if_pos m2, e2]
  rw [slices_Concat_byte_byte.l1, if_pos (by decide), if_pos (by decide), if_pos (by rw [L]; decide), rdL_2, if_pos m3, e3]
  rw [slices_Concat_byte_byte.l1, if_neg (by decide)]
  rfl
/-- An option of a number that is not nought. -/
def opt (kd x : Int) : List Int := if 0 < x then kd :: 4 :: u4 x else []
theorem opt_ok {kd x : Int} (h0 : 0 ≤ kd) (h1 : kd < 256) : okB (opt kd x) := by
  unfold opt
  split
  · exact okB_cons h0 h1 (okB_cons (by omega) (by omega) (u4_ok x))
  · exact okB_nil
theorem opt_len (kd x : Int) : (opt kd x).length ≤ 6 := by
  unfold opt
  split <;> simp [u4]
theorem put2 {k : Nat} (hk : 20 ≤ k) {l : List Int} {kd x : Int} (hl : l.length < 1000000) (h0 : 0 ≤ x) (h1 : x < 4294967296) : dhcp_Put_2.f k kd x l = some (l ++ opt kd x) := by
  unfold dhcp_Put_2.f opt
  by_cases h : 0 < x
  · rw [if_pos h, if_pos h, put4 hk h0 h1, Option.bind_some, concat3 hk _ _ _ (by simp [u4]; omega)]
    simp
  · rw [if_neg h, if_neg h]; simp
/-! ### The options -/
@[reducible] def good (x y : Int) (mp : List (Int × Int)) : Prop := 0 < optSize x ∧ mp.lookup x = none ∧ (y = optSize x ∨ (x = 3 ∨ x = 6) ∧ optSize x < y)
def O : Nat → List Int → List (Int × Int) → Option (List (Int × Int))
  | 0, _, mp => some mp
  | _ + 1, [], mp => some mp
  | _ + 1, [x], mp => if x = 255 then some mp else if x = 0 then some mp else none
  | n + 1, x :: y :: t, mp => if x = 255 then some mp else if x = 0 then O n (y :: t) mp else if (t.length : Int) < y then none else if good x y mp then O n (t.drop y.toNat) ((x, g4 (t.take (optSize x).toNat)) :: mp) else O n (t.drop y.toNat) mp
theorem optSize_cases (x : Int) : optSize x = 0 ∨ optSize x = 1 ∨ optSize x = 4 := by
  unfold optSize
  repeat' split
  all_goals simp
theorem get_n {k : Nat} (hk : 20 ≤ k) {l : List Int} {n : Int} (hn : n = 1 ∨ n = 4) (hl : (l.length : Int) = n) (h : okB l) : bits_Get.f k l true = some (g4 l) := by
  rcases hn with rfl | rfl
  · match l, hl with
    | [a], _ =>
      have := h a (by simp)
      exact get1 hk this.1 this.2
  · exact get4 hk (by omega) h
theorem options_is : ∀ (n : Nat) (b : List Int) (mp : List (Int × Int)) (k : Nat), b.length ≤ n → okB b → n + 21 ≤ k → dhcp_options.l k b mp = some (O n b mp) := by
  intro n
  induction n with
  | zero =>
    intro b mp k hb ho hk
    obtain ⟨k, rfl⟩ := Nat.exists_eq_add_of_le' (show 1 ≤ k by omega)
    rw [dhcp_options.l, if_pos (by omega)]
    rfl
  | succ n ih =>
    intro b mp k hb ho hk
    obtain ⟨k, rfl⟩ := Nat.exists_eq_add_of_le' (show 1 ≤ k by omega)
    match b with
    | [] => rw [dhcp_options.l, if_pos (show ([] : List Int).length = 0 from rfl)]; rfl
    | [x] =>
      rw [dhcp_options.l, if_neg (by simp)]
      simp only [show rd [x] 0 = x from rfl, O]
      by_cases h1 : x = 255
      · rw [if_pos h1, if_pos h1]
      rw [if_neg h1, if_neg h1]
      by_cases h2 : x = 0
      · rw [if_pos h2, if_pos h2]
        rw [show ([x] : List Int).drop 1 = [] from rfl, ih [] mp k (by simp) okB_nil (by omega)]
        cases n <;> rfl
      · rw [if_neg h2, if_neg h2, if_pos (by simp)]
    | x :: y :: t =>
      have hx := ho x (by simp)
      have hy := ho y (by simp)
      have ht : okB t := okB_sub (fun z hz => List.mem_cons_of_mem _ (List.mem_cons_of_mem _ hz)) ho
      have hl : t.length + 2 ≤ n + 1 := by simpa using hb
      rw [dhcp_options.l, if_neg (by simp)]
      simp only [show rd (x :: y :: t) 0 = x from rfl, show rd (x :: y :: t) 1 = y from rfl, O]
      by_cases h1 : x = 255
      · rw [if_pos h1, if_pos h1]
      rw [if_neg h1, if_neg h1]
      by_cases h2 : x = 0
      · rw [if_pos h2, if_pos h2]
        exact ih (y :: t) mp k (by simp; omega) (okB_sub (fun z hz => List.mem_cons_of_mem _ hz) ho) (by omega)
      rw [if_neg h2, if_neg h2, if_neg (by simp), if_neg (fun h => h ⟨hx.1, hx.2, hy.1, hy.2⟩)]
      have e1 : (((x :: y :: t).length : Int) - 2 < y) ↔ ((t.length : Int) < y) := by simp; omega
      by_cases h3 : (t.length : Int) < y
      · rw [if_pos (e1.2 h3), if_pos h3]
      rw [if_neg (fun h => h3 (e1.1 h)), if_neg h3]
      have e2 : (2 + y).toNat = y.toNat + 2 := by omega
      rw [e2]
      have ed : (x :: y :: t).drop (y.toNat + 2) = t.drop y.toNat := rfl
      have et : ((x :: y :: t).take (y.toNat + 2)).drop 2 = t.take y.toNat := rfl
      rw [ed, et]
      have od : okB (t.drop y.toNat) := okB_sub (fun z hz => List.mem_of_mem_drop hz) ht
      have ld : (t.drop y.toNat).length ≤ n := by rw [List.length_drop]; omega
      by_cases h4 : good x y mp
      · rw [if_pos h4, if_pos h4]
        have hs : optSize x ≤ y := by rcases h4.2.2 with h | h <;> omega
        have es : ((t.take y.toNat).take (optSize x).toNat) = t.take (optSize x).toNat := by rw [List.take_take]; congr 1; omega
        have hz : optSize x = 1 ∨ optSize x = 4 := by have := optSize_cases x; have := h4.1; omega
        have ot : okB (t.take (optSize x).toNat) := okB_sub (fun z hz => List.mem_of_mem_take hz) ht
        rw [es, get_n (by omega) hz (by rw [List.length_take]; omega) ot, Option.bind_some, wu32]
        have hb := g4_bd ot
        rw [show g4 (t.take (optSize x).toNat) % 4294967296 = g4 (t.take (optSize x).toNat) by omega]
        exact ih _ _ k ld od (by omega)
      · rw [if_neg h4, if_neg h4]
        exact ih _ _ k ld od (by omega)
theorem O_more : ∀ (n : Nat) (b : List Int) (mp : List (Int × Int)), b.length ≤ n → O (n + 1) b mp = O n b mp := by
  intro n
  induction n with
  | zero => intro b mp h; match b with | [] => rfl
  | succ n ih =>
    intro b mp h
    match b with
    | [] => rfl
    | [x] => rfl
    | x :: y :: t =>
      simp only [List.length_cons] at h
      have e1 := ih (y :: t) mp (by simp; omega)
      have e2 := fun m => ih (t.drop y.toNat) m (by rw [List.length_drop]; omega)
      rw [O, O, e1, e2, e2]
theorem O_any (b : List Int) (mp : List (Int × Int)) : ∀ n, b.length ≤ n → O n b mp = O b.length b mp := by
  intro n
  induction n with
  | zero => intro h; rw [show b.length = 0 by omega]
  | succ n ih =>
    intro h
    by_cases h' : b.length ≤ n
    · rw [O_more n b mp h', ih h']
    · rw [show b.length = n + 1 by omega]
/-- What options hold; none: they are none. -/
def OO (b : List Int) (mp : List (Int × Int)) : Option (List (Int × Int)) := O b.length b mp
theorem OO_nil (mp) : OO [] mp = some mp := rfl
theorem OO_end (t mp) : OO (255 :: t) mp = some mp := by
  unfold OO
  match t with
  | [] => rfl
  | y :: t => rfl
theorem OO_pad (t mp) : OO (0 :: t) mp = OO t mp := by
  unfold OO
  match t with
  | [] => rfl
  | y :: t => rfl
theorem OO_one {x : Int} (h1 : x ≠ 255) (h2 : x ≠ 0) (mp) : OO [x] mp = none := by
  unfold OO
  simp only [List.length_cons, List.length_nil, O]
  rw [if_neg h1, if_neg h2]
theorem OO_two {x y : Int} (h1 : x ≠ 255) (h2 : x ≠ 0) (t mp) : OO (x :: y :: t) mp = if (t.length : Int) < y then none else if good x y mp then OO (t.drop y.toNat) ((x, g4 (t.take (optSize x).toNat)) :: mp) else OO (t.drop y.toNat) mp := by
  unfold OO
  simp only [List.length_cons, O]
  rw [if_neg h1, if_neg h2]
  have e := fun m => O_any (t.drop y.toNat) m (t.length + 1) (by rw [List.length_drop]; omega)
  rw [e, e]
theorem options_all {b : List Int} (ho : okB b) {k : Nat} (hk : b.length + 21 ≤ k) : dhcp_options.f k b = some (OO b []) := options_is b.length b [] k (Nat.le_refl _) ho hk
/-- The values are numbers of four bytes. -/
theorem OO_bd : ∀ (n : Nat) (b : List Int) (mp mp' : List (Int × Int)), okB b → (∀ p ∈ mp, 0 ≤ p.2 ∧ p.2 < 4294967296) → O n b mp = some mp' → ∀ p ∈ mp', 0 ≤ p.2 ∧ p.2 < 4294967296 := by
  intro n
  induction n with
  | zero => intro b mp mp' _ hm h; cases h; exact hm
  | succ n ih =>
    intro b mp mp' ho hm h
    match b with
    | [] => cases h; exact hm
    | [x] =>
      simp only [O] at h
      split at h
      · cases h; exact hm
      split at h
      · cases h; exact hm
      · cases h
    | x :: y :: t =>
      have ht : okB t := okB_sub (fun z hz => List.mem_cons_of_mem _ (List.mem_cons_of_mem _ hz)) ho
      have od : okB (t.drop y.toNat) := okB_sub (fun z hz => List.mem_of_mem_drop hz) ht
      simp only [O] at h
      split at h
      · cases h; exact hm
      split at h
      · exact ih (y :: t) mp mp' (okB_sub (fun z hz => List.mem_cons_of_mem _ hz) ho) hm h
      split at h
      · cases h
      split at h
      · refine ih _ _ mp' od (fun p hp => ?_) h
        rcases List.mem_cons.1 hp with rfl | hp
        · exact g4_bd (okB_sub (fun z hz => List.mem_of_mem_take hz) ht)
        · exact hm p hp
      · exact ih _ _ mp' od hm h
theorem look_bd {mp : List (Int × Int)} (h : ∀ p ∈ mp, 0 ≤ p.2 ∧ p.2 < 4294967296) (a : Int) : 0 ≤ dhcp_Get.look mp a ∧ dhcp_Get.look mp a < 4294967296 := by
  unfold dhcp_Get.look
  cases e : mp.lookup a with
  | none => simp
  | some v =>
    have : ∀ mp : List (Int × Int), mp.lookup a = some v → ∃ p ∈ mp, p.2 = v := by
      intro mp
      induction mp with
      | nil => intro h; cases h
      | cons q mp ih =>
        intro h
        rw [List.lookup_cons] at h
        split at h
        · cases h; exact ⟨q, by simp, rfl⟩
        · obtain ⟨p, hp, rfl⟩ := ih h; exact ⟨p, by simp [hp], rfl⟩
    obtain ⟨p, hp, rfl⟩ := this mp e
    exact h p hp
/-! ### What is put -/
def hd (a0 a1 a2 a3 : Int) (l4 : List Int) : List Int := [a0, 1, 6, 0] ++ u4 a1 ++ [0, 0, 0, 0] ++ u4 a2 ++ u4 a3 ++ List.replicate 8 0 ++ l4 ++ List.replicate 202 0 ++ [99, 130, 83, 99]
def tl (a5 a6 a7 a8 a9 a10 a11 : Int) (rest : List Int) : List Int := 53 :: 1 :: a5 :: (opt 50 a6 ++ (opt 54 a7 ++ (opt 51 a8 ++ (opt 1 a9 ++ (opt 3 a10 ++ (opt 6 a11 ++ rest))))))
theorem six {l : List Int} (h : l.length = 6) : ∃ a b c d e f, l = [a, b, c, d, e, f] := by
  match l, h with
  | [a, b, c, d, e, f], _ => exact ⟨a, b, c, d, e, f, rfl⟩
theorem hd_len {a0 a1 a2 a3 : Int} {l4 : List Int} (h : l4.length = 6) : (hd a0 a1 a2 a3 l4).length = 240 := by
  simp only [hd, List.length_append, List.length_cons, List.length_nil, List.length_replicate, u4_len, h]
theorem hd_is (a0 a1 a2 a3 : Int) {l4 : List Int} (h : l4.length = 6) : splice (splice (splice (splice (splice ((((List.replicate 240 (0 : Int)).set 0 (IntKind.u8.wrap a0)).set 1 1).set 2 6) 4 (u4 a1)) 12 (u4 a2)) 16 (u4 a3)) 28 l4) 236 (u4 1669485411) = hd (a0 % 256) a1 a2 a3 l4 := by
  obtain ⟨a, b, c, d, e, f, rfl⟩ := six h
  kernel_rfl
theorem put_is {k : Nat} (hk : 20 ≤ k) {a0 a1 a2 a3 a5 a6 a7 a8 a9 a10 a11 : Int} {l4 : List Int} (hb : dhcp_Put.bad a0 l4 a5 = false)
    (h1 : 0 ≤ a1 ∧ a1 < 4294967296) (h2 : 0 ≤ a2 ∧ a2 < 4294967296) (h3 : 0 ≤ a3 ∧ a3 < 4294967296) (h6 : 0 ≤ a6 ∧ a6 < 4294967296) (h7 : 0 ≤ a7 ∧ a7 < 4294967296) (h8 : 0 ≤ a8 ∧ a8 < 4294967296) (h9 : 0 ≤ a9 ∧ a9 < 4294967296) (h10 : 0 ≤ a10 ∧ a10 < 4294967296) (h11 : 0 ≤ a11 ∧ a11 < 4294967296) :
    dhcp_Put.f k a0 a1 a2 a3 l4 a5 a6 a7 a8 a9 a10 a11 = some (hd a0 a1 a2 a3 l4 ++ tl a5 a6 a7 a8 a9 a10 a11 [255], 0) := by
  have hb' := hb
  simp only [dhcp_Put.bad, Bool.or_eq_false_iff, decide_eq_false_iff_not, bne_eq_false_iff_eq] at hb'
  obtain ⟨⟨⟨⟨b1, b2⟩, b3⟩, b4⟩, b5⟩ := hb'
  have hl : l4.length = 6 := by omega
  unfold dhcp_Put.f dhcp_Put.g
  rw [hb, if_neg (by decide)]
  have L0 : ((((List.replicate 240 (0 : Int)).set 0 (IntKind.u8.wrap a0)).set 1 1).set 2 6).length = 240 := by rw [List.length_set, List.length_set, List.length_set, List.length_replicate]
  rw [put1 hk (by omega) (by rw [L0]; decide) h1.1 h1.2, Option.bind_some]
  have L1 : (splice ((((List.replicate 240 (0 : Int)).set 0 (IntKind.u8.wrap a0)).set 1 1).set 2 6) (4 : Int).toNat (u4 a1)).length = 240 := by rw [length_splice _ _ _ (by rw [L0, u4_len]; decide), L0]
  rw [put1 hk (by omega) (by rw [L1]; decide) h2.1 h2.2, Option.bind_some]
  have L2 : (splice (splice ((((List.replicate 240 (0 : Int)).set 0 (IntKind.u8.wrap a0)).set 1 1).set 2 6) (4 : Int).toNat (u4 a1)) (12 : Int).toNat (u4 a2)).length = 240 := by rw [length_splice _ _ _ (by rw [L1, u4_len]; decide), L1]
  rw [put1 hk (by omega) (by rw [L2]; decide) h3.1 h3.2, Option.bind_some]
  have L3 : (splice (splice (splice ((((List.replicate 240 (0 : Int)).set 0 (IntKind.u8.wrap a0)).set 1 1).set 2 6) (4 : Int).toNat (u4 a1)) (12 : Int).toNat (u4 a2)) (16 : Int).toNat (u4 a3)).length = 240 := by rw [length_splice _ _ _ (by rw [L2, u4_len]; decide), L2]
  have L4 : (splice (splice (splice (splice ((((List.replicate 240 (0 : Int)).set 0 (IntKind.u8.wrap a0)).set 1 1).set 2 6) (4 : Int).toNat (u4 a1)) (12 : Int).toNat (u4 a2)) (16 : Int).toNat (u4 a3)) 28 l4).length = 240 := by rw [length_splice _ _ _ (by rw [L3, hl]; decide), L3]
  rw [put1 hk (by omega) (by rw [L4]; decide) (by decide) (by decide), Option.bind_some]
  rw [show splice (splice (splice (splice (splice ((((List.replicate 240 (0 : Int)).set 0 (IntKind.u8.wrap a0)).set 1 1).set 2 6) (4 : Int).toNat (u4 a1)) (12 : Int).toNat (u4 a2)) (16 : Int).toNat (u4 a3)) 28 l4) (236 : Int).toNat (u4 1669485411) = hd (a0 % 256) a1 a2 a3 l4 from hd_is a0 a1 a2 a3 hl, wu8]
  have ea : a0 % 256 = a0 := by omega
  have eb : a5 % 256 = a5 := by omega
  rw [ea, eb]
  have LH := hd_len (a0 := a0) (a1 := a1) (a2 := a2) (a3 := a3) hl
  generalize hd a0 a1 a2 a3 l4 = H at LH
  have o1 := opt_len 50 a6; have o2 := opt_len 54 a7; have o3 := opt_len 51 a8; have o4 := opt_len 1 a9; have o5 := opt_len 3 a10; have o6 := opt_len 6 a11
  rw [put2 hk (by simp; omega) h6.1 h6.2, Option.bind_some, put2 hk (by simp; omega) h7.1 h7.2, Option.bind_some, put2 hk (by simp; omega) h8.1 h8.2, Option.bind_some, put2 hk (by simp; omega) h9.1 h9.2, Option.bind_some, put2 hk (by simp; omega) h10.1 h10.2, Option.bind_some, put2 hk (by simp; omega) h11.1 h11.2, Option.bind_some, if_pos (by simp; omega)]
  simp [tl]
theorem put_bad {k : Nat} {a0 a1 a2 a3 a5 a6 a7 a8 a9 a10 a11 : Int} {l4 : List Int} (hb : dhcp_Put.bad a0 l4 a5 = true) : dhcp_Put.f k a0 a1 a2 a3 l4 a5 a6 a7 a8 a9 a10 a11 = some ([], 2) := by
  unfold dhcp_Put.f
  rw [if_pos hb]
theorem hd_ok {a0 a1 a2 a3 : Int} {l4 : List Int} (h0 : 0 ≤ a0 ∧ a0 < 256) (h : okB l4) : okB (hd a0 a1 a2 a3 l4) := by
  unfold hd
  refine okB_append (okB_append (okB_append (okB_append (okB_append (okB_append (okB_append (okB_append ?_ (u4_ok _)) ?_) (u4_ok _)) (u4_ok _)) (okB_zeros _)) h) (okB_zeros _)) ?_
  · exact okB_cons h0.1 h0.2 (okB_cons (by omega) (by omega) (okB_cons (by omega) (by omega) (okB_cons (by omega) (by omega) okB_nil)))
  · exact okB_zeros 4
  · exact okB_cons (by omega) (by omega) (okB_cons (by omega) (by omega) (okB_cons (by omega) (by omega) (okB_cons (by omega) (by omega) okB_nil)))
theorem tl_ok {a5 a6 a7 a8 a9 a10 a11 : Int} {rest : List Int} (h5 : 0 ≤ a5 ∧ a5 < 256) (h : okB rest) : okB (tl a5 a6 a7 a8 a9 a10 a11 rest) := by
  unfold tl
  refine okB_cons (by omega) (by omega) (okB_cons (by omega) (by omega) (okB_cons h5.1 h5.2 ?_))
  refine okB_append (opt_ok (by omega) (by omega)) (okB_append (opt_ok (by omega) (by omega)) (okB_append (opt_ok (by omega) (by omega)) (okB_append (opt_ok (by omega) (by omega)) (okB_append (opt_ok (by omega) (by omega)) (okB_append (opt_ok (by omega) (by omega)) h)))))
/-! ### What is read -/
abbrev T13 := Int × Int × Int × Int × List Int × Int × Int × Int × Int × Int × Int × Int × Int
def GG (l : List Int) : T13 := if (l.length : Int) < 240 then (0, 0, 0, 0, [], 0, 0, 0, 0, 0, 0, 0, 160) else match OO (l.drop 240) [] with
  | none => (0, 0, 0, 0, [], 0, 0, 0, 0, 0, 0, 0, 161)
  | some mp => if dhcp_Get.bad l mp (g4 ((l.take 240).drop 236)) = true then (0, 0, 0, 0, [], 0, 0, 0, 0, 0, 0, 0, 161) else
    (rd l 0, g4 ((l.take 8).drop 4), g4 ((l.take 16).drop 12), g4 ((l.take 20).drop 16), (l.take 34).drop 28, dhcp_Get.look mp 53, dhcp_Get.look mp 50, dhcp_Get.look mp 54, dhcp_Get.look mp 51, dhcp_Get.look mp 1, dhcp_Get.look mp 3, dhcp_Get.look mp 6, 0)
theorem num_is {k : Nat} (hk : 20 ≤ k) {l : List Int} (ho : okB l) (a : Nat) (ha : a + 4 ≤ l.length) (hb : l.length < 1000000) : dhcp_Get_1.f k l (a : Int) = some (g4 ((l.take (a + 4)).drop a)) := by
  have e : wrap64 ((a : Int) + 4) = ((a + 4 : Nat) : Int) := (w64 (by omega) (by omega)).trans (by omega)
  unfold dhcp_Get_1.f
  rw [e, if_pos ⟨by omega, by omega, by omega⟩, Int.toNat_natCast, Int.toNat_natCast]
  have o : okB ((l.take (a + 4)).drop a) := okB_sub (fun z hz => List.mem_of_mem_take (List.mem_of_mem_drop hz)) ho
  rw [get4 hk (by rw [List.length_drop, List.length_take]; omega) o]
  have := g4_bd o
  rw [Option.map_some, wu32, show g4 ((l.take (a + 4)).drop a) % 4294967296 = g4 ((l.take (a + 4)).drop a) by omega]
theorem rd_ok {l : List Int} (ho : okB l) (i : Nat) (hi : i < l.length) : 0 ≤ rd l i ∧ rd l i < 256 := by
  have : rd l i = l[i] := by simp [rd, hi]
  rw [this]
  exact ho _ (List.getElem_mem hi)
theorem get_is {l : List Int} (ho : okB l) (hl : l.length < 1000000) {k : Nat} (hk : l.length + 21 ≤ k) : dhcp_Get.f k l = some (GG l) := by
  unfold dhcp_Get.f GG
  by_cases h0 : (l.length : Int) < 240
  · rw [if_pos h0, if_pos h0]
  rw [if_neg h0, if_neg h0]
  have od : okB (l.drop 240) := okB_sub (fun z hz => List.mem_of_mem_drop hz) ho
  rw [options_all od (by rw [List.length_drop]; omega), Option.bind_some]
  have hlk := OO_bd (l.drop 240).length (l.drop 240) []
  cases e : OO (l.drop 240) [] with
  | none => rfl
  | some mp =>
    have hbd := hlk mp od (fun p hp => by cases hp) e
    have n1 : dhcp_Get_1.f k l 236 = some (g4 ((l.take 240).drop 236)) := num_is (k := k) (by omega) ho 236 (by omega) hl
    have n2 : dhcp_Get_1.f k l 4 = some (g4 ((l.take 8).drop 4)) := num_is (k := k) (by omega) ho 4 (by omega) hl
    have n3 : dhcp_Get_1.f k l 12 = some (g4 ((l.take 16).drop 12)) := num_is (k := k) (by omega) ho 12 (by omega) hl
    have n4 : dhcp_Get_1.f k l 16 = some (g4 ((l.take 20).drop 16)) := num_is (k := k) (by omega) ho 16 (by omega) hl
    have c1 : slices_Clone_byte_byte.f ((l.take 34).drop 28) = some ((l.take 34).drop 28) := by
      unfold slices_Clone_byte_byte.f
      rw [if_pos (by rw [List.length_drop, List.length_take]; omega)]
    unfold dhcp_Get.h dhcp_Get.g
    dsimp only
    rw [n1, Option.bind_some, n2, Option.bind_some, n3, Option.bind_some, n4, Option.bind_some, c1, Option.bind_some]
    have r0 := rd_ok ho 0 (by omega)
    have r1 := look_bd hbd 53
    rw [w64 (x := rd l 0) (by have := r0.1; have : rd l ((0 : Nat) : Int) = rd l 0 := rfl; omega) (by have : rd l ((0 : Nat) : Int) = rd l 0 := rfl; omega), w64 (x := dhcp_Get.look mp 53) (by omega) (by omega)]
    split <;> rfl
end Go.Proofs.Ytpbofaghnfheiaa.Pure
