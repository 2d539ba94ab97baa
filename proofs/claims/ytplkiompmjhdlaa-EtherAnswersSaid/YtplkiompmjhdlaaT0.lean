/- Kinds and facts of types, printed by a program of this session. -/
import Derived.Test.YtplkiompmjhdlaaProg
import Derived.Test.YtplkiompmjhdlaaSlV
import Derived.KernelRfl
namespace Go.Proofs.Ytplkiompmjhdlaa.S
open Go Go.SL Go.RowKit
set_option linter.unusedVariables false
set_option linter.unusedSimpArgs false
structure TArp where
  Op : Int
  Smac : List Int
  Sip : Int
  Tmac : List Int
  Tip : Int
 deriving DecidableEq
def KArp : Kd TArp := Kd.iso (Kd.pair (Kd.int .i64) (Kd.pair (Kd.sl (Kd.int .u8)) (Kd.pair (Kd.int .u32) (Kd.pair (Kd.sl (Kd.int .u8)) (Kd.last (Kd.int .u32)))))) (fun x => (x.Op, x.Smac, x.Sip, x.Tmac, x.Tip))
theorem PArp : KArp.Per := Per_iso (Per_pair Per_int (Per_pair Per_sl (Per_pair Per_int (Per_pair Per_sl (Per_last Per_int)))))
theorem sArp_Op : Sub KArp 0 (Kd.int .i64) (fun x => x.Op) := sub_iso sub_fst
theorem sArp_Smac : Sub KArp 1 (Kd.sl (Kd.int .u8)) (fun x => x.Smac) := sub_iso (sub_snd sub_fst)
theorem sArp_Sip : Sub KArp 2 (Kd.int .u32) (fun x => x.Sip) := sub_iso (sub_snd (sub_snd sub_fst))
theorem sArp_Tmac : Sub KArp 3 (Kd.sl (Kd.int .u8)) (fun x => x.Tmac) := sub_iso (sub_snd (sub_snd (sub_snd sub_fst)))
theorem sArp_Tip : Sub KArp 4 (Kd.int .u32) (fun x => x.Tip) := sub_iso (sub_snd (sub_snd (sub_snd (sub_snd sub_last))))
theorem cArp (b : Nat) (x : TArp) : Chain KArp b 0 x [Fld (Kd.int .i64) b 0 x.Op, Fld (Kd.sl (Kd.int .u8)) b 1 x.Smac, Fld (Kd.int .u32) b 2 x.Sip, Fld (Kd.sl (Kd.int .u8)) b 3 x.Tmac, Fld (Kd.int .u32) b 4 x.Tip] := .iso (.pair rfl (.pair rfl (.pair rfl (.pair rfl .last))))
def zArp : TArp := ⟨0, [], 0, [], 0⟩
def zsArp : List (List Value) := [[.int .i64 0], [.slice none 0 0], [.int .u32 0], [.slice none 0 0], [.int .u32 0]]
theorem ZArp : ZC KArp zArp [.int .i64 0, .slice none 0 0, .int .u32 0, .slice none 0 0, .int .u32 0] := z_iso (z_pair z_int (z_pair z_sl (z_pair z_int (z_pair z_sl (z_last z_int)))))
structure TFrm where
  Dst : List Int
  Src : List Int
  Type_ : Int
  Data : List Int
 deriving DecidableEq
def KFrm : Kd TFrm := Kd.iso (Kd.pair (Kd.sl (Kd.int .u8)) (Kd.pair (Kd.sl (Kd.int .u8)) (Kd.pair (Kd.int .i64) (Kd.last (Kd.sl (Kd.int .u8)))))) (fun x => (x.Dst, x.Src, x.Type_, x.Data))
theorem PFrm : KFrm.Per := Per_iso (Per_pair Per_sl (Per_pair Per_sl (Per_pair Per_int (Per_last Per_sl))))
theorem sFrm_Dst : Sub KFrm 0 (Kd.sl (Kd.int .u8)) (fun x => x.Dst) := sub_iso sub_fst
theorem sFrm_Src : Sub KFrm 1 (Kd.sl (Kd.int .u8)) (fun x => x.Src) := sub_iso (sub_snd sub_fst)
theorem sFrm_Type_ : Sub KFrm 2 (Kd.int .i64) (fun x => x.Type_) := sub_iso (sub_snd (sub_snd sub_fst))
theorem sFrm_Data : Sub KFrm 3 (Kd.sl (Kd.int .u8)) (fun x => x.Data) := sub_iso (sub_snd (sub_snd (sub_snd sub_last)))
theorem cFrm (b : Nat) (x : TFrm) : Chain KFrm b 0 x [Fld (Kd.sl (Kd.int .u8)) b 0 x.Dst, Fld (Kd.sl (Kd.int .u8)) b 1 x.Src, Fld (Kd.int .i64) b 2 x.Type_, Fld (Kd.sl (Kd.int .u8)) b 3 x.Data] := .iso (.pair rfl (.pair rfl (.pair rfl .last)))
def zFrm : TFrm := ⟨[], [], 0, []⟩
def zsFrm : List (List Value) := [[.slice none 0 0], [.slice none 0 0], [.int .i64 0], [.slice none 0 0]]
theorem ZFrm : ZC KFrm zFrm [.slice none 0 0, .slice none 0 0, .int .i64 0, .slice none 0 0] := z_iso (z_pair z_sl (z_pair z_sl (z_pair z_int (z_last z_sl))))
structure Trefusal where
  n : Int
  why : Int
 deriving DecidableEq
def Krefusal : Kd Trefusal := Kd.iso (Kd.pair (Kd.int .i64) (Kd.last (Kd.int .i64))) (fun x => (x.n, x.why))
theorem Prefusal : Krefusal.Per := Per_iso (Per_pair Per_int (Per_last Per_int))
theorem srefusal_n : Sub Krefusal 0 (Kd.int .i64) (fun x => x.n) := sub_iso sub_fst
theorem srefusal_why : Sub Krefusal 1 (Kd.int .i64) (fun x => x.why) := sub_iso (sub_snd sub_last)
theorem crefusal (b : Nat) (x : Trefusal) : Chain Krefusal b 0 x [Fld (Kd.int .i64) b 0 x.n, Fld (Kd.int .i64) b 1 x.why] := .iso (.pair rfl .last)
def zrefusal : Trefusal := ⟨0, 0⟩
def zsrefusal : List (List Value) := [[.int .i64 0], [.int .i64 0]]
theorem Zrefusal : ZC Krefusal zrefusal [.int .i64 0, .int .i64 0] := z_iso (z_pair z_int (z_last z_int))
structure Ttaker where
  b : List Int
 deriving DecidableEq
def Ktaker : Kd Ttaker := Kd.iso (Kd.last (Kd.sl (Kd.int .u8))) (fun x => x.b)
theorem Ptaker : Ktaker.Per := Per_iso (Per_last Per_sl)
theorem staker_b : Sub Ktaker 0 (Kd.sl (Kd.int .u8)) (fun x => x.b) := sub_iso sub_last
theorem ctaker (b : Nat) (x : Ttaker) : Chain Ktaker b 0 x [Fld (Kd.sl (Kd.int .u8)) b 0 x.b] := .iso .last
def ztaker : Ttaker := ⟨[]⟩
def zstaker : List (List Value) := [[.slice none 0 0]]
theorem Ztaker : ZC Ktaker ztaker [.slice none 0 0] := z_iso (z_last z_sl)
theorem t_v22 : slTy Try.prog 22 1 = true := by kernel_rfl
theorem t_a22 : appTy Try.prog 22 1 = true := by kernel_rfl
theorem t_b22 : appTy1 Try.prog 22 = true := by kernel_rfl
theorem t_n22 : noInt (Try.prog.underlying 22) = true := by kernel_rfl
theorem t_f34_0 : fldI Try.prog 34 0 = some (0, false, 1) := by kernel_rfl
theorem t_y3 : tyI Try.prog 3 = some (false, 1) := by kernel_rfl
theorem t_f34_4 : fldI Try.prog 34 4 = some (4, false, 1) := by kernel_rfl
theorem t_y32 : tyI Try.prog 32 = some (false, 1) := by kernel_rfl
theorem t_b34 : flds Try.prog 34 = some (lay 0 zsArp) := by kernel_rfl
theorem t_w34 : (Try.prog.info? 34).map (·.size) = some 5 := by kernel_rfl
theorem t_y34 : tyI Try.prog 34 = some (true, 5) := by kernel_rfl
theorem t_f34_1 : fldI Try.prog 34 1 = some (1, false, 1) := by kernel_rfl
theorem t_y22 : tyI Try.prog 22 = some (false, 1) := by kernel_rfl
theorem t_f34_2 : fldI Try.prog 34 2 = some (2, false, 1) := by kernel_rfl
theorem t_mxo : Try.prog.follows .mixedOrders = true := by kernel_rfl
theorem t_u22 : Try.prog.underlying 22 = some (.slice 5) := by kernel_rfl
theorem t_u5 : Try.prog.underlying 5 = some (.int .u8) := by kernel_rfl
theorem t_u9 : Try.prog.underlying 9 = some (.string) := by kernel_rfl
theorem t_f34_3 : fldI Try.prog 34 3 = some (3, false, 1) := by kernel_rfl
theorem t_y5 : tyI Try.prog 5 = some (false, 1) := by kernel_rfl
theorem t_w5 : (Try.prog.info? 5).map (·.size) = some 1 := by kernel_rfl
theorem t_zc5 : zeroC Try.prog 5 = some [.int .u8 0] := by kernel_rfl
theorem t_q62 : (Try.prog.underlying 62).isSome = true := by kernel_rfl
theorem t_u3 : Try.prog.underlying 3 = some (.int .i64) := by kernel_rfl
theorem t_v77 : slTy Try.prog 77 1 = true := by kernel_rfl
theorem t_f25_0 : fldI Try.prog 25 0 = some (0, false, 1) := by kernel_rfl
theorem t_f25_1 : fldI Try.prog 25 1 = some (1, false, 1) := by kernel_rfl
theorem t_f25_2 : fldI Try.prog 25 2 = some (2, false, 1) := by kernel_rfl
theorem t_f25_3 : fldI Try.prog 25 3 = some (3, false, 1) := by kernel_rfl
theorem t_q3 : (Try.prog.underlying 3).isSome = true := by kernel_rfl
theorem t_u62 : Try.prog.underlying 62 = some (.int .u64) := by kernel_rfl
theorem t_a77 : appTy Try.prog 77 1 = true := by kernel_rfl
theorem t_b74 : flds Try.prog 74 = some (lay 0 zsrefusal) := by kernel_rfl
theorem t_a75 : appTy Try.prog 75 1 = true := by kernel_rfl
theorem t_v75 : slTy Try.prog 75 1 = true := by kernel_rfl
theorem t_y26 : tyI Try.prog 26 = some (false, 1) := by kernel_rfl
theorem t_f60_0 : fldI Try.prog 60 0 = some (0, false, 1) := by kernel_rfl
theorem t_w22 : (Try.prog.info? 22).map (·.size) = some 1 := by kernel_rfl
theorem t_q5 : (Try.prog.underlying 5).isSome = true := by kernel_rfl
theorem t_i55 : isIf Try.prog 55 = true := by kernel_rfl
theorem t_b25 : flds Try.prog 25 = some (lay 0 zsFrm) := by kernel_rfl
theorem t_w25 : (Try.prog.info? 25).map (·.size) = some 4 := by kernel_rfl
theorem t_y25 : tyI Try.prog 25 = some (true, 4) := by kernel_rfl
theorem t_b60 : flds Try.prog 60 = some (lay 0 zstaker) := by kernel_rfl
theorem t_w3 : (Try.prog.info? 3).map (·.size) = some 1 := by kernel_rfl
theorem t_q32 : (Try.prog.underlying 32).isSome = true := by kernel_rfl
theorem t_u32 : Try.prog.underlying 32 = some (.int .u32) := by kernel_rfl
theorem t_w32 : (Try.prog.info? 32).map (·.size) = some 1 := by kernel_rfl
theorem t_u4 : Try.prog.underlying 4 = some (.bool) := by kernel_rfl
theorem t_u64 : Try.prog.underlying 64 = some (.int .u64) := by kernel_rfl
end Go.Proofs.Ytplkiompmjhdlaa.S
