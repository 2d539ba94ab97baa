/- Kinds and facts of types, printed by a program of this session. -/
import Derived.Test.YtfoffhdckcdjdaaDoorProg
import Derived.Test.YtfoffhdckcdjdaaDoorSlX
import Derived.KernelRfl
namespace Go.Proofs.YtfoffhdckcdjdaaDoor.S
open Go Go.SL Go.RowKit
set_option linter.unusedVariables false
set_option linter.unusedSimpArgs false
structure TUdp where
  Src : Int
  Dst : Int
  Data : List Int
 deriving DecidableEq
def KUdp : Kd TUdp := Kd.iso (Kd.pair (Kd.int .i64) (Kd.pair (Kd.int .i64) (Kd.last (Kd.sl (Kd.int .u8))))) (fun x => (x.Src, x.Dst, x.Data))
theorem PUdp : KUdp.Per := Per_iso (Per_pair Per_int (Per_pair Per_int (Per_last Per_sl)))
theorem sUdp_Src : Sub KUdp 0 (Kd.int .i64) (fun x => x.Src) := sub_iso sub_fst
theorem sUdp_Dst : Sub KUdp 1 (Kd.int .i64) (fun x => x.Dst) := sub_iso (sub_snd sub_fst)
theorem sUdp_Data : Sub KUdp 2 (Kd.sl (Kd.int .u8)) (fun x => x.Data) := sub_iso (sub_snd (sub_snd sub_last))
theorem cUdp (b : Nat) (x : TUdp) : Chain KUdp b 0 x [Fld (Kd.int .i64) b 0 x.Src, Fld (Kd.int .i64) b 1 x.Dst, Fld (Kd.sl (Kd.int .u8)) b 2 x.Data] := .iso (.pair rfl (.pair rfl .last))
def zUdp : TUdp := ⟨0, 0, []⟩
def zsUdp : List (List Value) := [[.int .i64 0], [.int .i64 0], [.slice none 0 0]]
theorem ZUdp : ZC KUdp zUdp [.int .i64 0, .int .i64 0, .slice none 0 0] := z_iso (z_pair z_int (z_pair z_int (z_last z_sl)))
structure Tfault where
  code : Int
 deriving DecidableEq
def Kfault : Kd Tfault := Kd.iso (Kd.last (Kd.int .i64)) (fun x => x.code)
theorem Pfault : Kfault.Per := Per_iso (Per_last Per_int)
theorem sfault_code : Sub Kfault 0 (Kd.int .i64) (fun x => x.code) := sub_iso sub_last
theorem cfault (b : Nat) (x : Tfault) : Chain Kfault b 0 x [Fld (Kd.int .i64) b 0 x.code] := .iso .last
def zfault : Tfault := ⟨0⟩
def zsfault : List (List Value) := [[.int .i64 0]]
theorem Zfault : ZC Kfault zfault [.int .i64 0] := z_iso (z_last z_int)
noncomputable def gv0 : Value := .iface 80 (.agg #[.pointer (some ⟨1, 50, none⟩)])
theorem t_v22 : slTy Tryd.prog 22 1 = true := by kernel_rfl
theorem t_y5 : tyI Tryd.prog 5 = some (false, 1) := by kernel_rfl
theorem t_w5 : (Tryd.prog.info? 5).map (·.size) = some 1 := by kernel_rfl
theorem t_mxo : Tryd.prog.follows .mixedOrders = true := by kernel_rfl
theorem t_a22 : appTy Tryd.prog 22 1 = true := by kernel_rfl
theorem t_zc5 : zeroC Tryd.prog 5 = some [.int .u8 0] := by kernel_rfl
theorem t_q43 : (Tryd.prog.underlying 43).isSome = true := by kernel_rfl
theorem t_u5 : Tryd.prog.underlying 5 = some (.int .u8) := by kernel_rfl
theorem t_u3 : Tryd.prog.underlying 3 = some (.int .i64) := by kernel_rfl
theorem t_v77 : slTy Tryd.prog 77 1 = true := by kernel_rfl
theorem t_y22 : tyI Tryd.prog 22 = some (false, 1) := by kernel_rfl
theorem t_n22 : noInt (Tryd.prog.underlying 22) = true := by kernel_rfl
theorem t_q25 : (Tryd.prog.underlying 25).isSome = true := by kernel_rfl
theorem t_u43 : Tryd.prog.underlying 43 = some (.int .u64) := by kernel_rfl
theorem t_q3 : (Tryd.prog.underlying 3).isSome = true := by kernel_rfl
theorem t_a77 : appTy Tryd.prog 77 1 = true := by kernel_rfl
theorem t_zc57 : zeroC Tryd.prog 57 = some [.int .u8 0, .int .u8 0] := by kernel_rfl
theorem t_r57 : arTy Tryd.prog 57 2 1 = true := by kernel_rfl
theorem t_w57 : (Tryd.prog.info? 57).map (·.size) = some 2 := by kernel_rfl
theorem t_q5 : (Tryd.prog.underlying 5).isSome = true := by kernel_rfl
theorem t_f24_0 : fldI Tryd.prog 24 0 = some (0, false, 1) := by kernel_rfl
theorem t_y3 : tyI Tryd.prog 3 = some (false, 1) := by kernel_rfl
theorem t_f24_1 : fldI Tryd.prog 24 1 = some (1, false, 1) := by kernel_rfl
theorem t_f24_2 : fldI Tryd.prog 24 2 = some (2, false, 1) := by kernel_rfl
theorem t_zc41 : zeroC Tryd.prog 41 = some [.int .i64 0, .int .i64 0, .int .i64 0, .int .i64 0] := by kernel_rfl
theorem t_r41 : arTy Tryd.prog 41 4 1 = true := by kernel_rfl
theorem t_u41 : Tryd.prog.underlying 41 = some (.array 4 3) := by kernel_rfl
theorem t_b24 : flds Tryd.prog 24 = some (lay 0 zsUdp) := by kernel_rfl
theorem t_b60 : flds Tryd.prog 60 = some (lay 0 zsfault) := by kernel_rfl
theorem t_w24 : (Tryd.prog.info? 24).map (·.size) = some 3 := by kernel_rfl
theorem t_y24 : tyI Tryd.prog 24 = some (true, 3) := by kernel_rfl
theorem t_w3 : (Tryd.prog.info? 3).map (·.size) = some 1 := by kernel_rfl
theorem t_u39 : Tryd.prog.underlying 39 = some (.int .u64) := by kernel_rfl
theorem t_q39 : (Tryd.prog.underlying 39).isSome = true := by kernel_rfl
theorem t_u22 : Tryd.prog.underlying 22 = some (.slice 5) := by kernel_rfl
theorem t_u9 : Tryd.prog.underlying 9 = some (.string) := by kernel_rfl
end Go.Proofs.YtfoffhdckcdjdaaDoor.S
