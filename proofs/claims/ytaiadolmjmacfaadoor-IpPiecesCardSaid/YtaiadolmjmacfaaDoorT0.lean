/- Kinds and facts of types, printed by a program of this session. -/
import Derived.Test.YtaiadolmjmacfaaDoorProg
import Derived.Test.YtaiadolmjmacfaaDoorSlZk
import Derived.KernelRfl
namespace Go.Proofs.YtaiadolmjmacfaaDoor.S
open Go Go.SL Go.RowKit
set_option linter.unusedVariables false
set_option linter.unusedSimpArgs false
structure TIp where
  Tos : Int
  Id : Int
  Flags : Int
  Off : Int
  Ttl : Int
  Proto : Int
  Src : Int
  Dst : Int
  Options : List Int
  Data : List Int
 deriving DecidableEq
def KIp : Kd TIp := Kd.iso (Kd.pair (Kd.int .i64) (Kd.pair (Kd.int .i64) (Kd.pair (Kd.int .i64) (Kd.pair (Kd.int .i64) (Kd.pair (Kd.int .i64) (Kd.pair (Kd.int .i64) (Kd.pair (Kd.int .u32) (Kd.pair (Kd.int .u32) (Kd.pair (Kd.sl (Kd.int .u8)) (Kd.last (Kd.sl (Kd.int .u8)))))))))))) (fun x => (x.Tos, x.Id, x.Flags, x.Off, x.Ttl, x.Proto, x.Src, x.Dst, x.Options, x.Data))
theorem PIp : KIp.Per := Per_iso (Per_pair Per_int (Per_pair Per_int (Per_pair Per_int (Per_pair Per_int (Per_pair Per_int (Per_pair Per_int (Per_pair Per_int (Per_pair Per_int (Per_pair Per_sl (Per_last Per_sl))))))))))
theorem sIp_Tos : Sub KIp 0 (Kd.int .i64) (fun x => x.Tos) := sub_iso sub_fst
theorem sIp_Id : Sub KIp 1 (Kd.int .i64) (fun x => x.Id) := sub_iso (sub_snd sub_fst)
theorem sIp_Flags : Sub KIp 2 (Kd.int .i64) (fun x => x.Flags) := sub_iso (sub_snd (sub_snd sub_fst))
theorem sIp_Off : Sub KIp 3 (Kd.int .i64) (fun x => x.Off) := sub_iso (sub_snd (sub_snd (sub_snd sub_fst)))
theorem sIp_Ttl : Sub KIp 4 (Kd.int .i64) (fun x => x.Ttl) := sub_iso (sub_snd (sub_snd (sub_snd (sub_snd sub_fst))))
theorem sIp_Proto : Sub KIp 5 (Kd.int .i64) (fun x => x.Proto) := sub_iso (sub_snd (sub_snd (sub_snd (sub_snd (sub_snd sub_fst)))))
theorem sIp_Src : Sub KIp 6 (Kd.int .u32) (fun x => x.Src) := sub_iso (sub_snd (sub_snd (sub_snd (sub_snd (sub_snd (sub_snd sub_fst))))))
theorem sIp_Dst : Sub KIp 7 (Kd.int .u32) (fun x => x.Dst) := sub_iso (sub_snd (sub_snd (sub_snd (sub_snd (sub_snd (sub_snd (sub_snd sub_fst)))))))
theorem sIp_Options : Sub KIp 8 (Kd.sl (Kd.int .u8)) (fun x => x.Options) := sub_iso (sub_snd (sub_snd (sub_snd (sub_snd (sub_snd (sub_snd (sub_snd (sub_snd sub_fst))))))))
theorem sIp_Data : Sub KIp 9 (Kd.sl (Kd.int .u8)) (fun x => x.Data) := sub_iso (sub_snd (sub_snd (sub_snd (sub_snd (sub_snd (sub_snd (sub_snd (sub_snd (sub_snd sub_last)))))))))
theorem cIp (b : Nat) (x : TIp) : Chain KIp b 0 x [Fld (Kd.int .i64) b 0 x.Tos, Fld (Kd.int .i64) b 1 x.Id, Fld (Kd.int .i64) b 2 x.Flags, Fld (Kd.int .i64) b 3 x.Off, Fld (Kd.int .i64) b 4 x.Ttl, Fld (Kd.int .i64) b 5 x.Proto, Fld (Kd.int .u32) b 6 x.Src, Fld (Kd.int .u32) b 7 x.Dst, Fld (Kd.sl (Kd.int .u8)) b 8 x.Options, Fld (Kd.sl (Kd.int .u8)) b 9 x.Data] := .iso (.pair rfl (.pair rfl (.pair rfl (.pair rfl (.pair rfl (.pair rfl (.pair rfl (.pair rfl (.pair rfl .last)))))))))
def zIp : TIp := ⟨0, 0, 0, 0, 0, 0, 0, 0, [], []⟩
def zsIp : List (List Value) := [[.int .i64 0], [.int .i64 0], [.int .i64 0], [.int .i64 0], [.int .i64 0], [.int .i64 0], [.int .u32 0], [.int .u32 0], [.slice none 0 0], [.slice none 0 0]]
theorem ZIp : ZC KIp zIp [.int .i64 0, .int .i64 0, .int .i64 0, .int .i64 0, .int .i64 0, .int .i64 0, .int .u32 0, .int .u32 0, .slice none 0 0, .slice none 0 0] := z_iso (z_pair z_int (z_pair z_int (z_pair z_int (z_pair z_int (z_pair z_int (z_pair z_int (z_pair z_int (z_pair z_int (z_pair z_sl (z_last z_sl))))))))))
structure Tfault where
  code : Int
 deriving DecidableEq
def Kfault : Kd Tfault := Kd.iso (Kd.last (Kd.int .i64)) (fun x => x.code)
theorem Pfault : Kfault.Per := Per_iso (Per_last Per_int)
theorem sfault_code : Sub Kfault 0 (Kd.int .i64) (fun x => x.code) := sub_iso sub_last
theorem cfault (b : Nat) (x : Tfault) : Chain Kfault b 0 x [Fld (Kd.int .i64) b 0 x.code] := .iso .last
def zfault : Tfault := ⟨0⟩
def zsfault : List (List Value) := [[.int .i64 0]]
theorem Zfault : ZC Kfault zfault [.int .i64 0] := z_iso (z_last z_int)
noncomputable def gv0 : Value := .iface 94 (.agg #[.pointer (some ⟨1, 56, none⟩)])
theorem t_f25_0 : fldI Tryd.prog 25 0 = some (0, false, 1) := by kernel_rfl
theorem t_y3 : tyI Tryd.prog 3 = some (false, 1) := by kernel_rfl
theorem t_f25_4 : fldI Tryd.prog 25 4 = some (4, false, 1) := by kernel_rfl
theorem t_f25_5 : fldI Tryd.prog 25 5 = some (5, false, 1) := by kernel_rfl
theorem t_a65 : appTy Tryd.prog 65 1 = true := by kernel_rfl
theorem t_v65 : slTy Tryd.prog 65 1 = true := by kernel_rfl
theorem t_f25_1 : fldI Tryd.prog 25 1 = some (1, false, 1) := by kernel_rfl
theorem t_f25_2 : fldI Tryd.prog 25 2 = some (2, false, 1) := by kernel_rfl
theorem t_f25_3 : fldI Tryd.prog 25 3 = some (3, false, 1) := by kernel_rfl
theorem t_f25_8 : fldI Tryd.prog 25 8 = some (8, false, 1) := by kernel_rfl
theorem t_y23 : tyI Tryd.prog 23 = some (false, 1) := by kernel_rfl
theorem t_v23 : slTy Tryd.prog 23 1 = true := by kernel_rfl
theorem t_f25_9 : fldI Tryd.prog 25 9 = some (9, false, 1) := by kernel_rfl
theorem t_y5 : tyI Tryd.prog 5 = some (false, 1) := by kernel_rfl
theorem t_w5 : (Tryd.prog.info? 5).map (·.size) = some 1 := by kernel_rfl
theorem t_mxo : Tryd.prog.follows .mixedOrders = true := by kernel_rfl
theorem t_a23 : appTy Tryd.prog 23 1 = true := by kernel_rfl
theorem t_zc5 : zeroC Tryd.prog 5 = some [.int .u8 0] := by kernel_rfl
theorem t_q49 : (Tryd.prog.underlying 49).isSome = true := by kernel_rfl
theorem t_u5 : Tryd.prog.underlying 5 = some (.int .u8) := by kernel_rfl
theorem t_q3 : (Tryd.prog.underlying 3).isSome = true := by kernel_rfl
theorem t_u49 : Tryd.prog.underlying 49 = some (.int .u64) := by kernel_rfl
theorem t_u3 : Tryd.prog.underlying 3 = some (.int .i64) := by kernel_rfl
theorem t_v69 : slTy Tryd.prog 69 1 = true := by kernel_rfl
theorem t_n23 : noInt (Tryd.prog.underlying 23) = true := by kernel_rfl
theorem t_zc80 : zeroC Tryd.prog 80 = some [.int .u8 0, .int .u8 0] := by kernel_rfl
theorem t_r80 : arTy Tryd.prog 80 2 1 = true := by kernel_rfl
theorem t_w80 : (Tryd.prog.info? 80).map (·.size) = some 2 := by kernel_rfl
theorem t_q5 : (Tryd.prog.underlying 5).isSome = true := by kernel_rfl
theorem t_y25 : tyI Tryd.prog 25 = some (true, 10) := by kernel_rfl
theorem t_f25_6 : fldI Tryd.prog 25 6 = some (6, false, 1) := by kernel_rfl
theorem t_y22 : tyI Tryd.prog 22 = some (false, 1) := by kernel_rfl
theorem t_q22 : (Tryd.prog.underlying 22).isSome = true := by kernel_rfl
theorem t_f25_7 : fldI Tryd.prog 25 7 = some (7, false, 1) := by kernel_rfl
theorem t_a69 : appTy Tryd.prog 69 1 = true := by kernel_rfl
theorem t_b78 : flds Tryd.prog 78 = some (lay 0 zsfault) := by kernel_rfl
theorem t_b25 : flds Tryd.prog 25 = some (lay 0 zsIp) := by kernel_rfl
theorem t_w25 : (Tryd.prog.info? 25).map (·.size) = some 10 := by kernel_rfl
theorem t_u22 : Tryd.prog.underlying 22 = some (.int .u32) := by kernel_rfl
theorem t_uIp_8_1 : Upd KIp 8 (Kd.sl (Kd.int .u8)) (fun x y => (⟨x.Tos, x.Id, x.Flags, x.Off, x.Ttl, x.Proto, x.Src, x.Dst, y, x.Data⟩ : TIp)) := (upd_iso (fun x : TIp => (x.Tos, x.Id, x.Flags, x.Off, x.Ttl, x.Proto, x.Src, x.Dst, x.Options, x.Data)) (fun a => (⟨a.1, a.2.1, a.2.2.1, a.2.2.2.1, a.2.2.2.2.1, a.2.2.2.2.2.1, a.2.2.2.2.2.2.1, a.2.2.2.2.2.2.2.1, a.2.2.2.2.2.2.2.2.1, a.2.2.2.2.2.2.2.2.2⟩ : TIp)) (fun _ => rfl) (upd_snd (upd_snd (upd_snd (upd_snd (upd_snd (upd_snd (upd_snd (upd_snd (upd_fst upd_self))))))))))
theorem t_w23 : (Tryd.prog.info? 23).map (·.size) = some 1 := by kernel_rfl
theorem t_uIp_9_1 : Upd KIp 9 (Kd.sl (Kd.int .u8)) (fun x y => (⟨x.Tos, x.Id, x.Flags, x.Off, x.Ttl, x.Proto, x.Src, x.Dst, x.Options, y⟩ : TIp)) := (upd_iso (fun x : TIp => (x.Tos, x.Id, x.Flags, x.Off, x.Ttl, x.Proto, x.Src, x.Dst, x.Options, x.Data)) (fun a => (⟨a.1, a.2.1, a.2.2.1, a.2.2.2.1, a.2.2.2.2.1, a.2.2.2.2.2.1, a.2.2.2.2.2.2.1, a.2.2.2.2.2.2.2.1, a.2.2.2.2.2.2.2.2.1, a.2.2.2.2.2.2.2.2.2⟩ : TIp)) (fun _ => rfl) (upd_snd (upd_snd (upd_snd (upd_snd (upd_snd (upd_snd (upd_snd (upd_snd (upd_snd (upd_last upd_self)))))))))))
theorem t_a38 : appTy Tryd.prog 38 10 = true := by kernel_rfl
theorem t_uIp_2_1 : Upd KIp 2 (Kd.int .i64) (fun x y => (⟨x.Tos, x.Id, y, x.Off, x.Ttl, x.Proto, x.Src, x.Dst, x.Options, x.Data⟩ : TIp)) := (upd_iso (fun x : TIp => (x.Tos, x.Id, x.Flags, x.Off, x.Ttl, x.Proto, x.Src, x.Dst, x.Options, x.Data)) (fun a => (⟨a.1, a.2.1, a.2.2.1, a.2.2.2.1, a.2.2.2.2.1, a.2.2.2.2.2.1, a.2.2.2.2.2.2.1, a.2.2.2.2.2.2.2.1, a.2.2.2.2.2.2.2.2.1, a.2.2.2.2.2.2.2.2.2⟩ : TIp)) (fun _ => rfl) (upd_snd (upd_snd (upd_fst upd_self))))
theorem t_w3 : (Tryd.prog.info? 3).map (·.size) = some 1 := by kernel_rfl
theorem t_y38 : tyI Tryd.prog 38 = some (false, 1) := by kernel_rfl
theorem t_n38 : noInt (Tryd.prog.underlying 38) = true := by kernel_rfl
theorem t_w38 : (Tryd.prog.info? 38).map (·.size) = some 1 := by kernel_rfl
theorem t_uIp_3_1 : Upd KIp 3 (Kd.int .i64) (fun x y => (⟨x.Tos, x.Id, x.Flags, y, x.Ttl, x.Proto, x.Src, x.Dst, x.Options, x.Data⟩ : TIp)) := (upd_iso (fun x : TIp => (x.Tos, x.Id, x.Flags, x.Off, x.Ttl, x.Proto, x.Src, x.Dst, x.Options, x.Data)) (fun a => (⟨a.1, a.2.1, a.2.2.1, a.2.2.2.1, a.2.2.2.2.1, a.2.2.2.2.2.1, a.2.2.2.2.2.2.1, a.2.2.2.2.2.2.2.1, a.2.2.2.2.2.2.2.2.1, a.2.2.2.2.2.2.2.2.2⟩ : TIp)) (fun _ => rfl) (upd_snd (upd_snd (upd_snd (upd_fst upd_self)))))
theorem t_v38 : slTy Tryd.prog 38 10 = true := by kernel_rfl
theorem t_u23 : Tryd.prog.underlying 23 = some (.slice 5) := by kernel_rfl
theorem t_u9 : Tryd.prog.underlying 9 = some (.string) := by kernel_rfl
theorem t_u52 : Tryd.prog.underlying 52 = some (.int .u64) := by kernel_rfl
end Go.Proofs.YtaiadolmjmacfaaDoor.S
