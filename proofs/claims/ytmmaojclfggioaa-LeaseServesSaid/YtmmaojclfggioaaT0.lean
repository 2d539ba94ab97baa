/- Kinds and facts of types, printed by a program of this session. -/
import Derived.Test.YtmmaojclfggioaaProg
import Derived.Test.YtmmaojclfggioaaSlZs
import Derived.KernelRfl
namespace Go.Proofs.Ytmmaojclfggioaa.S
open Go Go.SL Go.RowKit
set_option linter.unusedVariables false
set_option linter.unusedSimpArgs false
structure TDhcp where
  Op : Int
  Xid : Int
  Ci : Int
  Yi : Int
  Mac : List Int
  Type_ : Int
  Want : Int
  Server : Int
  Lease : Int
  Mask : Int
  Router : Int
  Dns : Int
 deriving DecidableEq
def KDhcp : Kd TDhcp := Kd.iso (Kd.pair (Kd.int .i64) (Kd.pair (Kd.int .u32) (Kd.pair (Kd.int .u32) (Kd.pair (Kd.int .u32) (Kd.pair (Kd.sl (Kd.int .u8)) (Kd.pair (Kd.int .i64) (Kd.pair (Kd.int .u32) (Kd.pair (Kd.int .u32) (Kd.pair (Kd.int .u32) (Kd.pair (Kd.int .u32) (Kd.pair (Kd.int .u32) (Kd.last (Kd.int .u32))))))))))))) (fun x => (x.Op, x.Xid, x.Ci, x.Yi, x.Mac, x.Type_, x.Want, x.Server, x.Lease, x.Mask, x.Router, x.Dns))
theorem PDhcp : KDhcp.Per := Per_iso (Per_pair Per_int (Per_pair Per_int (Per_pair Per_int (Per_pair Per_int (Per_pair Per_sl (Per_pair Per_int (Per_pair Per_int (Per_pair Per_int (Per_pair Per_int (Per_pair Per_int (Per_pair Per_int (Per_last Per_int))))))))))))
theorem sDhcp_Op : Sub KDhcp 0 (Kd.int .i64) (fun x => x.Op) := sub_iso sub_fst
theorem sDhcp_Xid : Sub KDhcp 1 (Kd.int .u32) (fun x => x.Xid) := sub_iso (sub_snd sub_fst)
theorem sDhcp_Ci : Sub KDhcp 2 (Kd.int .u32) (fun x => x.Ci) := sub_iso (sub_snd (sub_snd sub_fst))
theorem sDhcp_Yi : Sub KDhcp 3 (Kd.int .u32) (fun x => x.Yi) := sub_iso (sub_snd (sub_snd (sub_snd sub_fst)))
theorem sDhcp_Mac : Sub KDhcp 4 (Kd.sl (Kd.int .u8)) (fun x => x.Mac) := sub_iso (sub_snd (sub_snd (sub_snd (sub_snd sub_fst))))
theorem sDhcp_Type_ : Sub KDhcp 5 (Kd.int .i64) (fun x => x.Type_) := sub_iso (sub_snd (sub_snd (sub_snd (sub_snd (sub_snd sub_fst)))))
theorem sDhcp_Want : Sub KDhcp 6 (Kd.int .u32) (fun x => x.Want) := sub_iso (sub_snd (sub_snd (sub_snd (sub_snd (sub_snd (sub_snd sub_fst))))))
theorem sDhcp_Server : Sub KDhcp 7 (Kd.int .u32) (fun x => x.Server) := sub_iso (sub_snd (sub_snd (sub_snd (sub_snd (sub_snd (sub_snd (sub_snd sub_fst)))))))
theorem sDhcp_Lease : Sub KDhcp 8 (Kd.int .u32) (fun x => x.Lease) := sub_iso (sub_snd (sub_snd (sub_snd (sub_snd (sub_snd (sub_snd (sub_snd (sub_snd sub_fst))))))))
theorem sDhcp_Mask : Sub KDhcp 9 (Kd.int .u32) (fun x => x.Mask) := sub_iso (sub_snd (sub_snd (sub_snd (sub_snd (sub_snd (sub_snd (sub_snd (sub_snd (sub_snd sub_fst)))))))))
theorem sDhcp_Router : Sub KDhcp 10 (Kd.int .u32) (fun x => x.Router) := sub_iso (sub_snd (sub_snd (sub_snd (sub_snd (sub_snd (sub_snd (sub_snd (sub_snd (sub_snd (sub_snd sub_fst))))))))))
theorem sDhcp_Dns : Sub KDhcp 11 (Kd.int .u32) (fun x => x.Dns) := sub_iso (sub_snd (sub_snd (sub_snd (sub_snd (sub_snd (sub_snd (sub_snd (sub_snd (sub_snd (sub_snd (sub_snd sub_last)))))))))))
theorem cDhcp (b : Nat) (x : TDhcp) : Chain KDhcp b 0 x [Fld (Kd.int .i64) b 0 x.Op, Fld (Kd.int .u32) b 1 x.Xid, Fld (Kd.int .u32) b 2 x.Ci, Fld (Kd.int .u32) b 3 x.Yi, Fld (Kd.sl (Kd.int .u8)) b 4 x.Mac, Fld (Kd.int .i64) b 5 x.Type_, Fld (Kd.int .u32) b 6 x.Want, Fld (Kd.int .u32) b 7 x.Server, Fld (Kd.int .u32) b 8 x.Lease, Fld (Kd.int .u32) b 9 x.Mask, Fld (Kd.int .u32) b 10 x.Router, Fld (Kd.int .u32) b 11 x.Dns] := .iso (.pair rfl (.pair rfl (.pair rfl (.pair rfl (.pair rfl (.pair rfl (.pair rfl (.pair rfl (.pair rfl (.pair rfl (.pair rfl .last)))))))))))
def zDhcp : TDhcp := ⟨0, 0, 0, 0, [], 0, 0, 0, 0, 0, 0, 0⟩
def zsDhcp : List (List Value) := [[.int .i64 0], [.int .u32 0], [.int .u32 0], [.int .u32 0], [.slice none 0 0], [.int .i64 0], [.int .u32 0], [.int .u32 0], [.int .u32 0], [.int .u32 0], [.int .u32 0], [.int .u32 0]]
theorem ZDhcp : ZC KDhcp zDhcp [.int .i64 0, .int .u32 0, .int .u32 0, .int .u32 0, .slice none 0 0, .int .i64 0, .int .u32 0, .int .u32 0, .int .u32 0, .int .u32 0, .int .u32 0, .int .u32 0] := z_iso (z_pair z_int (z_pair z_int (z_pair z_int (z_pair z_int (z_pair z_sl (z_pair z_int (z_pair z_int (z_pair z_int (z_pair z_int (z_pair z_int (z_pair z_int (z_last z_int))))))))))))
structure TLease where
  Mac : List Int
  Ip : Int
  Until : Int
 deriving DecidableEq
def KLease : Kd TLease := Kd.iso (Kd.pair (Kd.sl (Kd.int .u8)) (Kd.pair (Kd.int .u32) (Kd.last (Kd.int .i64)))) (fun x => (x.Mac, x.Ip, x.Until))
theorem PLease : KLease.Per := Per_iso (Per_pair Per_sl (Per_pair Per_int (Per_last Per_int)))
theorem sLease_Mac : Sub KLease 0 (Kd.sl (Kd.int .u8)) (fun x => x.Mac) := sub_iso sub_fst
theorem sLease_Ip : Sub KLease 1 (Kd.int .u32) (fun x => x.Ip) := sub_iso (sub_snd sub_fst)
theorem sLease_Until : Sub KLease 2 (Kd.int .i64) (fun x => x.Until) := sub_iso (sub_snd (sub_snd sub_last))
theorem cLease (b : Nat) (x : TLease) : Chain KLease b 0 x [Fld (Kd.sl (Kd.int .u8)) b 0 x.Mac, Fld (Kd.int .u32) b 1 x.Ip, Fld (Kd.int .i64) b 2 x.Until] := .iso (.pair rfl (.pair rfl .last))
def zLease : TLease := ⟨[], 0, 0⟩
def zsLease : List (List Value) := [[.slice none 0 0], [.int .u32 0], [.int .i64 0]]
theorem ZLease : ZC KLease zLease [.slice none 0 0, .int .u32 0, .int .i64 0] := z_iso (z_pair z_sl (z_pair z_int (z_last z_int)))
structure Tserver where
  l : List TLease
  now : Int
  d : TDhcp
 deriving DecidableEq
def Kserver : Kd Tserver := Kd.iso (Kd.pair (Kd.sl KLease) (Kd.pair (Kd.int .i64) (Kd.last KDhcp))) (fun x => (x.l, x.now, x.d))
theorem Pserver : Kserver.Per := Per_iso (Per_pair Per_sl (Per_pair Per_int (Per_last PDhcp)))
theorem sserver_l : Sub Kserver 0 (Kd.sl KLease) (fun x => x.l) := sub_iso sub_fst
theorem sserver_now : Sub Kserver 1 (Kd.int .i64) (fun x => x.now) := sub_iso (sub_snd sub_fst)
theorem sserver_d : Sub Kserver 2 KDhcp (fun x => x.d) := sub_iso (sub_snd (sub_snd sub_last))
theorem cserver (b : Nat) (x : Tserver) : Chain Kserver b 0 x [Fld (Kd.sl KLease) b 0 x.l, Fld (Kd.int .i64) b 1 x.now, Fld KDhcp b 2 x.d] := .iso (.pair rfl (.pair rfl .last))
def zserver : Tserver := ⟨[], 0, zDhcp⟩
def zsserver : List (List Value) := [[.slice none 0 0], [.int .i64 0], [.int .i64 0, .int .u32 0, .int .u32 0, .int .u32 0, .slice none 0 0, .int .i64 0, .int .u32 0, .int .u32 0, .int .u32 0, .int .u32 0, .int .u32 0, .int .u32 0]]
theorem Zserver : ZC Kserver zserver [.slice none 0 0, .int .i64 0, .int .i64 0, .int .u32 0, .int .u32 0, .int .u32 0, .slice none 0 0, .int .i64 0, .int .u32 0, .int .u32 0, .int .u32 0, .int .u32 0, .int .u32 0, .int .u32 0] := z_iso (z_pair z_sl (z_pair z_int (z_last ZDhcp)))
theorem t_v22 : slTy Try.prog 22 1 = true := by kernel_rfl
theorem t_y5 : tyI Try.prog 5 = some (false, 1) := by kernel_rfl
theorem t_w5 : (Try.prog.info? 5).map (·.size) = some 1 := by kernel_rfl
theorem t_mxo : Try.prog.follows .mixedOrders = true := by kernel_rfl
theorem t_a22 : appTy Try.prog 22 1 = true := by kernel_rfl
theorem t_zc5 : zeroC Try.prog 5 = some [.int .u8 0] := by kernel_rfl
theorem t_q70 : (Try.prog.underlying 70).isSome = true := by kernel_rfl
theorem t_u5 : Try.prog.underlying 5 = some (.int .u8) := by kernel_rfl
theorem t_y22 : tyI Try.prog 22 = some (false, 1) := by kernel_rfl
theorem t_q25 : (Try.prog.underlying 25).isSome = true := by kernel_rfl
theorem t_u70 : Try.prog.underlying 70 = some (.int .u64) := by kernel_rfl
theorem t_u3 : Try.prog.underlying 3 = some (.int .i64) := by kernel_rfl
theorem t_v88 : slTy Try.prog 88 1 = true := by kernel_rfl
theorem t_n22 : noInt (Try.prog.underlying 22) = true := by kernel_rfl
theorem t_a88 : appTy Try.prog 88 1 = true := by kernel_rfl
theorem t_w22 : (Try.prog.info? 22).map (·.size) = some 1 := by kernel_rfl
theorem t_f28_0 : fldI Try.prog 28 0 = some (0, false, 1) := by kernel_rfl
theorem t_y3 : tyI Try.prog 3 = some (false, 1) := by kernel_rfl
theorem t_f28_4 : fldI Try.prog 28 4 = some (4, false, 1) := by kernel_rfl
theorem t_f28_5 : fldI Try.prog 28 5 = some (5, false, 1) := by kernel_rfl
theorem t_q3 : (Try.prog.underlying 3).isSome = true := by kernel_rfl
theorem t_f28_1 : fldI Try.prog 28 1 = some (1, false, 1) := by kernel_rfl
theorem t_y25 : tyI Try.prog 25 = some (false, 1) := by kernel_rfl
theorem t_f28_2 : fldI Try.prog 28 2 = some (2, false, 1) := by kernel_rfl
theorem t_f28_3 : fldI Try.prog 28 3 = some (3, false, 1) := by kernel_rfl
theorem t_f28_6 : fldI Try.prog 28 6 = some (6, false, 1) := by kernel_rfl
theorem t_f28_7 : fldI Try.prog 28 7 = some (7, false, 1) := by kernel_rfl
theorem t_f28_8 : fldI Try.prog 28 8 = some (8, false, 1) := by kernel_rfl
theorem t_f28_9 : fldI Try.prog 28 9 = some (9, false, 1) := by kernel_rfl
theorem t_f28_10 : fldI Try.prog 28 10 = some (10, false, 1) := by kernel_rfl
theorem t_f28_11 : fldI Try.prog 28 11 = some (11, false, 1) := by kernel_rfl
theorem t_v26 : slTy Try.prog 26 3 = true := by kernel_rfl
theorem t_y42 : tyI Try.prog 42 = some (true, 3) := by kernel_rfl
theorem t_w42 : (Try.prog.info? 42).map (·.size) = some 3 := by kernel_rfl
theorem t_f42_1 : fldI Try.prog 42 1 = some (1, false, 1) := by kernel_rfl
theorem t_f42_0 : fldI Try.prog 42 0 = some (0, false, 1) := by kernel_rfl
theorem t_u22 : Try.prog.underlying 22 = some (.slice 5) := by kernel_rfl
theorem t_u9 : Try.prog.underlying 9 = some (.string) := by kernel_rfl
theorem t_u55 : Try.prog.underlying 55 = some (.map 9 4) := by kernel_rfl
theorem t_mk9 : MKey Try.prog 9 Kd.str := mkey_str t_u9
theorem t_zz4 : (Try.prog.info? 4).bind (·.zero) = some (.bool false) := by kernel_rfl
theorem t_f42_2 : fldI Try.prog 42 2 = some (2, false, 1) := by kernel_rfl
theorem t_b28 : flds Try.prog 28 = some (lay 0 zsDhcp) := by kernel_rfl
theorem t_w28 : (Try.prog.info? 28).map (·.size) = some 12 := by kernel_rfl
theorem t_y28 : tyI Try.prog 28 = some (true, 12) := by kernel_rfl
theorem t_b42 : flds Try.prog 42 = some (lay 0 zsLease) := by kernel_rfl
theorem t_y59 : tyI Try.prog 59 = some (false, 1) := by kernel_rfl
theorem t_f53_0 : fldI Try.prog 53 0 = some (0, false, 1) := by kernel_rfl
theorem t_y26 : tyI Try.prog 26 = some (false, 1) := by kernel_rfl
theorem t_f53_1 : fldI Try.prog 53 1 = some (1, false, 1) := by kernel_rfl
theorem t_f53_2 : fldI Try.prog 53 2 = some (2, true, 12) := by kernel_rfl
theorem t_sserver_d_Xid : Sub Kserver 3 (Kd.int .u32) (fun x => x.d.Xid) := sub_sub sserver_d sDhcp_Xid
theorem t_sserver_d_Mac : Sub Kserver 6 (Kd.sl (Kd.int .u8)) (fun x => x.d.Mac) := sub_sub sserver_d sDhcp_Mac
theorem t_uDhcp_3_1 : Upd KDhcp 3 (Kd.int .u32) (fun x y => (⟨x.Op, x.Xid, x.Ci, y, x.Mac, x.Type_, x.Want, x.Server, x.Lease, x.Mask, x.Router, x.Dns⟩ : TDhcp)) := (upd_iso (fun x : TDhcp => (x.Op, x.Xid, x.Ci, x.Yi, x.Mac, x.Type_, x.Want, x.Server, x.Lease, x.Mask, x.Router, x.Dns)) (fun a => (⟨a.1, a.2.1, a.2.2.1, a.2.2.2.1, a.2.2.2.2.1, a.2.2.2.2.2.1, a.2.2.2.2.2.2.1, a.2.2.2.2.2.2.2.1, a.2.2.2.2.2.2.2.2.1, a.2.2.2.2.2.2.2.2.2.1, a.2.2.2.2.2.2.2.2.2.2.1, a.2.2.2.2.2.2.2.2.2.2.2⟩ : TDhcp)) (fun _ => rfl) (upd_snd (upd_snd (upd_snd (upd_fst upd_self)))))
theorem t_w25 : (Try.prog.info? 25).map (·.size) = some 1 := by kernel_rfl
theorem t_uDhcp_8_1 : Upd KDhcp 8 (Kd.int .u32) (fun x y => (⟨x.Op, x.Xid, x.Ci, x.Yi, x.Mac, x.Type_, x.Want, x.Server, y, x.Mask, x.Router, x.Dns⟩ : TDhcp)) := (upd_iso (fun x : TDhcp => (x.Op, x.Xid, x.Ci, x.Yi, x.Mac, x.Type_, x.Want, x.Server, x.Lease, x.Mask, x.Router, x.Dns)) (fun a => (⟨a.1, a.2.1, a.2.2.1, a.2.2.2.1, a.2.2.2.2.1, a.2.2.2.2.2.1, a.2.2.2.2.2.2.1, a.2.2.2.2.2.2.2.1, a.2.2.2.2.2.2.2.2.1, a.2.2.2.2.2.2.2.2.2.1, a.2.2.2.2.2.2.2.2.2.2.1, a.2.2.2.2.2.2.2.2.2.2.2⟩ : TDhcp)) (fun _ => rfl) (upd_snd (upd_snd (upd_snd (upd_snd (upd_snd (upd_snd (upd_snd (upd_snd (upd_fst upd_self))))))))))
theorem t_uDhcp_9_1 : Upd KDhcp 9 (Kd.int .u32) (fun x y => (⟨x.Op, x.Xid, x.Ci, x.Yi, x.Mac, x.Type_, x.Want, x.Server, x.Lease, y, x.Router, x.Dns⟩ : TDhcp)) := (upd_iso (fun x : TDhcp => (x.Op, x.Xid, x.Ci, x.Yi, x.Mac, x.Type_, x.Want, x.Server, x.Lease, x.Mask, x.Router, x.Dns)) (fun a => (⟨a.1, a.2.1, a.2.2.1, a.2.2.2.1, a.2.2.2.2.1, a.2.2.2.2.2.1, a.2.2.2.2.2.2.1, a.2.2.2.2.2.2.2.1, a.2.2.2.2.2.2.2.2.1, a.2.2.2.2.2.2.2.2.2.1, a.2.2.2.2.2.2.2.2.2.2.1, a.2.2.2.2.2.2.2.2.2.2.2⟩ : TDhcp)) (fun _ => rfl) (upd_snd (upd_snd (upd_snd (upd_snd (upd_snd (upd_snd (upd_snd (upd_snd (upd_snd (upd_fst upd_self)))))))))))
theorem t_uDhcp_10_1 : Upd KDhcp 10 (Kd.int .u32) (fun x y => (⟨x.Op, x.Xid, x.Ci, x.Yi, x.Mac, x.Type_, x.Want, x.Server, x.Lease, x.Mask, y, x.Dns⟩ : TDhcp)) := (upd_iso (fun x : TDhcp => (x.Op, x.Xid, x.Ci, x.Yi, x.Mac, x.Type_, x.Want, x.Server, x.Lease, x.Mask, x.Router, x.Dns)) (fun a => (⟨a.1, a.2.1, a.2.2.1, a.2.2.2.1, a.2.2.2.2.1, a.2.2.2.2.2.1, a.2.2.2.2.2.2.1, a.2.2.2.2.2.2.2.1, a.2.2.2.2.2.2.2.2.1, a.2.2.2.2.2.2.2.2.2.1, a.2.2.2.2.2.2.2.2.2.2.1, a.2.2.2.2.2.2.2.2.2.2.2⟩ : TDhcp)) (fun _ => rfl) (upd_snd (upd_snd (upd_snd (upd_snd (upd_snd (upd_snd (upd_snd (upd_snd (upd_snd (upd_snd (upd_fst upd_self))))))))))))
theorem t_uDhcp_11_1 : Upd KDhcp 11 (Kd.int .u32) (fun x y => (⟨x.Op, x.Xid, x.Ci, x.Yi, x.Mac, x.Type_, x.Want, x.Server, x.Lease, x.Mask, x.Router, y⟩ : TDhcp)) := (upd_iso (fun x : TDhcp => (x.Op, x.Xid, x.Ci, x.Yi, x.Mac, x.Type_, x.Want, x.Server, x.Lease, x.Mask, x.Router, x.Dns)) (fun a => (⟨a.1, a.2.1, a.2.2.1, a.2.2.2.1, a.2.2.2.2.1, a.2.2.2.2.2.1, a.2.2.2.2.2.2.1, a.2.2.2.2.2.2.2.1, a.2.2.2.2.2.2.2.2.1, a.2.2.2.2.2.2.2.2.2.1, a.2.2.2.2.2.2.2.2.2.2.1, a.2.2.2.2.2.2.2.2.2.2.2⟩ : TDhcp)) (fun _ => rfl) (upd_snd (upd_snd (upd_snd (upd_snd (upd_snd (upd_snd (upd_snd (upd_snd (upd_snd (upd_snd (upd_snd (upd_last upd_self)))))))))))))
theorem t_sserver_d_Want : Sub Kserver 8 (Kd.int .u32) (fun x => x.d.Want) := sub_sub sserver_d sDhcp_Want
theorem t_a74 : appTy Try.prog 74 1 = true := by kernel_rfl
theorem t_n74 : noInt (Try.prog.underlying 74) = true := by kernel_rfl
theorem t_v74 : slTy Try.prog 74 1 = true := by kernel_rfl
theorem t_a26 : appTy Try.prog 26 3 = true := by kernel_rfl
theorem t_n26 : noInt (Try.prog.underlying 26) = true := by kernel_rfl
theorem t_y51 : tyI Try.prog 51 = some (false, 1) := by kernel_rfl
theorem t_sserver_d_Server : Sub Kserver 9 (Kd.int .u32) (fun x => x.d.Server) := sub_sub sserver_d sDhcp_Server
theorem t_sserver_d_Ci : Sub Kserver 4 (Kd.int .u32) (fun x => x.d.Ci) := sub_sub sserver_d sDhcp_Ci
theorem t_zc42 : zeroC Try.prog 42 = some [.slice none 0 0, .int .u32 0, .int .i64 0] := by kernel_rfl
theorem t_w26 : (Try.prog.info? 26).map (·.size) = some 1 := by kernel_rfl
theorem t_q5 : (Try.prog.underlying 5).isSome = true := by kernel_rfl
theorem t_u94 : Try.prog.underlying 94 = some (.int .u64) := by kernel_rfl
theorem t_userver_0_1 : Upd Kserver 0 (Kd.sl KLease) (fun x y => (⟨y, x.now, x.d⟩ : Tserver)) := (upd_iso (fun x : Tserver => (x.l, x.now, x.d)) (fun a => (⟨a.1, a.2.1, a.2.2⟩ : Tserver)) (fun _ => rfl) (upd_fst upd_self))
theorem t_b53 : flds Try.prog 53 = some (lay 0 zsserver) := by kernel_rfl
theorem t_u4 : Try.prog.underlying 4 = some (.bool) := by kernel_rfl
end Go.Proofs.Ytmmaojclfggioaa.S
