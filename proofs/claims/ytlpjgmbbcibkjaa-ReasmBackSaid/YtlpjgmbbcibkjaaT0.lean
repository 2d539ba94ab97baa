/- Kinds and facts of types, printed by a program of this session. -/
import Derived.Test.YtlpjgmbbcibkjaaProg
import Derived.Test.YtlpjgmbbcibkjaaSlY
import Derived.KernelRfl
namespace Go.Proofs.Ytlpjgmbbcibkjaa.S
open Go Go.SL Go.RowKit
set_option linter.unusedVariables false
set_option linter.unusedSimpArgs false
structure TIp where
  Tos : Int
  Id : Int
  Flags : Int
  Off : Int
  Ttl : Int
  Proto : Int
  Src : Int
  Dst : Int
  Options : List Int
  Data : List Int
 deriving DecidableEq
def KIp : Kd TIp := Kd.iso (Kd.pair (Kd.int .i64) (Kd.pair (Kd.int .i64) (Kd.pair (Kd.int .i64) (Kd.pair (Kd.int .i64) (Kd.pair (Kd.int .i64) (Kd.pair (Kd.int .i64) (Kd.pair (Kd.int .u32) (Kd.pair (Kd.int .u32) (Kd.pair (Kd.sl (Kd.int .u8)) (Kd.last (Kd.sl (Kd.int .u8)))))))))))) (fun x => (x.Tos, x.Id, x.Flags, x.Off, x.Ttl, x.Proto, x.Src, x.Dst, x.Options, x.Data))
theorem PIp : KIp.Per := Per_iso (Per_pair Per_int (Per_pair Per_int (Per_pair Per_int (Per_pair Per_int (Per_pair Per_int (Per_pair Per_int (Per_pair Per_int (Per_pair Per_int (Per_pair Per_sl (Per_last Per_sl))))))))))
theorem sIp_Tos : Sub KIp 0 (Kd.int .i64) (fun x => x.Tos) := sub_iso sub_fst
theorem sIp_Id : Sub KIp 1 (Kd.int .i64) (fun x => x.Id) := sub_iso (sub_snd sub_fst)
theorem sIp_Flags : Sub KIp 2 (Kd.int .i64) (fun x => x.Flags) := sub_iso (sub_snd (sub_snd sub_fst))
theorem sIp_Off : Sub KIp 3 (Kd.int .i64) (fun x => x.Off) := sub_iso (sub_snd (sub_snd (sub_snd sub_fst)))
theorem sIp_Ttl : Sub KIp 4 (Kd.int .i64) (fun x => x.Ttl) := sub_iso (sub_snd (sub_snd (sub_snd (sub_snd sub_fst))))
theorem sIp_Proto : Sub KIp 5 (Kd.int .i64) (fun x => x.Proto) := sub_iso (sub_snd (sub_snd (sub_snd (sub_snd (sub_snd sub_fst)))))
theorem sIp_Src : Sub KIp 6 (Kd.int .u32) (fun x => x.Src) := sub_iso (sub_snd (sub_snd (sub_snd (sub_snd (sub_snd (sub_snd sub_fst))))))
theorem sIp_Dst : Sub KIp 7 (Kd.int .u32) (fun x => x.Dst) := sub_iso (sub_snd (sub_snd (sub_snd (sub_snd (sub_snd (sub_snd (sub_snd sub_fst)))))))
theorem sIp_Options : Sub KIp 8 (Kd.sl (Kd.int .u8)) (fun x => x.Options) := sub_iso (sub_snd (sub_snd (sub_snd (sub_snd (sub_snd (sub_snd (sub_snd (sub_snd sub_fst))))))))
theorem sIp_Data : Sub KIp 9 (Kd.sl (Kd.int .u8)) (fun x => x.Data) := sub_iso (sub_snd (sub_snd (sub_snd (sub_snd (sub_snd (sub_snd (sub_snd (sub_snd (sub_snd sub_last)))))))))
theorem cIp (b : Nat) (x : TIp) : Chain KIp b 0 x [Fld (Kd.int .i64) b 0 x.Tos, Fld (Kd.int .i64) b 1 x.Id, Fld (Kd.int .i64) b 2 x.Flags, Fld (Kd.int .i64) b 3 x.Off, Fld (Kd.int .i64) b 4 x.Ttl, Fld (Kd.int .i64) b 5 x.Proto, Fld (Kd.int .u32) b 6 x.Src, Fld (Kd.int .u32) b 7 x.Dst, Fld (Kd.sl (Kd.int .u8)) b 8 x.Options, Fld (Kd.sl (Kd.int .u8)) b 9 x.Data] := .iso (.pair rfl (.pair rfl (.pair rfl (.pair rfl (.pair rfl (.pair rfl (.pair rfl (.pair rfl (.pair rfl .last)))))))))
def zIp : TIp := ⟨0, 0, 0, 0, 0, 0, 0, 0, [], []⟩
def zsIp : List (List Value) := [[.int .i64 0], [.int .i64 0], [.int .i64 0], [.int .i64 0], [.int .i64 0], [.int .i64 0], [.int .u32 0], [.int .u32 0], [.slice none 0 0], [.slice none 0 0]]
theorem ZIp : ZC KIp zIp [.int .i64 0, .int .i64 0, .int .i64 0, .int .i64 0, .int .i64 0, .int .i64 0, .int .u32 0, .int .u32 0, .slice none 0 0, .slice none 0 0] := z_iso (z_pair z_int (z_pair z_int (z_pair z_int (z_pair z_int (z_pair z_int (z_pair z_int (z_pair z_int (z_pair z_int (z_pair z_sl (z_last z_sl))))))))))
structure TPiece where
  Src : Int
  Dst : Int
  Id : Int
  Proto : Int
  Until : Int
  Data : List Int
  Have : List Bool
  Total : Int
 deriving DecidableEq
def KPiece : Kd TPiece := Kd.iso (Kd.pair (Kd.int .u32) (Kd.pair (Kd.int .u32) (Kd.pair (Kd.int .i64) (Kd.pair (Kd.int .i64) (Kd.pair (Kd.int .i64) (Kd.pair (Kd.sl (Kd.int .u8)) (Kd.pair (Kd.sl Kd.bool) (Kd.last (Kd.int .i64))))))))) (fun x => (x.Src, x.Dst, x.Id, x.Proto, x.Until, x.Data, x.Have, x.Total))
theorem PPiece : KPiece.Per := Per_iso (Per_pair Per_int (Per_pair Per_int (Per_pair Per_int (Per_pair Per_int (Per_pair Per_int (Per_pair Per_sl (Per_pair Per_sl (Per_last Per_int))))))))
theorem sPiece_Src : Sub KPiece 0 (Kd.int .u32) (fun x => x.Src) := sub_iso sub_fst
theorem sPiece_Dst : Sub KPiece 1 (Kd.int .u32) (fun x => x.Dst) := sub_iso (sub_snd sub_fst)
theorem sPiece_Id : Sub KPiece 2 (Kd.int .i64) (fun x => x.Id) := sub_iso (sub_snd (sub_snd sub_fst))
theorem sPiece_Proto : Sub KPiece 3 (Kd.int .i64) (fun x => x.Proto) := sub_iso (sub_snd (sub_snd (sub_snd sub_fst)))
theorem sPiece_Until : Sub KPiece 4 (Kd.int .i64) (fun x => x.Until) := sub_iso (sub_snd (sub_snd (sub_snd (sub_snd sub_fst))))
theorem sPiece_Data : Sub KPiece 5 (Kd.sl (Kd.int .u8)) (fun x => x.Data) := sub_iso (sub_snd (sub_snd (sub_snd (sub_snd (sub_snd sub_fst)))))
theorem sPiece_Have : Sub KPiece 6 (Kd.sl Kd.bool) (fun x => x.Have) := sub_iso (sub_snd (sub_snd (sub_snd (sub_snd (sub_snd (sub_snd sub_fst))))))
theorem sPiece_Total : Sub KPiece 7 (Kd.int .i64) (fun x => x.Total) := sub_iso (sub_snd (sub_snd (sub_snd (sub_snd (sub_snd (sub_snd (sub_snd sub_last)))))))
theorem cPiece (b : Nat) (x : TPiece) : Chain KPiece b 0 x [Fld (Kd.int .u32) b 0 x.Src, Fld (Kd.int .u32) b 1 x.Dst, Fld (Kd.int .i64) b 2 x.Id, Fld (Kd.int .i64) b 3 x.Proto, Fld (Kd.int .i64) b 4 x.Until, Fld (Kd.sl (Kd.int .u8)) b 5 x.Data, Fld (Kd.sl Kd.bool) b 6 x.Have, Fld (Kd.int .i64) b 7 x.Total] := .iso (.pair rfl (.pair rfl (.pair rfl (.pair rfl (.pair rfl (.pair rfl (.pair rfl .last)))))))
def zPiece : TPiece := ⟨0, 0, 0, 0, 0, [], [], 0⟩
def zsPiece : List (List Value) := [[.int .u32 0], [.int .u32 0], [.int .i64 0], [.int .i64 0], [.int .i64 0], [.slice none 0 0], [.slice none 0 0], [.int .i64 0]]
theorem ZPiece : ZC KPiece zPiece [.int .u32 0, .int .u32 0, .int .i64 0, .int .i64 0, .int .i64 0, .slice none 0 0, .slice none 0 0, .int .i64 0] := z_iso (z_pair z_int (z_pair z_int (z_pair z_int (z_pair z_int (z_pair z_int (z_pair z_sl (z_pair z_sl (z_last z_int))))))))
structure Twho where
  src : Int
  dst : Int
  id : Int
  proto : Int
 deriving DecidableEq
def Kwho : Kd Twho := Kd.iso (Kd.pair (Kd.int .u32) (Kd.pair (Kd.int .u32) (Kd.pair (Kd.int .i64) (Kd.last (Kd.int .i64))))) (fun x => (x.src, x.dst, x.id, x.proto))
theorem Pwho : Kwho.Per := Per_iso (Per_pair Per_int (Per_pair Per_int (Per_pair Per_int (Per_last Per_int))))
theorem swho_src : Sub Kwho 0 (Kd.int .u32) (fun x => x.src) := sub_iso sub_fst
theorem swho_dst : Sub Kwho 1 (Kd.int .u32) (fun x => x.dst) := sub_iso (sub_snd sub_fst)
theorem swho_id : Sub Kwho 2 (Kd.int .i64) (fun x => x.id) := sub_iso (sub_snd (sub_snd sub_fst))
theorem swho_proto : Sub Kwho 3 (Kd.int .i64) (fun x => x.proto) := sub_iso (sub_snd (sub_snd (sub_snd sub_last)))
theorem cwho (b : Nat) (x : Twho) : Chain Kwho b 0 x [Fld (Kd.int .u32) b 0 x.src, Fld (Kd.int .u32) b 1 x.dst, Fld (Kd.int .i64) b 2 x.id, Fld (Kd.int .i64) b 3 x.proto] := .iso (.pair rfl (.pair rfl (.pair rfl .last)))
def zwho : Twho := ⟨0, 0, 0, 0⟩
def zswho : List (List Value) := [[.int .u32 0], [.int .u32 0], [.int .i64 0], [.int .i64 0]]
theorem Zwho : ZC Kwho zwho [.int .u32 0, .int .u32 0, .int .i64 0, .int .i64 0] := z_iso (z_pair z_int (z_pair z_int (z_pair z_int (z_last z_int))))
theorem t_f27_0 : fldI Try.prog 27 0 = some (0, false, 1) := by kernel_rfl
theorem t_y3 : tyI Try.prog 3 = some (false, 1) := by kernel_rfl
theorem t_f27_4 : fldI Try.prog 27 4 = some (4, false, 1) := by kernel_rfl
theorem t_f27_5 : fldI Try.prog 27 5 = some (5, false, 1) := by kernel_rfl
theorem t_a34 : appTy Try.prog 34 1 = true := by kernel_rfl
theorem t_v34 : slTy Try.prog 34 1 = true := by kernel_rfl
theorem t_f27_1 : fldI Try.prog 27 1 = some (1, false, 1) := by kernel_rfl
theorem t_f27_2 : fldI Try.prog 27 2 = some (2, false, 1) := by kernel_rfl
theorem t_f27_3 : fldI Try.prog 27 3 = some (3, false, 1) := by kernel_rfl
theorem t_f27_8 : fldI Try.prog 27 8 = some (8, false, 1) := by kernel_rfl
theorem t_y25 : tyI Try.prog 25 = some (false, 1) := by kernel_rfl
theorem t_v25 : slTy Try.prog 25 1 = true := by kernel_rfl
theorem t_f27_9 : fldI Try.prog 27 9 = some (9, false, 1) := by kernel_rfl
theorem t_y5 : tyI Try.prog 5 = some (false, 1) := by kernel_rfl
theorem t_w5 : (Try.prog.info? 5).map (·.size) = some 1 := by kernel_rfl
theorem t_mxo : Try.prog.follows .mixedOrders = true := by kernel_rfl
theorem t_a25 : appTy Try.prog 25 1 = true := by kernel_rfl
theorem t_zc5 : zeroC Try.prog 5 = some [.int .u8 0] := by kernel_rfl
theorem t_q22 : (Try.prog.underlying 22).isSome = true := by kernel_rfl
theorem t_u5 : Try.prog.underlying 5 = some (.int .u8) := by kernel_rfl
theorem t_q3 : (Try.prog.underlying 3).isSome = true := by kernel_rfl
theorem t_u22 : Try.prog.underlying 22 = some (.int .u64) := by kernel_rfl
theorem t_u3 : Try.prog.underlying 3 = some (.int .i64) := by kernel_rfl
theorem t_v73 : slTy Try.prog 73 1 = true := by kernel_rfl
theorem t_n25 : noInt (Try.prog.underlying 25) = true := by kernel_rfl
theorem t_zc77 : zeroC Try.prog 77 = some [.int .u8 0, .int .u8 0] := by kernel_rfl
theorem t_r77 : arTy Try.prog 77 2 1 = true := by kernel_rfl
theorem t_w77 : (Try.prog.info? 77).map (·.size) = some 2 := by kernel_rfl
theorem t_q5 : (Try.prog.underlying 5).isSome = true := by kernel_rfl
theorem t_y27 : tyI Try.prog 27 = some (true, 10) := by kernel_rfl
theorem t_f27_6 : fldI Try.prog 27 6 = some (6, false, 1) := by kernel_rfl
theorem t_y24 : tyI Try.prog 24 = some (false, 1) := by kernel_rfl
theorem t_q24 : (Try.prog.underlying 24).isSome = true := by kernel_rfl
theorem t_f27_7 : fldI Try.prog 27 7 = some (7, false, 1) := by kernel_rfl
theorem t_a73 : appTy Try.prog 73 1 = true := by kernel_rfl
theorem t_f50_2 : fldI Try.prog 50 2 = some (2, false, 1) := by kernel_rfl
theorem t_f50_3 : fldI Try.prog 50 3 = some (3, false, 1) := by kernel_rfl
theorem t_f50_4 : fldI Try.prog 50 4 = some (4, false, 1) := by kernel_rfl
theorem t_f50_6 : fldI Try.prog 50 6 = some (6, false, 1) := by kernel_rfl
theorem t_y38 : tyI Try.prog 38 = some (false, 1) := by kernel_rfl
theorem t_v38 : slTy Try.prog 38 1 = true := by kernel_rfl
theorem t_f50_5 : fldI Try.prog 50 5 = some (5, false, 1) := by kernel_rfl
theorem t_f50_7 : fldI Try.prog 50 7 = some (7, false, 1) := by kernel_rfl
theorem t_f50_0 : fldI Try.prog 50 0 = some (0, false, 1) := by kernel_rfl
theorem t_f50_1 : fldI Try.prog 50 1 = some (1, false, 1) := by kernel_rfl
theorem t_b53 : flds Try.prog 53 = some (lay 0 zswho) := by kernel_rfl
theorem t_w53 : (Try.prog.info? 53).map (·.size) = some 4 := by kernel_rfl
theorem t_y53 : tyI Try.prog 53 = some (true, 4) := by kernel_rfl
theorem t_v23 : slTy Try.prog 23 8 = true := by kernel_rfl
theorem t_y50 : tyI Try.prog 50 = some (true, 8) := by kernel_rfl
theorem t_w50 : (Try.prog.info? 50).map (·.size) = some 8 := by kernel_rfl
theorem t_u62 : Try.prog.underlying 62 = some (.map 53 4) := by kernel_rfl
theorem t_u24 : Try.prog.underlying 24 = some (.int .u32) := by kernel_rfl
theorem t_e53 : eqI Try.prog 53 = some [(0, 24, false, 1), (1, 24, false, 1), (2, 3, false, 1), (3, 3, false, 1)] := by kernel_rfl
theorem t_kc53 (e : Bool) (w : World) (a0 a1 a2 a3 : Int) : (Instr.checkKey e 10000 53 (.agg #[.int .u32 a0, .int .u32 a1, .int .i64 a2, .int .i64 a3])).run Try.prog w = .ok () w := by kernel_rfl
theorem t_kb53 (a0 a1 a2 a3 : Int) : Instr.sameBits 10000 (.agg #[.int .u32 a0, .int .u32 a1, .int .i64 a2, .int .i64 a3]) (.agg #[.int .u32 a0, .int .u32 a1, .int .i64 a2, .int .i64 a3]) = true := by simp [Instr.sameBits]
theorem t_q53 : (Try.prog.underlying 53).isSome = true := by kernel_rfl
theorem t_mk53 : MKey Try.prog 53 Kwho := mkey_agg (f := fun x : Twho => [.int .u32 x.src, .int .u32 x.dst, .int .i64 x.id, .int .i64 x.proto]) (r := fun x y => decide (x.src = y.src) && (decide (x.dst = y.dst) && (decide (x.id = y.id) && (decide (x.proto = y.proto))))) rfl (d_iso (d_pair d_int (d_pair d_int (d_pair d_int (d_last d_int))))) (fun e w x => t_kc53 e w x.src x.dst x.id x.proto) t_e53 (.cons swho_src (eq_int t_u24) (.cons swho_dst (eq_int t_u24) (.cons swho_id (eq_int t_u3) (.last swho_proto (eq_int t_u3))))) (fun x y => by cases x; cases y; simp) (fun x => t_kb53 x.src x.dst x.id x.proto) (Option.isSome_iff_exists.1 t_q53)
theorem t_zz4 : (Try.prog.info? 4).bind (·.zero) = some (.bool false) := by kernel_rfl
theorem t_a23 : appTy Try.prog 23 8 = true := by kernel_rfl
theorem t_n23 : noInt (Try.prog.underlying 23) = true := by kernel_rfl
theorem t_a38 : appTy Try.prog 38 1 = true := by kernel_rfl
theorem t_zc4 : zeroC Try.prog 4 = some [.bool false] := by kernel_rfl
theorem t_y4 : tyI Try.prog 4 = some (false, 1) := by kernel_rfl
theorem t_w4 : (Try.prog.info? 4).map (·.size) = some 1 := by kernel_rfl
theorem t_w25 : (Try.prog.info? 25).map (·.size) = some 1 := by kernel_rfl
theorem t_w38 : (Try.prog.info? 38).map (·.size) = some 1 := by kernel_rfl
theorem t_u4 : Try.prog.underlying 4 = some (.bool) := by kernel_rfl
theorem t_zc50 : zeroC Try.prog 50 = some [.int .u32 0, .int .u32 0, .int .i64 0, .int .i64 0, .int .i64 0, .slice none 0 0, .slice none 0 0, .int .i64 0] := by kernel_rfl
theorem t_b27 : flds Try.prog 27 = some (lay 0 zsIp) := by kernel_rfl
theorem t_w27 : (Try.prog.info? 27).map (·.size) = some 10 := by kernel_rfl
theorem t_b50 : flds Try.prog 50 = some (lay 0 zsPiece) := by kernel_rfl
theorem t_w3 : (Try.prog.info? 3).map (·.size) = some 1 := by kernel_rfl
theorem t_u25 : Try.prog.underlying 25 = some (.slice 5) := by kernel_rfl
theorem t_u9 : Try.prog.underlying 9 = some (.string) := by kernel_rfl
theorem t_a35 : appTy Try.prog 35 10 = true := by kernel_rfl
theorem t_n35 : noInt (Try.prog.underlying 35) = true := by kernel_rfl
theorem t_v35 : slTy Try.prog 35 10 = true := by kernel_rfl
theorem t_u39 : Try.prog.underlying 39 = some (.int .u64) := by kernel_rfl
theorem t_q39 : (Try.prog.underlying 39).isSome = true := by kernel_rfl
end Go.Proofs.Ytlpjgmbbcibkjaa.S
