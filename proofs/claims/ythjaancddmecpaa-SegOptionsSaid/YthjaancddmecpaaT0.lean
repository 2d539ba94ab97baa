/- Kinds and facts of types, printed by a program of this session. -/
import Derived.Test.YthjaancddmecpaaProg
import Derived.Test.YthjaancddmecpaaSlX
import Derived.KernelRfl
namespace Go.Proofs.Ythjaancddmecpaa.S
open Go Go.SL Go.RowKit
set_option linter.unusedVariables false
set_option linter.unusedSimpArgs false
structure TSeg where
  Src : Int
  Dst : Int
  Seq : Int
  Ack : Int
  Flags : Int
  Win : Int
  Mss : Int
  Data : List Int
 deriving DecidableEq
def KSeg : Kd TSeg := Kd.iso (Kd.pair (Kd.int .i64) (Kd.pair (Kd.int .i64) (Kd.pair (Kd.int .u32) (Kd.pair (Kd.int .u32) (Kd.pair (Kd.int .i64) (Kd.pair (Kd.int .i64) (Kd.pair (Kd.int .i64) (Kd.last (Kd.sl (Kd.int .u8)))))))))) (fun x => (x.Src, x.Dst, x.Seq, x.Ack, x.Flags, x.Win, x.Mss, x.Data))
theorem PSeg : KSeg.Per := Per_iso (Per_pair Per_int (Per_pair Per_int (Per_pair Per_int (Per_pair Per_int (Per_pair Per_int (Per_pair Per_int (Per_pair Per_int (Per_last Per_sl))))))))
theorem sSeg_Src : Sub KSeg 0 (Kd.int .i64) (fun x => x.Src) := sub_iso sub_fst
theorem sSeg_Dst : Sub KSeg 1 (Kd.int .i64) (fun x => x.Dst) := sub_iso (sub_snd sub_fst)
theorem sSeg_Seq : Sub KSeg 2 (Kd.int .u32) (fun x => x.Seq) := sub_iso (sub_snd (sub_snd sub_fst))
theorem sSeg_Ack : Sub KSeg 3 (Kd.int .u32) (fun x => x.Ack) := sub_iso (sub_snd (sub_snd (sub_snd sub_fst)))
theorem sSeg_Flags : Sub KSeg 4 (Kd.int .i64) (fun x => x.Flags) := sub_iso (sub_snd (sub_snd (sub_snd (sub_snd sub_fst))))
theorem sSeg_Win : Sub KSeg 5 (Kd.int .i64) (fun x => x.Win) := sub_iso (sub_snd (sub_snd (sub_snd (sub_snd (sub_snd sub_fst)))))
theorem sSeg_Mss : Sub KSeg 6 (Kd.int .i64) (fun x => x.Mss) := sub_iso (sub_snd (sub_snd (sub_snd (sub_snd (sub_snd (sub_snd sub_fst))))))
theorem sSeg_Data : Sub KSeg 7 (Kd.sl (Kd.int .u8)) (fun x => x.Data) := sub_iso (sub_snd (sub_snd (sub_snd (sub_snd (sub_snd (sub_snd (sub_snd sub_last)))))))
theorem cSeg (b : Nat) (x : TSeg) : Chain KSeg b 0 x [Fld (Kd.int .i64) b 0 x.Src, Fld (Kd.int .i64) b 1 x.Dst, Fld (Kd.int .u32) b 2 x.Seq, Fld (Kd.int .u32) b 3 x.Ack, Fld (Kd.int .i64) b 4 x.Flags, Fld (Kd.int .i64) b 5 x.Win, Fld (Kd.int .i64) b 6 x.Mss, Fld (Kd.sl (Kd.int .u8)) b 7 x.Data] := .iso (.pair rfl (.pair rfl (.pair rfl (.pair rfl (.pair rfl (.pair rfl (.pair rfl .last)))))))
def zSeg : TSeg := ⟨0, 0, 0, 0, 0, 0, 0, []⟩
def zsSeg : List (List Value) := [[.int .i64 0], [.int .i64 0], [.int .u32 0], [.int .u32 0], [.int .i64 0], [.int .i64 0], [.int .i64 0], [.slice none 0 0]]
theorem ZSeg : ZC KSeg zSeg [.int .i64 0, .int .i64 0, .int .u32 0, .int .u32 0, .int .i64 0, .int .i64 0, .int .i64 0, .slice none 0 0] := z_iso (z_pair z_int (z_pair z_int (z_pair z_int (z_pair z_int (z_pair z_int (z_pair z_int (z_pair z_int (z_last z_sl))))))))
structure Thead where
  src : Int
  dst : Int
  seq : Int
  ack : Int
  flags : Int
  win : Int
 deriving DecidableEq
def Khead : Kd Thead := Kd.iso (Kd.pair (Kd.int .u16) (Kd.pair (Kd.int .u16) (Kd.pair (Kd.int .u32) (Kd.pair (Kd.int .u32) (Kd.pair (Kd.int .u8) (Kd.last (Kd.int .u16))))))) (fun x => (x.src, x.dst, x.seq, x.ack, x.flags, x.win))
theorem Phead : Khead.Per := Per_iso (Per_pair Per_int (Per_pair Per_int (Per_pair Per_int (Per_pair Per_int (Per_pair Per_int (Per_last Per_int))))))
theorem shead_src : Sub Khead 0 (Kd.int .u16) (fun x => x.src) := sub_iso sub_fst
theorem shead_dst : Sub Khead 1 (Kd.int .u16) (fun x => x.dst) := sub_iso (sub_snd sub_fst)
theorem shead_seq : Sub Khead 2 (Kd.int .u32) (fun x => x.seq) := sub_iso (sub_snd (sub_snd sub_fst))
theorem shead_ack : Sub Khead 3 (Kd.int .u32) (fun x => x.ack) := sub_iso (sub_snd (sub_snd (sub_snd sub_fst)))
theorem shead_flags : Sub Khead 4 (Kd.int .u8) (fun x => x.flags) := sub_iso (sub_snd (sub_snd (sub_snd (sub_snd sub_fst))))
theorem shead_win : Sub Khead 5 (Kd.int .u16) (fun x => x.win) := sub_iso (sub_snd (sub_snd (sub_snd (sub_snd (sub_snd sub_last)))))
theorem chead (b : Nat) (x : Thead) : Chain Khead b 0 x [Fld (Kd.int .u16) b 0 x.src, Fld (Kd.int .u16) b 1 x.dst, Fld (Kd.int .u32) b 2 x.seq, Fld (Kd.int .u32) b 3 x.ack, Fld (Kd.int .u8) b 4 x.flags, Fld (Kd.int .u16) b 5 x.win] := .iso (.pair rfl (.pair rfl (.pair rfl (.pair rfl (.pair rfl .last)))))
def zhead : Thead := ⟨0, 0, 0, 0, 0, 0⟩
def zshead : List (List Value) := [[.int .u16 0], [.int .u16 0], [.int .u32 0], [.int .u32 0], [.int .u8 0], [.int .u16 0]]
theorem Zhead : ZC Khead zhead [.int .u16 0, .int .u16 0, .int .u32 0, .int .u32 0, .int .u8 0, .int .u16 0] := z_iso (z_pair z_int (z_pair z_int (z_pair z_int (z_pair z_int (z_pair z_int (z_last z_int))))))
theorem t_f25_0 : fldI Try.prog 25 0 = some (0, false, 1) := by kernel_rfl
theorem t_y3 : tyI Try.prog 3 = some (false, 1) := by kernel_rfl
theorem t_q3 : (Try.prog.underlying 3).isSome = true := by kernel_rfl
theorem t_u52 : Try.prog.underlying 52 = some (.int .u16) := by kernel_rfl
theorem t_f25_1 : fldI Try.prog 25 1 = some (1, false, 1) := by kernel_rfl
theorem t_f25_2 : fldI Try.prog 25 2 = some (2, false, 1) := by kernel_rfl
theorem t_y22 : tyI Try.prog 22 = some (false, 1) := by kernel_rfl
theorem t_f25_3 : fldI Try.prog 25 3 = some (3, false, 1) := by kernel_rfl
theorem t_f25_4 : fldI Try.prog 25 4 = some (4, false, 1) := by kernel_rfl
theorem t_u5 : Try.prog.underlying 5 = some (.int .u8) := by kernel_rfl
theorem t_f25_5 : fldI Try.prog 25 5 = some (5, false, 1) := by kernel_rfl
theorem t_b54 : flds Try.prog 54 = some (lay 0 zshead) := by kernel_rfl
theorem t_w54 : (Try.prog.info? 54).map (·.size) = some 6 := by kernel_rfl
theorem t_y54 : tyI Try.prog 54 = some (true, 6) := by kernel_rfl
theorem t_f54_0 : fldI Try.prog 54 0 = some (0, false, 1) := by kernel_rfl
theorem t_y52 : tyI Try.prog 52 = some (false, 1) := by kernel_rfl
theorem t_q52 : (Try.prog.underlying 52).isSome = true := by kernel_rfl
theorem t_u3 : Try.prog.underlying 3 = some (.int .i64) := by kernel_rfl
theorem t_f54_1 : fldI Try.prog 54 1 = some (1, false, 1) := by kernel_rfl
theorem t_f54_2 : fldI Try.prog 54 2 = some (2, false, 1) := by kernel_rfl
theorem t_f54_3 : fldI Try.prog 54 3 = some (3, false, 1) := by kernel_rfl
theorem t_f54_4 : fldI Try.prog 54 4 = some (4, false, 1) := by kernel_rfl
theorem t_y5 : tyI Try.prog 5 = some (false, 1) := by kernel_rfl
theorem t_q5 : (Try.prog.underlying 5).isSome = true := by kernel_rfl
theorem t_f54_5 : fldI Try.prog 54 5 = some (5, false, 1) := by kernel_rfl
theorem t_b25 : flds Try.prog 25 = some (lay 0 zsSeg) := by kernel_rfl
theorem t_w25 : (Try.prog.info? 25).map (·.size) = some 8 := by kernel_rfl
theorem t_y25 : tyI Try.prog 25 = some (true, 8) := by kernel_rfl
theorem t_mxo : Try.prog.follows .mixedOrders = true := by kernel_rfl
theorem t_u22 : Try.prog.underlying 22 = some (.int .u32) := by kernel_rfl
theorem t_e54 : eqI Try.prog 54 = some [(0, 52, false, 1), (1, 52, false, 1), (2, 22, false, 1), (3, 22, false, 1), (4, 5, false, 1), (5, 52, false, 1)] := by kernel_rfl
theorem t_v23 : slTy Try.prog 23 1 = true := by kernel_rfl
theorem t_w5 : (Try.prog.info? 5).map (·.size) = some 1 := by kernel_rfl
theorem t_a23 : appTy Try.prog 23 1 = true := by kernel_rfl
theorem t_zc5 : zeroC Try.prog 5 = some [.int .u8 0] := by kernel_rfl
theorem t_q49 : (Try.prog.underlying 49).isSome = true := by kernel_rfl
theorem t_v70 : slTy Try.prog 70 1 = true := by kernel_rfl
theorem t_y23 : tyI Try.prog 23 = some (false, 1) := by kernel_rfl
theorem t_n23 : noInt (Try.prog.underlying 23) = true := by kernel_rfl
theorem t_q22 : (Try.prog.underlying 22).isSome = true := by kernel_rfl
theorem t_u49 : Try.prog.underlying 49 = some (.int .u64) := by kernel_rfl
theorem t_a70 : appTy Try.prog 70 1 = true := by kernel_rfl
theorem t_zc71 : zeroC Try.prog 71 = some [.int .u8 0, .int .u8 0] := by kernel_rfl
theorem t_r71 : arTy Try.prog 71 2 1 = true := by kernel_rfl
theorem t_w71 : (Try.prog.info? 71).map (·.size) = some 2 := by kernel_rfl
theorem t_f25_6 : fldI Try.prog 25 6 = some (6, false, 1) := by kernel_rfl
theorem t_f25_7 : fldI Try.prog 25 7 = some (7, false, 1) := by kernel_rfl
theorem t_w3 : (Try.prog.info? 3).map (·.size) = some 1 := by kernel_rfl
theorem t_w23 : (Try.prog.info? 23).map (·.size) = some 1 := by kernel_rfl
theorem t_v38 : slTy Try.prog 38 8 = true := by kernel_rfl
theorem t_u23 : Try.prog.underlying 23 = some (.slice 5) := by kernel_rfl
theorem t_u9 : Try.prog.underlying 9 = some (.string) := by kernel_rfl
theorem t_u21 : Try.prog.underlying 21 = some (.int .i32) := by kernel_rfl
theorem t_a38 : appTy Try.prog 38 8 = true := by kernel_rfl
theorem t_u48 : Try.prog.underlying 48 = some (.int .u64) := by kernel_rfl
end Go.Proofs.Ythjaancddmecpaa.S
