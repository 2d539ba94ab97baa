/- Kinds and facts of types, printed by a program of this session. -/
import Derived.Test.YtpcbhkigmnpimaaProg
import Derived.Test.YtpcbhkigmnpimaaSlZ
import Derived.KernelRfl
namespace Go.Proofs.Ytpcbhkigmnpimaa.S
open Go Go.SL Go.RowKit
set_option linter.unusedVariables false
set_option linter.unusedSimpArgs false
structure TSeg where
  Src : Int
  Dst : Int
  Seq : Int
  Ack : Int
  Flags : Int
  Win : Int
  Mss : Int
  Data : List Int
 deriving DecidableEq
def KSeg : Kd TSeg := Kd.iso (Kd.pair (Kd.int .i64) (Kd.pair (Kd.int .i64) (Kd.pair (Kd.int .u32) (Kd.pair (Kd.int .u32) (Kd.pair (Kd.int .i64) (Kd.pair (Kd.int .i64) (Kd.pair (Kd.int .i64) (Kd.last (Kd.sl (Kd.int .u8)))))))))) (fun x => (x.Src, x.Dst, x.Seq, x.Ack, x.Flags, x.Win, x.Mss, x.Data))
theorem PSeg : KSeg.Per := Per_iso (Per_pair Per_int (Per_pair Per_int (Per_pair Per_int (Per_pair Per_int (Per_pair Per_int (Per_pair Per_int (Per_pair Per_int (Per_last Per_sl))))))))
theorem sSeg_Src : Sub KSeg 0 (Kd.int .i64) (fun x => x.Src) := sub_iso sub_fst
theorem sSeg_Dst : Sub KSeg 1 (Kd.int .i64) (fun x => x.Dst) := sub_iso (sub_snd sub_fst)
theorem sSeg_Seq : Sub KSeg 2 (Kd.int .u32) (fun x => x.Seq) := sub_iso (sub_snd (sub_snd sub_fst))
theorem sSeg_Ack : Sub KSeg 3 (Kd.int .u32) (fun x => x.Ack) := sub_iso (sub_snd (sub_snd (sub_snd sub_fst)))
theorem sSeg_Flags : Sub KSeg 4 (Kd.int .i64) (fun x => x.Flags) := sub_iso (sub_snd (sub_snd (sub_snd (sub_snd sub_fst))))
theorem sSeg_Win : Sub KSeg 5 (Kd.int .i64) (fun x => x.Win) := sub_iso (sub_snd (sub_snd (sub_snd (sub_snd (sub_snd sub_fst)))))
theorem sSeg_Mss : Sub KSeg 6 (Kd.int .i64) (fun x => x.Mss) := sub_iso (sub_snd (sub_snd (sub_snd (sub_snd (sub_snd (sub_snd sub_fst))))))
theorem sSeg_Data : Sub KSeg 7 (Kd.sl (Kd.int .u8)) (fun x => x.Data) := sub_iso (sub_snd (sub_snd (sub_snd (sub_snd (sub_snd (sub_snd (sub_snd sub_last)))))))
theorem cSeg (b : Nat) (x : TSeg) : Chain KSeg b 0 x [Fld (Kd.int .i64) b 0 x.Src, Fld (Kd.int .i64) b 1 x.Dst, Fld (Kd.int .u32) b 2 x.Seq, Fld (Kd.int .u32) b 3 x.Ack, Fld (Kd.int .i64) b 4 x.Flags, Fld (Kd.int .i64) b 5 x.Win, Fld (Kd.int .i64) b 6 x.Mss, Fld (Kd.sl (Kd.int .u8)) b 7 x.Data] := .iso (.pair rfl (.pair rfl (.pair rfl (.pair rfl (.pair rfl (.pair rfl (.pair rfl .last)))))))
def zSeg : TSeg := ⟨0, 0, 0, 0, 0, 0, 0, []⟩
def zsSeg : List (List Value) := [[.int .i64 0], [.int .i64 0], [.int .u32 0], [.int .u32 0], [.int .i64 0], [.int .i64 0], [.int .i64 0], [.slice none 0 0]]
theorem ZSeg : ZC KSeg zSeg [.int .i64 0, .int .i64 0, .int .u32 0, .int .u32 0, .int .i64 0, .int .i64 0, .int .i64 0, .slice none 0 0] := z_iso (z_pair z_int (z_pair z_int (z_pair z_int (z_pair z_int (z_pair z_int (z_pair z_int (z_pair z_int (z_last z_sl))))))))
structure TEarly where
  Seq : Int
  Data : List Int
 deriving DecidableEq
def KEarly : Kd TEarly := Kd.iso (Kd.pair (Kd.int .u32) (Kd.last (Kd.sl (Kd.int .u8)))) (fun x => (x.Seq, x.Data))
theorem PEarly : KEarly.Per := Per_iso (Per_pair Per_int (Per_last Per_sl))
theorem sEarly_Seq : Sub KEarly 0 (Kd.int .u32) (fun x => x.Seq) := sub_iso sub_fst
theorem sEarly_Data : Sub KEarly 1 (Kd.sl (Kd.int .u8)) (fun x => x.Data) := sub_iso (sub_snd sub_last)
theorem cEarly (b : Nat) (x : TEarly) : Chain KEarly b 0 x [Fld (Kd.int .u32) b 0 x.Seq, Fld (Kd.sl (Kd.int .u8)) b 1 x.Data] := .iso (.pair rfl .last)
def zEarly : TEarly := ⟨0, []⟩
def zsEarly : List (List Value) := [[.int .u32 0], [.slice none 0 0]]
theorem ZEarly : ZC KEarly zEarly [.int .u32 0, .slice none 0 0] := z_iso (z_pair z_int (z_last z_sl))
structure TConn where
  Id : Int
  Guest : Int
  Gport : Int
  Remote : Int
  Rport : Int
  Opening : Bool
  Up : Bool
  Done : Bool
  Begin : Int
  Una : Int
  Next : Int
  Want : Int
  Win : Int
  Mss : Int
  ToHost : List Int
  ToGuest : List Int
  Early : List TEarly
  Fin : Bool
  Eof : Bool
  Shut : Bool
  At : Int
  Wait : Int
  Tries : Int
 deriving DecidableEq
def KConn : Kd TConn := Kd.iso (Kd.pair (Kd.int .i64) (Kd.pair (Kd.int .u32) (Kd.pair (Kd.int .i64) (Kd.pair (Kd.int .u32) (Kd.pair (Kd.int .i64) (Kd.pair Kd.bool (Kd.pair Kd.bool (Kd.pair Kd.bool (Kd.pair (Kd.int .u32) (Kd.pair (Kd.int .u32) (Kd.pair (Kd.int .u32) (Kd.pair (Kd.int .u32) (Kd.pair (Kd.int .i64) (Kd.pair (Kd.int .i64) (Kd.pair (Kd.sl (Kd.int .u8)) (Kd.pair (Kd.sl (Kd.int .u8)) (Kd.pair (Kd.sl KEarly) (Kd.pair Kd.bool (Kd.pair Kd.bool (Kd.pair Kd.bool (Kd.pair (Kd.int .i64) (Kd.pair (Kd.int .i64) (Kd.last (Kd.int .i64)))))))))))))))))))))))) (fun x => (x.Id, x.Guest, x.Gport, x.Remote, x.Rport, x.Opening, x.Up, x.Done, x.Begin, x.Una, x.Next, x.Want, x.Win, x.Mss, x.ToHost, x.ToGuest, x.Early, x.Fin, x.Eof, x.Shut, x.At, x.Wait, x.Tries))
theorem PConn : KConn.Per := Per_iso (Per_pair Per_int (Per_pair Per_int (Per_pair Per_int (Per_pair Per_int (Per_pair Per_int (Per_pair Per_bool (Per_pair Per_bool (Per_pair Per_bool (Per_pair Per_int (Per_pair Per_int (Per_pair Per_int (Per_pair Per_int (Per_pair Per_int (Per_pair Per_int (Per_pair Per_sl (Per_pair Per_sl (Per_pair Per_sl (Per_pair Per_bool (Per_pair Per_bool (Per_pair Per_bool (Per_pair Per_int (Per_pair Per_int (Per_last Per_int)))))))))))))))))))))))
theorem sConn_Id : Sub KConn 0 (Kd.int .i64) (fun x => x.Id) := sub_iso sub_fst
theorem sConn_Guest : Sub KConn 1 (Kd.int .u32) (fun x => x.Guest) := sub_iso (sub_snd sub_fst)
theorem sConn_Gport : Sub KConn 2 (Kd.int .i64) (fun x => x.Gport) := sub_iso (sub_snd (sub_snd sub_fst))
theorem sConn_Remote : Sub KConn 3 (Kd.int .u32) (fun x => x.Remote) := sub_iso (sub_snd (sub_snd (sub_snd sub_fst)))
theorem sConn_Rport : Sub KConn 4 (Kd.int .i64) (fun x => x.Rport) := sub_iso (sub_snd (sub_snd (sub_snd (sub_snd sub_fst))))
theorem sConn_Opening : Sub KConn 5 Kd.bool (fun x => x.Opening) := sub_iso (sub_snd (sub_snd (sub_snd (sub_snd (sub_snd sub_fst)))))
theorem sConn_Up : Sub KConn 6 Kd.bool (fun x => x.Up) := sub_iso (sub_snd (sub_snd (sub_snd (sub_snd (sub_snd (sub_snd sub_fst))))))
theorem sConn_Done : Sub KConn 7 Kd.bool (fun x => x.Done) := sub_iso (sub_snd (sub_snd (sub_snd (sub_snd (sub_snd (sub_snd (sub_snd sub_fst)))))))
theorem sConn_Begin : Sub KConn 8 (Kd.int .u32) (fun x => x.Begin) := sub_iso (sub_snd (sub_snd (sub_snd (sub_snd (sub_snd (sub_snd (sub_snd (sub_snd sub_fst))))))))
theorem sConn_Una : Sub KConn 9 (Kd.int .u32) (fun x => x.Una) := sub_iso (sub_snd (sub_snd (sub_snd (sub_snd (sub_snd (sub_snd (sub_snd (sub_snd (sub_snd sub_fst)))))))))
theorem sConn_Next : Sub KConn 10 (Kd.int .u32) (fun x => x.Next) := sub_iso (sub_snd (sub_snd (sub_snd (sub_snd (sub_snd (sub_snd (sub_snd (sub_snd (sub_snd (sub_snd sub_fst))))))))))
theorem sConn_Want : Sub KConn 11 (Kd.int .u32) (fun x => x.Want) := sub_iso (sub_snd (sub_snd (sub_snd (sub_snd (sub_snd (sub_snd (sub_snd (sub_snd (sub_snd (sub_snd (sub_snd sub_fst)))))))))))
theorem sConn_Win : Sub KConn 12 (Kd.int .i64) (fun x => x.Win) := sub_iso (sub_snd (sub_snd (sub_snd (sub_snd (sub_snd (sub_snd (sub_snd (sub_snd (sub_snd (sub_snd (sub_snd (sub_snd sub_fst))))))))))))
theorem sConn_Mss : Sub KConn 13 (Kd.int .i64) (fun x => x.Mss) := sub_iso (sub_snd (sub_snd (sub_snd (sub_snd (sub_snd (sub_snd (sub_snd (sub_snd (sub_snd (sub_snd (sub_snd (sub_snd (sub_snd sub_fst)))))))))))))
theorem sConn_ToHost : Sub KConn 14 (Kd.sl (Kd.int .u8)) (fun x => x.ToHost) := sub_iso (sub_snd (sub_snd (sub_snd (sub_snd (sub_snd (sub_snd (sub_snd (sub_snd (sub_snd (sub_snd (sub_snd (sub_snd (sub_snd (sub_snd sub_fst))))))))))))))
theorem sConn_ToGuest : Sub KConn 15 (Kd.sl (Kd.int .u8)) (fun x => x.ToGuest) := sub_iso (sub_snd (sub_snd (sub_snd (sub_snd (sub_snd (sub_snd (sub_snd (sub_snd (sub_snd (sub_snd (sub_snd (sub_snd (sub_snd (sub_snd (sub_snd sub_fst)))))))))))))))
theorem sConn_Early : Sub KConn 16 (Kd.sl KEarly) (fun x => x.Early) := sub_iso (sub_snd (sub_snd (sub_snd (sub_snd (sub_snd (sub_snd (sub_snd (sub_snd (sub_snd (sub_snd (sub_snd (sub_snd (sub_snd (sub_snd (sub_snd (sub_snd sub_fst))))))))))))))))
theorem sConn_Fin : Sub KConn 17 Kd.bool (fun x => x.Fin) := sub_iso (sub_snd (sub_snd (sub_snd (sub_snd (sub_snd (sub_snd (sub_snd (sub_snd (sub_snd (sub_snd (sub_snd (sub_snd (sub_snd (sub_snd (sub_snd (sub_snd (sub_snd sub_fst)))))))))))))))))
theorem sConn_Eof : Sub KConn 18 Kd.bool (fun x => x.Eof) := sub_iso (sub_snd (sub_snd (sub_snd (sub_snd (sub_snd (sub_snd (sub_snd (sub_snd (sub_snd (sub_snd (sub_snd (sub_snd (sub_snd (sub_snd (sub_snd (sub_snd (sub_snd (sub_snd sub_fst))))))))))))))))))
theorem sConn_Shut : Sub KConn 19 Kd.bool (fun x => x.Shut) := sub_iso (sub_snd (sub_snd (sub_snd (sub_snd (sub_snd (sub_snd (sub_snd (sub_snd (sub_snd (sub_snd (sub_snd (sub_snd (sub_snd (sub_snd (sub_snd (sub_snd (sub_snd (sub_snd (sub_snd sub_fst)))))))))))))))))))
theorem sConn_At : Sub KConn 20 (Kd.int .i64) (fun x => x.At) := sub_iso (sub_snd (sub_snd (sub_snd (sub_snd (sub_snd (sub_snd (sub_snd (sub_snd (sub_snd (sub_snd (sub_snd (sub_snd (sub_snd (sub_snd (sub_snd (sub_snd (sub_snd (sub_snd (sub_snd (sub_snd sub_fst))))))))))))))))))))
theorem sConn_Wait : Sub KConn 21 (Kd.int .i64) (fun x => x.Wait) := sub_iso (sub_snd (sub_snd (sub_snd (sub_snd (sub_snd (sub_snd (sub_snd (sub_snd (sub_snd (sub_snd (sub_snd (sub_snd (sub_snd (sub_snd (sub_snd (sub_snd (sub_snd (sub_snd (sub_snd (sub_snd (sub_snd sub_fst)))))))))))))))))))))
theorem sConn_Tries : Sub KConn 22 (Kd.int .i64) (fun x => x.Tries) := sub_iso (sub_snd (sub_snd (sub_snd (sub_snd (sub_snd (sub_snd (sub_snd (sub_snd (sub_snd (sub_snd (sub_snd (sub_snd (sub_snd (sub_snd (sub_snd (sub_snd (sub_snd (sub_snd (sub_snd (sub_snd (sub_snd (sub_snd sub_last))))))))))))))))))))))
theorem cConn (b : Nat) (x : TConn) : Chain KConn b 0 x [Fld (Kd.int .i64) b 0 x.Id, Fld (Kd.int .u32) b 1 x.Guest, Fld (Kd.int .i64) b 2 x.Gport, Fld (Kd.int .u32) b 3 x.Remote, Fld (Kd.int .i64) b 4 x.Rport, Fld Kd.bool b 5 x.Opening, Fld Kd.bool b 6 x.Up, Fld Kd.bool b 7 x.Done, Fld (Kd.int .u32) b 8 x.Begin, Fld (Kd.int .u32) b 9 x.Una, Fld (Kd.int .u32) b 10 x.Next, Fld (Kd.int .u32) b 11 x.Want, Fld (Kd.int .i64) b 12 x.Win, Fld (Kd.int .i64) b 13 x.Mss, Fld (Kd.sl (Kd.int .u8)) b 14 x.ToHost, Fld (Kd.sl (Kd.int .u8)) b 15 x.ToGuest, Fld (Kd.sl KEarly) b 16 x.Early, Fld Kd.bool b 17 x.Fin, Fld Kd.bool b 18 x.Eof, Fld Kd.bool b 19 x.Shut, Fld (Kd.int .i64) b 20 x.At, Fld (Kd.int .i64) b 21 x.Wait, Fld (Kd.int .i64) b 22 x.Tries] := .iso (.pair rfl (.pair rfl (.pair rfl (.pair rfl (.pair rfl (.pair rfl (.pair rfl (.pair rfl (.pair rfl (.pair rfl (.pair rfl (.pair rfl (.pair rfl (.pair rfl (.pair rfl (.pair rfl (.pair rfl (.pair rfl (.pair rfl (.pair rfl (.pair rfl (.pair rfl .last))))))))))))))))))))))
def zConn : TConn := ⟨0, 0, 0, 0, 0, false, false, false, 0, 0, 0, 0, 0, 0, [], [], [], false, false, false, 0, 0, 0⟩
def zsConn : List (List Value) := [[.int .i64 0], [.int .u32 0], [.int .i64 0], [.int .u32 0], [.int .i64 0], [.bool false], [.bool false], [.bool false], [.int .u32 0], [.int .u32 0], [.int .u32 0], [.int .u32 0], [.int .i64 0], [.int .i64 0], [.slice none 0 0], [.slice none 0 0], [.slice none 0 0], [.bool false], [.bool false], [.bool false], [.int .i64 0], [.int .i64 0], [.int .i64 0]]
theorem ZConn : ZC KConn zConn [.int .i64 0, .int .u32 0, .int .i64 0, .int .u32 0, .int .i64 0, .bool false, .bool false, .bool false, .int .u32 0, .int .u32 0, .int .u32 0, .int .u32 0, .int .i64 0, .int .i64 0, .slice none 0 0, .slice none 0 0, .slice none 0 0, .bool false, .bool false, .bool false, .int .i64 0, .int .i64 0, .int .i64 0] := z_iso (z_pair z_int (z_pair z_int (z_pair z_int (z_pair z_int (z_pair z_int (z_pair z_bool (z_pair z_bool (z_pair z_bool (z_pair z_int (z_pair z_int (z_pair z_int (z_pair z_int (z_pair z_int (z_pair z_int (z_pair z_sl (z_pair z_sl (z_pair z_sl (z_pair z_bool (z_pair z_bool (z_pair z_bool (z_pair z_int (z_pair z_int (z_last z_int)))))))))))))))))))))))
structure TCall where
  Kind : Int
  Id : Int
  Remote : Int
  Port : Int
  Data : List Int
 deriving DecidableEq
def KCall : Kd TCall := Kd.iso (Kd.pair (Kd.int .i64) (Kd.pair (Kd.int .i64) (Kd.pair (Kd.int .u32) (Kd.pair (Kd.int .i64) (Kd.last (Kd.sl (Kd.int .u8))))))) (fun x => (x.Kind, x.Id, x.Remote, x.Port, x.Data))
theorem PCall : KCall.Per := Per_iso (Per_pair Per_int (Per_pair Per_int (Per_pair Per_int (Per_pair Per_int (Per_last Per_sl)))))
theorem sCall_Kind : Sub KCall 0 (Kd.int .i64) (fun x => x.Kind) := sub_iso sub_fst
theorem sCall_Id : Sub KCall 1 (Kd.int .i64) (fun x => x.Id) := sub_iso (sub_snd sub_fst)
theorem sCall_Remote : Sub KCall 2 (Kd.int .u32) (fun x => x.Remote) := sub_iso (sub_snd (sub_snd sub_fst))
theorem sCall_Port : Sub KCall 3 (Kd.int .i64) (fun x => x.Port) := sub_iso (sub_snd (sub_snd (sub_snd sub_fst)))
theorem sCall_Data : Sub KCall 4 (Kd.sl (Kd.int .u8)) (fun x => x.Data) := sub_iso (sub_snd (sub_snd (sub_snd (sub_snd sub_last))))
theorem cCall (b : Nat) (x : TCall) : Chain KCall b 0 x [Fld (Kd.int .i64) b 0 x.Kind, Fld (Kd.int .i64) b 1 x.Id, Fld (Kd.int .u32) b 2 x.Remote, Fld (Kd.int .i64) b 3 x.Port, Fld (Kd.sl (Kd.int .u8)) b 4 x.Data] := .iso (.pair rfl (.pair rfl (.pair rfl (.pair rfl .last))))
def zCall : TCall := ⟨0, 0, 0, 0, []⟩
def zsCall : List (List Value) := [[.int .i64 0], [.int .i64 0], [.int .u32 0], [.int .i64 0], [.slice none 0 0]]
theorem ZCall : ZC KCall zCall [.int .i64 0, .int .i64 0, .int .u32 0, .int .i64 0, .slice none 0 0] := z_iso (z_pair z_int (z_pair z_int (z_pair z_int (z_pair z_int (z_last z_sl)))))
structure Tstep where
  Conn : TConn
  now : Int
  segs : List TSeg
  calls : List TCall
  gone : Bool
 deriving DecidableEq
def Kstep : Kd Tstep := Kd.iso (Kd.pair KConn (Kd.pair (Kd.int .i64) (Kd.pair (Kd.osl KSeg) (Kd.pair (Kd.osl KCall) (Kd.last Kd.bool))))) (fun x => (x.Conn, x.now, x.segs, x.calls, x.gone))
theorem sstep_Conn : Sub Kstep 0 KConn (fun x => x.Conn) := sub_iso sub_fst
theorem sstep_now : Sub Kstep 23 (Kd.int .i64) (fun x => x.now) := sub_iso (sub_snd sub_fst)
theorem sstep_segs : Sub Kstep 24 (Kd.osl KSeg) (fun x => x.segs) := sub_iso (sub_snd (sub_snd sub_fst))
theorem sstep_calls : Sub Kstep 25 (Kd.osl KCall) (fun x => x.calls) := sub_iso (sub_snd (sub_snd (sub_snd sub_fst)))
theorem sstep_gone : Sub Kstep 26 Kd.bool (fun x => x.gone) := sub_iso (sub_snd (sub_snd (sub_snd (sub_snd sub_last))))
theorem cstep (b : Nat) (x : Tstep) : Chain Kstep b 0 x [Fld KConn b 0 x.Conn, Fld (Kd.int .i64) b 23 x.now, Fld (Kd.osl KSeg) b 24 x.segs, Fld (Kd.osl KCall) b 25 x.calls, Fld Kd.bool b 26 x.gone] := .iso (.pair rfl (.pair rfl (.pair rfl (.pair rfl .last))))
def zstep : Tstep := ⟨zConn, 0, [], [], false⟩
def zsstep : List (List Value) := [[.int .i64 0, .int .u32 0, .int .i64 0, .int .u32 0, .int .i64 0, .bool false, .bool false, .bool false, .int .u32 0, .int .u32 0, .int .u32 0, .int .u32 0, .int .i64 0, .int .i64 0, .slice none 0 0, .slice none 0 0, .slice none 0 0, .bool false, .bool false, .bool false, .int .i64 0, .int .i64 0, .int .i64 0], [.int .i64 0], [.slice none 0 0], [.slice none 0 0], [.bool false]]
theorem Zstep : ZC Kstep zstep [.int .i64 0, .int .u32 0, .int .i64 0, .int .u32 0, .int .i64 0, .bool false, .bool false, .bool false, .int .u32 0, .int .u32 0, .int .u32 0, .int .u32 0, .int .i64 0, .int .i64 0, .slice none 0 0, .slice none 0 0, .slice none 0 0, .bool false, .bool false, .bool false, .int .i64 0, .int .i64 0, .int .i64 0, .int .i64 0, .slice none 0 0, .slice none 0 0, .bool false] := z_iso (z_pair ZConn (z_pair z_int (z_pair z_osl (z_pair z_osl (z_last z_bool)))))
structure TTell where
  Kind : Int
  Id : Int
  Data : List Int
  N : Int
 deriving DecidableEq
def KTell : Kd TTell := Kd.iso (Kd.pair (Kd.int .i64) (Kd.pair (Kd.int .i64) (Kd.pair (Kd.sl (Kd.int .u8)) (Kd.last (Kd.int .i64))))) (fun x => (x.Kind, x.Id, x.Data, x.N))
theorem PTell : KTell.Per := Per_iso (Per_pair Per_int (Per_pair Per_int (Per_pair Per_sl (Per_last Per_int))))
theorem sTell_Kind : Sub KTell 0 (Kd.int .i64) (fun x => x.Kind) := sub_iso sub_fst
theorem sTell_Id : Sub KTell 1 (Kd.int .i64) (fun x => x.Id) := sub_iso (sub_snd sub_fst)
theorem sTell_Data : Sub KTell 2 (Kd.sl (Kd.int .u8)) (fun x => x.Data) := sub_iso (sub_snd (sub_snd sub_fst))
theorem sTell_N : Sub KTell 3 (Kd.int .i64) (fun x => x.N) := sub_iso (sub_snd (sub_snd (sub_snd sub_last)))
theorem cTell (b : Nat) (x : TTell) : Chain KTell b 0 x [Fld (Kd.int .i64) b 0 x.Kind, Fld (Kd.int .i64) b 1 x.Id, Fld (Kd.sl (Kd.int .u8)) b 2 x.Data, Fld (Kd.int .i64) b 3 x.N] := .iso (.pair rfl (.pair rfl (.pair rfl .last)))
def zTell : TTell := ⟨0, 0, [], 0⟩
def zsTell : List (List Value) := [[.int .i64 0], [.int .i64 0], [.slice none 0 0], [.int .i64 0]]
theorem ZTell : ZC KTell zTell [.int .i64 0, .int .i64 0, .slice none 0 0, .int .i64 0] := z_iso (z_pair z_int (z_pair z_int (z_pair z_sl (z_last z_int))))
def KstepR : Kd Tstep := Kd.iso (Kd.pair KConn (Kd.pair (Kd.int .i64) (Kd.pair (Kd.sl KSeg) (Kd.pair (Kd.sl KCall) (Kd.last Kd.bool))))) (fun x => (x.Conn, x.now, x.segs, x.calls, x.gone))
theorem PstepR : KstepR.Per := Per_iso (Per_pair PConn (Per_pair Per_int (Per_pair Per_sl (Per_pair Per_sl (Per_last Per_bool)))))
theorem sstepR_Conn : Sub KstepR 0 KConn (fun x => x.Conn) := sub_iso sub_fst
theorem sstepR_now : Sub KstepR 23 (Kd.int .i64) (fun x => x.now) := sub_iso (sub_snd sub_fst)
theorem sstepR_segs : Sub KstepR 24 (Kd.sl KSeg) (fun x => x.segs) := sub_iso (sub_snd (sub_snd sub_fst))
theorem sstepR_calls : Sub KstepR 25 (Kd.sl KCall) (fun x => x.calls) := sub_iso (sub_snd (sub_snd (sub_snd sub_fst)))
theorem sstepR_gone : Sub KstepR 26 Kd.bool (fun x => x.gone) := sub_iso (sub_snd (sub_snd (sub_snd (sub_snd sub_last))))
structure Thead where
  src : Int
  dst : Int
  seq : Int
  ack : Int
  flags : Int
  win : Int
 deriving DecidableEq
def Khead : Kd Thead := Kd.iso (Kd.pair (Kd.int .u16) (Kd.pair (Kd.int .u16) (Kd.pair (Kd.int .u32) (Kd.pair (Kd.int .u32) (Kd.pair (Kd.int .u8) (Kd.last (Kd.int .u16))))))) (fun x => (x.src, x.dst, x.seq, x.ack, x.flags, x.win))
theorem Phead : Khead.Per := Per_iso (Per_pair Per_int (Per_pair Per_int (Per_pair Per_int (Per_pair Per_int (Per_pair Per_int (Per_last Per_int))))))
theorem shead_src : Sub Khead 0 (Kd.int .u16) (fun x => x.src) := sub_iso sub_fst
theorem shead_dst : Sub Khead 1 (Kd.int .u16) (fun x => x.dst) := sub_iso (sub_snd sub_fst)
theorem shead_seq : Sub Khead 2 (Kd.int .u32) (fun x => x.seq) := sub_iso (sub_snd (sub_snd sub_fst))
theorem shead_ack : Sub Khead 3 (Kd.int .u32) (fun x => x.ack) := sub_iso (sub_snd (sub_snd (sub_snd sub_fst)))
theorem shead_flags : Sub Khead 4 (Kd.int .u8) (fun x => x.flags) := sub_iso (sub_snd (sub_snd (sub_snd (sub_snd sub_fst))))
theorem shead_win : Sub Khead 5 (Kd.int .u16) (fun x => x.win) := sub_iso (sub_snd (sub_snd (sub_snd (sub_snd (sub_snd sub_last)))))
theorem chead (b : Nat) (x : Thead) : Chain Khead b 0 x [Fld (Kd.int .u16) b 0 x.src, Fld (Kd.int .u16) b 1 x.dst, Fld (Kd.int .u32) b 2 x.seq, Fld (Kd.int .u32) b 3 x.ack, Fld (Kd.int .u8) b 4 x.flags, Fld (Kd.int .u16) b 5 x.win] := .iso (.pair rfl (.pair rfl (.pair rfl (.pair rfl (.pair rfl .last)))))
def zhead : Thead := ⟨0, 0, 0, 0, 0, 0⟩
def zshead : List (List Value) := [[.int .u16 0], [.int .u16 0], [.int .u32 0], [.int .u32 0], [.int .u8 0], [.int .u16 0]]
theorem Zhead : ZC Khead zhead [.int .u16 0, .int .u16 0, .int .u32 0, .int .u32 0, .int .u8 0, .int .u16 0] := z_iso (z_pair z_int (z_pair z_int (z_pair z_int (z_pair z_int (z_pair z_int (z_last z_int))))))
structure Tplay where
  c : TConn
  now : Int
  given : List Int
  gave : List Int
  segs : List TSeg
  gone : Bool
  calls : Int
 deriving DecidableEq
def Kplay : Kd Tplay := Kd.iso (Kd.pair KConn (Kd.pair (Kd.int .i64) (Kd.pair (Kd.osl (Kd.int .u8)) (Kd.pair (Kd.osl (Kd.int .u8)) (Kd.pair (Kd.osl KSeg) (Kd.pair Kd.bool (Kd.last (Kd.int .i64)))))))) (fun x => (x.c, x.now, x.given, x.gave, x.segs, x.gone, x.calls))
theorem splay_c : Sub Kplay 0 KConn (fun x => x.c) := sub_iso sub_fst
theorem splay_now : Sub Kplay 23 (Kd.int .i64) (fun x => x.now) := sub_iso (sub_snd sub_fst)
theorem splay_given : Sub Kplay 24 (Kd.osl (Kd.int .u8)) (fun x => x.given) := sub_iso (sub_snd (sub_snd sub_fst))
theorem splay_gave : Sub Kplay 25 (Kd.osl (Kd.int .u8)) (fun x => x.gave) := sub_iso (sub_snd (sub_snd (sub_snd sub_fst)))
theorem splay_segs : Sub Kplay 26 (Kd.osl KSeg) (fun x => x.segs) := sub_iso (sub_snd (sub_snd (sub_snd (sub_snd sub_fst))))
theorem splay_gone : Sub Kplay 27 Kd.bool (fun x => x.gone) := sub_iso (sub_snd (sub_snd (sub_snd (sub_snd (sub_snd sub_fst)))))
theorem splay_calls : Sub Kplay 28 (Kd.int .i64) (fun x => x.calls) := sub_iso (sub_snd (sub_snd (sub_snd (sub_snd (sub_snd (sub_snd sub_last))))))
theorem cplay (b : Nat) (x : Tplay) : Chain Kplay b 0 x [Fld KConn b 0 x.c, Fld (Kd.int .i64) b 23 x.now, Fld (Kd.osl (Kd.int .u8)) b 24 x.given, Fld (Kd.osl (Kd.int .u8)) b 25 x.gave, Fld (Kd.osl KSeg) b 26 x.segs, Fld Kd.bool b 27 x.gone, Fld (Kd.int .i64) b 28 x.calls] := .iso (.pair rfl (.pair rfl (.pair rfl (.pair rfl (.pair rfl (.pair rfl .last))))))
def zplay : Tplay := ⟨zConn, 0, [], [], [], false, 0⟩
def zsplay : List (List Value) := [[.int .i64 0, .int .u32 0, .int .i64 0, .int .u32 0, .int .i64 0, .bool false, .bool false, .bool false, .int .u32 0, .int .u32 0, .int .u32 0, .int .u32 0, .int .i64 0, .int .i64 0, .slice none 0 0, .slice none 0 0, .slice none 0 0, .bool false, .bool false, .bool false, .int .i64 0, .int .i64 0, .int .i64 0], [.int .i64 0], [.slice none 0 0], [.slice none 0 0], [.slice none 0 0], [.bool false], [.int .i64 0]]
theorem Zplay : ZC Kplay zplay [.int .i64 0, .int .u32 0, .int .i64 0, .int .u32 0, .int .i64 0, .bool false, .bool false, .bool false, .int .u32 0, .int .u32 0, .int .u32 0, .int .u32 0, .int .i64 0, .int .i64 0, .slice none 0 0, .slice none 0 0, .slice none 0 0, .bool false, .bool false, .bool false, .int .i64 0, .int .i64 0, .int .i64 0, .int .i64 0, .slice none 0 0, .slice none 0 0, .slice none 0 0, .bool false, .int .i64 0] := z_iso (z_pair ZConn (z_pair z_int (z_pair z_osl (z_pair z_osl (z_pair z_osl (z_pair z_bool (z_last z_int)))))))
structure TEv where
  Kind : Int
  Seg : TSeg
  Tell : TTell
  N : Int
 deriving DecidableEq
def KEv : Kd TEv := Kd.iso (Kd.pair (Kd.int .i64) (Kd.pair KSeg (Kd.pair KTell (Kd.last (Kd.int .i64))))) (fun x => (x.Kind, x.Seg, x.Tell, x.N))
theorem PEv : KEv.Per := Per_iso (Per_pair Per_int (Per_pair PSeg (Per_pair PTell (Per_last Per_int))))
theorem sEv_Kind : Sub KEv 0 (Kd.int .i64) (fun x => x.Kind) := sub_iso sub_fst
theorem sEv_Seg : Sub KEv 1 KSeg (fun x => x.Seg) := sub_iso (sub_snd sub_fst)
theorem sEv_Tell : Sub KEv 9 KTell (fun x => x.Tell) := sub_iso (sub_snd (sub_snd sub_fst))
theorem sEv_N : Sub KEv 13 (Kd.int .i64) (fun x => x.N) := sub_iso (sub_snd (sub_snd (sub_snd sub_last)))
theorem cEv (b : Nat) (x : TEv) : Chain KEv b 0 x [Fld (Kd.int .i64) b 0 x.Kind, Fld KSeg b 1 x.Seg, Fld KTell b 9 x.Tell, Fld (Kd.int .i64) b 13 x.N] := .iso (.pair rfl (.pair rfl (.pair rfl .last)))
def zEv : TEv := ⟨0, zSeg, zTell, 0⟩
def zsEv : List (List Value) := [[.int .i64 0], [.int .i64 0, .int .i64 0, .int .u32 0, .int .u32 0, .int .i64 0, .int .i64 0, .int .i64 0, .slice none 0 0], [.int .i64 0, .int .i64 0, .slice none 0 0, .int .i64 0], [.int .i64 0]]
theorem ZEv : ZC KEv zEv [.int .i64 0, .int .i64 0, .int .i64 0, .int .u32 0, .int .u32 0, .int .i64 0, .int .i64 0, .int .i64 0, .slice none 0 0, .int .i64 0, .int .i64 0, .slice none 0 0, .int .i64 0, .int .i64 0] := z_iso (z_pair z_int (z_pair ZSeg (z_pair ZTell (z_last z_int))))
theorem t_v95 : slTy Try.prog 95 1 = true := by kernel_rfl
theorem t_y3 : tyI Try.prog 3 = some (false, 1) := by kernel_rfl
theorem t_f30_4 : fldI Try.prog 30 4 = some (4, false, 1) := by kernel_rfl
theorem t_f30_0 : fldI Try.prog 30 0 = some (0, false, 1) := by kernel_rfl
theorem t_f30_1 : fldI Try.prog 30 1 = some (1, false, 1) := by kernel_rfl
theorem t_f30_5 : fldI Try.prog 30 5 = some (5, false, 1) := by kernel_rfl
theorem t_b26 : flds Try.prog 26 = some (lay 0 zsConn) := by kernel_rfl
theorem t_w26 : (Try.prog.info? 26).map (·.size) = some 23 := by kernel_rfl
theorem t_y26 : tyI Try.prog 26 = some (true, 23) := by kernel_rfl
theorem t_f30_2 : fldI Try.prog 30 2 = some (2, false, 1) := by kernel_rfl
theorem t_y22 : tyI Try.prog 22 = some (false, 1) := by kernel_rfl
theorem t_f30_6 : fldI Try.prog 30 6 = some (6, false, 1) := by kernel_rfl
theorem t_a95 : appTy Try.prog 95 1 = true := by kernel_rfl
theorem t_f26_13 : fldI Try.prog 26 13 = some (13, false, 1) := by kernel_rfl
theorem t_uConn_13_1 : Upd KConn 13 (Kd.int .i64) (fun x y => (⟨x.Id, x.Guest, x.Gport, x.Remote, x.Rport, x.Opening, x.Up, x.Done, x.Begin, x.Una, x.Next, x.Want, x.Win, y, x.ToHost, x.ToGuest, x.Early, x.Fin, x.Eof, x.Shut, x.At, x.Wait, x.Tries⟩ : TConn)) := (upd_iso (fun x : TConn => (x.Id, x.Guest, x.Gport, x.Remote, x.Rport, x.Opening, x.Up, x.Done, x.Begin, x.Una, x.Next, x.Want, x.Win, x.Mss, x.ToHost, x.ToGuest, x.Early, x.Fin, x.Eof, x.Shut, x.At, x.Wait, x.Tries)) (fun a => (⟨a.1, a.2.1, a.2.2.1, a.2.2.2.1, a.2.2.2.2.1, a.2.2.2.2.2.1, a.2.2.2.2.2.2.1, a.2.2.2.2.2.2.2.1, a.2.2.2.2.2.2.2.2.1, a.2.2.2.2.2.2.2.2.2.1, a.2.2.2.2.2.2.2.2.2.2.1, a.2.2.2.2.2.2.2.2.2.2.2.1, a.2.2.2.2.2.2.2.2.2.2.2.2.1, a.2.2.2.2.2.2.2.2.2.2.2.2.2.1, a.2.2.2.2.2.2.2.2.2.2.2.2.2.2.1, a.2.2.2.2.2.2.2.2.2.2.2.2.2.2.2.1, a.2.2.2.2.2.2.2.2.2.2.2.2.2.2.2.2.1, a.2.2.2.2.2.2.2.2.2.2.2.2.2.2.2.2.2.1, a.2.2.2.2.2.2.2.2.2.2.2.2.2.2.2.2.2.2.1, a.2.2.2.2.2.2.2.2.2.2.2.2.2.2.2.2.2.2.2.1, a.2.2.2.2.2.2.2.2.2.2.2.2.2.2.2.2.2.2.2.2.1, a.2.2.2.2.2.2.2.2.2.2.2.2.2.2.2.2.2.2.2.2.2.1, a.2.2.2.2.2.2.2.2.2.2.2.2.2.2.2.2.2.2.2.2.2.2⟩ : TConn)) (fun _ => rfl) (upd_snd (upd_snd (upd_snd (upd_snd (upd_snd (upd_snd (upd_snd (upd_snd (upd_snd (upd_snd (upd_snd (upd_snd (upd_snd (upd_fst upd_self)))))))))))))))
theorem t_w3 : (Try.prog.info? 3).map (·.size) = some 1 := by kernel_rfl
theorem t_f26_14 : fldI Try.prog 26 14 = some (14, false, 1) := by kernel_rfl
theorem t_y23 : tyI Try.prog 23 = some (false, 1) := by kernel_rfl
theorem t_v23 : slTy Try.prog 23 1 = true := by kernel_rfl
theorem t_f26_15 : fldI Try.prog 26 15 = some (15, false, 1) := by kernel_rfl
theorem t_f26_16 : fldI Try.prog 26 16 = some (16, false, 1) := by kernel_rfl
theorem t_y24 : tyI Try.prog 24 = some (false, 1) := by kernel_rfl
theorem t_v24 : slTy Try.prog 24 2 = true := by kernel_rfl
theorem t_f26_2 : fldI Try.prog 26 2 = some (2, false, 1) := by kernel_rfl
theorem t_f26_4 : fldI Try.prog 26 4 = some (4, false, 1) := by kernel_rfl
theorem t_f26_12 : fldI Try.prog 26 12 = some (12, false, 1) := by kernel_rfl
theorem t_f26_0 : fldI Try.prog 26 0 = some (0, false, 1) := by kernel_rfl
theorem t_f26_20 : fldI Try.prog 26 20 = some (20, false, 1) := by kernel_rfl
theorem t_f26_21 : fldI Try.prog 26 21 = some (21, false, 1) := by kernel_rfl
theorem t_f26_22 : fldI Try.prog 26 22 = some (22, false, 1) := by kernel_rfl
theorem t_f58_0 : fldI Try.prog 58 0 = some (0, false, 1) := by kernel_rfl
theorem t_f26_11 : fldI Try.prog 26 11 = some (11, false, 1) := by kernel_rfl
theorem t_q22 : (Try.prog.underlying 22).isSome = true := by kernel_rfl
theorem t_u3 : Try.prog.underlying 3 = some (.int .i64) := by kernel_rfl
theorem t_f58_1 : fldI Try.prog 58 1 = some (1, false, 1) := by kernel_rfl
theorem t_mxo : Try.prog.follows .mixedOrders = true := by kernel_rfl
theorem t_f26_17 : fldI Try.prog 26 17 = some (17, false, 1) := by kernel_rfl
theorem t_y4 : tyI Try.prog 4 = some (false, 1) := by kernel_rfl
theorem t_f26_7 : fldI Try.prog 26 7 = some (7, false, 1) := by kernel_rfl
theorem t_f26_19 : fldI Try.prog 26 19 = some (19, false, 1) := by kernel_rfl
theorem t_f26_9 : fldI Try.prog 26 9 = some (9, false, 1) := by kernel_rfl
theorem t_f26_8 : fldI Try.prog 26 8 = some (8, false, 1) := by kernel_rfl
theorem t_f26_5 : fldI Try.prog 26 5 = some (5, false, 1) := by kernel_rfl
theorem t_f26_10 : fldI Try.prog 26 10 = some (10, false, 1) := by kernel_rfl
theorem t_f26_18 : fldI Try.prog 26 18 = some (18, false, 1) := by kernel_rfl
theorem t_y58 : tyI Try.prog 58 = some (true, 2) := by kernel_rfl
theorem t_f26_6 : fldI Try.prog 26 6 = some (6, false, 1) := by kernel_rfl
theorem t_b75 : flds Try.prog 75 = some (lay 0 zsstep) := by kernel_rfl
theorem t_f75_1 : fldI Try.prog 75 1 = some (23, false, 1) := by kernel_rfl
theorem t_f75_0 : fldI Try.prog 75 0 = some (0, true, 23) := by kernel_rfl
theorem t_ustep_21_1 : Upd Kstep 21 (Kd.int .i64) (fun x y => (⟨(⟨x.Conn.Id, x.Conn.Guest, x.Conn.Gport, x.Conn.Remote, x.Conn.Rport, x.Conn.Opening, x.Conn.Up, x.Conn.Done, x.Conn.Begin, x.Conn.Una, x.Conn.Next, x.Conn.Want, x.Conn.Win, x.Conn.Mss, x.Conn.ToHost, x.Conn.ToGuest, x.Conn.Early, x.Conn.Fin, x.Conn.Eof, x.Conn.Shut, x.Conn.At, y, x.Conn.Tries⟩ : TConn), x.now, x.segs, x.calls, x.gone⟩ : Tstep)) := (upd_iso (fun x : Tstep => (x.Conn, x.now, x.segs, x.calls, x.gone)) (fun a => (⟨a.1, a.2.1, a.2.2.1, a.2.2.2.1, a.2.2.2.2⟩ : Tstep)) (fun _ => rfl) (upd_fst (upd_iso (fun x : TConn => (x.Id, x.Guest, x.Gport, x.Remote, x.Rport, x.Opening, x.Up, x.Done, x.Begin, x.Una, x.Next, x.Want, x.Win, x.Mss, x.ToHost, x.ToGuest, x.Early, x.Fin, x.Eof, x.Shut, x.At, x.Wait, x.Tries)) (fun a => (⟨a.1, a.2.1, a.2.2.1, a.2.2.2.1, a.2.2.2.2.1, a.2.2.2.2.2.1, a.2.2.2.2.2.2.1, a.2.2.2.2.2.2.2.1, a.2.2.2.2.2.2.2.2.1, a.2.2.2.2.2.2.2.2.2.1, a.2.2.2.2.2.2.2.2.2.2.1, a.2.2.2.2.2.2.2.2.2.2.2.1, a.2.2.2.2.2.2.2.2.2.2.2.2.1, a.2.2.2.2.2.2.2.2.2.2.2.2.2.1, a.2.2.2.2.2.2.2.2.2.2.2.2.2.2.1, a.2.2.2.2.2.2.2.2.2.2.2.2.2.2.2.1, a.2.2.2.2.2.2.2.2.2.2.2.2.2.2.2.2.1, a.2.2.2.2.2.2.2.2.2.2.2.2.2.2.2.2.2.1, a.2.2.2.2.2.2.2.2.2.2.2.2.2.2.2.2.2.2.1, a.2.2.2.2.2.2.2.2.2.2.2.2.2.2.2.2.2.2.2.1, a.2.2.2.2.2.2.2.2.2.2.2.2.2.2.2.2.2.2.2.2.1, a.2.2.2.2.2.2.2.2.2.2.2.2.2.2.2.2.2.2.2.2.2.1, a.2.2.2.2.2.2.2.2.2.2.2.2.2.2.2.2.2.2.2.2.2.2⟩ : TConn)) (fun _ => rfl) (upd_snd (upd_snd (upd_snd (upd_snd (upd_snd (upd_snd (upd_snd (upd_snd (upd_snd (upd_snd (upd_snd (upd_snd (upd_snd (upd_snd (upd_snd (upd_snd (upd_snd (upd_snd (upd_snd (upd_snd (upd_snd (upd_fst upd_self)))))))))))))))))))))))))
theorem t_ustep_20_1 : Upd Kstep 20 (Kd.int .i64) (fun x y => (⟨(⟨x.Conn.Id, x.Conn.Guest, x.Conn.Gport, x.Conn.Remote, x.Conn.Rport, x.Conn.Opening, x.Conn.Up, x.Conn.Done, x.Conn.Begin, x.Conn.Una, x.Conn.Next, x.Conn.Want, x.Conn.Win, x.Conn.Mss, x.Conn.ToHost, x.Conn.ToGuest, x.Conn.Early, x.Conn.Fin, x.Conn.Eof, x.Conn.Shut, y, x.Conn.Wait, x.Conn.Tries⟩ : TConn), x.now, x.segs, x.calls, x.gone⟩ : Tstep)) := (upd_iso (fun x : Tstep => (x.Conn, x.now, x.segs, x.calls, x.gone)) (fun a => (⟨a.1, a.2.1, a.2.2.1, a.2.2.2.1, a.2.2.2.2⟩ : Tstep)) (fun _ => rfl) (upd_fst (upd_iso (fun x : TConn => (x.Id, x.Guest, x.Gport, x.Remote, x.Rport, x.Opening, x.Up, x.Done, x.Begin, x.Una, x.Next, x.Want, x.Win, x.Mss, x.ToHost, x.ToGuest, x.Early, x.Fin, x.Eof, x.Shut, x.At, x.Wait, x.Tries)) (fun a => (⟨a.1, a.2.1, a.2.2.1, a.2.2.2.1, a.2.2.2.2.1, a.2.2.2.2.2.1, a.2.2.2.2.2.2.1, a.2.2.2.2.2.2.2.1, a.2.2.2.2.2.2.2.2.1, a.2.2.2.2.2.2.2.2.2.1, a.2.2.2.2.2.2.2.2.2.2.1, a.2.2.2.2.2.2.2.2.2.2.2.1, a.2.2.2.2.2.2.2.2.2.2.2.2.1, a.2.2.2.2.2.2.2.2.2.2.2.2.2.1, a.2.2.2.2.2.2.2.2.2.2.2.2.2.2.1, a.2.2.2.2.2.2.2.2.2.2.2.2.2.2.2.1, a.2.2.2.2.2.2.2.2.2.2.2.2.2.2.2.2.1, a.2.2.2.2.2.2.2.2.2.2.2.2.2.2.2.2.2.1, a.2.2.2.2.2.2.2.2.2.2.2.2.2.2.2.2.2.2.1, a.2.2.2.2.2.2.2.2.2.2.2.2.2.2.2.2.2.2.2.1, a.2.2.2.2.2.2.2.2.2.2.2.2.2.2.2.2.2.2.2.2.1, a.2.2.2.2.2.2.2.2.2.2.2.2.2.2.2.2.2.2.2.2.2.1, a.2.2.2.2.2.2.2.2.2.2.2.2.2.2.2.2.2.2.2.2.2.2⟩ : TConn)) (fun _ => rfl) (upd_snd (upd_snd (upd_snd (upd_snd (upd_snd (upd_snd (upd_snd (upd_snd (upd_snd (upd_snd (upd_snd (upd_snd (upd_snd (upd_snd (upd_snd (upd_snd (upd_snd (upd_snd (upd_snd (upd_snd (upd_fst upd_self))))))))))))))))))))))))
theorem t_a23 : appTy Try.prog 23 1 = true := by kernel_rfl
theorem t_n23 : noInt (Try.prog.underlying 23) = true := by kernel_rfl
theorem t_sstep_Conn_Rport : Sub Kstep 4 (Kd.int .i64) (fun x => x.Conn.Rport) := sub_sub sstep_Conn sConn_Rport
theorem t_sstep_Conn_Gport : Sub Kstep 2 (Kd.int .i64) (fun x => x.Conn.Gport) := sub_sub sstep_Conn sConn_Gport
theorem t_sstep_Conn_Want : Sub Kstep 11 (Kd.int .u32) (fun x => x.Conn.Want) := sub_sub sstep_Conn sConn_Want
theorem t_b30 : flds Try.prog 30 = some (lay 0 zsSeg) := by kernel_rfl
theorem t_w30 : (Try.prog.info? 30).map (·.size) = some 8 := by kernel_rfl
theorem t_f75_2 : fldI Try.prog 75 2 = some (24, false, 1) := by kernel_rfl
theorem t_y31 : tyI Try.prog 31 = some (false, 1) := by kernel_rfl
theorem t_y30 : tyI Try.prog 30 = some (true, 8) := by kernel_rfl
theorem t_a31 : appTy Try.prog 31 8 = true := by kernel_rfl
theorem t_n31 : noInt (Try.prog.underlying 31) = true := by kernel_rfl
theorem t_w31 : (Try.prog.info? 31).map (·.size) = some 1 := by kernel_rfl
theorem t_sstep_Conn_Begin : Sub Kstep 8 (Kd.int .u32) (fun x => x.Conn.Begin) := sub_sub sstep_Conn sConn_Begin
theorem t_v31 : slTy Try.prog 31 8 = true := by kernel_rfl
theorem t_uSeg_6_1 : Upd KSeg 6 (Kd.int .i64) (fun x y => (⟨x.Src, x.Dst, x.Seq, x.Ack, x.Flags, x.Win, y, x.Data⟩ : TSeg)) := (upd_iso (fun x : TSeg => (x.Src, x.Dst, x.Seq, x.Ack, x.Flags, x.Win, x.Mss, x.Data)) (fun a => (⟨a.1, a.2.1, a.2.2.1, a.2.2.2.1, a.2.2.2.2.1, a.2.2.2.2.2.1, a.2.2.2.2.2.2.1, a.2.2.2.2.2.2.2⟩ : TSeg)) (fun _ => rfl) (upd_snd (upd_snd (upd_snd (upd_snd (upd_snd (upd_snd (upd_fst upd_self))))))))
theorem t_sstep_Conn_Opening : Sub Kstep 5 Kd.bool (fun x => x.Conn.Opening) := sub_sub sstep_Conn sConn_Opening
theorem t_ustep_5_1 : Upd Kstep 5 Kd.bool (fun x y => (⟨(⟨x.Conn.Id, x.Conn.Guest, x.Conn.Gport, x.Conn.Remote, x.Conn.Rport, y, x.Conn.Up, x.Conn.Done, x.Conn.Begin, x.Conn.Una, x.Conn.Next, x.Conn.Want, x.Conn.Win, x.Conn.Mss, x.Conn.ToHost, x.Conn.ToGuest, x.Conn.Early, x.Conn.Fin, x.Conn.Eof, x.Conn.Shut, x.Conn.At, x.Conn.Wait, x.Conn.Tries⟩ : TConn), x.now, x.segs, x.calls, x.gone⟩ : Tstep)) := (upd_iso (fun x : Tstep => (x.Conn, x.now, x.segs, x.calls, x.gone)) (fun a => (⟨a.1, a.2.1, a.2.2.1, a.2.2.2.1, a.2.2.2.2⟩ : Tstep)) (fun _ => rfl) (upd_fst (upd_iso (fun x : TConn => (x.Id, x.Guest, x.Gport, x.Remote, x.Rport, x.Opening, x.Up, x.Done, x.Begin, x.Una, x.Next, x.Want, x.Win, x.Mss, x.ToHost, x.ToGuest, x.Early, x.Fin, x.Eof, x.Shut, x.At, x.Wait, x.Tries)) (fun a => (⟨a.1, a.2.1, a.2.2.1, a.2.2.2.1, a.2.2.2.2.1, a.2.2.2.2.2.1, a.2.2.2.2.2.2.1, a.2.2.2.2.2.2.2.1, a.2.2.2.2.2.2.2.2.1, a.2.2.2.2.2.2.2.2.2.1, a.2.2.2.2.2.2.2.2.2.2.1, a.2.2.2.2.2.2.2.2.2.2.2.1, a.2.2.2.2.2.2.2.2.2.2.2.2.1, a.2.2.2.2.2.2.2.2.2.2.2.2.2.1, a.2.2.2.2.2.2.2.2.2.2.2.2.2.2.1, a.2.2.2.2.2.2.2.2.2.2.2.2.2.2.2.1, a.2.2.2.2.2.2.2.2.2.2.2.2.2.2.2.2.1, a.2.2.2.2.2.2.2.2.2.2.2.2.2.2.2.2.2.1, a.2.2.2.2.2.2.2.2.2.2.2.2.2.2.2.2.2.2.1, a.2.2.2.2.2.2.2.2.2.2.2.2.2.2.2.2.2.2.2.1, a.2.2.2.2.2.2.2.2.2.2.2.2.2.2.2.2.2.2.2.2.1, a.2.2.2.2.2.2.2.2.2.2.2.2.2.2.2.2.2.2.2.2.2.1, a.2.2.2.2.2.2.2.2.2.2.2.2.2.2.2.2.2.2.2.2.2.2⟩ : TConn)) (fun _ => rfl) (upd_snd (upd_snd (upd_snd (upd_snd (upd_snd (upd_fst upd_self)))))))))
theorem t_w4 : (Try.prog.info? 4).map (·.size) = some 1 := by kernel_rfl
theorem t_sstep_Conn_Next : Sub Kstep 10 (Kd.int .u32) (fun x => x.Conn.Next) := sub_sub sstep_Conn sConn_Next
theorem t_ustep_10_1 : Upd Kstep 10 (Kd.int .u32) (fun x y => (⟨(⟨x.Conn.Id, x.Conn.Guest, x.Conn.Gport, x.Conn.Remote, x.Conn.Rport, x.Conn.Opening, x.Conn.Up, x.Conn.Done, x.Conn.Begin, x.Conn.Una, y, x.Conn.Want, x.Conn.Win, x.Conn.Mss, x.Conn.ToHost, x.Conn.ToGuest, x.Conn.Early, x.Conn.Fin, x.Conn.Eof, x.Conn.Shut, x.Conn.At, x.Conn.Wait, x.Conn.Tries⟩ : TConn), x.now, x.segs, x.calls, x.gone⟩ : Tstep)) := (upd_iso (fun x : Tstep => (x.Conn, x.now, x.segs, x.calls, x.gone)) (fun a => (⟨a.1, a.2.1, a.2.2.1, a.2.2.2.1, a.2.2.2.2⟩ : Tstep)) (fun _ => rfl) (upd_fst (upd_iso (fun x : TConn => (x.Id, x.Guest, x.Gport, x.Remote, x.Rport, x.Opening, x.Up, x.Done, x.Begin, x.Una, x.Next, x.Want, x.Win, x.Mss, x.ToHost, x.ToGuest, x.Early, x.Fin, x.Eof, x.Shut, x.At, x.Wait, x.Tries)) (fun a => (⟨a.1, a.2.1, a.2.2.1, a.2.2.2.1, a.2.2.2.2.1, a.2.2.2.2.2.1, a.2.2.2.2.2.2.1, a.2.2.2.2.2.2.2.1, a.2.2.2.2.2.2.2.2.1, a.2.2.2.2.2.2.2.2.2.1, a.2.2.2.2.2.2.2.2.2.2.1, a.2.2.2.2.2.2.2.2.2.2.2.1, a.2.2.2.2.2.2.2.2.2.2.2.2.1, a.2.2.2.2.2.2.2.2.2.2.2.2.2.1, a.2.2.2.2.2.2.2.2.2.2.2.2.2.2.1, a.2.2.2.2.2.2.2.2.2.2.2.2.2.2.2.1, a.2.2.2.2.2.2.2.2.2.2.2.2.2.2.2.2.1, a.2.2.2.2.2.2.2.2.2.2.2.2.2.2.2.2.2.1, a.2.2.2.2.2.2.2.2.2.2.2.2.2.2.2.2.2.2.1, a.2.2.2.2.2.2.2.2.2.2.2.2.2.2.2.2.2.2.2.1, a.2.2.2.2.2.2.2.2.2.2.2.2.2.2.2.2.2.2.2.2.1, a.2.2.2.2.2.2.2.2.2.2.2.2.2.2.2.2.2.2.2.2.2.1, a.2.2.2.2.2.2.2.2.2.2.2.2.2.2.2.2.2.2.2.2.2.2⟩ : TConn)) (fun _ => rfl) (upd_snd (upd_snd (upd_snd (upd_snd (upd_snd (upd_snd (upd_snd (upd_snd (upd_snd (upd_snd (upd_fst upd_self))))))))))))))
theorem t_w22 : (Try.prog.info? 22).map (·.size) = some 1 := by kernel_rfl
theorem t_f75_4 : fldI Try.prog 75 4 = some (26, false, 1) := by kernel_rfl
theorem t_ustep_26_1 : Upd Kstep 26 Kd.bool (fun x y => (⟨x.Conn, x.now, x.segs, x.calls, y⟩ : Tstep)) := (upd_iso (fun x : Tstep => (x.Conn, x.now, x.segs, x.calls, x.gone)) (fun a => (⟨a.1, a.2.1, a.2.2.1, a.2.2.2.1, a.2.2.2.2⟩ : Tstep)) (fun _ => rfl) (upd_snd (upd_snd (upd_snd (upd_snd (upd_last upd_self))))))
theorem t_zc5 : zeroC Try.prog 5 = some [.int .u8 0] := by kernel_rfl
theorem t_v100 : slTy Try.prog 100 1 = true := by kernel_rfl
theorem t_sstepR_Conn_Next : Sub KstepR 10 (Kd.int .u32) (fun x => x.Conn.Next) := sub_sub sstepR_Conn sConn_Next
theorem t_sstepR_Conn_Una : Sub KstepR 9 (Kd.int .u32) (fun x => x.Conn.Una) := sub_sub sstepR_Conn sConn_Una
theorem t_sstep_Conn_Up : Sub Kstep 6 Kd.bool (fun x => x.Conn.Up) := sub_sub sstep_Conn sConn_Up
theorem t_sstep_Conn_Done : Sub Kstep 7 Kd.bool (fun x => x.Conn.Done) := sub_sub sstep_Conn sConn_Done
theorem t_sstep_Conn_ToGuest : Sub Kstep 15 (Kd.sl (Kd.int .u8)) (fun x => x.Conn.ToGuest) := sub_sub sstep_Conn sConn_ToGuest
theorem t_sstep_Conn_Mss : Sub Kstep 13 (Kd.int .i64) (fun x => x.Conn.Mss) := sub_sub sstep_Conn sConn_Mss
theorem t_sstep_Conn_Win : Sub Kstep 12 (Kd.int .i64) (fun x => x.Conn.Win) := sub_sub sstep_Conn sConn_Win
theorem t_q3 : (Try.prog.underlying 3).isSome = true := by kernel_rfl
theorem t_u22 : Try.prog.underlying 22 = some (.int .u32) := by kernel_rfl
theorem t_sstep_Conn_Eof : Sub Kstep 18 Kd.bool (fun x => x.Conn.Eof) := sub_sub sstep_Conn sConn_Eof
theorem t_sstep_Conn_At : Sub Kstep 20 (Kd.int .i64) (fun x => x.Conn.At) := sub_sub sstep_Conn sConn_At
theorem t_f44_2 : fldI Try.prog 44 2 = some (2, false, 1) := by kernel_rfl
theorem t_a100 : appTy Try.prog 100 1 = true := by kernel_rfl
theorem t_ustep_15_1 : Upd Kstep 15 (Kd.sl (Kd.int .u8)) (fun x y => (⟨(⟨x.Conn.Id, x.Conn.Guest, x.Conn.Gport, x.Conn.Remote, x.Conn.Rport, x.Conn.Opening, x.Conn.Up, x.Conn.Done, x.Conn.Begin, x.Conn.Una, x.Conn.Next, x.Conn.Want, x.Conn.Win, x.Conn.Mss, x.Conn.ToHost, y, x.Conn.Early, x.Conn.Fin, x.Conn.Eof, x.Conn.Shut, x.Conn.At, x.Conn.Wait, x.Conn.Tries⟩ : TConn), x.now, x.segs, x.calls, x.gone⟩ : Tstep)) := (upd_iso (fun x : Tstep => (x.Conn, x.now, x.segs, x.calls, x.gone)) (fun a => (⟨a.1, a.2.1, a.2.2.1, a.2.2.2.1, a.2.2.2.2⟩ : Tstep)) (fun _ => rfl) (upd_fst (upd_iso (fun x : TConn => (x.Id, x.Guest, x.Gport, x.Remote, x.Rport, x.Opening, x.Up, x.Done, x.Begin, x.Una, x.Next, x.Want, x.Win, x.Mss, x.ToHost, x.ToGuest, x.Early, x.Fin, x.Eof, x.Shut, x.At, x.Wait, x.Tries)) (fun a => (⟨a.1, a.2.1, a.2.2.1, a.2.2.2.1, a.2.2.2.2.1, a.2.2.2.2.2.1, a.2.2.2.2.2.2.1, a.2.2.2.2.2.2.2.1, a.2.2.2.2.2.2.2.2.1, a.2.2.2.2.2.2.2.2.2.1, a.2.2.2.2.2.2.2.2.2.2.1, a.2.2.2.2.2.2.2.2.2.2.2.1, a.2.2.2.2.2.2.2.2.2.2.2.2.1, a.2.2.2.2.2.2.2.2.2.2.2.2.2.1, a.2.2.2.2.2.2.2.2.2.2.2.2.2.2.1, a.2.2.2.2.2.2.2.2.2.2.2.2.2.2.2.1, a.2.2.2.2.2.2.2.2.2.2.2.2.2.2.2.2.1, a.2.2.2.2.2.2.2.2.2.2.2.2.2.2.2.2.2.1, a.2.2.2.2.2.2.2.2.2.2.2.2.2.2.2.2.2.2.1, a.2.2.2.2.2.2.2.2.2.2.2.2.2.2.2.2.2.2.2.1, a.2.2.2.2.2.2.2.2.2.2.2.2.2.2.2.2.2.2.2.2.1, a.2.2.2.2.2.2.2.2.2.2.2.2.2.2.2.2.2.2.2.2.2.1, a.2.2.2.2.2.2.2.2.2.2.2.2.2.2.2.2.2.2.2.2.2.2⟩ : TConn)) (fun _ => rfl) (upd_snd (upd_snd (upd_snd (upd_snd (upd_snd (upd_snd (upd_snd (upd_snd (upd_snd (upd_snd (upd_snd (upd_snd (upd_snd (upd_snd (upd_snd (upd_fst upd_self)))))))))))))))))))
theorem t_w23 : (Try.prog.info? 23).map (·.size) = some 1 := by kernel_rfl
theorem t_ustep_18_1 : Upd Kstep 18 Kd.bool (fun x y => (⟨(⟨x.Conn.Id, x.Conn.Guest, x.Conn.Gport, x.Conn.Remote, x.Conn.Rport, x.Conn.Opening, x.Conn.Up, x.Conn.Done, x.Conn.Begin, x.Conn.Una, x.Conn.Next, x.Conn.Want, x.Conn.Win, x.Conn.Mss, x.Conn.ToHost, x.Conn.ToGuest, x.Conn.Early, x.Conn.Fin, y, x.Conn.Shut, x.Conn.At, x.Conn.Wait, x.Conn.Tries⟩ : TConn), x.now, x.segs, x.calls, x.gone⟩ : Tstep)) := (upd_iso (fun x : Tstep => (x.Conn, x.now, x.segs, x.calls, x.gone)) (fun a => (⟨a.1, a.2.1, a.2.2.1, a.2.2.2.1, a.2.2.2.2⟩ : Tstep)) (fun _ => rfl) (upd_fst (upd_iso (fun x : TConn => (x.Id, x.Guest, x.Gport, x.Remote, x.Rport, x.Opening, x.Up, x.Done, x.Begin, x.Una, x.Next, x.Want, x.Win, x.Mss, x.ToHost, x.ToGuest, x.Early, x.Fin, x.Eof, x.Shut, x.At, x.Wait, x.Tries)) (fun a => (⟨a.1, a.2.1, a.2.2.1, a.2.2.2.1, a.2.2.2.2.1, a.2.2.2.2.2.1, a.2.2.2.2.2.2.1, a.2.2.2.2.2.2.2.1, a.2.2.2.2.2.2.2.2.1, a.2.2.2.2.2.2.2.2.2.1, a.2.2.2.2.2.2.2.2.2.2.1, a.2.2.2.2.2.2.2.2.2.2.2.1, a.2.2.2.2.2.2.2.2.2.2.2.2.1, a.2.2.2.2.2.2.2.2.2.2.2.2.2.1, a.2.2.2.2.2.2.2.2.2.2.2.2.2.2.1, a.2.2.2.2.2.2.2.2.2.2.2.2.2.2.2.1, a.2.2.2.2.2.2.2.2.2.2.2.2.2.2.2.2.1, a.2.2.2.2.2.2.2.2.2.2.2.2.2.2.2.2.2.1, a.2.2.2.2.2.2.2.2.2.2.2.2.2.2.2.2.2.2.1, a.2.2.2.2.2.2.2.2.2.2.2.2.2.2.2.2.2.2.2.1, a.2.2.2.2.2.2.2.2.2.2.2.2.2.2.2.2.2.2.2.2.1, a.2.2.2.2.2.2.2.2.2.2.2.2.2.2.2.2.2.2.2.2.2.1, a.2.2.2.2.2.2.2.2.2.2.2.2.2.2.2.2.2.2.2.2.2.2⟩ : TConn)) (fun _ => rfl) (upd_snd (upd_snd (upd_snd (upd_snd (upd_snd (upd_snd (upd_snd (upd_snd (upd_snd (upd_snd (upd_snd (upd_snd (upd_snd (upd_snd (upd_snd (upd_snd (upd_snd (upd_snd (upd_fst upd_self))))))))))))))))))))))
theorem t_f75_3 : fldI Try.prog 75 3 = some (25, false, 1) := by kernel_rfl
theorem t_y32 : tyI Try.prog 32 = some (false, 1) := by kernel_rfl
theorem t_b37 : flds Try.prog 37 = some (lay 0 zsCall) := by kernel_rfl
theorem t_a32 : appTy Try.prog 32 5 = true := by kernel_rfl
theorem t_n32 : noInt (Try.prog.underlying 32) = true := by kernel_rfl
theorem t_w32 : (Try.prog.info? 32).map (·.size) = some 1 := by kernel_rfl
theorem t_sstep_Conn_Fin : Sub Kstep 17 Kd.bool (fun x => x.Conn.Fin) := sub_sub sstep_Conn sConn_Fin
theorem t_sstep_Conn_Shut : Sub Kstep 19 Kd.bool (fun x => x.Conn.Shut) := sub_sub sstep_Conn sConn_Shut
theorem t_sstep_Conn_ToHost : Sub Kstep 14 (Kd.sl (Kd.int .u8)) (fun x => x.Conn.ToHost) := sub_sub sstep_Conn sConn_ToHost
theorem t_ustep_19_1 : Upd Kstep 19 Kd.bool (fun x y => (⟨(⟨x.Conn.Id, x.Conn.Guest, x.Conn.Gport, x.Conn.Remote, x.Conn.Rport, x.Conn.Opening, x.Conn.Up, x.Conn.Done, x.Conn.Begin, x.Conn.Una, x.Conn.Next, x.Conn.Want, x.Conn.Win, x.Conn.Mss, x.Conn.ToHost, x.Conn.ToGuest, x.Conn.Early, x.Conn.Fin, x.Conn.Eof, y, x.Conn.At, x.Conn.Wait, x.Conn.Tries⟩ : TConn), x.now, x.segs, x.calls, x.gone⟩ : Tstep)) := (upd_iso (fun x : Tstep => (x.Conn, x.now, x.segs, x.calls, x.gone)) (fun a => (⟨a.1, a.2.1, a.2.2.1, a.2.2.2.1, a.2.2.2.2⟩ : Tstep)) (fun _ => rfl) (upd_fst (upd_iso (fun x : TConn => (x.Id, x.Guest, x.Gport, x.Remote, x.Rport, x.Opening, x.Up, x.Done, x.Begin, x.Una, x.Next, x.Want, x.Win, x.Mss, x.ToHost, x.ToGuest, x.Early, x.Fin, x.Eof, x.Shut, x.At, x.Wait, x.Tries)) (fun a => (⟨a.1, a.2.1, a.2.2.1, a.2.2.2.1, a.2.2.2.2.1, a.2.2.2.2.2.1, a.2.2.2.2.2.2.1, a.2.2.2.2.2.2.2.1, a.2.2.2.2.2.2.2.2.1, a.2.2.2.2.2.2.2.2.2.1, a.2.2.2.2.2.2.2.2.2.2.1, a.2.2.2.2.2.2.2.2.2.2.2.1, a.2.2.2.2.2.2.2.2.2.2.2.2.1, a.2.2.2.2.2.2.2.2.2.2.2.2.2.1, a.2.2.2.2.2.2.2.2.2.2.2.2.2.2.1, a.2.2.2.2.2.2.2.2.2.2.2.2.2.2.2.1, a.2.2.2.2.2.2.2.2.2.2.2.2.2.2.2.2.1, a.2.2.2.2.2.2.2.2.2.2.2.2.2.2.2.2.2.1, a.2.2.2.2.2.2.2.2.2.2.2.2.2.2.2.2.2.2.1, a.2.2.2.2.2.2.2.2.2.2.2.2.2.2.2.2.2.2.2.1, a.2.2.2.2.2.2.2.2.2.2.2.2.2.2.2.2.2.2.2.2.1, a.2.2.2.2.2.2.2.2.2.2.2.2.2.2.2.2.2.2.2.2.2.1, a.2.2.2.2.2.2.2.2.2.2.2.2.2.2.2.2.2.2.2.2.2.2⟩ : TConn)) (fun _ => rfl) (upd_snd (upd_snd (upd_snd (upd_snd (upd_snd (upd_snd (upd_snd (upd_snd (upd_snd (upd_snd (upd_snd (upd_snd (upd_snd (upd_snd (upd_snd (upd_snd (upd_snd (upd_snd (upd_snd (upd_fst upd_self)))))))))))))))))))))))
theorem t_f44_3 : fldI Try.prog 44 3 = some (3, false, 1) := by kernel_rfl
theorem t_ustep_14_1 : Upd Kstep 14 (Kd.sl (Kd.int .u8)) (fun x y => (⟨(⟨x.Conn.Id, x.Conn.Guest, x.Conn.Gport, x.Conn.Remote, x.Conn.Rport, x.Conn.Opening, x.Conn.Up, x.Conn.Done, x.Conn.Begin, x.Conn.Una, x.Conn.Next, x.Conn.Want, x.Conn.Win, x.Conn.Mss, y, x.Conn.ToGuest, x.Conn.Early, x.Conn.Fin, x.Conn.Eof, x.Conn.Shut, x.Conn.At, x.Conn.Wait, x.Conn.Tries⟩ : TConn), x.now, x.segs, x.calls, x.gone⟩ : Tstep)) := (upd_iso (fun x : Tstep => (x.Conn, x.now, x.segs, x.calls, x.gone)) (fun a => (⟨a.1, a.2.1, a.2.2.1, a.2.2.2.1, a.2.2.2.2⟩ : Tstep)) (fun _ => rfl) (upd_fst (upd_iso (fun x : TConn => (x.Id, x.Guest, x.Gport, x.Remote, x.Rport, x.Opening, x.Up, x.Done, x.Begin, x.Una, x.Next, x.Want, x.Win, x.Mss, x.ToHost, x.ToGuest, x.Early, x.Fin, x.Eof, x.Shut, x.At, x.Wait, x.Tries)) (fun a => (⟨a.1, a.2.1, a.2.2.1, a.2.2.2.1, a.2.2.2.2.1, a.2.2.2.2.2.1, a.2.2.2.2.2.2.1, a.2.2.2.2.2.2.2.1, a.2.2.2.2.2.2.2.2.1, a.2.2.2.2.2.2.2.2.2.1, a.2.2.2.2.2.2.2.2.2.2.1, a.2.2.2.2.2.2.2.2.2.2.2.1, a.2.2.2.2.2.2.2.2.2.2.2.2.1, a.2.2.2.2.2.2.2.2.2.2.2.2.2.1, a.2.2.2.2.2.2.2.2.2.2.2.2.2.2.1, a.2.2.2.2.2.2.2.2.2.2.2.2.2.2.2.1, a.2.2.2.2.2.2.2.2.2.2.2.2.2.2.2.2.1, a.2.2.2.2.2.2.2.2.2.2.2.2.2.2.2.2.2.1, a.2.2.2.2.2.2.2.2.2.2.2.2.2.2.2.2.2.2.1, a.2.2.2.2.2.2.2.2.2.2.2.2.2.2.2.2.2.2.2.1, a.2.2.2.2.2.2.2.2.2.2.2.2.2.2.2.2.2.2.2.2.1, a.2.2.2.2.2.2.2.2.2.2.2.2.2.2.2.2.2.2.2.2.2.1, a.2.2.2.2.2.2.2.2.2.2.2.2.2.2.2.2.2.2.2.2.2.2⟩ : TConn)) (fun _ => rfl) (upd_snd (upd_snd (upd_snd (upd_snd (upd_snd (upd_snd (upd_snd (upd_snd (upd_snd (upd_snd (upd_snd (upd_snd (upd_snd (upd_snd (upd_fst upd_self))))))))))))))))))
theorem t_f44_0 : fldI Try.prog 44 0 = some (0, false, 1) := by kernel_rfl
theorem t_y44 : tyI Try.prog 44 = some (true, 4) := by kernel_rfl
theorem t_u88 : Try.prog.underlying 88 = some (.int .u16) := by kernel_rfl
theorem t_f30_3 : fldI Try.prog 30 3 = some (3, false, 1) := by kernel_rfl
theorem t_u5 : Try.prog.underlying 5 = some (.int .u8) := by kernel_rfl
theorem t_b90 : flds Try.prog 90 = some (lay 0 zshead) := by kernel_rfl
theorem t_w90 : (Try.prog.info? 90).map (·.size) = some 6 := by kernel_rfl
theorem t_y90 : tyI Try.prog 90 = some (true, 6) := by kernel_rfl
theorem t_f90_0 : fldI Try.prog 90 0 = some (0, false, 1) := by kernel_rfl
theorem t_y88 : tyI Try.prog 88 = some (false, 1) := by kernel_rfl
theorem t_q88 : (Try.prog.underlying 88).isSome = true := by kernel_rfl
theorem t_f90_1 : fldI Try.prog 90 1 = some (1, false, 1) := by kernel_rfl
theorem t_f90_2 : fldI Try.prog 90 2 = some (2, false, 1) := by kernel_rfl
theorem t_f90_3 : fldI Try.prog 90 3 = some (3, false, 1) := by kernel_rfl
theorem t_f90_4 : fldI Try.prog 90 4 = some (4, false, 1) := by kernel_rfl
theorem t_y5 : tyI Try.prog 5 = some (false, 1) := by kernel_rfl
theorem t_q5 : (Try.prog.underlying 5).isSome = true := by kernel_rfl
theorem t_f90_5 : fldI Try.prog 90 5 = some (5, false, 1) := by kernel_rfl
theorem t_e90 : eqI Try.prog 90 = some [(0, 88, false, 1), (1, 88, false, 1), (2, 22, false, 1), (3, 22, false, 1), (4, 5, false, 1), (5, 88, false, 1)] := by kernel_rfl
theorem t_w5 : (Try.prog.info? 5).map (·.size) = some 1 := by kernel_rfl
theorem t_q85 : (Try.prog.underlying 85).isSome = true := by kernel_rfl
theorem t_u85 : Try.prog.underlying 85 = some (.int .u64) := by kernel_rfl
theorem t_zc102 : zeroC Try.prog 102 = some [.int .u8 0, .int .u8 0] := by kernel_rfl
theorem t_r102 : arTy Try.prog 102 2 1 = true := by kernel_rfl
theorem t_w102 : (Try.prog.info? 102).map (·.size) = some 2 := by kernel_rfl
theorem t_f30_7 : fldI Try.prog 30 7 = some (7, false, 1) := by kernel_rfl
theorem t_u21 : Try.prog.underlying 21 = some (.int .i32) := by kernel_rfl
theorem t_sstep_Conn_Una : Sub Kstep 9 (Kd.int .u32) (fun x => x.Conn.Una) := sub_sub sstep_Conn sConn_Una
theorem t_ustep_6_1 : Upd Kstep 6 Kd.bool (fun x y => (⟨(⟨x.Conn.Id, x.Conn.Guest, x.Conn.Gport, x.Conn.Remote, x.Conn.Rport, x.Conn.Opening, y, x.Conn.Done, x.Conn.Begin, x.Conn.Una, x.Conn.Next, x.Conn.Want, x.Conn.Win, x.Conn.Mss, x.Conn.ToHost, x.Conn.ToGuest, x.Conn.Early, x.Conn.Fin, x.Conn.Eof, x.Conn.Shut, x.Conn.At, x.Conn.Wait, x.Conn.Tries⟩ : TConn), x.now, x.segs, x.calls, x.gone⟩ : Tstep)) := (upd_iso (fun x : Tstep => (x.Conn, x.now, x.segs, x.calls, x.gone)) (fun a => (⟨a.1, a.2.1, a.2.2.1, a.2.2.2.1, a.2.2.2.2⟩ : Tstep)) (fun _ => rfl) (upd_fst (upd_iso (fun x : TConn => (x.Id, x.Guest, x.Gport, x.Remote, x.Rport, x.Opening, x.Up, x.Done, x.Begin, x.Una, x.Next, x.Want, x.Win, x.Mss, x.ToHost, x.ToGuest, x.Early, x.Fin, x.Eof, x.Shut, x.At, x.Wait, x.Tries)) (fun a => (⟨a.1, a.2.1, a.2.2.1, a.2.2.2.1, a.2.2.2.2.1, a.2.2.2.2.2.1, a.2.2.2.2.2.2.1, a.2.2.2.2.2.2.2.1, a.2.2.2.2.2.2.2.2.1, a.2.2.2.2.2.2.2.2.2.1, a.2.2.2.2.2.2.2.2.2.2.1, a.2.2.2.2.2.2.2.2.2.2.2.1, a.2.2.2.2.2.2.2.2.2.2.2.2.1, a.2.2.2.2.2.2.2.2.2.2.2.2.2.1, a.2.2.2.2.2.2.2.2.2.2.2.2.2.2.1, a.2.2.2.2.2.2.2.2.2.2.2.2.2.2.2.1, a.2.2.2.2.2.2.2.2.2.2.2.2.2.2.2.2.1, a.2.2.2.2.2.2.2.2.2.2.2.2.2.2.2.2.2.1, a.2.2.2.2.2.2.2.2.2.2.2.2.2.2.2.2.2.2.1, a.2.2.2.2.2.2.2.2.2.2.2.2.2.2.2.2.2.2.2.1, a.2.2.2.2.2.2.2.2.2.2.2.2.2.2.2.2.2.2.2.2.1, a.2.2.2.2.2.2.2.2.2.2.2.2.2.2.2.2.2.2.2.2.2.1, a.2.2.2.2.2.2.2.2.2.2.2.2.2.2.2.2.2.2.2.2.2.2⟩ : TConn)) (fun _ => rfl) (upd_snd (upd_snd (upd_snd (upd_snd (upd_snd (upd_snd (upd_fst upd_self))))))))))
theorem t_ustep_7_1 : Upd Kstep 7 Kd.bool (fun x y => (⟨(⟨x.Conn.Id, x.Conn.Guest, x.Conn.Gport, x.Conn.Remote, x.Conn.Rport, x.Conn.Opening, x.Conn.Up, y, x.Conn.Begin, x.Conn.Una, x.Conn.Next, x.Conn.Want, x.Conn.Win, x.Conn.Mss, x.Conn.ToHost, x.Conn.ToGuest, x.Conn.Early, x.Conn.Fin, x.Conn.Eof, x.Conn.Shut, x.Conn.At, x.Conn.Wait, x.Conn.Tries⟩ : TConn), x.now, x.segs, x.calls, x.gone⟩ : Tstep)) := (upd_iso (fun x : Tstep => (x.Conn, x.now, x.segs, x.calls, x.gone)) (fun a => (⟨a.1, a.2.1, a.2.2.1, a.2.2.2.1, a.2.2.2.2⟩ : Tstep)) (fun _ => rfl) (upd_fst (upd_iso (fun x : TConn => (x.Id, x.Guest, x.Gport, x.Remote, x.Rport, x.Opening, x.Up, x.Done, x.Begin, x.Una, x.Next, x.Want, x.Win, x.Mss, x.ToHost, x.ToGuest, x.Early, x.Fin, x.Eof, x.Shut, x.At, x.Wait, x.Tries)) (fun a => (⟨a.1, a.2.1, a.2.2.1, a.2.2.2.1, a.2.2.2.2.1, a.2.2.2.2.2.1, a.2.2.2.2.2.2.1, a.2.2.2.2.2.2.2.1, a.2.2.2.2.2.2.2.2.1, a.2.2.2.2.2.2.2.2.2.1, a.2.2.2.2.2.2.2.2.2.2.1, a.2.2.2.2.2.2.2.2.2.2.2.1, a.2.2.2.2.2.2.2.2.2.2.2.2.1, a.2.2.2.2.2.2.2.2.2.2.2.2.2.1, a.2.2.2.2.2.2.2.2.2.2.2.2.2.2.1, a.2.2.2.2.2.2.2.2.2.2.2.2.2.2.2.1, a.2.2.2.2.2.2.2.2.2.2.2.2.2.2.2.2.1, a.2.2.2.2.2.2.2.2.2.2.2.2.2.2.2.2.2.1, a.2.2.2.2.2.2.2.2.2.2.2.2.2.2.2.2.2.2.1, a.2.2.2.2.2.2.2.2.2.2.2.2.2.2.2.2.2.2.2.1, a.2.2.2.2.2.2.2.2.2.2.2.2.2.2.2.2.2.2.2.2.1, a.2.2.2.2.2.2.2.2.2.2.2.2.2.2.2.2.2.2.2.2.2.1, a.2.2.2.2.2.2.2.2.2.2.2.2.2.2.2.2.2.2.2.2.2.2⟩ : TConn)) (fun _ => rfl) (upd_snd (upd_snd (upd_snd (upd_snd (upd_snd (upd_snd (upd_snd (upd_fst upd_self)))))))))))
theorem t_ustep_9_1 : Upd Kstep 9 (Kd.int .u32) (fun x y => (⟨(⟨x.Conn.Id, x.Conn.Guest, x.Conn.Gport, x.Conn.Remote, x.Conn.Rport, x.Conn.Opening, x.Conn.Up, x.Conn.Done, x.Conn.Begin, y, x.Conn.Next, x.Conn.Want, x.Conn.Win, x.Conn.Mss, x.Conn.ToHost, x.Conn.ToGuest, x.Conn.Early, x.Conn.Fin, x.Conn.Eof, x.Conn.Shut, x.Conn.At, x.Conn.Wait, x.Conn.Tries⟩ : TConn), x.now, x.segs, x.calls, x.gone⟩ : Tstep)) := (upd_iso (fun x : Tstep => (x.Conn, x.now, x.segs, x.calls, x.gone)) (fun a => (⟨a.1, a.2.1, a.2.2.1, a.2.2.2.1, a.2.2.2.2⟩ : Tstep)) (fun _ => rfl) (upd_fst (upd_iso (fun x : TConn => (x.Id, x.Guest, x.Gport, x.Remote, x.Rport, x.Opening, x.Up, x.Done, x.Begin, x.Una, x.Next, x.Want, x.Win, x.Mss, x.ToHost, x.ToGuest, x.Early, x.Fin, x.Eof, x.Shut, x.At, x.Wait, x.Tries)) (fun a => (⟨a.1, a.2.1, a.2.2.1, a.2.2.2.1, a.2.2.2.2.1, a.2.2.2.2.2.1, a.2.2.2.2.2.2.1, a.2.2.2.2.2.2.2.1, a.2.2.2.2.2.2.2.2.1, a.2.2.2.2.2.2.2.2.2.1, a.2.2.2.2.2.2.2.2.2.2.1, a.2.2.2.2.2.2.2.2.2.2.2.1, a.2.2.2.2.2.2.2.2.2.2.2.2.1, a.2.2.2.2.2.2.2.2.2.2.2.2.2.1, a.2.2.2.2.2.2.2.2.2.2.2.2.2.2.1, a.2.2.2.2.2.2.2.2.2.2.2.2.2.2.2.1, a.2.2.2.2.2.2.2.2.2.2.2.2.2.2.2.2.1, a.2.2.2.2.2.2.2.2.2.2.2.2.2.2.2.2.2.1, a.2.2.2.2.2.2.2.2.2.2.2.2.2.2.2.2.2.2.1, a.2.2.2.2.2.2.2.2.2.2.2.2.2.2.2.2.2.2.2.1, a.2.2.2.2.2.2.2.2.2.2.2.2.2.2.2.2.2.2.2.2.1, a.2.2.2.2.2.2.2.2.2.2.2.2.2.2.2.2.2.2.2.2.2.1, a.2.2.2.2.2.2.2.2.2.2.2.2.2.2.2.2.2.2.2.2.2.2⟩ : TConn)) (fun _ => rfl) (upd_snd (upd_snd (upd_snd (upd_snd (upd_snd (upd_snd (upd_snd (upd_snd (upd_snd (upd_fst upd_self)))))))))))))
theorem t_ustep_12_1 : Upd Kstep 12 (Kd.int .i64) (fun x y => (⟨(⟨x.Conn.Id, x.Conn.Guest, x.Conn.Gport, x.Conn.Remote, x.Conn.Rport, x.Conn.Opening, x.Conn.Up, x.Conn.Done, x.Conn.Begin, x.Conn.Una, x.Conn.Next, x.Conn.Want, y, x.Conn.Mss, x.Conn.ToHost, x.Conn.ToGuest, x.Conn.Early, x.Conn.Fin, x.Conn.Eof, x.Conn.Shut, x.Conn.At, x.Conn.Wait, x.Conn.Tries⟩ : TConn), x.now, x.segs, x.calls, x.gone⟩ : Tstep)) := (upd_iso (fun x : Tstep => (x.Conn, x.now, x.segs, x.calls, x.gone)) (fun a => (⟨a.1, a.2.1, a.2.2.1, a.2.2.2.1, a.2.2.2.2⟩ : Tstep)) (fun _ => rfl) (upd_fst (upd_iso (fun x : TConn => (x.Id, x.Guest, x.Gport, x.Remote, x.Rport, x.Opening, x.Up, x.Done, x.Begin, x.Una, x.Next, x.Want, x.Win, x.Mss, x.ToHost, x.ToGuest, x.Early, x.Fin, x.Eof, x.Shut, x.At, x.Wait, x.Tries)) (fun a => (⟨a.1, a.2.1, a.2.2.1, a.2.2.2.1, a.2.2.2.2.1, a.2.2.2.2.2.1, a.2.2.2.2.2.2.1, a.2.2.2.2.2.2.2.1, a.2.2.2.2.2.2.2.2.1, a.2.2.2.2.2.2.2.2.2.1, a.2.2.2.2.2.2.2.2.2.2.1, a.2.2.2.2.2.2.2.2.2.2.2.1, a.2.2.2.2.2.2.2.2.2.2.2.2.1, a.2.2.2.2.2.2.2.2.2.2.2.2.2.1, a.2.2.2.2.2.2.2.2.2.2.2.2.2.2.1, a.2.2.2.2.2.2.2.2.2.2.2.2.2.2.2.1, a.2.2.2.2.2.2.2.2.2.2.2.2.2.2.2.2.1, a.2.2.2.2.2.2.2.2.2.2.2.2.2.2.2.2.2.1, a.2.2.2.2.2.2.2.2.2.2.2.2.2.2.2.2.2.2.1, a.2.2.2.2.2.2.2.2.2.2.2.2.2.2.2.2.2.2.2.1, a.2.2.2.2.2.2.2.2.2.2.2.2.2.2.2.2.2.2.2.2.1, a.2.2.2.2.2.2.2.2.2.2.2.2.2.2.2.2.2.2.2.2.2.1, a.2.2.2.2.2.2.2.2.2.2.2.2.2.2.2.2.2.2.2.2.2.2⟩ : TConn)) (fun _ => rfl) (upd_snd (upd_snd (upd_snd (upd_snd (upd_snd (upd_snd (upd_snd (upd_snd (upd_snd (upd_snd (upd_snd (upd_snd (upd_fst upd_self))))))))))))))))
theorem t_ustep_22_1 : Upd Kstep 22 (Kd.int .i64) (fun x y => (⟨(⟨x.Conn.Id, x.Conn.Guest, x.Conn.Gport, x.Conn.Remote, x.Conn.Rport, x.Conn.Opening, x.Conn.Up, x.Conn.Done, x.Conn.Begin, x.Conn.Una, x.Conn.Next, x.Conn.Want, x.Conn.Win, x.Conn.Mss, x.Conn.ToHost, x.Conn.ToGuest, x.Conn.Early, x.Conn.Fin, x.Conn.Eof, x.Conn.Shut, x.Conn.At, x.Conn.Wait, y⟩ : TConn), x.now, x.segs, x.calls, x.gone⟩ : Tstep)) := (upd_iso (fun x : Tstep => (x.Conn, x.now, x.segs, x.calls, x.gone)) (fun a => (⟨a.1, a.2.1, a.2.2.1, a.2.2.2.1, a.2.2.2.2⟩ : Tstep)) (fun _ => rfl) (upd_fst (upd_iso (fun x : TConn => (x.Id, x.Guest, x.Gport, x.Remote, x.Rport, x.Opening, x.Up, x.Done, x.Begin, x.Una, x.Next, x.Want, x.Win, x.Mss, x.ToHost, x.ToGuest, x.Early, x.Fin, x.Eof, x.Shut, x.At, x.Wait, x.Tries)) (fun a => (⟨a.1, a.2.1, a.2.2.1, a.2.2.2.1, a.2.2.2.2.1, a.2.2.2.2.2.1, a.2.2.2.2.2.2.1, a.2.2.2.2.2.2.2.1, a.2.2.2.2.2.2.2.2.1, a.2.2.2.2.2.2.2.2.2.1, a.2.2.2.2.2.2.2.2.2.2.1, a.2.2.2.2.2.2.2.2.2.2.2.1, a.2.2.2.2.2.2.2.2.2.2.2.2.1, a.2.2.2.2.2.2.2.2.2.2.2.2.2.1, a.2.2.2.2.2.2.2.2.2.2.2.2.2.2.1, a.2.2.2.2.2.2.2.2.2.2.2.2.2.2.2.1, a.2.2.2.2.2.2.2.2.2.2.2.2.2.2.2.2.1, a.2.2.2.2.2.2.2.2.2.2.2.2.2.2.2.2.2.1, a.2.2.2.2.2.2.2.2.2.2.2.2.2.2.2.2.2.2.1, a.2.2.2.2.2.2.2.2.2.2.2.2.2.2.2.2.2.2.2.1, a.2.2.2.2.2.2.2.2.2.2.2.2.2.2.2.2.2.2.2.2.1, a.2.2.2.2.2.2.2.2.2.2.2.2.2.2.2.2.2.2.2.2.2.1, a.2.2.2.2.2.2.2.2.2.2.2.2.2.2.2.2.2.2.2.2.2.2⟩ : TConn)) (fun _ => rfl) (upd_snd (upd_snd (upd_snd (upd_snd (upd_snd (upd_snd (upd_snd (upd_snd (upd_snd (upd_snd (upd_snd (upd_snd (upd_snd (upd_snd (upd_snd (upd_snd (upd_snd (upd_snd (upd_snd (upd_snd (upd_snd (upd_snd (upd_last upd_self))))))))))))))))))))))))))
theorem t_a24 : appTy Try.prog 24 2 = true := by kernel_rfl
theorem t_n24 : noInt (Try.prog.underlying 24) = true := by kernel_rfl
theorem t_sstepR_Conn_Want : Sub KstepR 11 (Kd.int .u32) (fun x => x.Conn.Want) := sub_sub sstepR_Conn sConn_Want
theorem t_sstep_Conn_Early : Sub Kstep 16 (Kd.sl KEarly) (fun x => x.Conn.Early) := sub_sub sstep_Conn sConn_Early
theorem t_w58 : (Try.prog.info? 58).map (·.size) = some 2 := by kernel_rfl
theorem t_ustep_11_1 : Upd Kstep 11 (Kd.int .u32) (fun x y => (⟨(⟨x.Conn.Id, x.Conn.Guest, x.Conn.Gport, x.Conn.Remote, x.Conn.Rport, x.Conn.Opening, x.Conn.Up, x.Conn.Done, x.Conn.Begin, x.Conn.Una, x.Conn.Next, y, x.Conn.Win, x.Conn.Mss, x.Conn.ToHost, x.Conn.ToGuest, x.Conn.Early, x.Conn.Fin, x.Conn.Eof, x.Conn.Shut, x.Conn.At, x.Conn.Wait, x.Conn.Tries⟩ : TConn), x.now, x.segs, x.calls, x.gone⟩ : Tstep)) := (upd_iso (fun x : Tstep => (x.Conn, x.now, x.segs, x.calls, x.gone)) (fun a => (⟨a.1, a.2.1, a.2.2.1, a.2.2.2.1, a.2.2.2.2⟩ : Tstep)) (fun _ => rfl) (upd_fst (upd_iso (fun x : TConn => (x.Id, x.Guest, x.Gport, x.Remote, x.Rport, x.Opening, x.Up, x.Done, x.Begin, x.Una, x.Next, x.Want, x.Win, x.Mss, x.ToHost, x.ToGuest, x.Early, x.Fin, x.Eof, x.Shut, x.At, x.Wait, x.Tries)) (fun a => (⟨a.1, a.2.1, a.2.2.1, a.2.2.2.1, a.2.2.2.2.1, a.2.2.2.2.2.1, a.2.2.2.2.2.2.1, a.2.2.2.2.2.2.2.1, a.2.2.2.2.2.2.2.2.1, a.2.2.2.2.2.2.2.2.2.1, a.2.2.2.2.2.2.2.2.2.2.1, a.2.2.2.2.2.2.2.2.2.2.2.1, a.2.2.2.2.2.2.2.2.2.2.2.2.1, a.2.2.2.2.2.2.2.2.2.2.2.2.2.1, a.2.2.2.2.2.2.2.2.2.2.2.2.2.2.1, a.2.2.2.2.2.2.2.2.2.2.2.2.2.2.2.1, a.2.2.2.2.2.2.2.2.2.2.2.2.2.2.2.2.1, a.2.2.2.2.2.2.2.2.2.2.2.2.2.2.2.2.2.1, a.2.2.2.2.2.2.2.2.2.2.2.2.2.2.2.2.2.2.1, a.2.2.2.2.2.2.2.2.2.2.2.2.2.2.2.2.2.2.2.1, a.2.2.2.2.2.2.2.2.2.2.2.2.2.2.2.2.2.2.2.2.1, a.2.2.2.2.2.2.2.2.2.2.2.2.2.2.2.2.2.2.2.2.2.1, a.2.2.2.2.2.2.2.2.2.2.2.2.2.2.2.2.2.2.2.2.2.2⟩ : TConn)) (fun _ => rfl) (upd_snd (upd_snd (upd_snd (upd_snd (upd_snd (upd_snd (upd_snd (upd_snd (upd_snd (upd_snd (upd_snd (upd_fst upd_self)))))))))))))))
theorem t_zc58 : zeroC Try.prog 58 = some [.int .u32 0, .slice none 0 0] := by kernel_rfl
theorem t_ustep_16_1 : Upd Kstep 16 (Kd.sl KEarly) (fun x y => (⟨(⟨x.Conn.Id, x.Conn.Guest, x.Conn.Gport, x.Conn.Remote, x.Conn.Rport, x.Conn.Opening, x.Conn.Up, x.Conn.Done, x.Conn.Begin, x.Conn.Una, x.Conn.Next, x.Conn.Want, x.Conn.Win, x.Conn.Mss, x.Conn.ToHost, x.Conn.ToGuest, y, x.Conn.Fin, x.Conn.Eof, x.Conn.Shut, x.Conn.At, x.Conn.Wait, x.Conn.Tries⟩ : TConn), x.now, x.segs, x.calls, x.gone⟩ : Tstep)) := (upd_iso (fun x : Tstep => (x.Conn, x.now, x.segs, x.calls, x.gone)) (fun a => (⟨a.1, a.2.1, a.2.2.1, a.2.2.2.1, a.2.2.2.2⟩ : Tstep)) (fun _ => rfl) (upd_fst (upd_iso (fun x : TConn => (x.Id, x.Guest, x.Gport, x.Remote, x.Rport, x.Opening, x.Up, x.Done, x.Begin, x.Una, x.Next, x.Want, x.Win, x.Mss, x.ToHost, x.ToGuest, x.Early, x.Fin, x.Eof, x.Shut, x.At, x.Wait, x.Tries)) (fun a => (⟨a.1, a.2.1, a.2.2.1, a.2.2.2.1, a.2.2.2.2.1, a.2.2.2.2.2.1, a.2.2.2.2.2.2.1, a.2.2.2.2.2.2.2.1, a.2.2.2.2.2.2.2.2.1, a.2.2.2.2.2.2.2.2.2.1, a.2.2.2.2.2.2.2.2.2.2.1, a.2.2.2.2.2.2.2.2.2.2.2.1, a.2.2.2.2.2.2.2.2.2.2.2.2.1, a.2.2.2.2.2.2.2.2.2.2.2.2.2.1, a.2.2.2.2.2.2.2.2.2.2.2.2.2.2.1, a.2.2.2.2.2.2.2.2.2.2.2.2.2.2.2.1, a.2.2.2.2.2.2.2.2.2.2.2.2.2.2.2.2.1, a.2.2.2.2.2.2.2.2.2.2.2.2.2.2.2.2.2.1, a.2.2.2.2.2.2.2.2.2.2.2.2.2.2.2.2.2.2.1, a.2.2.2.2.2.2.2.2.2.2.2.2.2.2.2.2.2.2.2.1, a.2.2.2.2.2.2.2.2.2.2.2.2.2.2.2.2.2.2.2.2.1, a.2.2.2.2.2.2.2.2.2.2.2.2.2.2.2.2.2.2.2.2.2.1, a.2.2.2.2.2.2.2.2.2.2.2.2.2.2.2.2.2.2.2.2.2.2⟩ : TConn)) (fun _ => rfl) (upd_snd (upd_snd (upd_snd (upd_snd (upd_snd (upd_snd (upd_snd (upd_snd (upd_snd (upd_snd (upd_snd (upd_snd (upd_snd (upd_snd (upd_snd (upd_snd (upd_fst upd_self))))))))))))))))))))
theorem t_w24 : (Try.prog.info? 24).map (·.size) = some 1 := by kernel_rfl
theorem t_b58 : flds Try.prog 58 = some (lay 0 zsEarly) := by kernel_rfl
theorem t_ustep_17_1 : Upd Kstep 17 Kd.bool (fun x y => (⟨(⟨x.Conn.Id, x.Conn.Guest, x.Conn.Gport, x.Conn.Remote, x.Conn.Rport, x.Conn.Opening, x.Conn.Up, x.Conn.Done, x.Conn.Begin, x.Conn.Una, x.Conn.Next, x.Conn.Want, x.Conn.Win, x.Conn.Mss, x.Conn.ToHost, x.Conn.ToGuest, x.Conn.Early, y, x.Conn.Eof, x.Conn.Shut, x.Conn.At, x.Conn.Wait, x.Conn.Tries⟩ : TConn), x.now, x.segs, x.calls, x.gone⟩ : Tstep)) := (upd_iso (fun x : Tstep => (x.Conn, x.now, x.segs, x.calls, x.gone)) (fun a => (⟨a.1, a.2.1, a.2.2.1, a.2.2.2.1, a.2.2.2.2⟩ : Tstep)) (fun _ => rfl) (upd_fst (upd_iso (fun x : TConn => (x.Id, x.Guest, x.Gport, x.Remote, x.Rport, x.Opening, x.Up, x.Done, x.Begin, x.Una, x.Next, x.Want, x.Win, x.Mss, x.ToHost, x.ToGuest, x.Early, x.Fin, x.Eof, x.Shut, x.At, x.Wait, x.Tries)) (fun a => (⟨a.1, a.2.1, a.2.2.1, a.2.2.2.1, a.2.2.2.2.1, a.2.2.2.2.2.1, a.2.2.2.2.2.2.1, a.2.2.2.2.2.2.2.1, a.2.2.2.2.2.2.2.2.1, a.2.2.2.2.2.2.2.2.2.1, a.2.2.2.2.2.2.2.2.2.2.1, a.2.2.2.2.2.2.2.2.2.2.2.1, a.2.2.2.2.2.2.2.2.2.2.2.2.1, a.2.2.2.2.2.2.2.2.2.2.2.2.2.1, a.2.2.2.2.2.2.2.2.2.2.2.2.2.2.1, a.2.2.2.2.2.2.2.2.2.2.2.2.2.2.2.1, a.2.2.2.2.2.2.2.2.2.2.2.2.2.2.2.2.1, a.2.2.2.2.2.2.2.2.2.2.2.2.2.2.2.2.2.1, a.2.2.2.2.2.2.2.2.2.2.2.2.2.2.2.2.2.2.1, a.2.2.2.2.2.2.2.2.2.2.2.2.2.2.2.2.2.2.2.1, a.2.2.2.2.2.2.2.2.2.2.2.2.2.2.2.2.2.2.2.2.1, a.2.2.2.2.2.2.2.2.2.2.2.2.2.2.2.2.2.2.2.2.2.1, a.2.2.2.2.2.2.2.2.2.2.2.2.2.2.2.2.2.2.2.2.2.2⟩ : TConn)) (fun _ => rfl) (upd_snd (upd_snd (upd_snd (upd_snd (upd_snd (upd_snd (upd_snd (upd_snd (upd_snd (upd_snd (upd_snd (upd_snd (upd_snd (upd_snd (upd_snd (upd_snd (upd_snd (upd_fst upd_self)))))))))))))))))))))
theorem t_sstep_Conn_Tries : Sub Kstep 22 (Kd.int .i64) (fun x => x.Conn.Tries) := sub_sub sstep_Conn sConn_Tries
theorem t_sstep_Conn_Wait : Sub Kstep 21 (Kd.int .i64) (fun x => x.Conn.Wait) := sub_sub sstep_Conn sConn_Wait
theorem t_b44 : flds Try.prog 44 = some (lay 0 zsTell) := by kernel_rfl
theorem t_u23 : Try.prog.underlying 23 = some (.slice 5) := by kernel_rfl
theorem t_v32 : slTy Try.prog 32 5 = true := by kernel_rfl
theorem t_f37_0 : fldI Try.prog 37 0 = some (0, false, 1) := by kernel_rfl
theorem t_f37_4 : fldI Try.prog 37 4 = some (4, false, 1) := by kernel_rfl
theorem t_u9 : Try.prog.underlying 9 = some (.string) := by kernel_rfl
theorem t_f48_5 : fldI Try.prog 48 5 = some (27, false, 1) := by kernel_rfl
theorem t_f46_0 : fldI Try.prog 46 0 = some (0, false, 1) := by kernel_rfl
theorem t_f48_0 : fldI Try.prog 48 0 = some (0, true, 23) := by kernel_rfl
theorem t_f48_1 : fldI Try.prog 48 1 = some (23, false, 1) := by kernel_rfl
theorem t_f46_1 : fldI Try.prog 46 1 = some (1, true, 8) := by kernel_rfl
theorem t_uplay_0_23 : Upd Kplay 0 KConn (fun x y => (⟨y, x.now, x.given, x.gave, x.segs, x.gone, x.calls⟩ : Tplay)) := (upd_iso (fun x : Tplay => (x.c, x.now, x.given, x.gave, x.segs, x.gone, x.calls)) (fun a => (⟨a.1, a.2.1, a.2.2.1, a.2.2.2.1, a.2.2.2.2.1, a.2.2.2.2.2.1, a.2.2.2.2.2.2⟩ : Tplay)) (fun _ => rfl) (upd_fst upd_self))
theorem t_uplay_27_1 : Upd Kplay 27 Kd.bool (fun x y => (⟨x.c, x.now, x.given, x.gave, x.segs, y, x.calls⟩ : Tplay)) := (upd_iso (fun x : Tplay => (x.c, x.now, x.given, x.gave, x.segs, x.gone, x.calls)) (fun a => (⟨a.1, a.2.1, a.2.2.1, a.2.2.2.1, a.2.2.2.2.1, a.2.2.2.2.2.1, a.2.2.2.2.2.2⟩ : Tplay)) (fun _ => rfl) (upd_snd (upd_snd (upd_snd (upd_snd (upd_snd (upd_fst upd_self)))))))
theorem t_f46_2 : fldI Try.prog 46 2 = some (9, true, 4) := by kernel_rfl
theorem t_sEv_Tell_Kind : Sub KEv 9 (Kd.int .i64) (fun x => x.Tell.Kind) := sub_sub sEv_Tell sTell_Kind
theorem t_sEv_Tell_Data : Sub KEv 11 (Kd.sl (Kd.int .u8)) (fun x => x.Tell.Data) := sub_sub sEv_Tell sTell_Data
theorem t_f48_3 : fldI Try.prog 48 3 = some (25, false, 1) := by kernel_rfl
theorem t_f46_3 : fldI Try.prog 46 3 = some (13, false, 1) := by kernel_rfl
theorem t_uplay_23_1 : Upd Kplay 23 (Kd.int .i64) (fun x y => (⟨x.c, y, x.given, x.gave, x.segs, x.gone, x.calls⟩ : Tplay)) := (upd_iso (fun x : Tplay => (x.c, x.now, x.given, x.gave, x.segs, x.gone, x.calls)) (fun a => (⟨a.1, a.2.1, a.2.2.1, a.2.2.2.1, a.2.2.2.2.1, a.2.2.2.2.2.1, a.2.2.2.2.2.2⟩ : Tplay)) (fun _ => rfl) (upd_snd (upd_fst upd_self)))
theorem t_f48_4 : fldI Try.prog 48 4 = some (26, false, 1) := by kernel_rfl
theorem t_f48_2 : fldI Try.prog 48 2 = some (24, false, 1) := by kernel_rfl
theorem t_f48_6 : fldI Try.prog 48 6 = some (28, false, 1) := by kernel_rfl
theorem t_uplay_28_1 : Upd Kplay 28 (Kd.int .i64) (fun x y => (⟨x.c, x.now, x.given, x.gave, x.segs, x.gone, y⟩ : Tplay)) := (upd_iso (fun x : Tplay => (x.c, x.now, x.given, x.gave, x.segs, x.gone, x.calls)) (fun a => (⟨a.1, a.2.1, a.2.2.1, a.2.2.2.1, a.2.2.2.2.1, a.2.2.2.2.2.1, a.2.2.2.2.2.2⟩ : Tplay)) (fun _ => rfl) (upd_snd (upd_snd (upd_snd (upd_snd (upd_snd (upd_snd (upd_last upd_self))))))))
theorem t_b48 : flds Try.prog 48 = some (lay 0 zsplay) := by kernel_rfl
theorem t_b46 : flds Try.prog 46 = some (lay 0 zsEv) := by kernel_rfl
theorem t_uSeg_3_1 : Upd KSeg 3 (Kd.int .u32) (fun x y => (⟨x.Src, x.Dst, x.Seq, y, x.Flags, x.Win, x.Mss, x.Data⟩ : TSeg)) := (upd_iso (fun x : TSeg => (x.Src, x.Dst, x.Seq, x.Ack, x.Flags, x.Win, x.Mss, x.Data)) (fun a => (⟨a.1, a.2.1, a.2.2.1, a.2.2.2.1, a.2.2.2.2.1, a.2.2.2.2.2.1, a.2.2.2.2.2.2.1, a.2.2.2.2.2.2.2⟩ : TSeg)) (fun _ => rfl) (upd_snd (upd_snd (upd_snd (upd_fst upd_self)))))
theorem t_uSeg_7_1 : Upd KSeg 7 (Kd.sl (Kd.int .u8)) (fun x y => (⟨x.Src, x.Dst, x.Seq, x.Ack, x.Flags, x.Win, x.Mss, y⟩ : TSeg)) := (upd_iso (fun x : TSeg => (x.Src, x.Dst, x.Seq, x.Ack, x.Flags, x.Win, x.Mss, x.Data)) (fun a => (⟨a.1, a.2.1, a.2.2.1, a.2.2.2.1, a.2.2.2.2.1, a.2.2.2.2.2.1, a.2.2.2.2.2.2.1, a.2.2.2.2.2.2.2⟩ : TSeg)) (fun _ => rfl) (upd_snd (upd_snd (upd_snd (upd_snd (upd_snd (upd_snd (upd_snd (upd_last upd_self)))))))))
theorem t_uSeg_4_1 : Upd KSeg 4 (Kd.int .i64) (fun x y => (⟨x.Src, x.Dst, x.Seq, x.Ack, y, x.Win, x.Mss, x.Data⟩ : TSeg)) := (upd_iso (fun x : TSeg => (x.Src, x.Dst, x.Seq, x.Ack, x.Flags, x.Win, x.Mss, x.Data)) (fun a => (⟨a.1, a.2.1, a.2.2.1, a.2.2.2.1, a.2.2.2.2.1, a.2.2.2.2.2.1, a.2.2.2.2.2.2.1, a.2.2.2.2.2.2.2⟩ : TSeg)) (fun _ => rfl) (upd_snd (upd_snd (upd_snd (upd_snd (upd_fst upd_self))))))
end Go.Proofs.Ytpcbhkigmnpimaa.S
