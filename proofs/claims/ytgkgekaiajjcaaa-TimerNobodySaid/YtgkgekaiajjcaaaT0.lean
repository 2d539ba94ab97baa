/- Kinds and facts of types, printed by a program of this session. -/
import Derived.Test.YtgkgekaiajjcaaaProg
import Derived.Test.YtgkgekaiajjcaaaSlWd
import Derived.KernelRfl
namespace Go.Proofs.Ytgkgekaiajjcaaa.S
open Go Go.SL Go.RowKit
set_option linter.unusedVariables false
set_option linter.unusedSimpArgs false
structure TAlarm where
  At : Int
  Id : Int
 deriving DecidableEq
def KAlarm : Kd TAlarm := Kd.iso (Kd.pair (Kd.int .i64) (Kd.last (Kd.int .i64))) (fun x => (x.At, x.Id))
theorem PAlarm : KAlarm.Per := Per_iso (Per_pair Per_int (Per_last Per_int))
theorem sAlarm_At : Sub KAlarm 0 (Kd.int .i64) (fun x => x.At) := sub_iso sub_fst
theorem sAlarm_Id : Sub KAlarm 1 (Kd.int .i64) (fun x => x.Id) := sub_iso (sub_snd sub_last)
theorem cAlarm (b : Nat) (x : TAlarm) : Chain KAlarm b 0 x [Fld (Kd.int .i64) b 0 x.At, Fld (Kd.int .i64) b 1 x.Id] := .iso (.pair rfl .last)
def zAlarm : TAlarm := ⟨0, 0⟩
def zsAlarm : List (List Value) := [[.int .i64 0], [.int .i64 0]]
theorem ZAlarm : ZC KAlarm zAlarm [.int .i64 0, .int .i64 0] := z_iso (z_pair z_int (z_last z_int))
structure Titem where
  Alarm : TAlarm
  place : Int
 deriving DecidableEq
def Kitem : Kd Titem := Kd.iso (Kd.pair KAlarm (Kd.last (Kd.int .i64))) (fun x => (x.Alarm, x.place))
theorem Pitem : Kitem.Per := Per_iso (Per_pair PAlarm (Per_last Per_int))
theorem sitem_Alarm : Sub Kitem 0 KAlarm (fun x => x.Alarm) := sub_iso sub_fst
theorem sitem_place : Sub Kitem 2 (Kd.int .i64) (fun x => x.place) := sub_iso (sub_snd sub_last)
theorem citem (b : Nat) (x : Titem) : Chain Kitem b 0 x [Fld KAlarm b 0 x.Alarm, Fld (Kd.int .i64) b 2 x.place] := .iso (.pair rfl .last)
def zitem : Titem := ⟨zAlarm, 0⟩
def zsitem : List (List Value) := [[.int .i64 0, .int .i64 0], [.int .i64 0]]
theorem Zitem : ZC Kitem zitem [.int .i64 0, .int .i64 0, .int .i64 0] := z_iso (z_pair ZAlarm (z_last z_int))
structure TWheel where
  l : List TAlarm
 deriving DecidableEq
def KWheel : Kd TWheel := Kd.iso (Kd.last (Kd.sl KAlarm)) (fun x => x.l)
theorem PWheel : KWheel.Per := Per_iso (Per_last Per_sl)
theorem sWheel_l : Sub KWheel 0 (Kd.sl KAlarm) (fun x => x.l) := sub_iso sub_last
theorem cWheel (b : Nat) (x : TWheel) : Chain KWheel b 0 x [Fld (Kd.sl KAlarm) b 0 x.l] := .iso .last
def zWheel : TWheel := ⟨[]⟩
def zsWheel : List (List Value) := [[.slice none 0 0]]
theorem ZWheel : ZC KWheel zWheel [.slice none 0 0] := z_iso (z_last z_sl)
theorem t_v88 : slTy Try.prog 88 1 = true := by kernel_rfl
theorem t_y3 : tyI Try.prog 3 = some (false, 1) := by kernel_rfl
theorem t_f54_0 : fldI Try.prog 54 0 = some (0, true, 2) := by kernel_rfl
theorem t_f28_0 : fldI Try.prog 28 0 = some (0, false, 1) := by kernel_rfl
theorem t_sitem_Alarm_At : Sub Kitem 0 (Kd.int .i64) (fun x => x.Alarm.At) := sub_sub sitem_Alarm sAlarm_At
theorem t_f28_1 : fldI Try.prog 28 1 = some (1, false, 1) := by kernel_rfl
theorem t_sitem_Alarm_Id : Sub Kitem 1 (Kd.int .i64) (fun x => x.Alarm.Id) := sub_sub sitem_Alarm sAlarm_Id
theorem t_mxo : Try.prog.follows .mixedOrders = true := by kernel_rfl
theorem t_a88 : appTy Try.prog 88 1 = true := by kernel_rfl
theorem t_v45 : slTy Try.prog 45 1 = true := by kernel_rfl
theorem t_a45 : appTy Try.prog 45 1 = true := by kernel_rfl
theorem t_n45 : noInt (Try.prog.underlying 45) = true := by kernel_rfl
theorem t_a22 : appTy Try.prog 22 2 = true := by kernel_rfl
theorem t_b28 : flds Try.prog 28 = some (lay 0 zsAlarm) := by kernel_rfl
theorem t_n22 : noInt (Try.prog.underlying 22) = true := by kernel_rfl
theorem t_u3 : Try.prog.underlying 3 = some (.int .i64) := by kernel_rfl
theorem t_w28 : (Try.prog.info? 28).map (·.size) = some 2 := by kernel_rfl
theorem t_y28 : tyI Try.prog 28 = some (true, 2) := by kernel_rfl
theorem t_v22 : slTy Try.prog 22 2 = true := by kernel_rfl
theorem t_e28 : eqI Try.prog 28 = some [(0, 3, false, 1), (1, 3, false, 1)] := by kernel_rfl
theorem t_u24 : Try.prog.underlying 24 = some (.pointer 48) := by kernel_rfl
theorem t_b64 : flds Try.prog 64 = some (lay 0 zsWheel) := by kernel_rfl
theorem t_f64_0 : fldI Try.prog 64 0 = some (0, false, 1) := by kernel_rfl
theorem t_y22 : tyI Try.prog 22 = some (false, 1) := by kernel_rfl
theorem t_uWheel_0_1 : Upd KWheel 0 (Kd.sl KAlarm) (fun x y => (⟨y⟩ : TWheel)) := (upd_iso (fun x : TWheel => x.l) (fun a => (⟨a⟩ : TWheel)) (fun _ => rfl) (upd_last upd_self))
theorem t_w22 : (Try.prog.info? 22).map (·.size) = some 1 := by kernel_rfl
end Go.Proofs.Ytgkgekaiajjcaaa.S
