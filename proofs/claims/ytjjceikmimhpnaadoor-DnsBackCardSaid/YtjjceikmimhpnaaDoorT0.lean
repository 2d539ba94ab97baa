/- Kinds and facts of types, printed by a program of this session. -/
import Derived.Test.YtjjceikmimhpnaaDoorProg
import Derived.Test.YtjjceikmimhpnaaDoorSlZs
import Derived.KernelRfl
namespace Go.Proofs.YtjjceikmimhpnaaDoor.S
open Go Go.SL Go.RowKit
set_option linter.unusedVariables false
set_option linter.unusedSimpArgs false
structure Tfault where
  code : Int
 deriving DecidableEq
def Kfault : Kd Tfault := Kd.iso (Kd.last (Kd.int .i64)) (fun x => x.code)
theorem Pfault : Kfault.Per := Per_iso (Per_last Per_int)
theorem sfault_code : Sub Kfault 0 (Kd.int .i64) (fun x => x.code) := sub_iso sub_last
theorem cfault (b : Nat) (x : Tfault) : Chain Kfault b 0 x [Fld (Kd.int .i64) b 0 x.code] := .iso .last
def zfault : Tfault := ⟨0⟩
def zsfault : List (List Value) := [[.int .i64 0]]
theorem Zfault : ZC Kfault zfault [.int .i64 0] := z_iso (z_last z_int)
structure Tquestion where
  labels : List (List Int)
  kind : Int
  end_ : Int
 deriving DecidableEq
def Kquestion : Kd Tquestion := Kd.iso (Kd.pair (Kd.osl Kd.str) (Kd.pair (Kd.int .i64) (Kd.last (Kd.int .i64)))) (fun x => (x.labels, x.kind, x.end_))
theorem squestion_labels : Sub Kquestion 0 (Kd.osl Kd.str) (fun x => x.labels) := sub_iso sub_fst
theorem squestion_kind : Sub Kquestion 1 (Kd.int .i64) (fun x => x.kind) := sub_iso (sub_snd sub_fst)
theorem squestion_end_ : Sub Kquestion 2 (Kd.int .i64) (fun x => x.end_) := sub_iso (sub_snd (sub_snd sub_last))
theorem cquestion (b : Nat) (x : Tquestion) : Chain Kquestion b 0 x [Fld (Kd.osl Kd.str) b 0 x.labels, Fld (Kd.int .i64) b 1 x.kind, Fld (Kd.int .i64) b 2 x.end_] := .iso (.pair rfl (.pair rfl .last))
def zquestion : Tquestion := ⟨[], 0, 0⟩
def zsquestion : List (List Value) := [[.slice none 0 0], [.int .i64 0], [.int .i64 0]]
theorem Zquestion : ZC Kquestion zquestion [.slice none 0 0, .int .i64 0, .int .i64 0] := z_iso (z_pair z_osl (z_pair z_int (z_last z_int)))
def KquestionR : Kd Tquestion := Kd.iso (Kd.pair (Kd.sl Kd.str) (Kd.pair (Kd.int .i64) (Kd.last (Kd.int .i64)))) (fun x => (x.labels, x.kind, x.end_))
theorem PquestionR : KquestionR.Per := Per_iso (Per_pair Per_sl (Per_pair Per_int (Per_last Per_int)))
theorem squestionR_labels : Sub KquestionR 0 (Kd.sl Kd.str) (fun x => x.labels) := sub_iso sub_fst
theorem squestionR_kind : Sub KquestionR 1 (Kd.int .i64) (fun x => x.kind) := sub_iso (sub_snd sub_fst)
theorem squestionR_end_ : Sub KquestionR 2 (Kd.int .i64) (fun x => x.end_) := sub_iso (sub_snd (sub_snd sub_last))
theorem ZquestionR : ZC KquestionR zquestion [.slice none 0 0, .int .i64 0, .int .i64 0] := z_iso (z_pair z_sl (z_pair z_int (z_last z_int)))
noncomputable def gv0 : Value := .iface 106 (.agg #[.pointer (some ⟨4, 48, none⟩)])
theorem t_u9 : Tryd.prog.underlying 9 = some (.string) := by kernel_rfl
theorem t_y9 : tyI Tryd.prog 9 = some (false, 1) := by kernel_rfl
theorem t_y3 : tyI Tryd.prog 3 = some (false, 1) := by kernel_rfl
theorem t_mxo : Tryd.prog.follows .mixedOrders = true := by kernel_rfl
theorem t_w9 : (Tryd.prog.info? 9).map (·.size) = some 1 := by kernel_rfl
theorem t_u22 : Tryd.prog.underlying 22 = some (.slice 5) := by kernel_rfl
theorem t_u5 : Tryd.prog.underlying 5 = some (.int .u8) := by kernel_rfl
theorem t_v22 : slTy Tryd.prog 22 1 = true := by kernel_rfl
theorem t_y5 : tyI Tryd.prog 5 = some (false, 1) := by kernel_rfl
theorem t_w22 : (Tryd.prog.info? 22).map (·.size) = some 1 := by kernel_rfl
theorem t_w4 : (Tryd.prog.info? 4).map (·.size) = some 1 := by kernel_rfl
theorem t_y22 : tyI Tryd.prog 22 = some (false, 1) := by kernel_rfl
theorem t_q3 : (Tryd.prog.underlying 3).isSome = true := by kernel_rfl
theorem t_a22 : appTy Tryd.prog 22 1 = true := by kernel_rfl
theorem t_n22 : noInt (Tryd.prog.underlying 22) = true := by kernel_rfl
theorem t_n9 : noInt (Tryd.prog.underlying 9) = true := by kernel_rfl
theorem t_y4 : tyI Tryd.prog 4 = some (false, 1) := by kernel_rfl
theorem t_w5 : (Tryd.prog.info? 5).map (·.size) = some 1 := by kernel_rfl
theorem t_zc5 : zeroC Tryd.prog 5 = some [.int .u8 0] := by kernel_rfl
theorem t_q87 : (Tryd.prog.underlying 87).isSome = true := by kernel_rfl
theorem t_u87 : Tryd.prog.underlying 87 = some (.int .u64) := by kernel_rfl
theorem t_u3 : Tryd.prog.underlying 3 = some (.int .i64) := by kernel_rfl
theorem t_v85 : slTy Tryd.prog 85 1 = true := by kernel_rfl
theorem t_a85 : appTy Tryd.prog 85 1 = true := by kernel_rfl
theorem t_b68 : flds Tryd.prog 68 = some (lay 0 zsfault) := by kernel_rfl
theorem t_q5 : (Tryd.prog.underlying 5).isSome = true := by kernel_rfl
theorem t_b46 : flds Tryd.prog 46 = some (lay 0 zsquestion) := by kernel_rfl
theorem t_w46 : (Tryd.prog.info? 46).map (·.size) = some 3 := by kernel_rfl
theorem t_y46 : tyI Tryd.prog 46 = some (true, 3) := by kernel_rfl
theorem t_f46_2 : fldI Tryd.prog 46 2 = some (2, false, 1) := by kernel_rfl
theorem t_i48 : isIf Tryd.prog 48 = true := by kernel_rfl
theorem t_uquestion_2_1 : Upd Kquestion 2 (Kd.int .i64) (fun x y => (⟨x.labels, x.kind, y⟩ : Tquestion)) := (upd_iso (fun x : Tquestion => (x.labels, x.kind, x.end_)) (fun a => (⟨a.1, a.2.1, a.2.2⟩ : Tquestion)) (fun _ => rfl) (upd_snd (upd_snd (upd_last upd_self))))
theorem t_w3 : (Tryd.prog.info? 3).map (·.size) = some 1 := by kernel_rfl
theorem t_f46_0 : fldI Tryd.prog 46 0 = some (0, false, 1) := by kernel_rfl
theorem t_y44 : tyI Tryd.prog 44 = some (false, 1) := by kernel_rfl
theorem t_a44 : appTy Tryd.prog 44 1 = true := by kernel_rfl
theorem t_n44 : noInt (Tryd.prog.underlying 44) = true := by kernel_rfl
theorem t_w44 : (Tryd.prog.info? 44).map (·.size) = some 1 := by kernel_rfl
theorem t_f46_1 : fldI Tryd.prog 46 1 = some (1, false, 1) := by kernel_rfl
theorem t_uquestion_1_1 : Upd Kquestion 1 (Kd.int .i64) (fun x y => (⟨x.labels, y, x.end_⟩ : Tquestion)) := (upd_iso (fun x : Tquestion => (x.labels, x.kind, x.end_)) (fun a => (⟨a.1, a.2.1, a.2.2⟩ : Tquestion)) (fun _ => rfl) (upd_snd (upd_fst upd_self)))
theorem t_u56 : Tryd.prog.underlying 56 = some (.int .u64) := by kernel_rfl
theorem t_u4 : Tryd.prog.underlying 4 = some (.bool) := by kernel_rfl
end Go.Proofs.YtjjceikmimhpnaaDoor.S
