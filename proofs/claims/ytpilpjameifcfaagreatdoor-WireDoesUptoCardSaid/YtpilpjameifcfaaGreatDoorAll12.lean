import Derived.Test.YtpilpjameifcfaaGreatDoorAll8
namespace Go.Proofs.YtpilpjameifcfaaGreatDoor
open Go Go.EW
set_option linter.unusedSimpArgs false
set_option linter.unusedVariables false

@[simp] def l_within_1 (_ : Unit) : List EOp := [⟨0, (some 6), none, (.q (.mov (.k (.bool false)))), []⟩]
@[simp] def b_within_2 (_ : Unit) : EB := reg0 (hid l_within_1) 1
@[simp] def l_within_4 (_ : Unit) : List EOp := [⟨6, (some 13), (some (10, true)), (.q (.bin .leq (.t 11) (.t 12))), []⟩, ⟨7, (some 14), none, (.q (.pick (.t 10) (.t 13) (.k (.bool false)))), []⟩, ⟨8, (some 6), none, (.q (.mov (.t 14))), []⟩]
@[simp] def l_within_3 (_ : Unit) : List EOp := ⟨0, (some 7), none, (.q (.mov (.t 0))), []⟩ :: ⟨1, (some 8), none, (.q (.mov (.t 1))), []⟩ :: ⟨2, (some 9), none, (.q (.bin .geq (.t 7) (.t 8))), []⟩ :: ⟨3, (some 10), none, (.q (.mov (.t 9))), []⟩ :: ⟨4, (some 11), (some (10, true)), (.q (.mov (.t 0))), []⟩ :: ⟨5, (some 12), (some (10, true)), (.q (.mov (.t 2))), []⟩ :: hid l_within_4
@[simp] def b_within_5 (_ : Unit) : EB := reg0 (hid l_within_3) 9
@[simp] def b_within_6 (_ : Unit) : EB := .seq (hid b_within_5) .ret
@[simp] def b_within_7 (_ : Unit) : EB := .seq (hid b_within_2) (hid b_within_6)
def c_within : EB × List QOp × Nat := ((hid b_within_7), [(.mov (.t 6))], 15)
theorem k_within : cfun Tryz.prog 67 = some c_within := by kernel_rfl

@[simp] def l_RpayMay_1 (_ : Unit) : List EOp := [⟨0, (some 1), none, (.q (.box 30 (.t 0))), []⟩, ⟨1, (some 2), none, (.q (.mov (.k (.bool false)))), []⟩]
@[simp] def b_RpayMay_2 (_ : Unit) : EB := reg0 (hid l_RpayMay_1) 2
@[simp] def l_RpayMay_7 (_ : Unit) : List EOp := [⟨24, (some 2), none, (.q (.mov (.t 26))), []⟩]
@[simp] def l_RpayMay_6 (_ : Unit) : List EOp := ⟨18, (some 21), none, (.q (.mov (.t 20))), []⟩ :: ⟨19, (some 22), (some (21, true)), (.q (.fad 4 (.t 1))), []⟩ :: ⟨20, (some 23), (some (21, true)), (.q (.lda 32 (.t 22))), []⟩ :: ⟨21, (some 24), (some (21, true)), (.q (.build zU8 [])), []⟩ :: ⟨22, (some 25), (some (21, true)), (.q (.eqa true 32 .u8 (.t 23) (.t 24))), []⟩ :: ⟨23, (some 26), none, (.q (.pick (.t 21) (.t 25) (.k (.bool false)))), []⟩ :: hid l_RpayMay_7
@[simp] def l_RpayMay_5 (_ : Unit) : List EOp := ⟨12, (some 15), none, (.q (.pick (.t 11) (.t 14) (.k (.bool false)))), []⟩ :: ⟨13, (some 16), none, (.q (.mov (.t 15))), []⟩ :: ⟨14, (some 17), (some (16, true)), (.q (.fad 3 (.t 1))), []⟩ :: ⟨15, (some 18), (some (16, true)), (.q (.ldc (.t 17))), []⟩ :: ⟨16, (some 19), (some (16, true)), (.call 67 [(.t 18), (.k (.int .i64 0)), (.k (.int .i64 1099511627776))]), []⟩ :: ⟨17, (some 20), none, (.q (.pick (.t 16) (.t 19) (.k (.bool false)))), []⟩ :: hid l_RpayMay_6
@[simp] def l_RpayMay_4 (_ : Unit) : List EOp := ⟨6, (some 9), (some (6, true)), (.call 67 [(.t 8), (.k (.int .i64 0)), (.k (.int .i64 1))]), []⟩ :: ⟨7, (some 10), none, (.q (.pick (.t 6) (.t 9) (.k (.bool false)))), []⟩ :: ⟨8, (some 11), none, (.q (.mov (.t 10))), []⟩ :: ⟨9, (some 12), (some (11, true)), (.q (.fad 2 (.t 1))), []⟩ :: ⟨10, (some 13), (some (11, true)), (.q (.ldc (.t 12))), []⟩ :: ⟨11, (some 14), (some (11, true)), (.call 67 [(.t 13), (.k (.int .i64 10)), (.k (.int .i64 1125899906842624))]), []⟩ :: hid l_RpayMay_5
@[simp] def l_RpayMay_3 (_ : Unit) : List EOp := ⟨0, (some 3), none, (.q (.fad 0 (.t 1))), []⟩ :: ⟨1, (some 4), none, (.q (.ldc (.t 3))), []⟩ :: ⟨2, (some 5), none, (.call 67 [(.t 4), (.k (.int .i64 0)), (.k (.int .i64 4294967296))]), []⟩ :: ⟨3, (some 6), none, (.q (.mov (.t 5))), []⟩ :: ⟨4, (some 7), (some (6, true)), (.q (.fad 1 (.t 1))), []⟩ :: ⟨5, (some 8), (some (6, true)), (.q (.ldc (.t 7))), []⟩ :: hid l_RpayMay_4
@[simp] def b_RpayMay_8 (_ : Unit) : EB := reg0 (hid l_RpayMay_3) 25
@[simp] def b_RpayMay_9 (_ : Unit) : EB := .seq (hid b_RpayMay_8) .ret
@[simp] def b_RpayMay_10 (_ : Unit) : EB := .seq (hid b_RpayMay_2) (hid b_RpayMay_9)
def c_RpayMay : EB × List QOp × Nat := ((hid b_RpayMay_10), [(.mov (.t 2))], 27)
theorem k_RpayMay : cfun Tryz.prog 68 = some c_RpayMay := by kernel_rfl

@[simp] def l_RholdMay_1 (_ : Unit) : List EOp := [⟨0, (some 1), none, (.q (.box 75 (.t 0))), []⟩, ⟨1, (some 2), none, (.q (.mov (.k (.bool false)))), []⟩]
@[simp] def b_RholdMay_2 (_ : Unit) : EB := reg0 (hid l_RholdMay_1) 2
@[simp] def l_RholdMay_3 (_ : Unit) : List EOp := [⟨0, (some 3), none, (.q (.mov (.k (.int .i64 0)))), []⟩]
@[simp] def b_RholdMay_4 (_ : Unit) : EB := reg0 (hid l_RholdMay_3) 1
@[simp] def l_RholdMay_5 (_ : Unit) : List EOp := [⟨0, (some 4), none, (.q (.mov (.t 3))), []⟩, ⟨1, (some 5), none, (.q (.fad 2 (.t 1))), []⟩, ⟨2, (some 6), none, (.q (.ldc (.t 5))), []⟩, ⟨3, (some 7), none, (.q (.len (.t 6))), []⟩, ⟨4, (some 8), none, (.q (.bin .lss (.t 4) (.t 7))), []⟩]
@[simp] def b_RholdMay_6 (_ : Unit) : EB := reg0 (hid l_RholdMay_5) 5
@[simp] def b_RholdMay_7 (_ : Unit) : EB := .cond (.t 8) .skip (.exit 0)
@[simp] def b_RholdMay_8 (_ : Unit) : EB := .seq (hid b_RholdMay_6) (hid b_RholdMay_7)
@[simp] def l_RholdMay_13 (_ : Unit) : List EOp := [⟨24, (some 35), none, (.q (.pick (.t 18) (.k (.bool true)) (.t 34))), []⟩]
@[simp] def l_RholdMay_12 (_ : Unit) : List EOp := ⟨18, (some 29), (some (21, true)), (.q (.ldc (.t 28))), []⟩ :: ⟨19, (some 30), (some (21, true)), (.q (.mov (.t 3))), []⟩ :: ⟨20, (some 31), (some (21, true)), (.q (.isl 1 (.t 29) (.t 30))), []⟩ :: ⟨21, (some 32), (some (21, true)), (.q (.ldc (.t 31))), []⟩ :: ⟨22, (some 33), (some (21, true)), (.q (.bin .geq (.t 27) (.t 32))), []⟩ :: ⟨23, (some 34), (some (18, false)), (.q (.pick (.t 21) (.t 33) (.k (.bool false)))), []⟩ :: hid l_RholdMay_13
@[simp] def l_RholdMay_11 (_ : Unit) : List EOp := ⟨12, (some 23), (some (21, true)), (.q (.ldc (.t 22))), []⟩ :: ⟨13, (some 24), (some (21, true)), (.q (.mov (.t 3))), []⟩ :: ⟨14, (some 25), (some (21, true)), (.q (.bin .sub (.t 24) (.k (.int .i64 1)))), []⟩ :: ⟨15, (some 26), (some (21, true)), (.q (.isl 1 (.t 23) (.t 25))), []⟩ :: ⟨16, (some 27), (some (21, true)), (.q (.ldc (.t 26))), []⟩ :: ⟨17, (some 28), (some (21, true)), (.q (.fad 2 (.t 1))), []⟩ :: hid l_RholdMay_12
@[simp] def l_RholdMay_10 (_ : Unit) : List EOp := ⟨6, (some 17), none, (.q (.un .not (.t 16))), []⟩ :: ⟨7, (some 18), none, (.q (.mov (.t 17))), []⟩ :: ⟨8, (some 19), (some (18, false)), (.q (.mov (.t 3))), []⟩ :: ⟨9, (some 20), (some (18, false)), (.q (.bin .gtr (.t 19) (.k (.int .i64 0)))), []⟩ :: ⟨10, (some 21), (some (18, false)), (.q (.mov (.t 20))), []⟩ :: ⟨11, (some 22), (some (21, true)), (.q (.fad 2 (.t 1))), []⟩ :: hid l_RholdMay_11
@[simp] def l_RholdMay_9 (_ : Unit) : List EOp := ⟨0, (some 11), none, (.q (.fad 2 (.t 1))), []⟩ :: ⟨1, (some 12), none, (.q (.ldc (.t 11))), []⟩ :: ⟨2, (some 13), none, (.q (.mov (.t 3))), []⟩ :: ⟨3, (some 14), none, (.q (.isl 1 (.t 12) (.t 13))), []⟩ :: ⟨4, (some 15), none, (.q (.ldc (.t 14))), []⟩ :: ⟨5, (some 16), none, (.call 67 [(.t 15), (.k (.int .i64 0)), (.k (.int .i64 15))]), []⟩ :: hid l_RholdMay_10
@[simp] def b_RholdMay_14 (_ : Unit) : EB := reg0 (hid l_RholdMay_9) 25
@[simp] def l_RholdMay_15 (_ : Unit) : List EOp := [⟨0, (some 2), none, (.q (.mov (.k (.bool false)))), []⟩]
@[simp] def b_RholdMay_16 (_ : Unit) : EB := reg0 (hid l_RholdMay_15) 1
@[simp] def b_RholdMay_17 (_ : Unit) : EB := .seq (hid b_RholdMay_16) .ret
@[simp] def b_RholdMay_18 (_ : Unit) : EB := .cond (.t 35) (hid b_RholdMay_17) .skip
@[simp] def b_RholdMay_19 (_ : Unit) : EB := .seq (hid b_RholdMay_14) (hid b_RholdMay_18)
@[simp] def b_RholdMay_20 (_ : Unit) : EB := .block 1 (hid b_RholdMay_19)
@[simp] def l_RholdMay_21 (_ : Unit) : List EOp := [⟨0, (some 9), none, (.q (.mov (.t 3))), []⟩, ⟨1, (some 10), none, (.q (.bin .add (.t 9) (.k (.int .i64 1)))), []⟩, ⟨2, (some 3), none, (.q (.mov (.t 10))), []⟩]
@[simp] def b_RholdMay_22 (_ : Unit) : EB := reg0 (hid l_RholdMay_21) 3
@[simp] def b_RholdMay_23 (_ : Unit) : EB := .seq (hid b_RholdMay_20) (hid b_RholdMay_22)
@[simp] def b_RholdMay_24 (_ : Unit) : EB := .seq (hid b_RholdMay_8) (hid b_RholdMay_23)
@[simp] def b_RholdMay_25 (_ : Unit) : EB := .loop (hid b_RholdMay_24)
@[simp] def b_RholdMay_26 (_ : Unit) : EB := .block 0 (hid b_RholdMay_25)
@[simp] def b_RholdMay_27 (_ : Unit) : EB := .seq (hid b_RholdMay_4) (hid b_RholdMay_26)
@[simp] def l_RholdMay_30 (_ : Unit) : List EOp := [⟨12, (some 48), (some (44, true)), (.q (.bin .gtr (.t 47) (.k (.int .i64 0)))), []⟩, ⟨13, (some 49), none, (.q (.pick (.t 44) (.t 48) (.k (.bool false)))), []⟩, ⟨14, (some 2), none, (.q (.mov (.t 49))), []⟩]
@[simp] def l_RholdMay_29 (_ : Unit) : List EOp := ⟨6, (some 42), (some (39, true)), (.call 67 [(.t 41), (.k (.int .i64 10)), (.k (.int .i64 1125899906842624))]), []⟩ :: ⟨7, (some 43), none, (.q (.pick (.t 39) (.t 42) (.k (.bool false)))), []⟩ :: ⟨8, (some 44), none, (.q (.mov (.t 43))), []⟩ :: ⟨9, (some 45), (some (44, true)), (.q (.fad 2 (.t 1))), []⟩ :: ⟨10, (some 46), (some (44, true)), (.q (.ldc (.t 45))), []⟩ :: ⟨11, (some 47), (some (44, true)), (.q (.len (.t 46))), []⟩ :: hid l_RholdMay_30
@[simp] def l_RholdMay_28 (_ : Unit) : List EOp := ⟨0, (some 36), none, (.q (.fad 0 (.t 1))), []⟩ :: ⟨1, (some 37), none, (.q (.ldc (.t 36))), []⟩ :: ⟨2, (some 38), none, (.call 67 [(.t 37), (.k (.int .i64 0)), (.k (.int .i64 4294967296))]), []⟩ :: ⟨3, (some 39), none, (.q (.mov (.t 38))), []⟩ :: ⟨4, (some 40), (some (39, true)), (.q (.fad 1 (.t 1))), []⟩ :: ⟨5, (some 41), (some (39, true)), (.q (.ldc (.t 40))), []⟩ :: hid l_RholdMay_29
@[simp] def b_RholdMay_31 (_ : Unit) : EB := reg0 (hid l_RholdMay_28) 15
@[simp] def b_RholdMay_32 (_ : Unit) : EB := .seq (hid b_RholdMay_31) .ret
@[simp] def b_RholdMay_33 (_ : Unit) : EB := .seq (hid b_RholdMay_27) (hid b_RholdMay_32)
@[simp] def b_RholdMay_34 (_ : Unit) : EB := .seq (hid b_RholdMay_2) (hid b_RholdMay_33)
def c_RholdMay : EB × List QOp × Nat := ((hid b_RholdMay_34), [(.mov (.t 2))], 50)
theorem k_RholdMay : cfun Tryz.prog 69 = some c_RholdMay := by kernel_rfl

@[simp] def l_RCheck_1 (_ : Unit) : List EOp := [⟨0, (some 1), none, (.q (.box 26 (.t 0))), []⟩, ⟨1, (some 2), none, (.q (.mov (.k (.int .i64 0)))), []⟩]
@[simp] def b_RCheck_2 (_ : Unit) : EB := reg0 (hid l_RCheck_1) 2
@[simp] def l_RCheck_9 (_ : Unit) : List EOp := [⟨36, (some 41), (some (35, false)), (.q (.len (.t 40))), []⟩, ⟨37, (some 42), (some (35, false)), (.q (.bin .add (.t 38) (.t 41))), []⟩, ⟨38, (some 43), (some (35, false)), (.q (.bin .gtr (.t 42) (.k (.int .i64 8)))), []⟩, ⟨39, (some 44), none, (.q (.pick (.t 35) (.k (.bool true)) (.t 43))), []⟩]
@[simp] def l_RCheck_8 (_ : Unit) : List EOp := ⟨30, (some 35), none, (.q (.mov (.t 34))), []⟩ :: ⟨31, (some 36), (some (35, false)), (.q (.fad 3 (.t 1))), []⟩ :: ⟨32, (some 37), (some (35, false)), (.q (.ldc (.t 36))), []⟩ :: ⟨33, (some 38), (some (35, false)), (.q (.len (.t 37))), []⟩ :: ⟨34, (some 39), (some (35, false)), (.q (.fad 4 (.t 1))), []⟩ :: ⟨35, (some 40), (some (35, false)), (.q (.ldc (.t 39))), []⟩ :: hid l_RCheck_9
@[simp] def l_RCheck_7 (_ : Unit) : List EOp := ⟨24, (some 29), none, (.q (.mov (.t 28))), []⟩ :: ⟨25, (some 30), (some (29, false)), (.q (.fad 4 (.t 1))), []⟩ :: ⟨26, (some 31), (some (29, false)), (.q (.ldc (.t 30))), []⟩ :: ⟨27, (some 32), (some (29, false)), (.q (.len (.t 31))), []⟩ :: ⟨28, (some 33), (some (29, false)), (.q (.bin .gtr (.t 32) (.k (.int .i64 8)))), []⟩ :: ⟨29, (some 34), none, (.q (.pick (.t 29) (.k (.bool true)) (.t 33))), []⟩ :: hid l_RCheck_8
@[simp] def l_RCheck_6 (_ : Unit) : List EOp := ⟨18, (some 23), none, (.q (.mov (.t 22))), []⟩ :: ⟨19, (some 24), (some (23, false)), (.q (.fad 3 (.t 1))), []⟩ :: ⟨20, (some 25), (some (23, false)), (.q (.ldc (.t 24))), []⟩ :: ⟨21, (some 26), (some (23, false)), (.q (.len (.t 25))), []⟩ :: ⟨22, (some 27), (some (23, false)), (.q (.bin .gtr (.t 26) (.k (.int .i64 8)))), []⟩ :: ⟨23, (some 28), none, (.q (.pick (.t 23) (.k (.bool true)) (.t 27))), []⟩ :: hid l_RCheck_7
@[simp] def l_RCheck_5 (_ : Unit) : List EOp := ⟨12, (some 17), (some (16, false)), (.q (.fad 1 (.t 1))), []⟩ :: ⟨13, (some 18), (some (16, false)), (.q (.iad 2 1 (.t 17) (.k (.int .i64 1)))), []⟩ :: ⟨14, (some 19), (some (16, false)), (.q (.ldc (.t 18))), []⟩ :: ⟨15, (some 20), (some (16, false)), (.call 67 [(.t 19), (.k (.int .i64 0)), (.k (.int .i64 1125899906842624))]), []⟩ :: ⟨16, (some 21), (some (16, false)), (.q (.un .not (.t 20))), []⟩ :: ⟨17, (some 22), none, (.q (.pick (.t 16) (.k (.bool true)) (.t 21))), []⟩ :: hid l_RCheck_6
@[simp] def l_RCheck_4 (_ : Unit) : List EOp := ⟨6, (some 11), (some (9, false)), (.q (.iad 2 1 (.t 10) (.k (.int .i64 0)))), []⟩ :: ⟨7, (some 12), (some (9, false)), (.q (.ldc (.t 11))), []⟩ :: ⟨8, (some 13), (some (9, false)), (.call 67 [(.t 12), (.k (.int .i64 0)), (.k (.int .i64 1125899906842624))]), []⟩ :: ⟨9, (some 14), (some (9, false)), (.q (.un .not (.t 13))), []⟩ :: ⟨10, (some 15), none, (.q (.pick (.t 9) (.k (.bool true)) (.t 14))), []⟩ :: ⟨11, (some 16), none, (.q (.mov (.t 15))), []⟩ :: hid l_RCheck_5
@[simp] def l_RCheck_3 (_ : Unit) : List EOp := ⟨0, (some 5), none, (.q (.fad 0 (.t 1))), []⟩ :: ⟨1, (some 6), none, (.q (.ldc (.t 5))), []⟩ :: ⟨2, (some 7), none, (.call 67 [(.t 6), (.k (.int .i64 0)), (.k (.int .i64 1099511627776))]), []⟩ :: ⟨3, (some 8), none, (.q (.un .not (.t 7))), []⟩ :: ⟨4, (some 9), none, (.q (.mov (.t 8))), []⟩ :: ⟨5, (some 10), (some (9, false)), (.q (.fad 1 (.t 1))), []⟩ :: hid l_RCheck_4
@[simp] def b_RCheck_10 (_ : Unit) : EB := reg0 (hid l_RCheck_3) 40
@[simp] def l_RCheck_11 (_ : Unit) : List EOp := [⟨0, (some 2), none, (.q (.mov (.k (.int .i64 1)))), []⟩]
@[simp] def b_RCheck_12 (_ : Unit) : EB := reg0 (hid l_RCheck_11) 1
@[simp] def b_RCheck_13 (_ : Unit) : EB := .seq (hid b_RCheck_12) .ret
@[simp] def b_RCheck_14 (_ : Unit) : EB := .cond (.t 44) (hid b_RCheck_13) .skip
@[simp] def b_RCheck_15 (_ : Unit) : EB := .seq (hid b_RCheck_10) (hid b_RCheck_14)
@[simp] def l_RCheck_16 (_ : Unit) : List EOp := [⟨0, (some 3), none, (.q (.mov (.k (.int .i64 0)))), []⟩]
@[simp] def b_RCheck_17 (_ : Unit) : EB := reg0 (hid l_RCheck_16) 1
@[simp] def l_RCheck_18 (_ : Unit) : List EOp := [⟨0, (some 45), none, (.q (.mov (.t 3))), []⟩, ⟨1, (some 46), none, (.q (.fad 3 (.t 1))), []⟩, ⟨2, (some 47), none, (.q (.ldc (.t 46))), []⟩, ⟨3, (some 48), none, (.q (.len (.t 47))), []⟩, ⟨4, (some 49), none, (.q (.bin .lss (.t 45) (.t 48))), []⟩]
@[simp] def b_RCheck_19 (_ : Unit) : EB := reg0 (hid l_RCheck_18) 5
@[simp] def b_RCheck_20 (_ : Unit) : EB := .cond (.t 49) .skip (.exit 0)
@[simp] def b_RCheck_21 (_ : Unit) : EB := .seq (hid b_RCheck_19) (hid b_RCheck_20)
@[simp] def l_RCheck_26 (_ : Unit) : List EOp := [⟨24, (some 76), (some (62, true)), (.q (.bin .leq (.t 68) (.t 75))), []⟩, ⟨25, (some 77), (some (59, false)), (.q (.pick (.t 62) (.t 76) (.k (.bool false)))), []⟩, ⟨26, (some 78), none, (.q (.pick (.t 59) (.k (.bool true)) (.t 77))), []⟩]
@[simp] def l_RCheck_25 (_ : Unit) : List EOp := ⟨18, (some 70), (some (62, true)), (.q (.ldc (.t 69))), []⟩ :: ⟨19, (some 71), (some (62, true)), (.q (.mov (.t 3))), []⟩ :: ⟨20, (some 72), (some (62, true)), (.q (.bin .sub (.t 71) (.k (.int .i64 1)))), []⟩ :: ⟨21, (some 73), (some (62, true)), (.q (.isl 36 (.t 70) (.t 72))), []⟩ :: ⟨22, (some 74), (some (62, true)), (.q (.fad 0 (.t 73))), []⟩ :: ⟨23, (some 75), (some (62, true)), (.q (.ldc (.t 74))), []⟩ :: hid l_RCheck_26
@[simp] def l_RCheck_24 (_ : Unit) : List EOp := ⟨12, (some 64), (some (62, true)), (.q (.ldc (.t 63))), []⟩ :: ⟨13, (some 65), (some (62, true)), (.q (.mov (.t 3))), []⟩ :: ⟨14, (some 66), (some (62, true)), (.q (.isl 36 (.t 64) (.t 65))), []⟩ :: ⟨15, (some 67), (some (62, true)), (.q (.fad 0 (.t 66))), []⟩ :: ⟨16, (some 68), (some (62, true)), (.q (.ldc (.t 67))), []⟩ :: ⟨17, (some 69), (some (62, true)), (.q (.fad 3 (.t 1))), []⟩ :: hid l_RCheck_25
@[simp] def l_RCheck_23 (_ : Unit) : List EOp := ⟨6, (some 58), none, (.q (.un .not (.t 57))), []⟩ :: ⟨7, (some 59), none, (.q (.mov (.t 58))), []⟩ :: ⟨8, (some 60), (some (59, false)), (.q (.mov (.t 3))), []⟩ :: ⟨9, (some 61), (some (59, false)), (.q (.bin .gtr (.t 60) (.k (.int .i64 0)))), []⟩ :: ⟨10, (some 62), (some (59, false)), (.q (.mov (.t 61))), []⟩ :: ⟨11, (some 63), (some (62, true)), (.q (.fad 3 (.t 1))), []⟩ :: hid l_RCheck_24
@[simp] def l_RCheck_22 (_ : Unit) : List EOp := ⟨0, (some 52), none, (.q (.fad 3 (.t 1))), []⟩ :: ⟨1, (some 53), none, (.q (.ldc (.t 52))), []⟩ :: ⟨2, (some 54), none, (.q (.mov (.t 3))), []⟩ :: ⟨3, (some 55), none, (.q (.isl 36 (.t 53) (.t 54))), []⟩ :: ⟨4, (some 56), none, (.q (.lda 36 (.t 55))), []⟩ :: ⟨5, (some 57), none, (.call 68 [(.t 56)]), []⟩ :: hid l_RCheck_23
@[simp] def b_RCheck_27 (_ : Unit) : EB := reg0 (hid l_RCheck_22) 27
@[simp] def l_RCheck_28 (_ : Unit) : List EOp := [⟨0, (some 2), none, (.q (.mov (.k (.int .i64 1)))), []⟩]
@[simp] def b_RCheck_29 (_ : Unit) : EB := reg0 (hid l_RCheck_28) 1
@[simp] def b_RCheck_30 (_ : Unit) : EB := .seq (hid b_RCheck_29) .ret
@[simp] def b_RCheck_31 (_ : Unit) : EB := .cond (.t 78) (hid b_RCheck_30) .skip
@[simp] def b_RCheck_32 (_ : Unit) : EB := .seq (hid b_RCheck_27) (hid b_RCheck_31)
@[simp] def b_RCheck_33 (_ : Unit) : EB := .block 1 (hid b_RCheck_32)
@[simp] def l_RCheck_34 (_ : Unit) : List EOp := [⟨0, (some 50), none, (.q (.mov (.t 3))), []⟩, ⟨1, (some 51), none, (.q (.bin .add (.t 50) (.k (.int .i64 1)))), []⟩, ⟨2, (some 3), none, (.q (.mov (.t 51))), []⟩]
@[simp] def b_RCheck_35 (_ : Unit) : EB := reg0 (hid l_RCheck_34) 3
@[simp] def b_RCheck_36 (_ : Unit) : EB := .seq (hid b_RCheck_33) (hid b_RCheck_35)
@[simp] def b_RCheck_37 (_ : Unit) : EB := .seq (hid b_RCheck_21) (hid b_RCheck_36)
@[simp] def b_RCheck_38 (_ : Unit) : EB := .loop (hid b_RCheck_37)
@[simp] def b_RCheck_39 (_ : Unit) : EB := .block 0 (hid b_RCheck_38)
@[simp] def b_RCheck_40 (_ : Unit) : EB := .seq (hid b_RCheck_17) (hid b_RCheck_39)
@[simp] def l_RCheck_41 (_ : Unit) : List EOp := [⟨0, (some 4), none, (.q (.mov (.k (.int .i64 0)))), []⟩]
@[simp] def b_RCheck_42 (_ : Unit) : EB := reg0 (hid l_RCheck_41) 1
@[simp] def l_RCheck_43 (_ : Unit) : List EOp := [⟨0, (some 79), none, (.q (.mov (.t 4))), []⟩, ⟨1, (some 80), none, (.q (.fad 4 (.t 1))), []⟩, ⟨2, (some 81), none, (.q (.ldc (.t 80))), []⟩, ⟨3, (some 82), none, (.q (.len (.t 81))), []⟩, ⟨4, (some 83), none, (.q (.bin .lss (.t 79) (.t 82))), []⟩]
@[simp] def b_RCheck_44 (_ : Unit) : EB := reg0 (hid l_RCheck_43) 5
@[simp] def b_RCheck_45 (_ : Unit) : EB := .cond (.t 83) .skip (.exit 2)
@[simp] def b_RCheck_46 (_ : Unit) : EB := .seq (hid b_RCheck_44) (hid b_RCheck_45)
@[simp] def l_RCheck_51 (_ : Unit) : List EOp := [⟨24, (some 110), (some (96, true)), (.q (.bin .leq (.t 102) (.t 109))), []⟩, ⟨25, (some 111), (some (93, false)), (.q (.pick (.t 96) (.t 110) (.k (.bool false)))), []⟩, ⟨26, (some 112), none, (.q (.pick (.t 93) (.k (.bool true)) (.t 111))), []⟩]
@[simp] def l_RCheck_50 (_ : Unit) : List EOp := ⟨18, (some 104), (some (96, true)), (.q (.ldc (.t 103))), []⟩ :: ⟨19, (some 105), (some (96, true)), (.q (.mov (.t 4))), []⟩ :: ⟨20, (some 106), (some (96, true)), (.q (.bin .sub (.t 105) (.k (.int .i64 1)))), []⟩ :: ⟨21, (some 107), (some (96, true)), (.q (.isl 3 (.t 104) (.t 106))), []⟩ :: ⟨22, (some 108), (some (96, true)), (.q (.fad 0 (.t 107))), []⟩ :: ⟨23, (some 109), (some (96, true)), (.q (.ldc (.t 108))), []⟩ :: hid l_RCheck_51
@[simp] def l_RCheck_49 (_ : Unit) : List EOp := ⟨12, (some 98), (some (96, true)), (.q (.ldc (.t 97))), []⟩ :: ⟨13, (some 99), (some (96, true)), (.q (.mov (.t 4))), []⟩ :: ⟨14, (some 100), (some (96, true)), (.q (.isl 3 (.t 98) (.t 99))), []⟩ :: ⟨15, (some 101), (some (96, true)), (.q (.fad 0 (.t 100))), []⟩ :: ⟨16, (some 102), (some (96, true)), (.q (.ldc (.t 101))), []⟩ :: ⟨17, (some 103), (some (96, true)), (.q (.fad 4 (.t 1))), []⟩ :: hid l_RCheck_50
@[simp] def l_RCheck_48 (_ : Unit) : List EOp := ⟨6, (some 92), none, (.q (.un .not (.t 91))), []⟩ :: ⟨7, (some 93), none, (.q (.mov (.t 92))), []⟩ :: ⟨8, (some 94), (some (93, false)), (.q (.mov (.t 4))), []⟩ :: ⟨9, (some 95), (some (93, false)), (.q (.bin .gtr (.t 94) (.k (.int .i64 0)))), []⟩ :: ⟨10, (some 96), (some (93, false)), (.q (.mov (.t 95))), []⟩ :: ⟨11, (some 97), (some (96, true)), (.q (.fad 4 (.t 1))), []⟩ :: hid l_RCheck_49
@[simp] def l_RCheck_47 (_ : Unit) : List EOp := ⟨0, (some 86), none, (.q (.fad 4 (.t 1))), []⟩ :: ⟨1, (some 87), none, (.q (.ldc (.t 86))), []⟩ :: ⟨2, (some 88), none, (.q (.mov (.t 4))), []⟩ :: ⟨3, (some 89), none, (.q (.isl 3 (.t 87) (.t 88))), []⟩ :: ⟨4, (some 90), none, (.q (.lda 3 (.t 89))), []⟩ :: ⟨5, (some 91), none, (.call 69 [(.t 90)]), []⟩ :: hid l_RCheck_48
@[simp] def b_RCheck_52 (_ : Unit) : EB := reg0 (hid l_RCheck_47) 27
@[simp] def l_RCheck_53 (_ : Unit) : List EOp := [⟨0, (some 2), none, (.q (.mov (.k (.int .i64 1)))), []⟩]
@[simp] def b_RCheck_54 (_ : Unit) : EB := reg0 (hid l_RCheck_53) 1
@[simp] def b_RCheck_55 (_ : Unit) : EB := .seq (hid b_RCheck_54) .ret
@[simp] def b_RCheck_56 (_ : Unit) : EB := .cond (.t 112) (hid b_RCheck_55) .skip
@[simp] def b_RCheck_57 (_ : Unit) : EB := .seq (hid b_RCheck_52) (hid b_RCheck_56)
@[simp] def b_RCheck_58 (_ : Unit) : EB := .block 3 (hid b_RCheck_57)
@[simp] def l_RCheck_59 (_ : Unit) : List EOp := [⟨0, (some 84), none, (.q (.mov (.t 4))), []⟩, ⟨1, (some 85), none, (.q (.bin .add (.t 84) (.k (.int .i64 1)))), []⟩, ⟨2, (some 4), none, (.q (.mov (.t 85))), []⟩]
@[simp] def b_RCheck_60 (_ : Unit) : EB := reg0 (hid l_RCheck_59) 3
@[simp] def b_RCheck_61 (_ : Unit) : EB := .seq (hid b_RCheck_58) (hid b_RCheck_60)
@[simp] def b_RCheck_62 (_ : Unit) : EB := .seq (hid b_RCheck_46) (hid b_RCheck_61)
@[simp] def b_RCheck_63 (_ : Unit) : EB := .loop (hid b_RCheck_62)
@[simp] def b_RCheck_64 (_ : Unit) : EB := .block 2 (hid b_RCheck_63)
@[simp] def b_RCheck_65 (_ : Unit) : EB := .seq (hid b_RCheck_42) (hid b_RCheck_64)
@[simp] def l_RCheck_66 (_ : Unit) : List EOp := [⟨0, (some 113), none, (.q (.lda 5 (.t 1))), []⟩, ⟨1, (some 114), none, (.call 70 [(.t 113)]), []⟩, ⟨2, (some 115), none, (.q (.bin .gtr (.t 114) (.k (.int .i64 1125899906842624)))), []⟩]
@[simp] def b_RCheck_67 (_ : Unit) : EB := reg0 (hid l_RCheck_66) 3
@[simp] def l_RCheck_68 (_ : Unit) : List EOp := [⟨0, (some 2), none, (.q (.mov (.k (.int .i64 1)))), []⟩]
@[simp] def b_RCheck_69 (_ : Unit) : EB := reg0 (hid l_RCheck_68) 1
@[simp] def b_RCheck_70 (_ : Unit) : EB := .seq (hid b_RCheck_69) .ret
@[simp] def b_RCheck_71 (_ : Unit) : EB := .cond (.t 115) (hid b_RCheck_70) .skip
@[simp] def b_RCheck_72 (_ : Unit) : EB := .seq (hid b_RCheck_67) (hid b_RCheck_71)
@[simp] def l_RCheck_73 (_ : Unit) : List EOp := [⟨0, (some 2), none, (.q (.mov (.k (.int .i64 0)))), []⟩]
@[simp] def b_RCheck_74 (_ : Unit) : EB := reg0 (hid l_RCheck_73) 1
@[simp] def b_RCheck_75 (_ : Unit) : EB := .seq (hid b_RCheck_74) .ret
@[simp] def b_RCheck_76 (_ : Unit) : EB := .seq (hid b_RCheck_72) (hid b_RCheck_75)
@[simp] def b_RCheck_77 (_ : Unit) : EB := .seq (hid b_RCheck_65) (hid b_RCheck_76)
@[simp] def b_RCheck_78 (_ : Unit) : EB := .seq (hid b_RCheck_40) (hid b_RCheck_77)
@[simp] def b_RCheck_79 (_ : Unit) : EB := .seq (hid b_RCheck_15) (hid b_RCheck_78)
@[simp] def b_RCheck_80 (_ : Unit) : EB := .seq (hid b_RCheck_2) (hid b_RCheck_79)
def c_RCheck : EB × List QOp × Nat := ((hid b_RCheck_80), [(.mov (.t 2))], 116)
theorem k_RCheck : cfun Tryz.prog 29 = some c_RCheck := by kernel_rfl

@[simp] def l_Rsum_1 (_ : Unit) : List EOp := [⟨0, (some 1), none, (.q (.box 26 (.t 0))), []⟩, ⟨1, (some 2), none, (.q (.mov (.k (.int .i64 0)))), []⟩]
@[simp] def b_Rsum_2 (_ : Unit) : EB := reg0 (hid l_Rsum_1) 2
@[simp] def l_Rsum_4 (_ : Unit) : List EOp := [⟨6, (some 12), none, (.q (.bin .add (.t 8) (.t 11))), []⟩, ⟨7, (some 3), none, (.q (.mov (.t 12))), []⟩]
@[simp] def l_Rsum_3 (_ : Unit) : List EOp := ⟨0, (some 6), none, (.q (.fad 1 (.t 1))), []⟩ :: ⟨1, (some 7), none, (.q (.iad 2 1 (.t 6) (.k (.int .i64 0)))), []⟩ :: ⟨2, (some 8), none, (.q (.ldc (.t 7))), []⟩ :: ⟨3, (some 9), none, (.q (.fad 1 (.t 1))), []⟩ :: ⟨4, (some 10), none, (.q (.iad 2 1 (.t 9) (.k (.int .i64 1)))), []⟩ :: ⟨5, (some 11), none, (.q (.ldc (.t 10))), []⟩ :: hid l_Rsum_4
@[simp] def b_Rsum_5 (_ : Unit) : EB := reg0 (hid l_Rsum_3) 8
@[simp] def l_Rsum_6 (_ : Unit) : List EOp := [⟨0, (some 4), none, (.q (.mov (.k (.int .i64 0)))), []⟩]
@[simp] def b_Rsum_7 (_ : Unit) : EB := reg0 (hid l_Rsum_6) 1
@[simp] def l_Rsum_8 (_ : Unit) : List EOp := [⟨0, (some 13), none, (.q (.mov (.t 4))), []⟩, ⟨1, (some 14), none, (.q (.fad 3 (.t 1))), []⟩, ⟨2, (some 15), none, (.q (.ldc (.t 14))), []⟩, ⟨3, (some 16), none, (.q (.len (.t 15))), []⟩, ⟨4, (some 17), none, (.q (.bin .lss (.t 13) (.t 16))), []⟩]
@[simp] def b_Rsum_9 (_ : Unit) : EB := reg0 (hid l_Rsum_8) 5
@[simp] def b_Rsum_10 (_ : Unit) : EB := .cond (.t 17) .skip (.exit 0)
@[simp] def b_Rsum_11 (_ : Unit) : EB := .seq (hid b_Rsum_9) (hid b_Rsum_10)
@[simp] def l_Rsum_13 (_ : Unit) : List EOp := [⟨6, (some 26), none, (.q (.ldc (.t 25))), []⟩, ⟨7, (some 27), none, (.q (.bin .add (.t 20) (.t 26))), []⟩, ⟨8, (some 3), none, (.q (.mov (.t 27))), []⟩]
@[simp] def l_Rsum_12 (_ : Unit) : List EOp := ⟨0, (some 20), none, (.q (.mov (.t 3))), []⟩ :: ⟨1, (some 21), none, (.q (.fad 3 (.t 1))), []⟩ :: ⟨2, (some 22), none, (.q (.ldc (.t 21))), []⟩ :: ⟨3, (some 23), none, (.q (.mov (.t 4))), []⟩ :: ⟨4, (some 24), none, (.q (.isl 36 (.t 22) (.t 23))), []⟩ :: ⟨5, (some 25), none, (.q (.fad 2 (.t 24))), []⟩ :: hid l_Rsum_13
@[simp] def b_Rsum_14 (_ : Unit) : EB := reg0 (hid l_Rsum_12) 9
@[simp] def b_Rsum_15 (_ : Unit) : EB := .block 1 (hid b_Rsum_14)
@[simp] def l_Rsum_16 (_ : Unit) : List EOp := [⟨0, (some 18), none, (.q (.mov (.t 4))), []⟩, ⟨1, (some 19), none, (.q (.bin .add (.t 18) (.k (.int .i64 1)))), []⟩, ⟨2, (some 4), none, (.q (.mov (.t 19))), []⟩]
@[simp] def b_Rsum_17 (_ : Unit) : EB := reg0 (hid l_Rsum_16) 3
@[simp] def b_Rsum_18 (_ : Unit) : EB := .seq (hid b_Rsum_15) (hid b_Rsum_17)
@[simp] def b_Rsum_19 (_ : Unit) : EB := .seq (hid b_Rsum_11) (hid b_Rsum_18)
@[simp] def b_Rsum_20 (_ : Unit) : EB := .loop (hid b_Rsum_19)
@[simp] def b_Rsum_21 (_ : Unit) : EB := .block 0 (hid b_Rsum_20)
@[simp] def b_Rsum_22 (_ : Unit) : EB := .seq (hid b_Rsum_7) (hid b_Rsum_21)
@[simp] def l_Rsum_23 (_ : Unit) : List EOp := [⟨0, (some 5), none, (.q (.mov (.k (.int .i64 0)))), []⟩]
@[simp] def b_Rsum_24 (_ : Unit) : EB := reg0 (hid l_Rsum_23) 1
@[simp] def l_Rsum_25 (_ : Unit) : List EOp := [⟨0, (some 28), none, (.q (.mov (.t 5))), []⟩, ⟨1, (some 29), none, (.q (.fad 4 (.t 1))), []⟩, ⟨2, (some 30), none, (.q (.ldc (.t 29))), []⟩, ⟨3, (some 31), none, (.q (.len (.t 30))), []⟩, ⟨4, (some 32), none, (.q (.bin .lss (.t 28) (.t 31))), []⟩]
@[simp] def b_Rsum_26 (_ : Unit) : EB := reg0 (hid l_Rsum_25) 5
@[simp] def b_Rsum_27 (_ : Unit) : EB := .cond (.t 32) .skip (.exit 2)
@[simp] def b_Rsum_28 (_ : Unit) : EB := .seq (hid b_Rsum_26) (hid b_Rsum_27)
@[simp] def l_Rsum_30 (_ : Unit) : List EOp := [⟨6, (some 41), none, (.q (.ldc (.t 40))), []⟩, ⟨7, (some 42), none, (.q (.bin .add (.t 35) (.t 41))), []⟩, ⟨8, (some 3), none, (.q (.mov (.t 42))), []⟩]
@[simp] def l_Rsum_29 (_ : Unit) : List EOp := ⟨0, (some 35), none, (.q (.mov (.t 3))), []⟩ :: ⟨1, (some 36), none, (.q (.fad 4 (.t 1))), []⟩ :: ⟨2, (some 37), none, (.q (.ldc (.t 36))), []⟩ :: ⟨3, (some 38), none, (.q (.mov (.t 5))), []⟩ :: ⟨4, (some 39), none, (.q (.isl 3 (.t 37) (.t 38))), []⟩ :: ⟨5, (some 40), none, (.q (.fad 1 (.t 39))), []⟩ :: hid l_Rsum_30
@[simp] def b_Rsum_31 (_ : Unit) : EB := reg0 (hid l_Rsum_29) 9
@[simp] def b_Rsum_32 (_ : Unit) : EB := .block 3 (hid b_Rsum_31)
@[simp] def l_Rsum_33 (_ : Unit) : List EOp := [⟨0, (some 33), none, (.q (.mov (.t 5))), []⟩, ⟨1, (some 34), none, (.q (.bin .add (.t 33) (.k (.int .i64 1)))), []⟩, ⟨2, (some 5), none, (.q (.mov (.t 34))), []⟩]
@[simp] def b_Rsum_34 (_ : Unit) : EB := reg0 (hid l_Rsum_33) 3
@[simp] def b_Rsum_35 (_ : Unit) : EB := .seq (hid b_Rsum_32) (hid b_Rsum_34)
@[simp] def b_Rsum_36 (_ : Unit) : EB := .seq (hid b_Rsum_28) (hid b_Rsum_35)
@[simp] def b_Rsum_37 (_ : Unit) : EB := .loop (hid b_Rsum_36)
@[simp] def b_Rsum_38 (_ : Unit) : EB := .block 2 (hid b_Rsum_37)
@[simp] def b_Rsum_39 (_ : Unit) : EB := .seq (hid b_Rsum_24) (hid b_Rsum_38)
@[simp] def l_Rsum_40 (_ : Unit) : List EOp := [⟨0, (some 43), none, (.q (.mov (.t 3))), []⟩, ⟨1, (some 2), none, (.q (.mov (.t 43))), []⟩]
@[simp] def b_Rsum_41 (_ : Unit) : EB := reg0 (hid l_Rsum_40) 2
@[simp] def b_Rsum_42 (_ : Unit) : EB := .seq (hid b_Rsum_41) .ret
@[simp] def b_Rsum_43 (_ : Unit) : EB := .seq (hid b_Rsum_39) (hid b_Rsum_42)
@[simp] def b_Rsum_44 (_ : Unit) : EB := .seq (hid b_Rsum_22) (hid b_Rsum_43)
@[simp] def b_Rsum_45 (_ : Unit) : EB := .seq (hid b_Rsum_5) (hid b_Rsum_44)
@[simp] def b_Rsum_46 (_ : Unit) : EB := .seq (hid b_Rsum_2) (hid b_Rsum_45)
def c_Rsum : EB × List QOp × Nat := ((hid b_Rsum_46), [(.mov (.t 2))], 44)
theorem k_Rsum : cfun Tryz.prog 70 = some c_Rsum := by kernel_rfl

@[simp] def l_Rright_1 (_ : Unit) : List EOp := [⟨0, (some 1), none, (.q (.box 26 (.t 0))), []⟩, ⟨1, (some 2), none, (.q (.mov (.k (.bool false)))), []⟩]
@[simp] def b_Rright_2 (_ : Unit) : EB := reg0 (hid l_Rright_1) 2
@[simp] def l_Rright_4 (_ : Unit) : List EOp := [⟨6, (some 9), (some (6, true)), (.q (.bin .lss (.t 8) (.k (.int .i64 1099511627776)))), []⟩, ⟨7, (some 10), none, (.q (.pick (.t 6) (.t 9) (.k (.bool false)))), []⟩, ⟨8, (some 2), none, (.q (.mov (.t 10))), []⟩]
@[simp] def l_Rright_3 (_ : Unit) : List EOp := ⟨0, (some 3), none, (.q (.lda 5 (.t 1))), []⟩ :: ⟨1, (some 4), none, (.call 29 [(.t 3)]), []⟩ :: ⟨2, (some 5), none, (.q (.bin .eql (.t 4) (.k (.int .i64 0)))), []⟩ :: ⟨3, (some 6), none, (.q (.mov (.t 5))), []⟩ :: ⟨4, (some 7), (some (6, true)), (.q (.fad 0 (.t 1))), []⟩ :: ⟨5, (some 8), (some (6, true)), (.q (.ldc (.t 7))), []⟩ :: hid l_Rright_4
@[simp] def b_Rright_5 (_ : Unit) : EB := reg0 (hid l_Rright_3) 9
@[simp] def b_Rright_6 (_ : Unit) : EB := .seq (hid b_Rright_5) .ret
@[simp] def b_Rright_7 (_ : Unit) : EB := .seq (hid b_Rright_2) (hid b_Rright_6)
def c_Rright : EB × List QOp × Nat := ((hid b_Rright_7), [(.mov (.t 2))], 11)
theorem k_Rright : cfun Tryz.prog 71 = some c_Rright := by kernel_rfl

@[simp] def l_Rwith_1 (_ : Unit) : List EOp := [⟨0, (some 5), none, (.q (.box 26 (.t 0))), []⟩, ⟨1, (some 10), none, (.q (.alloc 26 [(.int .i64 0), (.int .i64 0), (.int .i64 0), (.slice none 0 0), (.slice none 0 0)])), []⟩]
@[simp] def b_Rwith_2 (_ : Unit) : EB := reg0 (hid l_Rwith_1) 2
@[simp] def l_Rwith_5 (_ : Unit) : List EOp := [⟨12, (some 23), none, (.q (.bin .add (.t 21) (.t 22))), []⟩, ⟨13, (some 24), none, (.q (.build [(.int .i64 0), (.int .i64 0)] [(0, 1, (.t 18)), (1, 1, (.t 23))])), []⟩, ⟨14, (some 25), none, (.q (.mov (.t 3))), []⟩, ⟨15, (some 26), none, (.q (.mov (.t 4))), []⟩, ⟨16, (some 27), none, (.q (.build [(.int .i64 0), (.int .i64 0), (.int .i64 0), (.slice none 0 0), (.slice none 0 0)] [(0, 1, (.t 13)), (1, 2, (.t 24)), (3, 1, (.t 25)), (4, 1, (.t 26))])), []⟩, ⟨17, none, none, (.fz (.sto 5 (.t 10) (.t 27))), []⟩]
@[simp] def l_Rwith_4 (_ : Unit) : List EOp := ⟨6, (some 17), none, (.q (.mov (.t 1))), []⟩ :: ⟨7, (some 18), none, (.q (.bin .add (.t 16) (.t 17))), []⟩ :: ⟨8, (some 19), none, (.q (.fad 1 (.t 5))), []⟩ :: ⟨9, (some 20), none, (.q (.iad 2 1 (.t 19) (.k (.int .i64 1)))), []⟩ :: ⟨10, (some 21), none, (.q (.ldc (.t 20))), []⟩ :: ⟨11, (some 22), none, (.q (.mov (.t 2))), []⟩ :: hid l_Rwith_5
@[simp] def l_Rwith_3 (_ : Unit) : List EOp := ⟨0, (some 11), none, (.q (.fad 0 (.t 5))), []⟩ :: ⟨1, (some 12), none, (.q (.ldc (.t 11))), []⟩ :: ⟨2, (some 13), none, (.q (.bin .add (.t 12) (.k (.int .i64 1)))), []⟩ :: ⟨3, (some 14), none, (.q (.fad 1 (.t 5))), []⟩ :: ⟨4, (some 15), none, (.q (.iad 2 1 (.t 14) (.k (.int .i64 0)))), []⟩ :: ⟨5, (some 16), none, (.q (.ldc (.t 15))), []⟩ :: hid l_Rwith_4
@[simp] def b_Rwith_6 (_ : Unit) : EB := reg0 (hid l_Rwith_3) 18
@[simp] def b_Rwith_7 (_ : Unit) : EB := .seq (hid b_Rwith_6) .ret
@[simp] def b_Rwith_8 (_ : Unit) : EB := .seq (hid b_Rwith_2) (hid b_Rwith_7)
def c_Rwith : EB × List QOp × Nat := ((hid b_Rwith_8), [(.lda 5 (.t 10))], 28)
theorem k_Rwith : cfun Tryz.prog 72 = some c_Rwith := by kernel_rfl

@[simp] def l_Rto_1 (_ : Unit) : List EOp := [⟨0, (some 4), none, (.q (.mov (.k (.int .i64 0)))), []⟩, ⟨1, (some 5), none, (.q (.mov (.k (.int .i64 0)))), []⟩]
@[simp] def b_Rto_2 (_ : Unit) : EB := reg0 (hid l_Rto_1) 2
@[simp] def l_Rto_3 (_ : Unit) : List EOp := [⟨0, (some 6), none, (.q (.mov (.t 0))), []⟩, ⟨1, (some 7), none, (.q (.bin .eql (.t 6) (.k (.int .i64 0)))), []⟩]
@[simp] def b_Rto_4 (_ : Unit) : EB := reg0 (hid l_Rto_3) 2
@[simp] def l_Rto_5 (_ : Unit) : List EOp := [⟨0, (some 8), none, (.q (.mov (.t 1))), []⟩, ⟨1, (some 4), none, (.q (.mov (.t 8))), []⟩, ⟨2, (some 5), none, (.q (.mov (.k (.int .i64 0)))), []⟩]
@[simp] def b_Rto_6 (_ : Unit) : EB := reg0 (hid l_Rto_5) 3
@[simp] def b_Rto_7 (_ : Unit) : EB := .seq (hid b_Rto_6) .ret
@[simp] def b_Rto_8 (_ : Unit) : EB := .cond (.t 7) (hid b_Rto_7) .skip
@[simp] def b_Rto_9 (_ : Unit) : EB := .seq (hid b_Rto_4) (hid b_Rto_8)
@[simp] def l_Rto_10 (_ : Unit) : List EOp := [⟨0, (some 9), none, (.q (.mov (.t 1))), []⟩, ⟨1, (some 4), none, (.q (.mov (.k (.int .i64 0)))), []⟩, ⟨2, (some 5), none, (.q (.mov (.t 9))), []⟩]
@[simp] def b_Rto_11 (_ : Unit) : EB := reg0 (hid l_Rto_10) 3
@[simp] def b_Rto_12 (_ : Unit) : EB := .seq (hid b_Rto_11) .ret
@[simp] def b_Rto_13 (_ : Unit) : EB := .seq (hid b_Rto_9) (hid b_Rto_12)
@[simp] def b_Rto_14 (_ : Unit) : EB := .seq (hid b_Rto_2) (hid b_Rto_13)
def c_Rto : EB × List QOp × Nat := ((hid b_Rto_14), [(.mov (.t 4)), (.mov (.t 5))], 10)
theorem k_Rto : cfun Tryz.prog 74 = some c_Rto := by kernel_rfl


theorem within_ok (n lo hi : Int) : ECalls Tryz.prog 67 [I .i64 n, I .i64 lo, I .i64 hi] [] fun y H' => H' = [] ∧ y = .lit (.bool (decide (lo ≤ n ∧ n ≤ hi))) := by
  refine ecalls k_within ?_
  simp [c_within, I]
  by_cases h : lo ≤ n
  · simp [h]
    exact fin [] (by decide) rfl rfl rfl ⟨rfl, rfl⟩
  · simp [h]
    exact fin [] (by decide) rfl rfl rfl ⟨rfl, rfl⟩

set_option maxHeartbeats 1000000 in
theorem RpayMay_ok (p : Pay) (hp : p.lock.length = 32) : ECalls Tryz.prog 68 [.v (.agg (payC p))] [] fun y H' => H' = [] ∧ y = .lit (.bool (mayP p)) := by
  have ht : p.lock.take 32 = p.lock := List.take_of_length_le (by omega)
  refine ecalls k_RpayMay ?_
  simp [c_RpayMay, payC, I, ht]
  refine call0 (within_ok p.id 0 4294967296) (by simp [Ptr, I, EV.lit]) ?_
  rintro y H' ⟨rfl, rfl⟩
  cases h1 : decide (0 ≤ p.id ∧ p.id ≤ 4294967296)
  · have h1 := of_decide_eq_false h1
    simp [Ptr, I, EV.lit]
    exact fin [] (by decide) rfl rfl rfl ⟨rfl, by rw [show mayP p = false from decide_eq_false (by omega)]⟩
  have h1 := of_decide_eq_true h1
  simp [Ptr, I, EV.lit]
  refine call0 (within_ok p.fr 0 1) (by simp [Ptr, I, EV.lit]) ?_
  rintro y H' ⟨rfl, rfl⟩
  cases h2 : decide (0 ≤ p.fr ∧ p.fr ≤ 1)
  · have h2 := of_decide_eq_false h2
    simp [Ptr, I, EV.lit]
    exact fin [] (by decide) rfl rfl rfl ⟨rfl, by rw [show mayP p = false from decide_eq_false (by omega)]⟩
  have h2 := of_decide_eq_true h2
  simp [Ptr, I, EV.lit]
  refine call0 (within_ok p.am 10 1125899906842624) (by simp [Ptr, I, EV.lit]) ?_
  rintro y H' ⟨rfl, rfl⟩
  cases h3 : decide (10 ≤ p.am ∧ p.am ≤ 1125899906842624)
  · have h3 := of_decide_eq_false h3
    simp [Ptr, I, EV.lit]
    exact fin [] (by decide) rfl rfl rfl ⟨rfl, by rw [show mayP p = false from decide_eq_false (by omega)]⟩
  have h3 := of_decide_eq_true h3
  simp [Ptr, I, EV.lit]
  refine call0 (within_ok p.af 0 1099511627776) (by simp [I]) ?_
  rintro y H' ⟨rfl, rfl⟩
  cases h4 : decide (0 ≤ p.af ∧ p.af ≤ 1099511627776)
  · have h4 := of_decide_eq_false h4
    simp [EV.lit]
    exact fin [] (by decide) rfl rfl rfl ⟨rfl, by rw [show mayP p = false from decide_eq_false (by omega)]⟩
  have h4 := of_decide_eq_true h4
  simp [EV.lit, hp, ht]
  have hm : mayP p = !decide (p.lock = hz) := by
    by_cases e : p.lock = hz
    · rw [show mayP p = false from decide_eq_false (fun h => h.2.2.2.2.2.2.2 e)]; simp [e]
    · rw [show mayP p = true from decide_eq_true ⟨by omega, by omega, by omega, by omega, by omega, by omega, by omega, e⟩]; simp [e]
  exact fin [] (by decide) rfl rfl rfl ⟨rfl, by rw [hm]⟩

def prevK (l : List Int) (i : Nat) : Int := if i = 0 then -1 else (l[i - 1]?).getD 0
set_option maxHeartbeats 1000000 in
theorem RholdMay_ok (h : Hol) (hk : h.keys.length ≤ 100000000) : ECalls Tryz.prog 69 [.v (.agg (holC h))] [] fun y H' => H' = [] ∧ y = .lit (.bool (mayH h)) := by
  refine ecalls k_RholdMay ?_
  simp [c_RholdMay, holC]
  refine eloop (α := Nat) (fun i => i ≤ h.keys.length ∧ keysS (-1) h.keys = keysS (prevK h.keys i) (h.keys.drop i) ∧ -1 ≤ prevK h.keys i) (fun i => h.keys.length - i)
    (fun i => [.any, Ptr 0, .any, I .i64 i, .any, .any, .any, .any, .any, .any, .any, .any, .any, .any, .any, .any, .any, .any, .any, .any, .any, .any, .any, .any, .any, .any, .any, .any, .any, .any, .any, .any, .any, .any, .any, .any, .any, .any, .any, .any, .any, .any, .any, .any, .any, .any, .any, .any, .any, .any]) (fun i => [some (.box 75 (holC h))]) 0 [0]
    ⟨by simp, by simp [prevK], by simp [prevK]⟩ (by simp [Ptr, I]) (by simp [holC]) (by simp) (by simp) (by simp) ?_
  rintro i ⟨hi1, hi2, hi3⟩
  simp [Ptr, I, holC] at hi1 hi2 hi3 ⊢
  refine alt (fun hlt => ?_) (fun hlt => ?_)
  · obtain ⟨k, hc⟩ : ∃ k, h.keys[i]? = some k := ⟨h.keys[i], by simp [hlt]⟩
    have hcb := intv_get hc
    rw [drop_cons hc] at hi2
    have w1 : IntKind.i64.wrap ((i : Int) + 1) = ((i + 1 : Nat) : Int) := wrap_i64 (by omega) (by omega)
    have w3 : IntKind.i64.wrap ((i : Int) - 1) = (i : Int) - 1 := wrap_i64 (by omega) (by omega)
    have hbad : ¬ (prevK h.keys i < k ∧ k < 16) → mayH h = false := fun q => by simp only [mayH, hi2, keysS, decide_eq_false q, Bool.false_and]
    have hnk : prevK h.keys (i + 1) = k := by simp [prevK, hc]
    have hgood : prevK h.keys i < k → k < 16 → keysS (-1) h.keys = keysS (prevK h.keys (i + 1)) (h.keys.drop (i + 1)) := fun q1 q2 => by rw [hi2, keysS, decide_eq_true ⟨q1, q2⟩, Bool.true_and, hnk]
    simp [hcb]
    refine call0 (within_ok k 0 15) (by simp [I]) ?_
    rintro y H' ⟨rfl, rfl⟩
    cases b1 : decide (0 ≤ k ∧ k ≤ 15)
    · have b1 := of_decide_eq_false b1
      simp [EV.lit]
      exact fin [] (by decide) rfl rfl rfl ⟨rfl, by rw [hbad (by omega)]⟩
    have b1 := of_decide_eq_true b1
    simp [EV.lit]
    refine alt (fun h0 => ?_) (fun h0 => ?_)
    · obtain ⟨q, hq⟩ : ∃ q, h.keys[i - 1]? = some q := ⟨h.keys[i - 1]'(by omega), by simp⟩
      have hqb := intv_get hq
      have hti : ((i : Int) - 1).toNat = i - 1 := by omega
      have hpv : prevK h.keys i = q := by simp [prevK, hq, show i ≠ 0 by omega]
      have h1 : (1 : Int) ≤ (i : Int) := by omega
      simp [h0, w3, hqb, hti, h1, hcb]
      refine alt (fun c1 => ?_) (fun c1 => ?_)
      · simp
        exact fin [] (by decide) rfl rfl rfl ⟨rfl, by rw [hbad (by omega)]⟩
      simp [w1, -Int.natCast_add]
      exact round (i + 1) [0] ⟨by omega, hgood (by omega) (by omega), by omega⟩ (by omega) (by simp) (by simp) (by simp) (by simp) (by simp)
    · have hi0 : i = 0 := by omega
      subst hi0
      have hp0 : prevK h.keys 0 = -1 := by simp [prevK]
      simp [IntKind.wrap_i64]
      exact round 1 [0] ⟨by omega, hgood (by omega) (by omega), by simp at hnk; omega⟩ (by omega) (by simp) (by simp) (by simp) (by simp) (by simp)
  · have hd : h.keys.drop i = [] := by rw [List.drop_eq_nil_iff]; omega
    have hks : keysS (-1) h.keys = true := by rw [hi2, hd]; rfl
    simp
    refine call0 (within_ok h.id 0 4294967296) (by simp [Ptr, I, EV.lit]) ?_
    rintro y H' ⟨rfl, rfl⟩
    cases c1 : decide (0 ≤ h.id ∧ h.id ≤ 4294967296)
    · have c1 := of_decide_eq_false c1
      simp [Ptr, I, EV.lit]
      exact fin [] (by decide) rfl rfl rfl ⟨rfl, by rw [mayH_f (by omega)]⟩
    have c1 := of_decide_eq_true c1
    simp [Ptr, I, EV.lit]
    refine call0 (within_ok h.am 10 1125899906842624) (by simp [Ptr, I, EV.lit]) ?_
    rintro y H' ⟨rfl, rfl⟩
    cases c2 : decide (10 ≤ h.am ∧ h.am ≤ 1125899906842624)
    · have c2 := of_decide_eq_false c2
      simp [Ptr, I, EV.lit]
      exact fin [] (by decide) rfl rfl rfl ⟨rfl, by rw [mayH_f (by omega)]⟩
    have c2 := of_decide_eq_true c2
    simp [Ptr, I, EV.lit]
    by_cases q : 1 ≤ h.keys.length
    · have hm : mayH h = true := by
        simp only [mayH, hks, Bool.true_and]
        exact decide_eq_true ⟨by omega, by omega, by omega, by omega, q⟩
      exact fin [] (by decide) rfl rfl rfl ⟨rfl, litB (by rw [hm]; exact decide_eq_true (by omega))⟩
    · exact fin [] (by decide) rfl rfl rfl ⟨rfl, litB (by rw [mayH_f (by omega)]; exact decide_eq_false (by omega))⟩

set_option maxHeartbeats 1000000 in
theorem Rsum_ok (s : Sta) (hs : s.ok) (hr : 0 ≤ s.h0 ∧ s.h0 ≤ 1125899906842624 ∧ 0 ≤ s.h1 ∧ s.h1 ≤ 1125899906842624 ∧ s.pays.length ≤ 8 ∧ s.holds.length + s.pays.length ≤ 8) (hp : payL none s.pays = true) (hh : holL none s.holds = true) : ECalls Tryz.prog 70 [SV s] [] fun y H' => H' = [] ∧ y = I .i64 (total s) := by
  obtain ⟨ok1, ok2, ok3, ok4, ok5, ok6, ok7⟩ := id hs
  have w1 : IntKind.i64.wrap (s.h0 + s.h1) = s.h0 + s.h1 := wrap_i64 (by omega) (by omega)
  refine ecalls k_Rsum ?_
  simp [c_Rsum, SV, staC, w1]
  refine eloop (α := Nat × Int) (fun a => a.1 ≤ s.pays.length ∧ a.2 = s.h0 + s.h1 + sumP (s.pays.take a.1) ∧ 0 ≤ a.2 ∧ a.2 ≤ 2251799813685248 + (a.1 : Int) * 1125899906842624) (fun a => s.pays.length - a.1)
    (fun a => [.any, Ptr 0, .any, I .i64 a.2, I .i64 a.1, .any, .any, .any, .any, .any, .any, .any, .any, .any, .any, .any, .any, .any, .any, .any, .any, .any, .any, .any, .any, .any, .any, .any, .any, .any, .any, .any, .any, .any, .any, .any, .any, .any, .any, .any, .any, .any, .any, .any]) (fun a => [some (.box 26 (staC s))]) (0, s.h0 + s.h1) [0]
    ⟨by simp, by simp [sumP], by simp; omega, by simp; omega⟩ (by simp [Ptr, I, PL]) (by simp [staC]) (by simp) (by simp) (by simp) ?_
  rintro ⟨i, n⟩ ⟨hi1, hi3, hi4, hi5⟩
  simp [Ptr, I, PL, staC] at hi1 hi3 hi4 hi5 ⊢
  refine alt (fun hlt => ?_) (fun hlt => ?_)
  · obtain ⟨p, hc⟩ : ∃ p, s.pays[i]? = some p := ⟨s.pays[i], by simp [hlt]⟩
    have hcb := payv_get hc
    have ham := payL_am hp p (List.mem_of_getElem? hc)
    have w2 : IntKind.i64.wrap ((i : Int) + 1) = ((i + 1 : Nat) : Int) := wrap_i64 (by omega) (by omega)
    have w4 : IntKind.i64.wrap (n + p.am) = n + p.am := wrap_i64 (by omega) (by omega)
    simp [hcb, payF, w2, w4, -Int.natCast_add]
    exact round (i + 1, n + p.am) [0] ⟨by omega, by rw [take_s hc, sumP_snoc]; omega, by simp; omega, by simp; omega⟩ (by simp; omega) (by simp) (by simp) (by simp) (by simp) (by simp)
  have hil : i = s.pays.length := by omega
  subst hil
  rw [List.take_length] at hi3
  simp
  refine eloop (α := Nat × Int) (fun a => a.1 ≤ s.holds.length ∧ a.2 = s.h0 + s.h1 + sumP s.pays + sumH (s.holds.take a.1) ∧ 0 ≤ a.2 ∧ a.2 ≤ 22517998136852480 + (a.1 : Int) * 1125899906842624) (fun a => s.holds.length - a.1)
    (fun a => [.any, Ptr 0, .any, I .i64 a.2, .any, I .i64 a.1, .any, .any, .any, .any, .any, .any, .any, .any, .any, .any, .any, .any, .any, .any, .any, .any, .any, .any, .any, .any, .any, .any, .any, .any, .any, .any, .any, .any, .any, .any, .any, .any, .any, .any, .any, .any, .any, .any]) (fun a => [some (.box 26 (staC s))]) (0, n) [0]
    ⟨by simp, by simp [sumH]; omega, hi4, by simp; omega⟩ (by simp [Ptr, I, HL]) (by simp [staC]) (by simp) (by simp) (by simp) ?_
  clear hi1 hi3 hi4 hi5 hlt
  clear n
  rintro ⟨i, n⟩ ⟨hi1, hi3, hi4, hi5⟩
  simp [Ptr, I, HL, staC] at hi1 hi3 hi4 hi5 ⊢
  refine alt (fun hlt => ?_) (fun hlt => ?_)
  · obtain ⟨p, hc⟩ : ∃ p, s.holds[i]? = some p := ⟨s.holds[i], by simp [hlt]⟩
    have hcb := holv_get hc
    have ham := holL_am hh p (List.mem_of_getElem? hc)
    have w2 : IntKind.i64.wrap ((i : Int) + 1) = ((i + 1 : Nat) : Int) := wrap_i64 (by omega) (by omega)
    have w4 : IntKind.i64.wrap (n + p.am) = n + p.am := wrap_i64 (by omega) (by omega)
    simp [hcb, holF, w2, w4, -Int.natCast_add]
    exact round (i + 1, n + p.am) [0] ⟨by omega, by rw [take_s hc, sumH_snoc]; omega, by simp; omega, by simp; omega⟩ (by simp; omega) (by simp) (by simp) (by simp) (by simp) (by simp)
  have hil : i = s.holds.length := by omega
  subst hil
  rw [List.take_length] at hi3
  simp
  exact fin [] (by decide) rfl rfl rfl ⟨rfl, by rw [hi3]; rfl⟩

def chkS (s : Sta) : Int := if mayS s = true then 0 else 1
theorem chk_f {s : Sta} (h : mayS s = false) : chkS s = 1 := by simp [chkS, h]
set_option maxHeartbeats 2000000 in
theorem RCheck_ok (s : Sta) (hs : s.ok) : ECalls Tryz.prog 29 [SV s] [] fun y H' => H' = [] ∧ y = I .i64 (chkS s) := by
  obtain ⟨ok1, ok2, ok3, ok4, ok5, ok6, ok7⟩ := id hs
  refine ecalls k_RCheck ?_
  simp [c_RCheck, SV, staC]
  refine call0 (within_ok s.num 0 1099511627776) (by simp [Ptr, I, EV.lit]) ?_
  rintro y H' ⟨rfl, rfl⟩
  cases a1 : decide (0 ≤ s.num ∧ s.num ≤ 1099511627776)
  · have a1 := of_decide_eq_false a1
    simp [Ptr, I, EV.lit]
    exact fin [] (by decide) rfl rfl rfl ⟨rfl, by rw [chk_f (mayS_f (by omega))]⟩
  have a1 := of_decide_eq_true a1
  simp [Ptr, I, EV.lit]
  refine call0 (within_ok s.h0 0 1125899906842624) (by simp [Ptr, I, EV.lit]) ?_
  rintro y H' ⟨rfl, rfl⟩
  cases a2 : decide (0 ≤ s.h0 ∧ s.h0 ≤ 1125899906842624)
  · have a2 := of_decide_eq_false a2
    simp [Ptr, I, EV.lit]
    exact fin [] (by decide) rfl rfl rfl ⟨rfl, by rw [chk_f (mayS_f (by omega))]⟩
  have a2 := of_decide_eq_true a2
  simp [Ptr, I, EV.lit]
  refine call0 (within_ok s.h1 0 1125899906842624) (by simp [Ptr, I, EV.lit]) ?_
  rintro y H' ⟨rfl, rfl⟩
  cases a3 : decide (0 ≤ s.h1 ∧ s.h1 ≤ 1125899906842624)
  · have a3 := of_decide_eq_false a3
    simp [Ptr, I, EV.lit]
    exact fin [] (by decide) rfl rfl rfl ⟨rfl, by rw [chk_f (mayS_f (by omega))]⟩
  have a3 := of_decide_eq_true a3
  simp [Ptr, I, EV.lit]
  refine alt (fun a4 => ?_) (fun a4 => ?_)
  rotate_left
  · (first | simp [Ptr, I, EV.lit, a4, Int.not_le.2 a4] | simp [Ptr, I, EV.lit, a4, Int.not_lt.2 a4] | simp [Ptr, I, EV.lit, a4, Int.not_lt.1 a4] | simp [Ptr, I, EV.lit, a4, Int.not_le.1 a4] | simp [Ptr, I, EV.lit, a4])
    exact fin [] (by decide) rfl rfl rfl ⟨rfl, by rw [chk_f (mayS_f (by omega))]⟩
  (first | simp [Ptr, I, EV.lit, a4, Int.not_le.2 a4] | simp [Ptr, I, EV.lit, a4, Int.not_lt.2 a4] | simp [Ptr, I, EV.lit, a4, Int.not_lt.1 a4] | simp [Ptr, I, EV.lit, a4, Int.not_le.1 a4] | simp [Ptr, I, EV.lit, a4])
  refine alt (fun a5 => ?_) (fun a5 => ?_)
  rotate_left
  · (first | simp [Ptr, I, EV.lit, a5, Int.not_le.2 a5] | simp [Ptr, I, EV.lit, a5, Int.not_lt.2 a5] | simp [Ptr, I, EV.lit, a5, Int.not_lt.1 a5] | simp [Ptr, I, EV.lit, a5, Int.not_le.1 a5] | simp [Ptr, I, EV.lit, a5])
    exact fin [] (by decide) rfl rfl rfl ⟨rfl, by rw [chk_f (mayS_f (by omega))]⟩
  (first | simp [Ptr, I, EV.lit, a5, Int.not_le.2 a5] | simp [Ptr, I, EV.lit, a5, Int.not_lt.2 a5] | simp [Ptr, I, EV.lit, a5, Int.not_lt.1 a5] | simp [Ptr, I, EV.lit, a5, Int.not_le.1 a5] | simp [Ptr, I, EV.lit, a5])
  have w0 : IntKind.i64.wrap ((s.pays.length : Int) + (s.holds.length : Int)) = (s.pays.length : Int) + (s.holds.length : Int) := wrap_i64 (by omega) (by omega)
  rw [w0]
  refine alt (fun a6 => ?_) (fun a6 => ?_)
  · simp
    exact fin [] (by decide) rfl rfl rfl ⟨rfl, by rw [chk_f (mayS_f (by omega))]⟩
  simp
  refine eloop (α := Nat) (fun i => i ≤ s.pays.length ∧ payL none s.pays = payL (prevP s.pays i) (s.pays.drop i)) (fun i => s.pays.length - i)
    (fun i => [.any, Ptr 0, .any, I .i64 i, .any, .any, .any, .any, .any, .any, .any, .any, .any, .any, .any, .any, .any, .any, .any, .any, .any, .any, .any, .any, .any, .any, .any, .any, .any, .any, .any, .any, .any, .any, .any, .any, .any, .any, .any, .any, .any, .any, .any, .any, .any, .any, .any, .any, .any, .any, .any, .any, .any, .any, .any, .any, .any, .any, .any, .any, .any, .any, .any, .any, .any, .any, .any, .any, .any, .any, .any, .any, .any, .any, .any, .any, .any, .any, .any, .any, .any, .any, .any, .any, .any, .any, .any, .any, .any, .any, .any, .any, .any, .any, .any, .any, .any, .any, .any, .any, .any, .any, .any, .any, .any, .any, .any, .any, .any, .any, .any, .any, .any, .any, .any, .any]) (fun i => [some (.box 26 (staC s))]) 0 [0]
    ⟨by simp, by simp [prevP]⟩ (by simp [Ptr, I]) (by simp [staC]) (by simp) (by simp) (by simp) ?_
  rintro i ⟨hi1, hi2⟩
  simp [Ptr, I, PL, staC] at hi1 hi2 ⊢
  refine alt (fun hlt => ?_) (fun hlt => ?_)
  · obtain ⟨p, hc⟩ : ∃ p, s.pays[i]? = some p := ⟨s.pays[i], by simp [hlt]⟩
    have hpo := ok4 p (List.mem_of_getElem? hc)
    have hl32 := hpo.2.2.2.2
    have ht : p.lock.take 32 = p.lock := List.take_of_length_le (by omega)
    have hcb := payv_get hc
    rw [drop_cons hc] at hi2
    have w2 : IntKind.i64.wrap ((i : Int) + 1) = ((i + 1 : Nat) : Int) := wrap_i64 (by omega) (by omega)
    have w3 : IntKind.i64.wrap ((i : Int) - 1) = (i : Int) - 1 := wrap_i64 (by omega) (by omega)
    simp [hcb, payF, hl32, ht]
    refine call0 (RpayMay_ok p hl32) (by simp [payC]) ?_
    rintro y H' ⟨rfl, rfl⟩
    refine ⟨.inl (by simp), le_ok rfl, ?_⟩
    cases hm : mayP p
    · simp [EV.lit]
      exact fin [] (by decide) rfl rfl rfl ⟨rfl, by rw [chk_f (mayS_p (by rw [hi2, payL, hm]; simp))]⟩
    have hnx : ∀ (q : aft (prevP s.pays i) p.id = true), payL none s.pays = payL (prevP s.pays (i + 1)) (s.pays.drop (i + 1)) := by
      intro q
      rw [hi2, payL, hm, q]
      simp [prevP, hc]
    simp [EV.lit]
    refine alt (fun h0 => ?_) (fun h0 => ?_)
    · obtain ⟨q, hq⟩ : ∃ q, s.pays[i - 1]? = some q := ⟨s.pays[i - 1]'(by omega), by simp⟩
      have hqb := payv_get hq
      have hti : ((i : Int) - 1).toNat = i - 1 := by omega
      have hpv : prevP s.pays i = some q.id := by simp [prevP, hq, show i ≠ 0 by omega]
      have h1 : (1 : Int) ≤ (i : Int) := by omega
      simp [h0, w3, hqb, hti, payF, h1, hcb]
      refine alt (fun c1 => ?_) (fun c1 => ?_)
      · simp
        exact fin [] (by decide) rfl rfl rfl ⟨rfl, by rw [chk_f (mayS_p (by rw [hi2, payL, hm, hpv]; simp [aft, decide_eq_false (show ¬ q.id < p.id by omega)]))]⟩
      simp [w2, -Int.natCast_add]
      exact round (i + 1) [0] ⟨by omega, hnx (by rw [hpv]; exact decide_eq_true (by omega))⟩ (by omega) (by simp) (by simp) (by simp) (by simp) (by simp)
    · have hi0 : i = 0 := by omega
      subst hi0
      simp [IntKind.wrap_i64]
      exact round 1 [0] ⟨by omega, hnx (by simp [prevP, aft])⟩ (by omega) (by simp) (by simp) (by simp) (by simp) (by simp)
  have hil : i = s.pays.length := by omega
  subst hil
  have hps : payL none s.pays = true := by rw [hi2]; simp [payL]
  simp
  refine eloop (α := Nat) (fun i => i ≤ s.holds.length ∧ holL none s.holds = holL (prevH s.holds i) (s.holds.drop i)) (fun i => s.holds.length - i)
    (fun i => [.any, Ptr 0, .any, .any, I .i64 i, .any, .any, .any, .any, .any, .any, .any, .any, .any, .any, .any, .any, .any, .any, .any, .any, .any, .any, .any, .any, .any, .any, .any, .any, .any, .any, .any, .any, .any, .any, .any, .any, .any, .any, .any, .any, .any, .any, .any, .any, .any, .any, .any, .any, .any, .any, .any, .any, .any, .any, .any, .any, .any, .any, .any, .any, .any, .any, .any, .any, .any, .any, .any, .any, .any, .any, .any, .any, .any, .any, .any, .any, .any, .any, .any, .any, .any, .any, .any, .any, .any, .any, .any, .any, .any, .any, .any, .any, .any, .any, .any, .any, .any, .any, .any, .any, .any, .any, .any, .any, .any, .any, .any, .any, .any, .any, .any, .any, .any, .any, .any]) (fun i => [some (.box 26 (staC s))]) 0 [0]
    ⟨by simp, by simp [prevH]⟩ (by simp [Ptr, I]) (by simp [staC]) (by simp) (by simp) (by simp) ?_
  clear hi1 hi2 hlt
  rintro i ⟨hi1, hi2⟩
  simp [Ptr, I, HL, staC] at hi1 hi2 ⊢
  refine alt (fun hlt => ?_) (fun hlt => ?_)
  · obtain ⟨p, hc⟩ : ∃ p, s.holds[i]? = some p := ⟨s.holds[i], by simp [hlt]⟩
    have hpo := ok5 p (List.mem_of_getElem? hc)
    have hcb := holv_get hc
    rw [drop_cons hc] at hi2
    have w2 : IntKind.i64.wrap ((i : Int) + 1) = ((i + 1 : Nat) : Int) := wrap_i64 (by omega) (by omega)
    have w3 : IntKind.i64.wrap ((i : Int) - 1) = (i : Int) - 1 := wrap_i64 (by omega) (by omega)
    simp [hcb, holF]
    refine call0 (RholdMay_ok p hpo.2.2.2) (by simp [holC]) ?_
    rintro y H' ⟨rfl, rfl⟩
    refine ⟨.inl (by simp), le_ok rfl, ?_⟩
    cases hm : mayH p
    · simp [EV.lit]
      exact fin [] (by decide) rfl rfl rfl ⟨rfl, by rw [chk_f (mayS_h (by rw [hi2, holL, hm]; simp))]⟩
    have hnx : ∀ (q : aft (prevH s.holds i) p.id = true), holL none s.holds = holL (prevH s.holds (i + 1)) (s.holds.drop (i + 1)) := by
      intro q
      rw [hi2, holL, hm, q]
      simp [prevH, hc]
    simp [EV.lit]
    refine alt (fun h0 => ?_) (fun h0 => ?_)
    · obtain ⟨q, hq⟩ : ∃ q, s.holds[i - 1]? = some q := ⟨s.holds[i - 1]'(by omega), by simp⟩
      have hqb := holv_get hq
      have hti : ((i : Int) - 1).toNat = i - 1 := by omega
      have hpv : prevH s.holds i = some q.id := by simp [prevH, hq, show i ≠ 0 by omega]
      have h1 : (1 : Int) ≤ (i : Int) := by omega
      simp [h0, w3, hqb, hti, holF, h1, hcb]
      refine alt (fun c1 => ?_) (fun c1 => ?_)
      · simp
        exact fin [] (by decide) rfl rfl rfl ⟨rfl, by rw [chk_f (mayS_h (by rw [hi2, holL, hm, hpv]; simp [aft, decide_eq_false (show ¬ q.id < p.id by omega)]))]⟩
      simp [w2, -Int.natCast_add]
      exact round (i + 1) [0] ⟨by omega, hnx (by rw [hpv]; exact decide_eq_true (by omega))⟩ (by omega) (by simp) (by simp) (by simp) (by simp) (by simp)
    · have hi0 : i = 0 := by omega
      subst hi0
      simp [IntKind.wrap_i64]
      exact round 1 [0] ⟨by omega, hnx (by simp [prevH, aft])⟩ (by omega) (by simp) (by simp) (by simp) (by simp) (by simp)
  have hil : i = s.holds.length := by omega
  subst hil
  have hhs : holL none s.holds = true := by rw [hi2]; simp [holL]
  simp
  refine call0 (Rsum_ok s hs (by omega) hps hhs) (by simp [SV, staC]) ?_
  rintro y H' ⟨rfl, rfl⟩
  simp [I]
  have hS : mayS s = decide (total s ≤ 1125899906842624) := by
    simp only [mayS, hps, hhs, Bool.and_true]
    rw [decide_eq_true (show 0 ≤ s.num ∧ s.num ≤ 1099511627776 ∧ 0 ≤ s.h0 ∧ s.h0 ≤ 1125899906842624 ∧ 0 ≤ s.h1 ∧ s.h1 ≤ 1125899906842624 ∧ s.pays.length ≤ 8 ∧ s.holds.length + s.pays.length ≤ 8 by omega), Bool.true_and]
  refine alt (fun c => ?_) (fun c => ?_)
  · simp
    exact fin [] (by decide) rfl rfl rfl ⟨rfl, by rw [chk_f (by rw [hS]; exact decide_eq_false (by omega))]⟩
  · simp
    exact fin [] (by decide) rfl rfl rfl ⟨rfl, by rw [chkS, if_pos (by rw [hS]; exact decide_eq_true (by omega))]⟩

theorem Rright_ok (s : Sta) (hs : s.ok) : ECalls Tryz.prog 71 [SV s] [] fun y H' => H' = [] ∧ y = .lit (.bool (decide (mayS s = true ∧ s.num ≠ 1099511627776))) := by
  refine ecalls k_Rright ?_
  simp [c_Rright, SV, staC]
  refine call0 (RCheck_ok s hs) (by simp [SV, staC]) ?_
  rintro y H' ⟨rfl, rfl⟩
  by_cases hm : mayS s = true
  · obtain ⟨hr, hp, hh, htot⟩ := mayS_t hm
    simp [I, chkS, hm]
    by_cases hn : s.num = 1099511627776
    · simp [hn]
      exact fin [] (by decide) rfl rfl rfl ⟨rfl, rfl⟩
    · exact fin [] (by decide) rfl rfl rfl ⟨rfl, litB (by rw [decide_eq_true (show s.num < 1099511627776 by omega)]; simp [hn])⟩
  · simp [I, chkS, hm]
    exact fin [] (by decide) rfl rfl rfl ⟨rfl, rfl⟩

theorem Rwith_ok (s : Sta) (a b : Int) (h1 : IntKind.i64.wrap (s.num + 1) = s.num + 1) (h2 : IntKind.i64.wrap (s.h0 + a) = s.h0 + a) (h3 : IntKind.i64.wrap (s.h1 + b) = s.h1 + b) (ps : List Pay) (hs : List Hol) :
    ECalls Tryz.prog 72 [SV s, I .i64 a, I .i64 b, PL ps, HL hs] [] fun y H' => H' = [] ∧ y = SV ⟨s.num + 1, s.h0 + a, s.h1 + b, ps, hs⟩ := by
  refine ecalls k_Rwith ?_
  simp [c_Rwith, SV, staC, I, PL, HL, h1, h2, h3]
  exact fin [] (by decide) rfl rfl rfl ⟨rfl, rfl⟩

theorem Rto_ok (side n : Int) : ECalls Tryz.prog 74 [I .i64 side, I .i64 n] [] fun y H' => H' = [] ∧ y = .tup [.c (.fz (.lit (.int .i64 (if side = 0 then n else 0)))), .c (.fz (.lit (.int .i64 (if side = 0 then 0 else n))))] := by
  refine ecalls k_Rto ?_
  simp [c_Rto, I]
  refine alt (fun h => ?_) (fun h => ?_)
  · simp [h]
    exact fin [] (by decide) rfl rfl rfl ⟨rfl, rfl⟩
  · simp [h]
    exact fin [] (by decide) rfl rfl rfl ⟨rfl, rfl⟩

end Go.Proofs.YtpilpjameifcfaaGreatDoor

namespace Go.Proofs.YtpilpjameifcfaaGreatDoor
open Go Go.EW
set_option linter.unusedSimpArgs false
set_option linter.unusedVariables false

@[simp] def l_RMove_1 (_ : Unit) : List EOp := [⟨0, (some 3), none, (.q (.box 26 (.t 0))), []⟩, ⟨1, (some 6), none, (.q (.alloc 26 [(.int .i64 0), (.int .i64 0), (.int .i64 0), (.slice none 0 0), (.slice none 0 0)])), []⟩, ⟨2, (some 7), none, (.q (.mov (.k (.int .i64 0)))), []⟩]
@[simp] def b_RMove_2 (_ : Unit) : EB := reg0 (hid l_RMove_1) 3
@[simp] def l_RMove_3 (_ : Unit) : List EOp := [⟨0, (some 9), none, (.q (.lda 5 (.t 3))), []⟩, ⟨1, (some 10), none, (.call 71 [(.t 9)]), []⟩, ⟨2, (some 11), none, (.q (.un .not (.t 10))), []⟩, ⟨3, (some 8), none, (.q (.mov (.t 11))), []⟩]
@[simp] def b_RMove_4 (_ : Unit) : EB := reg0 (hid l_RMove_3) 4
@[simp] def l_RMove_5 (_ : Unit) : List EOp := [⟨0, (some 12), none, (.q (.build [(.int .i64 0), (.int .i64 0), (.int .i64 0), (.slice none 0 0), (.slice none 0 0)] [])), []⟩, ⟨1, none, none, (.fz (.sto 5 (.t 6) (.t 12))), []⟩, ⟨2, (some 7), none, (.q (.mov (.k (.int .i64 1)))), []⟩]
@[simp] def b_RMove_6 (_ : Unit) : EB := reg0 (hid l_RMove_5) 3
@[simp] def b_RMove_7 (_ : Unit) : EB := .seq (hid b_RMove_6) .ret
@[simp] def l_RMove_9 (_ : Unit) : List EOp := [⟨6, (some 13), none, (.q (.mov (.t 19))), []⟩]
@[simp] def l_RMove_8 (_ : Unit) : List EOp := ⟨0, (some 14), none, (.q (.mov (.t 1))), []⟩ :: ⟨1, (some 15), none, (.q (.bin .neq (.t 14) (.k (.int .i64 0)))), []⟩ :: ⟨2, (some 16), none, (.q (.mov (.t 15))), []⟩ :: ⟨3, (some 17), (some (16, true)), (.q (.mov (.t 1))), []⟩ :: ⟨4, (some 18), (some (16, true)), (.q (.bin .neq (.t 17) (.k (.int .i64 1)))), []⟩ :: ⟨5, (some 19), none, (.q (.pick (.t 16) (.t 18) (.k (.bool false)))), []⟩ :: hid l_RMove_9
@[simp] def b_RMove_10 (_ : Unit) : EB := reg0 (hid l_RMove_8) 7
@[simp] def l_RMove_11 (_ : Unit) : List EOp := [⟨0, (some 20), none, (.q (.build [(.int .i64 0), (.int .i64 0), (.int .i64 0), (.slice none 0 0), (.slice none 0 0)] [])), []⟩, ⟨1, none, none, (.fz (.sto 5 (.t 6) (.t 20))), []⟩, ⟨2, (some 7), none, (.q (.mov (.k (.int .i64 33)))), []⟩]
@[simp] def b_RMove_12 (_ : Unit) : EB := reg0 (hid l_RMove_11) 3
@[simp] def b_RMove_13 (_ : Unit) : EB := .seq (hid b_RMove_12) .ret
@[simp] def l_RMove_14 (_ : Unit) : List EOp := [⟨0, (some 22), none, (.q (.mov (.t 2))), []⟩, ⟨1, (some 23), none, (.q (.bin .lss (.t 22) (.k (.int .i64 1)))), []⟩, ⟨2, (some 21), none, (.q (.mov (.t 23))), []⟩]
@[simp] def b_RMove_15 (_ : Unit) : EB := reg0 (hid l_RMove_14) 3
@[simp] def l_RMove_16 (_ : Unit) : List EOp := [⟨0, (some 24), none, (.q (.build [(.int .i64 0), (.int .i64 0), (.int .i64 0), (.slice none 0 0), (.slice none 0 0)] [])), []⟩, ⟨1, none, none, (.fz (.sto 5 (.t 6) (.t 24))), []⟩, ⟨2, (some 7), none, (.q (.mov (.k (.int .i64 27)))), []⟩]
@[simp] def b_RMove_17 (_ : Unit) : EB := reg0 (hid l_RMove_16) 3
@[simp] def b_RMove_18 (_ : Unit) : EB := .seq (hid b_RMove_17) .ret
@[simp] def l_RMove_20 (_ : Unit) : List EOp := [⟨6, (some 25), none, (.q (.mov (.t 31))), []⟩]
@[simp] def l_RMove_19 (_ : Unit) : List EOp := ⟨0, (some 26), none, (.q (.mov (.t 1))), []⟩ :: ⟨1, (some 27), none, (.q (.fad 1 (.t 3))), []⟩ :: ⟨2, (some 28), none, (.q (.iad 2 1 (.t 27) (.t 26))), []⟩ :: ⟨3, (some 29), none, (.q (.ldc (.t 28))), []⟩ :: ⟨4, (some 30), none, (.q (.mov (.t 2))), []⟩ :: ⟨5, (some 31), none, (.q (.bin .lss (.t 29) (.t 30))), []⟩ :: hid l_RMove_20
@[simp] def b_RMove_21 (_ : Unit) : EB := reg0 (hid l_RMove_19) 7
@[simp] def l_RMove_22 (_ : Unit) : List EOp := [⟨0, (some 32), none, (.q (.build [(.int .i64 0), (.int .i64 0), (.int .i64 0), (.slice none 0 0), (.slice none 0 0)] [])), []⟩, ⟨1, none, none, (.fz (.sto 5 (.t 6) (.t 32))), []⟩, ⟨2, (some 7), none, (.q (.mov (.k (.int .i64 20)))), []⟩]
@[simp] def b_RMove_23 (_ : Unit) : EB := reg0 (hid l_RMove_22) 3
@[simp] def b_RMove_24 (_ : Unit) : EB := .seq (hid b_RMove_23) .ret
@[simp] def b_RMove_25 (_ : Unit) : EB := .cond (.t 25) (hid b_RMove_24) .skip
@[simp] def b_RMove_26 (_ : Unit) : EB := .seq (hid b_RMove_21) (hid b_RMove_25)
@[simp] def b_RMove_27 (_ : Unit) : EB := .cond (.t 21) (hid b_RMove_18) (hid b_RMove_26)
@[simp] def b_RMove_28 (_ : Unit) : EB := .seq (hid b_RMove_15) (hid b_RMove_27)
@[simp] def b_RMove_29 (_ : Unit) : EB := .cond (.t 13) (hid b_RMove_13) (hid b_RMove_28)
@[simp] def b_RMove_30 (_ : Unit) : EB := .seq (hid b_RMove_10) (hid b_RMove_29)
@[simp] def b_RMove_31 (_ : Unit) : EB := .cond (.t 8) (hid b_RMove_7) (hid b_RMove_30)
@[simp] def b_RMove_32 (_ : Unit) : EB := .seq (hid b_RMove_4) (hid b_RMove_31)
@[simp] def b_RMove_33 (_ : Unit) : EB := .block 0 (hid b_RMove_32)
@[simp] def l_RMove_34 (_ : Unit) : List EOp := [⟨0, (some 33), none, (.q (.mov (.t 1))), []⟩, ⟨1, (some 34), none, (.q (.bin .eql (.t 33) (.k (.int .i64 0)))), []⟩]
@[simp] def b_RMove_35 (_ : Unit) : EB := reg0 (hid l_RMove_34) 2
@[simp] def l_RMove_37 (_ : Unit) : List EOp := [⟨6, (some 41), none, (.q (.fad 4 (.t 3))), []⟩, ⟨7, (some 42), none, (.q (.ldc (.t 41))), []⟩, ⟨8, (some 43), none, (.call 72 [(.t 35), (.t 37), (.t 38), (.t 40), (.t 42)]), []⟩, ⟨9, none, none, (.fz (.sto 5 (.t 6) (.t 43))), []⟩, ⟨10, (some 7), none, (.q (.mov (.k (.int .i64 0)))), []⟩]
@[simp] def l_RMove_36 (_ : Unit) : List EOp := ⟨0, (some 35), none, (.q (.lda 5 (.t 3))), []⟩ :: ⟨1, (some 36), none, (.q (.mov (.t 2))), []⟩ :: ⟨2, (some 37), none, (.q (.un .neg (.t 36))), []⟩ :: ⟨3, (some 38), none, (.q (.mov (.t 2))), []⟩ :: ⟨4, (some 39), none, (.q (.fad 3 (.t 3))), []⟩ :: ⟨5, (some 40), none, (.q (.ldc (.t 39))), []⟩ :: hid l_RMove_37
@[simp] def b_RMove_38 (_ : Unit) : EB := reg0 (hid l_RMove_36) 11
@[simp] def b_RMove_39 (_ : Unit) : EB := .seq (hid b_RMove_38) .ret
@[simp] def b_RMove_40 (_ : Unit) : EB := .cond (.t 34) (hid b_RMove_39) .skip
@[simp] def b_RMove_41 (_ : Unit) : EB := .seq (hid b_RMove_35) (hid b_RMove_40)
@[simp] def l_RMove_43 (_ : Unit) : List EOp := [⟨6, (some 50), none, (.q (.fad 4 (.t 3))), []⟩, ⟨7, (some 51), none, (.q (.ldc (.t 50))), []⟩, ⟨8, (some 52), none, (.call 72 [(.t 44), (.t 45), (.t 47), (.t 49), (.t 51)]), []⟩, ⟨9, none, none, (.fz (.sto 5 (.t 6) (.t 52))), []⟩, ⟨10, (some 7), none, (.q (.mov (.k (.int .i64 0)))), []⟩]
@[simp] def l_RMove_42 (_ : Unit) : List EOp := ⟨0, (some 44), none, (.q (.lda 5 (.t 3))), []⟩ :: ⟨1, (some 45), none, (.q (.mov (.t 2))), []⟩ :: ⟨2, (some 46), none, (.q (.mov (.t 2))), []⟩ :: ⟨3, (some 47), none, (.q (.un .neg (.t 46))), []⟩ :: ⟨4, (some 48), none, (.q (.fad 3 (.t 3))), []⟩ :: ⟨5, (some 49), none, (.q (.ldc (.t 48))), []⟩ :: hid l_RMove_43
@[simp] def b_RMove_44 (_ : Unit) : EB := reg0 (hid l_RMove_42) 11
@[simp] def b_RMove_45 (_ : Unit) : EB := .seq (hid b_RMove_44) .ret
@[simp] def b_RMove_46 (_ : Unit) : EB := .seq (hid b_RMove_41) (hid b_RMove_45)
@[simp] def b_RMove_47 (_ : Unit) : EB := .seq (hid b_RMove_33) (hid b_RMove_46)
@[simp] def b_RMove_48 (_ : Unit) : EB := .seq (hid b_RMove_2) (hid b_RMove_47)
def c_RMove : EB × List QOp × Nat := ((hid b_RMove_48), [(.lda 5 (.t 6)), (.mov (.t 7))], 53)
theorem k_RMove : cfun Tryz.prog 30 = some c_RMove := by kernel_rfl


def RE (q : Sta × Nat) : EV := .tup [.agg (staC q.1), .c (.fz (.lit (.int .i64 (q.2 : Int))))]

set_option maxHeartbeats 2000000 in
theorem RMove_ok (s : Sta) (from' n : Int) (hs : s.ok) (hf : i64 from') (hn : i64 n) : ECalls Tryz.prog 30 [SV s, I .i64 from', I .i64 n] [] fun y H' => H' = [] ∧ y = RE (moveS s from' n) := by
  obtain ⟨ok1, ok2, ok3, ok4, ok5, ok6, ok7⟩ := id hs
  obtain ⟨hf1, hf2⟩ := hf
  obtain ⟨hn1, hn2⟩ := hn
  refine ecalls k_RMove ?_
  simp [c_RMove, SV, staC, I]
  refine call0 (Rright_ok s hs) (by simp [SV, staC]) ?_
  rintro y H' ⟨rfl, rfl⟩
  cases hb0 : decide (mayS s = true ∧ s.num ≠ 1099511627776)
  · have h0 := of_decide_eq_false hb0
    have hx : nxt s = (zSta, 1) := by simp only [nxt, if_neg h0]
    rw [show moveS s from' n = (zSta, 1) by simp [moveS, hx]]
    simp [EV.lit]
    refine finW _ (weak_nlB (o := 16) (k := 3) 36 rfl rfl) (finW _ (weak_nlB (o := 16) (k := 4) 3 rfl rfl) ?_)
    exact fin [] (by decide) rfl rfl rfl ⟨rfl, rfl⟩
  have h0 := of_decide_eq_true hb0
  have hx : nxt s = (⟨s.num + 1, s.h0, s.h1, s.pays, s.holds⟩, 0) := by simp only [nxt, if_pos h0]
  obtain ⟨hr, hp, hh, htot⟩ := mayS_t h0.1
  have w9 : IntKind.i64.wrap (s.num + 1) = s.num + 1 := wrap_i64 (by omega) (by omega)
  simp [EV.lit]
  by_cases hb' : from' = 0 ∨ from' = 1
  rotate_left
  · rw [show moveS s from' n = (zSta, 33) by simp only [moveS, hx]; rw [if_neg (by simp), if_pos hb']]
    have q0 : ¬ from' = 0 := fun e => hb' (.inl e)
    have q1 : ¬ from' = 1 := fun e => hb' (.inr e)
    simp [q0, q1]
    refine finW _ (weak_nlB (o := 16) (k := 3) 36 rfl rfl) (finW _ (weak_nlB (o := 16) (k := 4) 3 rfl rfl) ?_)
    exact fin [] (by decide) rfl rfl rfl ⟨rfl, rfl⟩
  rcases hb' with rfl | rfl
  · simp
    refine alt (fun c1 => ?_) (fun c1 => ?_)
    · rw [show moveS s 0 n = (zSta, 27) by simp only [moveS, hx]; rw [if_neg (by simp), if_neg (by simp), if_pos c1]]
      simp
      refine finW _ (weak_nlB (o := 16) (k := 3) 36 rfl rfl) (finW _ (weak_nlB (o := 16) (k := 4) 3 rfl rfl) ?_)
      exact fin [] (by decide) rfl rfl rfl ⟨rfl, rfl⟩
    simp
    refine alt (fun c2 => ?_) (fun c2 => ?_)
    · rw [show moveS s 0 n = (zSta, 20) by simp only [moveS, hx]; rw [if_neg (by simp), if_neg (by simp), if_neg c1]; simp [c2]]
      simp
      refine finW _ (weak_nlB (o := 16) (k := 3) 36 rfl rfl) (finW _ (weak_nlB (o := 16) (k := 4) 3 rfl rfl) ?_)
      exact fin [] (by decide) rfl rfl rfl ⟨rfl, rfl⟩
    rw [show moveS s 0 n = (⟨s.num + 1, s.h0 + -n, s.h1 + n, s.pays, s.holds⟩, 0) by simp only [moveS, hx]; rw [if_neg (by simp), if_neg (by simp), if_neg c1]; simp [c2, Int.sub_eq_add_neg]]
    have w1 : IntKind.i64.wrap (-n) = -n := wrap_i64 (by omega) (by omega)
    simp [w1]
    refine call0 (Rwith_ok s (-n) n w9 (wrap_i64 (by omega) (by omega)) (wrap_i64 (by omega) (by omega)) s.pays s.holds) (by simp [SV, staC, I, PL, HL]) ?_
    rintro y H' ⟨rfl, rfl⟩
    refine ⟨.inl (by simp), le_ok rfl, ?_⟩
    simp [SV, staC]
    exact fin [] (by decide) rfl rfl rfl ⟨rfl, rfl⟩
  · simp
    refine alt (fun c1 => ?_) (fun c1 => ?_)
    · rw [show moveS s 1 n = (zSta, 27) by simp only [moveS, hx]; rw [if_neg (by simp), if_neg (by simp), if_pos c1]]
      simp
      refine finW _ (weak_nlB (o := 16) (k := 3) 36 rfl rfl) (finW _ (weak_nlB (o := 16) (k := 4) 3 rfl rfl) ?_)
      exact fin [] (by decide) rfl rfl rfl ⟨rfl, rfl⟩
    simp
    refine alt (fun c2 => ?_) (fun c2 => ?_)
    · rw [show moveS s 1 n = (zSta, 20) by simp only [moveS, hx]; rw [if_neg (by simp), if_neg (by simp), if_neg c1]; simp [c2]]
      simp
      refine finW _ (weak_nlB (o := 16) (k := 3) 36 rfl rfl) (finW _ (weak_nlB (o := 16) (k := 4) 3 rfl rfl) ?_)
      exact fin [] (by decide) rfl rfl rfl ⟨rfl, rfl⟩
    rw [show moveS s 1 n = (⟨s.num + 1, s.h0 + n, s.h1 + -n, s.pays, s.holds⟩, 0) by simp only [moveS, hx]; rw [if_neg (by simp), if_neg (by simp), if_neg c1]; simp [c2, Int.sub_eq_add_neg]]
    have w1 : IntKind.i64.wrap (-n) = -n := wrap_i64 (by omega) (by omega)
    simp [w1]
    refine call0 (Rwith_ok s n (-n) w9 (wrap_i64 (by omega) (by omega)) (wrap_i64 (by omega) (by omega)) s.pays s.holds) (by simp [SV, staC, I, PL, HL]) ?_
    rintro y H' ⟨rfl, rfl⟩
    refine ⟨.inl (by simp), le_ok rfl, ?_⟩
    simp [SV, staC]
    exact fin [] (by decide) rfl rfl rfl ⟨rfl, rfl⟩

end Go.Proofs.YtpilpjameifcfaaGreatDoor
