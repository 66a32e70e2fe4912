import Derived.Test.YtflcfdeanneoeaaGreatDoorAll10
import Derived.Test.YtflcfdeanneoeaaGreatDoorAll12
namespace Go.Proofs.YtflcfdeanneoeaaGreatDoor
open Go Go.EW
set_option linter.unusedSimpArgs false
set_option linter.unusedVariables false

@[simp] def l_BParty_1 (_ : Unit) : List EOp := [⟨0, (some 2), none, (.q (.mov (.k (.bool false)))), []⟩]
@[simp] def b_BParty_2 (_ : Unit) : EB := reg0 (hid l_BParty_1) 1
@[simp] def l_BParty_4 (_ : Unit) : List EOp := [⟨6, (some 2), none, (.q (.mov (.t 8))), []⟩]
@[simp] def l_BParty_3 (_ : Unit) : List EOp := ⟨0, (some 3), none, (.q (.mov (.t 0))), []⟩ :: ⟨1, (some 4), none, (.q (.bin .geq (.t 3) (.k (.int .i64 0)))), []⟩ :: ⟨2, (some 5), none, (.q (.mov (.t 4))), []⟩ :: ⟨3, (some 6), (some (5, true)), (.q (.mov (.t 0))), []⟩ :: ⟨4, (some 7), (some (5, true)), (.q (.bin .lss (.t 6) (.k (.int .i64 16)))), []⟩ :: ⟨5, (some 8), none, (.q (.pick (.t 5) (.t 7) (.k (.bool false)))), []⟩ :: hid l_BParty_4
@[simp] def b_BParty_5 (_ : Unit) : EB := reg0 (hid l_BParty_3) 7
@[simp] def b_BParty_6 (_ : Unit) : EB := .seq (hid b_BParty_5) .ret
@[simp] def b_BParty_7 (_ : Unit) : EB := .seq (hid b_BParty_2) (hid b_BParty_6)
def c_BParty : EB × List QOp × Nat := ((hid b_BParty_7), [(.mov (.t 2))], 9)
theorem k_BParty : cfun Tryz.prog 50 = some c_BParty := by kernel_rfl

@[simp] def l_BSide_1 (_ : Unit) : List EOp := [⟨0, (some 2), none, (.q (.mov (.k (.bool false)))), []⟩]
@[simp] def b_BSide_2 (_ : Unit) : EB := reg0 (hid l_BSide_1) 1
@[simp] def l_BSide_4 (_ : Unit) : List EOp := [⟨6, (some 2), none, (.q (.mov (.t 8))), []⟩]
@[simp] def l_BSide_3 (_ : Unit) : List EOp := ⟨0, (some 3), none, (.q (.mov (.t 0))), []⟩ :: ⟨1, (some 4), none, (.q (.bin .eql (.t 3) (.k (.int .i64 0)))), []⟩ :: ⟨2, (some 5), none, (.q (.mov (.t 4))), []⟩ :: ⟨3, (some 6), (some (5, false)), (.q (.mov (.t 0))), []⟩ :: ⟨4, (some 7), (some (5, false)), (.q (.bin .eql (.t 6) (.k (.int .i64 1)))), []⟩ :: ⟨5, (some 8), none, (.q (.pick (.t 5) (.k (.bool true)) (.t 7))), []⟩ :: hid l_BSide_4
@[simp] def b_BSide_5 (_ : Unit) : EB := reg0 (hid l_BSide_3) 7
@[simp] def b_BSide_6 (_ : Unit) : EB := .seq (hid b_BSide_5) .ret
@[simp] def b_BSide_7 (_ : Unit) : EB := .seq (hid b_BSide_2) (hid b_BSide_6)
def c_BSide : EB × List QOp × Nat := ((hid b_BSide_7), [(.mov (.t 2))], 9)
theorem k_BSide : cfun Tryz.prog 43 = some c_BSide := by kernel_rfl

@[simp] def l_BCheck_1 (_ : Unit) : List EOp := [⟨0, (some 2), none, (.q (.box 42 (.t 0))), []⟩, ⟨1, (some 3), none, (.q (.box 47 (.t 1))), []⟩, ⟨2, (some 4), none, (.q (.mov (.k .nilIface))), []⟩]
@[simp] def b_BCheck_2 (_ : Unit) : EB := reg0 (hid l_BCheck_1) 3
@[simp] def l_BCheck_6 (_ : Unit) : List EOp := [⟨18, (some 24), none, (.q (.mov (.t 23))), []⟩, ⟨19, (some 25), (some (24, false)), (.q (.fad 37 (.t 2))), []⟩, ⟨20, (some 26), (some (24, false)), (.q (.ldc (.t 25))), []⟩, ⟨21, (some 27), (some (24, false)), (.q (.bin .gtr (.t 26) (.k (.int .i64 1125899906842624)))), []⟩, ⟨22, (some 28), none, (.q (.pick (.t 24) (.k (.bool true)) (.t 27))), []⟩, ⟨23, (some 5), none, (.q (.mov (.t 28))), []⟩]
@[simp] def l_BCheck_5 (_ : Unit) : List EOp := ⟨12, (some 18), none, (.q (.pick (.t 14) (.k (.bool true)) (.t 17))), []⟩ :: ⟨13, (some 19), none, (.q (.mov (.t 18))), []⟩ :: ⟨14, (some 20), (some (19, false)), (.q (.fad 37 (.t 2))), []⟩ :: ⟨15, (some 21), (some (19, false)), (.q (.ldc (.t 20))), []⟩ :: ⟨16, (some 22), (some (19, false)), (.q (.bin .lss (.t 21) (.k (.int .i64 0)))), []⟩ :: ⟨17, (some 23), none, (.q (.pick (.t 19) (.k (.bool true)) (.t 22))), []⟩ :: hid l_BCheck_6
@[simp] def l_BCheck_4 (_ : Unit) : List EOp := ⟨6, (some 12), (some (9, false)), (.q (.bin .lss (.t 11) (.k (.int .i64 1)))), []⟩ :: ⟨7, (some 13), none, (.q (.pick (.t 9) (.k (.bool true)) (.t 12))), []⟩ :: ⟨8, (some 14), none, (.q (.mov (.t 13))), []⟩ :: ⟨9, (some 15), (some (14, false)), (.q (.fad 36 (.t 2))), []⟩ :: ⟨10, (some 16), (some (14, false)), (.q (.ldc (.t 15))), []⟩ :: ⟨11, (some 17), (some (14, false)), (.q (.bin .gtr (.t 16) (.k (.int .i64 65536)))), []⟩ :: hid l_BCheck_5
@[simp] def l_BCheck_3 (_ : Unit) : List EOp := ⟨0, (some 6), none, (.q (.lda 5 (.t 3))), []⟩ :: ⟨1, (some 7), none, (.call 49 [(.t 6)]), []⟩ :: ⟨2, (some 8), none, (.q (.eqi true (.t 7))), []⟩ :: ⟨3, (some 9), none, (.q (.mov (.t 8))), []⟩ :: ⟨4, (some 10), (some (9, false)), (.q (.fad 36 (.t 2))), []⟩ :: ⟨5, (some 11), (some (9, false)), (.q (.ldc (.t 10))), []⟩ :: hid l_BCheck_4
@[simp] def b_BCheck_7 (_ : Unit) : EB := reg0 (hid l_BCheck_3) 24
@[simp] def l_BCheck_8 (_ : Unit) : List EOp := [⟨0, (some 29), none, (.q (.mki 120 (.k (.int .i64 1)))), []⟩, ⟨1, (some 4), none, (.q (.mov (.t 29))), []⟩]
@[simp] def b_BCheck_9 (_ : Unit) : EB := reg0 (hid l_BCheck_8) 2
@[simp] def b_BCheck_10 (_ : Unit) : EB := .seq (hid b_BCheck_9) .ret
@[simp] def l_BCheck_14 (_ : Unit) : List EOp := [⟨18, (some 49), (some (43, false)), (.q (.ldc (.t 48))), []⟩, ⟨19, (some 50), (some (43, false)), (.q (.bin .eql (.t 46) (.t 49))), []⟩, ⟨20, (some 51), none, (.q (.pick (.t 43) (.k (.bool true)) (.t 50))), []⟩, ⟨21, (some 30), none, (.q (.mov (.t 51))), []⟩]
@[simp] def l_BCheck_13 (_ : Unit) : List EOp := ⟨12, (some 43), none, (.q (.mov (.t 42))), []⟩ :: ⟨13, (some 44), (some (43, false)), (.q (.fad 34 (.t 2))), []⟩ :: ⟨14, (some 45), (some (43, false)), (.q (.iad 2 1 (.t 44) (.k (.int .i64 0)))), []⟩ :: ⟨15, (some 46), (some (43, false)), (.q (.ldc (.t 45))), []⟩ :: ⟨16, (some 47), (some (43, false)), (.q (.fad 34 (.t 2))), []⟩ :: ⟨17, (some 48), (some (43, false)), (.q (.iad 2 1 (.t 47) (.k (.int .i64 1)))), []⟩ :: hid l_BCheck_14
@[simp] def l_BCheck_12 (_ : Unit) : List EOp := ⟨6, (some 37), (some (36, false)), (.q (.fad 34 (.t 2))), []⟩ :: ⟨7, (some 38), (some (36, false)), (.q (.iad 2 1 (.t 37) (.k (.int .i64 1)))), []⟩ :: ⟨8, (some 39), (some (36, false)), (.q (.ldc (.t 38))), []⟩ :: ⟨9, (some 40), (some (36, false)), (.call 50 [(.t 39)]), []⟩ :: ⟨10, (some 41), (some (36, false)), (.q (.un .not (.t 40))), []⟩ :: ⟨11, (some 42), none, (.q (.pick (.t 36) (.k (.bool true)) (.t 41))), []⟩ :: hid l_BCheck_13
@[simp] def l_BCheck_11 (_ : Unit) : List EOp := ⟨0, (some 31), none, (.q (.fad 34 (.t 2))), []⟩ :: ⟨1, (some 32), none, (.q (.iad 2 1 (.t 31) (.k (.int .i64 0)))), []⟩ :: ⟨2, (some 33), none, (.q (.ldc (.t 32))), []⟩ :: ⟨3, (some 34), none, (.call 50 [(.t 33)]), []⟩ :: ⟨4, (some 35), none, (.q (.un .not (.t 34))), []⟩ :: ⟨5, (some 36), none, (.q (.mov (.t 35))), []⟩ :: hid l_BCheck_12
@[simp] def b_BCheck_15 (_ : Unit) : EB := reg0 (hid l_BCheck_11) 22
@[simp] def l_BCheck_16 (_ : Unit) : List EOp := [⟨0, (some 52), none, (.q (.mki 120 (.k (.int .i64 33)))), []⟩, ⟨1, (some 4), none, (.q (.mov (.t 52))), []⟩]
@[simp] def b_BCheck_17 (_ : Unit) : EB := reg0 (hid l_BCheck_16) 2
@[simp] def b_BCheck_18 (_ : Unit) : EB := .seq (hid b_BCheck_17) .ret
@[simp] def l_BCheck_19 (_ : Unit) : List EOp := [⟨0, (some 54), none, (.q (.lda 5 (.t 3))), []⟩, ⟨2, (some 56), none, (.q (.fad 33 (.t 2))), []⟩, ⟨3, (some 57), none, (.q (.ldc (.t 56))), []⟩, ⟨1, (some 55), none, (.call 37 [(.t 54)]), [2, 3]⟩, ⟨4, (some 58), none, (.q (.bin .neq (.t 55) (.t 57))), []⟩, ⟨5, (some 53), none, (.q (.mov (.t 58))), []⟩]
@[simp] def b_BCheck_20 (_ : Unit) : EB := reg1 (hid l_BCheck_19) 6
@[simp] def l_BCheck_21 (_ : Unit) : List EOp := [⟨0, (some 59), none, (.q (.mki 120 (.k (.int .i64 20)))), []⟩, ⟨1, (some 4), none, (.q (.mov (.t 59))), []⟩]
@[simp] def b_BCheck_22 (_ : Unit) : EB := reg0 (hid l_BCheck_21) 2
@[simp] def b_BCheck_23 (_ : Unit) : EB := .seq (hid b_BCheck_22) .ret
@[simp] def l_BCheck_25 (_ : Unit) : List EOp := [⟨6, (some 60), none, (.q (.mov (.t 66))), []⟩]
@[simp] def l_BCheck_24 (_ : Unit) : List EOp := ⟨0, (some 61), none, (.q (.fad 1 (.t 3))), []⟩ :: ⟨1, (some 62), none, (.q (.iad 2 1 (.t 61) (.k (.int .i64 0)))), []⟩ :: ⟨2, (some 63), none, (.q (.ldc (.t 62))), []⟩ :: ⟨3, (some 64), none, (.q (.fad 37 (.t 2))), []⟩ :: ⟨4, (some 65), none, (.q (.ldc (.t 64))), []⟩ :: ⟨5, (some 66), none, (.q (.bin .lss (.t 63) (.t 65))), []⟩ :: hid l_BCheck_25
@[simp] def b_BCheck_26 (_ : Unit) : EB := reg0 (hid l_BCheck_24) 7
@[simp] def l_BCheck_27 (_ : Unit) : List EOp := [⟨0, (some 67), none, (.q (.mki 120 (.k (.int .i64 26)))), []⟩, ⟨1, (some 4), none, (.q (.mov (.t 67))), []⟩]
@[simp] def b_BCheck_28 (_ : Unit) : EB := reg0 (hid l_BCheck_27) 2
@[simp] def b_BCheck_29 (_ : Unit) : EB := .seq (hid b_BCheck_28) .ret
@[simp] def b_BCheck_30 (_ : Unit) : EB := .cond (.t 60) (hid b_BCheck_29) .skip
@[simp] def b_BCheck_31 (_ : Unit) : EB := .seq (hid b_BCheck_26) (hid b_BCheck_30)
@[simp] def b_BCheck_32 (_ : Unit) : EB := .cond (.t 53) (hid b_BCheck_23) (hid b_BCheck_31)
@[simp] def b_BCheck_33 (_ : Unit) : EB := .seq (hid b_BCheck_20) (hid b_BCheck_32)
@[simp] def b_BCheck_34 (_ : Unit) : EB := .cond (.t 30) (hid b_BCheck_18) (hid b_BCheck_33)
@[simp] def b_BCheck_35 (_ : Unit) : EB := .seq (hid b_BCheck_15) (hid b_BCheck_34)
@[simp] def b_BCheck_36 (_ : Unit) : EB := .cond (.t 5) (hid b_BCheck_10) (hid b_BCheck_35)
@[simp] def b_BCheck_37 (_ : Unit) : EB := .seq (hid b_BCheck_7) (hid b_BCheck_36)
@[simp] def b_BCheck_38 (_ : Unit) : EB := .block 0 (hid b_BCheck_37)
@[simp] def l_BCheck_39 (_ : Unit) : List EOp := [⟨0, (some 4), none, (.q (.mov (.k .nilIface))), []⟩]
@[simp] def b_BCheck_40 (_ : Unit) : EB := reg0 (hid l_BCheck_39) 1
@[simp] def b_BCheck_41 (_ : Unit) : EB := .seq (hid b_BCheck_40) .ret
@[simp] def b_BCheck_42 (_ : Unit) : EB := .seq (hid b_BCheck_38) (hid b_BCheck_41)
@[simp] def b_BCheck_43 (_ : Unit) : EB := .seq (hid b_BCheck_2) (hid b_BCheck_42)
def c_BCheck : EB × List QOp × Nat := ((hid b_BCheck_43), [(.mov (.t 4))], 68)
theorem k_BCheck : cfun Tryz.prog 20 = some c_BCheck := by kernel_rfl

@[simp] def l_RParty_1 (_ : Unit) : List EOp := [⟨0, (some 2), none, (.q (.mov (.k (.bool false)))), []⟩]
@[simp] def b_RParty_2 (_ : Unit) : EB := reg0 (hid l_RParty_1) 1
@[simp] def l_RParty_4 (_ : Unit) : List EOp := [⟨6, (some 2), none, (.q (.mov (.t 8))), []⟩]
@[simp] def l_RParty_3 (_ : Unit) : List EOp := ⟨0, (some 3), none, (.q (.mov (.t 0))), []⟩ :: ⟨1, (some 4), none, (.q (.bin .geq (.t 3) (.k (.int .i64 0)))), []⟩ :: ⟨2, (some 5), none, (.q (.mov (.t 4))), []⟩ :: ⟨3, (some 6), (some (5, true)), (.q (.mov (.t 0))), []⟩ :: ⟨4, (some 7), (some (5, true)), (.q (.bin .lss (.t 6) (.k (.int .i64 16)))), []⟩ :: ⟨5, (some 8), none, (.q (.pick (.t 5) (.t 7) (.k (.bool false)))), []⟩ :: hid l_RParty_4
@[simp] def b_RParty_5 (_ : Unit) : EB := reg0 (hid l_RParty_3) 7
@[simp] def b_RParty_6 (_ : Unit) : EB := .seq (hid b_RParty_5) .ret
@[simp] def b_RParty_7 (_ : Unit) : EB := .seq (hid b_RParty_2) (hid b_RParty_6)
def c_RParty : EB × List QOp × Nat := ((hid b_RParty_7), [(.mov (.t 2))], 9)
theorem k_RParty : cfun Tryz.prog 52 = some c_RParty := by kernel_rfl

@[simp] def l_RBCheck_1 (_ : Unit) : List EOp := [⟨0, (some 2), none, (.q (.box 28 (.t 0))), []⟩, ⟨1, (some 3), none, (.q (.box 32 (.t 1))), []⟩, ⟨2, (some 4), none, (.q (.mov (.k (.int .i64 0)))), []⟩]
@[simp] def b_RBCheck_2 (_ : Unit) : EB := reg0 (hid l_RBCheck_1) 3
@[simp] def l_RBCheck_6 (_ : Unit) : List EOp := [⟨18, (some 23), none, (.q (.mov (.t 22))), []⟩, ⟨19, (some 24), (some (23, false)), (.q (.fad 37 (.t 2))), []⟩, ⟨20, (some 25), (some (23, false)), (.q (.ldc (.t 24))), []⟩, ⟨21, (some 26), (some (23, false)), (.q (.bin .gtr (.t 25) (.k (.int .i64 1125899906842624)))), []⟩, ⟨22, (some 27), none, (.q (.pick (.t 23) (.k (.bool true)) (.t 26))), []⟩]
@[simp] def l_RBCheck_5 (_ : Unit) : List EOp := ⟨12, (some 17), none, (.q (.pick (.t 13) (.k (.bool true)) (.t 16))), []⟩ :: ⟨13, (some 18), none, (.q (.mov (.t 17))), []⟩ :: ⟨14, (some 19), (some (18, false)), (.q (.fad 37 (.t 2))), []⟩ :: ⟨15, (some 20), (some (18, false)), (.q (.ldc (.t 19))), []⟩ :: ⟨16, (some 21), (some (18, false)), (.q (.bin .lss (.t 20) (.k (.int .i64 0)))), []⟩ :: ⟨17, (some 22), none, (.q (.pick (.t 18) (.k (.bool true)) (.t 21))), []⟩ :: hid l_RBCheck_6
@[simp] def l_RBCheck_4 (_ : Unit) : List EOp := ⟨6, (some 11), (some (8, false)), (.q (.bin .lss (.t 10) (.k (.int .i64 1)))), []⟩ :: ⟨7, (some 12), none, (.q (.pick (.t 8) (.k (.bool true)) (.t 11))), []⟩ :: ⟨8, (some 13), none, (.q (.mov (.t 12))), []⟩ :: ⟨9, (some 14), (some (13, false)), (.q (.fad 36 (.t 2))), []⟩ :: ⟨10, (some 15), (some (13, false)), (.q (.ldc (.t 14))), []⟩ :: ⟨11, (some 16), (some (13, false)), (.q (.bin .gtr (.t 15) (.k (.int .i64 65536)))), []⟩ :: hid l_RBCheck_5
@[simp] def l_RBCheck_3 (_ : Unit) : List EOp := ⟨0, (some 5), none, (.q (.lda 5 (.t 3))), []⟩ :: ⟨1, (some 6), none, (.call 51 [(.t 5)]), []⟩ :: ⟨2, (some 7), none, (.q (.bin .neq (.t 6) (.k (.int .i64 0)))), []⟩ :: ⟨3, (some 8), none, (.q (.mov (.t 7))), []⟩ :: ⟨4, (some 9), (some (8, false)), (.q (.fad 36 (.t 2))), []⟩ :: ⟨5, (some 10), (some (8, false)), (.q (.ldc (.t 9))), []⟩ :: hid l_RBCheck_4
@[simp] def b_RBCheck_7 (_ : Unit) : EB := reg0 (hid l_RBCheck_3) 23
@[simp] def l_RBCheck_8 (_ : Unit) : List EOp := [⟨0, (some 4), none, (.q (.mov (.k (.int .i64 1)))), []⟩]
@[simp] def b_RBCheck_9 (_ : Unit) : EB := reg0 (hid l_RBCheck_8) 1
@[simp] def b_RBCheck_10 (_ : Unit) : EB := .seq (hid b_RBCheck_9) .ret
@[simp] def b_RBCheck_11 (_ : Unit) : EB := .cond (.t 27) (hid b_RBCheck_10) .skip
@[simp] def b_RBCheck_12 (_ : Unit) : EB := .seq (hid b_RBCheck_7) (hid b_RBCheck_11)
@[simp] def l_RBCheck_16 (_ : Unit) : List EOp := [⟨18, (some 46), (some (40, false)), (.q (.ldc (.t 45))), []⟩, ⟨19, (some 47), (some (40, false)), (.q (.bin .eql (.t 43) (.t 46))), []⟩, ⟨20, (some 48), none, (.q (.pick (.t 40) (.k (.bool true)) (.t 47))), []⟩]
@[simp] def l_RBCheck_15 (_ : Unit) : List EOp := ⟨12, (some 40), none, (.q (.mov (.t 39))), []⟩ :: ⟨13, (some 41), (some (40, false)), (.q (.fad 34 (.t 2))), []⟩ :: ⟨14, (some 42), (some (40, false)), (.q (.iad 2 1 (.t 41) (.k (.int .i64 0)))), []⟩ :: ⟨15, (some 43), (some (40, false)), (.q (.ldc (.t 42))), []⟩ :: ⟨16, (some 44), (some (40, false)), (.q (.fad 34 (.t 2))), []⟩ :: ⟨17, (some 45), (some (40, false)), (.q (.iad 2 1 (.t 44) (.k (.int .i64 1)))), []⟩ :: hid l_RBCheck_16
@[simp] def l_RBCheck_14 (_ : Unit) : List EOp := ⟨6, (some 34), (some (33, false)), (.q (.fad 34 (.t 2))), []⟩ :: ⟨7, (some 35), (some (33, false)), (.q (.iad 2 1 (.t 34) (.k (.int .i64 1)))), []⟩ :: ⟨8, (some 36), (some (33, false)), (.q (.ldc (.t 35))), []⟩ :: ⟨9, (some 37), (some (33, false)), (.call 52 [(.t 36)]), []⟩ :: ⟨10, (some 38), (some (33, false)), (.q (.un .not (.t 37))), []⟩ :: ⟨11, (some 39), none, (.q (.pick (.t 33) (.k (.bool true)) (.t 38))), []⟩ :: hid l_RBCheck_15
@[simp] def l_RBCheck_13 (_ : Unit) : List EOp := ⟨0, (some 28), none, (.q (.fad 34 (.t 2))), []⟩ :: ⟨1, (some 29), none, (.q (.iad 2 1 (.t 28) (.k (.int .i64 0)))), []⟩ :: ⟨2, (some 30), none, (.q (.ldc (.t 29))), []⟩ :: ⟨3, (some 31), none, (.call 52 [(.t 30)]), []⟩ :: ⟨4, (some 32), none, (.q (.un .not (.t 31))), []⟩ :: ⟨5, (some 33), none, (.q (.mov (.t 32))), []⟩ :: hid l_RBCheck_14
@[simp] def b_RBCheck_17 (_ : Unit) : EB := reg0 (hid l_RBCheck_13) 21
@[simp] def l_RBCheck_18 (_ : Unit) : List EOp := [⟨0, (some 4), none, (.q (.mov (.k (.int .i64 33)))), []⟩]
@[simp] def b_RBCheck_19 (_ : Unit) : EB := reg0 (hid l_RBCheck_18) 1
@[simp] def b_RBCheck_20 (_ : Unit) : EB := .seq (hid b_RBCheck_19) .ret
@[simp] def b_RBCheck_21 (_ : Unit) : EB := .cond (.t 48) (hid b_RBCheck_20) .skip
@[simp] def b_RBCheck_22 (_ : Unit) : EB := .seq (hid b_RBCheck_17) (hid b_RBCheck_21)
@[simp] def l_RBCheck_23 (_ : Unit) : List EOp := [⟨0, (some 49), none, (.q (.lda 5 (.t 3))), []⟩, ⟨2, (some 51), none, (.q (.fad 33 (.t 2))), []⟩, ⟨3, (some 52), none, (.q (.ldc (.t 51))), []⟩, ⟨1, (some 50), none, (.call 53 [(.t 49)]), [2, 3]⟩, ⟨4, (some 53), none, (.q (.bin .neq (.t 50) (.t 52))), []⟩]
@[simp] def b_RBCheck_24 (_ : Unit) : EB := reg1 (hid l_RBCheck_23) 5
@[simp] def l_RBCheck_25 (_ : Unit) : List EOp := [⟨0, (some 4), none, (.q (.mov (.k (.int .i64 20)))), []⟩]
@[simp] def b_RBCheck_26 (_ : Unit) : EB := reg0 (hid l_RBCheck_25) 1
@[simp] def b_RBCheck_27 (_ : Unit) : EB := .seq (hid b_RBCheck_26) .ret
@[simp] def b_RBCheck_28 (_ : Unit) : EB := .cond (.t 53) (hid b_RBCheck_27) .skip
@[simp] def b_RBCheck_29 (_ : Unit) : EB := .seq (hid b_RBCheck_24) (hid b_RBCheck_28)
@[simp] def l_RBCheck_30 (_ : Unit) : List EOp := [⟨0, (some 54), none, (.q (.fad 37 (.t 2))), []⟩, ⟨1, (some 55), none, (.q (.ldc (.t 54))), []⟩, ⟨2, (some 56), none, (.q (.fad 1 (.t 3))), []⟩, ⟨3, (some 57), none, (.q (.iad 2 1 (.t 56) (.k (.int .i64 0)))), []⟩, ⟨4, (some 58), none, (.q (.ldc (.t 57))), []⟩, ⟨5, (some 59), none, (.q (.bin .gtr (.t 55) (.t 58))), []⟩]
@[simp] def b_RBCheck_31 (_ : Unit) : EB := reg0 (hid l_RBCheck_30) 6
@[simp] def l_RBCheck_32 (_ : Unit) : List EOp := [⟨0, (some 4), none, (.q (.mov (.k (.int .i64 26)))), []⟩]
@[simp] def b_RBCheck_33 (_ : Unit) : EB := reg0 (hid l_RBCheck_32) 1
@[simp] def b_RBCheck_34 (_ : Unit) : EB := .seq (hid b_RBCheck_33) .ret
@[simp] def b_RBCheck_35 (_ : Unit) : EB := .cond (.t 59) (hid b_RBCheck_34) .skip
@[simp] def b_RBCheck_36 (_ : Unit) : EB := .seq (hid b_RBCheck_31) (hid b_RBCheck_35)
@[simp] def l_RBCheck_37 (_ : Unit) : List EOp := [⟨0, (some 4), none, (.q (.mov (.k (.int .i64 0)))), []⟩]
@[simp] def b_RBCheck_38 (_ : Unit) : EB := reg0 (hid l_RBCheck_37) 1
@[simp] def b_RBCheck_39 (_ : Unit) : EB := .seq (hid b_RBCheck_38) .ret
@[simp] def b_RBCheck_40 (_ : Unit) : EB := .seq (hid b_RBCheck_36) (hid b_RBCheck_39)
@[simp] def b_RBCheck_41 (_ : Unit) : EB := .seq (hid b_RBCheck_29) (hid b_RBCheck_40)
@[simp] def b_RBCheck_42 (_ : Unit) : EB := .seq (hid b_RBCheck_22) (hid b_RBCheck_41)
@[simp] def b_RBCheck_43 (_ : Unit) : EB := .seq (hid b_RBCheck_12) (hid b_RBCheck_42)
@[simp] def b_RBCheck_44 (_ : Unit) : EB := .seq (hid b_RBCheck_2) (hid b_RBCheck_43)
def c_RBCheck : EB × List QOp × Nat := ((hid b_RBCheck_44), [(.mov (.t 4))], 60)
theorem k_RBCheck : cfun Tryz.prog 21 = some c_RBCheck := by kernel_rfl


theorem chk_t {s : Sta} (h : mayS s = true) : chkS s = 0 := by simp [chkS, h]
/-- Why a state can't stand on params. -/
def bldE (p : Prm) (s : Sta) : Nat :=
  if mayS s = false ∨ p.dl < 1 ∨ 65536 < p.dl ∨ p.fe < 0 ∨ 1125899906842624 < p.fe then 1
  else if ¬ (0 ≤ p.k0 ∧ p.k0 < 16) ∨ ¬ (0 ≤ p.k1 ∧ p.k1 < 16) ∨ p.k0 = p.k1 then 33
  else if totS s ≠ p.am then 20 else if s.h0 < p.fe then 26 else 0
@[simp] theorem errV_26b : Value.iface 120 (.int .i64 26) = errV 26 := rfl
@[simp] theorem errV_33b : Value.iface 120 (.int .i64 33) = errV 33 := rfl
@[simp] theorem errV_20b : Value.iface 120 (.int .i64 20) = errV 20 := rfl
@[simp] theorem errV_1b : Value.iface 120 (.int .i64 1) = errV 1 := rfl
theorem BParty_ok (n : Int) : ECalls Tryz.prog 50 [I .i64 n] [] fun y H' => H' = [] ∧ y = .lit (.bool (decide (0 ≤ n ∧ n < 16))) := by
  refine ecalls k_BParty ?_
  simp [c_BParty, I]
  by_cases c1 : 0 ≤ n
  · by_cases c2 : n < 16
    · simp [c1, c2]
      exact fin [] (by decide) rfl rfl rfl ⟨rfl, rfl⟩
    · simp [c1, c2]
      exact fin [] (by decide) rfl rfl rfl ⟨rfl, rfl⟩
  · simp [c1]
    exact fin [] (by decide) rfl rfl rfl ⟨rfl, rfl⟩
theorem RParty_ok (n : Int) : ECalls Tryz.prog 52 [I .i64 n] [] fun y H' => H' = [] ∧ y = .lit (.bool (decide (0 ≤ n ∧ n < 16))) := by
  refine ecalls k_RParty ?_
  simp [c_RParty, I]
  by_cases c1 : 0 ≤ n
  · by_cases c2 : n < 16
    · simp [c1, c2]
      exact fin [] (by decide) rfl rfl rfl ⟨rfl, rfl⟩
    · simp [c1, c2]
      exact fin [] (by decide) rfl rfl rfl ⟨rfl, rfl⟩
  · simp [c1]
    exact fin [] (by decide) rfl rfl rfl ⟨rfl, rfl⟩
theorem BSide_ok (n : Int) : ECalls Tryz.prog 43 [I .i64 n] [] fun y H' => H' = [] ∧ y = .lit (.bool (decide (n = 0 ∨ n = 1))) := by
  refine ecalls k_BSide ?_
  simp [c_BSide, I]
  by_cases c1 : n = 0
  · simp [c1]
    exact fin [] (by decide) rfl rfl rfl ⟨rfl, rfl⟩
  · simp [c1]
    exact fin [] (by decide) rfl rfl rfl ⟨rfl, rfl⟩

set_option maxHeartbeats 8000000 in
theorem BCheck_ok (p : Prm) (s : Sta) (hp : p.ok) (hs : s.ok) : ECalls Tryz.prog 20 [PVv p, SV s] [] fun y H' => H' = [] ∧ y = .lit (errV (bldE p s)) := by
  have h1 := hp.1
  have lp := prmC_len h1
  have tp := pm_take h1
  have e33 := idx_of (pm_at h1 1) (by omega)
  have e34 := idx_of (pm_at h1 2) (by omega)
  have e35 := idx_of (pm_at h1 3) (by omega)
  have e36 := idx_of (pm_at h1 4) (by omega)
  have e37 := idx_of (pm_at h1 5) (by omega)
  refine ecalls k_BCheck ?_
  simp [c_BCheck, PVv, SV, staC, I, iC, lp, tp, e33, e34, e35, e36, e37, w_0, w_1, -errV_0]
  refine call0 (SCheck_ok s hs) (by simp [PVv, SV, staC, I, iC, lp, tp, e33, e34, e35, e36, e37, w_0, w_1, -errV_0]) ?_
  rintro y H' ⟨rfl, rfl⟩
  refine ⟨.inl (by simp [I]), le_ok rfl, ?_⟩
  cases hm : mayS s
  · rw [show bldE p s = 1 from if_pos (.inl hm)]
    simp [hm, PVv, SV, staC, I, iC, lp, tp, e33, e34, e35, e36, e37, w_0, w_1, -errV_0]
    exact fin [] (by decide) rfl rfl rfl ⟨rfl, rfl⟩
  simp [hm, PVv, SV, staC, I, iC, lp, tp, e33, e34, e35, e36, e37, w_0, w_1, -errV_0]
  by_cases c1 : p.dl < 1
  · have d1 : ¬ 1 ≤ p.dl := by omega
    rw [show bldE p s = 1 from if_pos (.inr (.inl c1))]
    simp [c1, d1, PVv, SV, staC, I, iC, lp, tp, e33, e34, e35, e36, e37, w_0, w_1, -errV_0]
    exact fin [] (by decide) rfl rfl rfl ⟨rfl, rfl⟩
  have d1 : 1 ≤ p.dl := by omega
  by_cases c2 : 65536 < p.dl
  · have d2 : ¬ p.dl ≤ 65536 := by omega
    rw [show bldE p s = 1 from if_pos (.inr (.inr (.inl c2)))]
    simp [c1, d1, c2, d2, PVv, SV, staC, I, iC, lp, tp, e33, e34, e35, e36, e37, w_0, w_1, -errV_0]
    exact fin [] (by decide) rfl rfl rfl ⟨rfl, rfl⟩
  have d2 : p.dl ≤ 65536 := by omega
  by_cases c3 : p.fe < 0
  · have d3 : ¬ 0 ≤ p.fe := by omega
    rw [show bldE p s = 1 from if_pos (.inr (.inr (.inr (.inl c3))))]
    simp [c1, d1, c2, d2, c3, d3, PVv, SV, staC, I, iC, lp, tp, e33, e34, e35, e36, e37, w_0, w_1, -errV_0]
    exact fin [] (by decide) rfl rfl rfl ⟨rfl, rfl⟩
  have d3 : 0 ≤ p.fe := by omega
  by_cases c4 : 1125899906842624 < p.fe
  · have d4 : ¬ p.fe ≤ 1125899906842624 := by omega
    rw [show bldE p s = 1 from if_pos (.inr (.inr (.inr (.inr c4))))]
    simp [c1, d1, c2, d2, c3, d3, c4, d4, PVv, SV, staC, I, iC, lp, tp, e33, e34, e35, e36, e37, w_0, w_1, -errV_0]
    exact fin [] (by decide) rfl rfl rfl ⟨rfl, rfl⟩
  have d4 : p.fe ≤ 1125899906842624 := by omega
  have n1 : ¬ (mayS s = false ∨ p.dl < 1 ∨ 65536 < p.dl ∨ p.fe < 0 ∨ 1125899906842624 < p.fe) := by
    rintro (h | h | h | h | h)
    · rw [hm] at h; simp at h
    · exact c1 h
    · exact c2 h
    · exact c3 h
    · exact c4 h
  simp [c1, d1, c2, d2, c3, d3, c4, d4, PVv, SV, staC, I, iC, lp, tp, e33, e34, e35, e36, e37, w_0, w_1, -errV_0]
  refine call0 (BParty_ok p.k0) (by simp [PVv, SV, staC, I, iC, lp, tp, e33, e34, e35, e36, e37, w_0, w_1, -errV_0]) ?_
  rintro y H' ⟨rfl, rfl⟩
  refine ⟨.inl (by simp), le_ok rfl, ?_⟩
  cases c5 : decide (0 ≤ p.k0 ∧ p.k0 < 16)
  · have c5 := of_decide_eq_false c5
    rw [show bldE p s = 33 by unfold bldE; rw [if_neg n1, if_pos (.inl c5)]]
    simp [PVv, SV, staC, I, iC, lp, tp, e33, e34, e35, e36, e37, w_0, w_1, -errV_0]
    exact fin [] (by decide) rfl rfl rfl ⟨rfl, rfl⟩
  have c5 := of_decide_eq_true c5
  simp [PVv, SV, staC, I, iC, lp, tp, e33, e34, e35, e36, e37, w_0, w_1, -errV_0]
  refine call0 (BParty_ok p.k1) (by simp [PVv, SV, staC, I, iC, lp, tp, e33, e34, e35, e36, e37, w_0, w_1, -errV_0]) ?_
  rintro y H' ⟨rfl, rfl⟩
  refine ⟨.inl (by simp), le_ok rfl, ?_⟩
  cases c6 : decide (0 ≤ p.k1 ∧ p.k1 < 16)
  · have c6 := of_decide_eq_false c6
    rw [show bldE p s = 33 by unfold bldE; rw [if_neg n1, if_pos (.inr (.inl c6))]]
    simp [PVv, SV, staC, I, iC, lp, tp, e33, e34, e35, e36, e37, w_0, w_1, -errV_0]
    exact fin [] (by decide) rfl rfl rfl ⟨rfl, rfl⟩
  have c6 := of_decide_eq_true c6
  simp [PVv, SV, staC, I, iC, lp, tp, e33, e34, e35, e36, e37, w_0, w_1, -errV_0]
  by_cases c7 : p.k0 = p.k1
  · rw [show bldE p s = 33 by unfold bldE; rw [if_neg n1, if_pos (.inr (.inr c7))]]
    simp [c7, PVv, SV, staC, I, iC, lp, tp, e33, e34, e35, e36, e37, w_0, w_1, -errV_0]
    exact fin [] (by decide) rfl rfl rfl ⟨rfl, rfl⟩
  have n2 : ¬ (¬ (0 ≤ p.k0 ∧ p.k0 < 16) ∨ ¬ (0 ≤ p.k1 ∧ p.k1 < 16) ∨ p.k0 = p.k1) := by
    rintro (h | h | h)
    · exact h c5
    · exact h c6
    · exact c7 h
  simp [c7, PVv, SV, staC, I, iC, lp, tp, e33, e34, e35, e36, e37, w_0, w_1, -errV_0]
  refine call0 (Total_ok s hs) (by simp [PVv, SV, staC, I, iC, lp, tp, e33, e34, e35, e36, e37, w_0, w_1, -errV_0]) ?_
  rintro y H' ⟨rfl, rfl⟩
  refine ⟨.inl (by simp [I]), le_ok rfl, ?_⟩
  by_cases c8 : totS s = p.am
  rotate_left
  · rw [show bldE p s = 20 by unfold bldE; rw [if_neg n1, if_neg n2, if_pos c8]]
    simp [c8, PVv, SV, staC, I, iC, lp, tp, e33, e34, e35, e36, e37, w_0, w_1, -errV_0]
    exact fin [] (by decide) rfl rfl rfl ⟨rfl, rfl⟩
  simp [c8, PVv, SV, staC, I, iC, lp, tp, e33, e34, e35, e36, e37, w_0, w_1, -errV_0]
  by_cases c9 : s.h0 < p.fe
  · have d9 : ¬ p.fe ≤ s.h0 := by omega
    rw [show bldE p s = 26 by unfold bldE; rw [if_neg n1, if_neg n2, if_neg (by simpa using c8), if_pos c9]]
    simp [c9, d9, PVv, SV, staC, I, iC, lp, tp, e33, e34, e35, e36, e37, w_0, w_1, -errV_0]
    exact fin [] (by decide) rfl rfl rfl ⟨rfl, rfl⟩
  have d9 : p.fe ≤ s.h0 := by omega
  rw [show bldE p s = 0 by unfold bldE; rw [if_neg n1, if_neg n2, if_neg (by simpa using c8), if_neg c9]]
  simp [c9, d9, PVv, SV, staC, I, iC, lp, tp, e33, e34, e35, e36, e37, w_0, w_1, -errV_0]
  exact fin [] (by decide) rfl rfl rfl ⟨rfl, rfl⟩

set_option maxHeartbeats 8000000 in
theorem RBCheck_ok (p : Prm) (s : Sta) (hp : p.ok) (hs : s.ok) : ECalls Tryz.prog 21 [PVv p, SV s] [] fun y H' => H' = [] ∧ y = I .i64 (bldE p s) := by
  have h1 := hp.1
  have lp := prmC_len h1
  have tp := pm_take h1
  have e33 := idx_of (pm_at h1 1) (by omega)
  have e34 := idx_of (pm_at h1 2) (by omega)
  have e35 := idx_of (pm_at h1 3) (by omega)
  have e36 := idx_of (pm_at h1 4) (by omega)
  have e37 := idx_of (pm_at h1 5) (by omega)
  refine ecalls k_RBCheck ?_
  simp [c_RBCheck, PVv, SV, staC, I, iC, lp, tp, e33, e34, e35, e36, e37, w_0, w_1, -errV_0]
  refine call0 (RCheck_ok s hs) (by simp [PVv, SV, staC, I, iC, lp, tp, e33, e34, e35, e36, e37, w_0, w_1, -errV_0]) ?_
  rintro y H' ⟨rfl, rfl⟩
  refine ⟨.inl (by simp [I]), le_ok rfl, ?_⟩
  cases hm : mayS s
  · rw [show bldE p s = 1 from if_pos (.inl hm)]
    simp [chk_f hm, PVv, SV, staC, I, iC, lp, tp, e33, e34, e35, e36, e37, w_0, w_1, -errV_0]
    exact fin [] (by decide) rfl rfl rfl ⟨rfl, rfl⟩
  simp [chk_t hm, PVv, SV, staC, I, iC, lp, tp, e33, e34, e35, e36, e37, w_0, w_1, -errV_0]
  by_cases c1 : p.dl < 1
  · have d1 : ¬ 1 ≤ p.dl := by omega
    rw [show bldE p s = 1 from if_pos (.inr (.inl c1))]
    simp [c1, d1, PVv, SV, staC, I, iC, lp, tp, e33, e34, e35, e36, e37, w_0, w_1, -errV_0]
    exact fin [] (by decide) rfl rfl rfl ⟨rfl, rfl⟩
  have d1 : 1 ≤ p.dl := by omega
  by_cases c2 : 65536 < p.dl
  · have d2 : ¬ p.dl ≤ 65536 := by omega
    rw [show bldE p s = 1 from if_pos (.inr (.inr (.inl c2)))]
    simp [c1, d1, c2, d2, PVv, SV, staC, I, iC, lp, tp, e33, e34, e35, e36, e37, w_0, w_1, -errV_0]
    exact fin [] (by decide) rfl rfl rfl ⟨rfl, rfl⟩
  have d2 : p.dl ≤ 65536 := by omega
  by_cases c3 : p.fe < 0
  · have d3 : ¬ 0 ≤ p.fe := by omega
    rw [show bldE p s = 1 from if_pos (.inr (.inr (.inr (.inl c3))))]
    simp [c1, d1, c2, d2, c3, d3, PVv, SV, staC, I, iC, lp, tp, e33, e34, e35, e36, e37, w_0, w_1, -errV_0]
    exact fin [] (by decide) rfl rfl rfl ⟨rfl, rfl⟩
  have d3 : 0 ≤ p.fe := by omega
  by_cases c4 : 1125899906842624 < p.fe
  · have d4 : ¬ p.fe ≤ 1125899906842624 := by omega
    rw [show bldE p s = 1 from if_pos (.inr (.inr (.inr (.inr c4))))]
    simp [c1, d1, c2, d2, c3, d3, c4, d4, PVv, SV, staC, I, iC, lp, tp, e33, e34, e35, e36, e37, w_0, w_1, -errV_0]
    exact fin [] (by decide) rfl rfl rfl ⟨rfl, rfl⟩
  have d4 : p.fe ≤ 1125899906842624 := by omega
  have n1 : ¬ (mayS s = false ∨ p.dl < 1 ∨ 65536 < p.dl ∨ p.fe < 0 ∨ 1125899906842624 < p.fe) := by
    rintro (h | h | h | h | h)
    · rw [hm] at h; simp at h
    · exact c1 h
    · exact c2 h
    · exact c3 h
    · exact c4 h
  simp [c1, d1, c2, d2, c3, d3, c4, d4, PVv, SV, staC, I, iC, lp, tp, e33, e34, e35, e36, e37, w_0, w_1, -errV_0]
  refine call0 (RParty_ok p.k0) (by simp [PVv, SV, staC, I, iC, lp, tp, e33, e34, e35, e36, e37, w_0, w_1, -errV_0]) ?_
  rintro y H' ⟨rfl, rfl⟩
  refine ⟨.inl (by simp), le_ok rfl, ?_⟩
  cases c5 : decide (0 ≤ p.k0 ∧ p.k0 < 16)
  · have c5 := of_decide_eq_false c5
    rw [show bldE p s = 33 by unfold bldE; rw [if_neg n1, if_pos (.inl c5)]]
    simp [PVv, SV, staC, I, iC, lp, tp, e33, e34, e35, e36, e37, w_0, w_1, -errV_0]
    exact fin [] (by decide) rfl rfl rfl ⟨rfl, rfl⟩
  have c5 := of_decide_eq_true c5
  simp [PVv, SV, staC, I, iC, lp, tp, e33, e34, e35, e36, e37, w_0, w_1, -errV_0]
  refine call0 (RParty_ok p.k1) (by simp [PVv, SV, staC, I, iC, lp, tp, e33, e34, e35, e36, e37, w_0, w_1, -errV_0]) ?_
  rintro y H' ⟨rfl, rfl⟩
  refine ⟨.inl (by simp), le_ok rfl, ?_⟩
  cases c6 : decide (0 ≤ p.k1 ∧ p.k1 < 16)
  · have c6 := of_decide_eq_false c6
    rw [show bldE p s = 33 by unfold bldE; rw [if_neg n1, if_pos (.inr (.inl c6))]]
    simp [PVv, SV, staC, I, iC, lp, tp, e33, e34, e35, e36, e37, w_0, w_1, -errV_0]
    exact fin [] (by decide) rfl rfl rfl ⟨rfl, rfl⟩
  have c6 := of_decide_eq_true c6
  simp [PVv, SV, staC, I, iC, lp, tp, e33, e34, e35, e36, e37, w_0, w_1, -errV_0]
  by_cases c7 : p.k0 = p.k1
  · rw [show bldE p s = 33 by unfold bldE; rw [if_neg n1, if_pos (.inr (.inr c7))]]
    simp [c7, PVv, SV, staC, I, iC, lp, tp, e33, e34, e35, e36, e37, w_0, w_1, -errV_0]
    exact fin [] (by decide) rfl rfl rfl ⟨rfl, rfl⟩
  have n2 : ¬ (¬ (0 ≤ p.k0 ∧ p.k0 < 16) ∨ ¬ (0 ≤ p.k1 ∧ p.k1 < 16) ∨ p.k0 = p.k1) := by
    rintro (h | h | h)
    · exact h c5
    · exact h c6
    · exact c7 h
  simp [c7, PVv, SV, staC, I, iC, lp, tp, e33, e34, e35, e36, e37, w_0, w_1, -errV_0]
  refine call0 (RTotal_ok s hs) (by simp [PVv, SV, staC, I, iC, lp, tp, e33, e34, e35, e36, e37, w_0, w_1, -errV_0]) ?_
  rintro y H' ⟨rfl, rfl⟩
  refine ⟨.inl (by simp [I]), le_ok rfl, ?_⟩
  by_cases c8 : totS s = p.am
  rotate_left
  · rw [show bldE p s = 20 by unfold bldE; rw [if_neg n1, if_neg n2, if_pos c8]]
    simp [c8, PVv, SV, staC, I, iC, lp, tp, e33, e34, e35, e36, e37, w_0, w_1, -errV_0]
    exact fin [] (by decide) rfl rfl rfl ⟨rfl, rfl⟩
  simp [c8, PVv, SV, staC, I, iC, lp, tp, e33, e34, e35, e36, e37, w_0, w_1, -errV_0]
  by_cases c9 : s.h0 < p.fe
  · have d9 : ¬ p.fe ≤ s.h0 := by omega
    rw [show bldE p s = 26 by unfold bldE; rw [if_neg n1, if_neg n2, if_neg (by simpa using c8), if_pos c9]]
    simp [c9, d9, PVv, SV, staC, I, iC, lp, tp, e33, e34, e35, e36, e37, w_0, w_1, -errV_0]
    exact fin [] (by decide) rfl rfl rfl ⟨rfl, rfl⟩
  have d9 : p.fe ≤ s.h0 := by omega
  rw [show bldE p s = 0 by unfold bldE; rw [if_neg n1, if_neg n2, if_neg (by simpa using c8), if_neg c9]]
  simp [c9, d9, PVv, SV, staC, I, iC, lp, tp, e33, e34, e35, e36, e37, w_0, w_1, -errV_0]
  exact fin [] (by decide) rfl rfl rfl ⟨rfl, rfl⟩

end Go.Proofs.YtflcfdeanneoeaaGreatDoor

namespace Go.Proofs.YtflcfdeanneoeaaGreatDoor
open Go Go.EW
set_option linter.unusedSimpArgs false
set_option linter.unusedVariables false

@[simp] def l_BDone_1 (_ : Unit) : List EOp := [⟨0, (some 1), none, (.q (.box 63 (.t 0))), []⟩, ⟨1, (some 2), none, (.q (.alloc 63 [(.int .i64 0), (.slice none 0 0), (.slice none 0 0)])), []⟩, ⟨2, (some 3), none, (.q (.mov (.k .nilIface))), []⟩]
@[simp] def b_BDone_2 (_ : Unit) : EB := reg0 (hid l_BDone_1) 3
@[simp] def l_BDone_3 (_ : Unit) : List EOp := [⟨0, (some 5), none, (.q (.lda 3 (.t 1))), []⟩, ⟨1, (some 6), none, (.call 79 [(.t 5)]), []⟩, ⟨2, (some 4), none, (.q (.mov (.t 6))), []⟩]
@[simp] def b_BDone_4 (_ : Unit) : EB := reg0 (hid l_BDone_3) 3
@[simp] def l_BDone_5 (_ : Unit) : List EOp := [⟨0, (some 7), none, (.q (.mov (.t 4))), []⟩, ⟨1, (some 8), none, (.q (.eqi true (.t 7))), []⟩]
@[simp] def b_BDone_6 (_ : Unit) : EB := reg0 (hid l_BDone_5) 2
@[simp] def l_BDone_7 (_ : Unit) : List EOp := [⟨0, (some 9), none, (.q (.build [(.int .i64 0), (.slice none 0 0), (.slice none 0 0)] [])), []⟩, ⟨1, (some 10), none, (.q (.mov (.t 4))), []⟩, ⟨2, none, none, (.fz (.sto 3 (.t 2) (.t 9))), []⟩, ⟨3, (some 3), none, (.q (.mov (.t 10))), []⟩]
@[simp] def b_BDone_8 (_ : Unit) : EB := reg0 (hid l_BDone_7) 4
@[simp] def b_BDone_9 (_ : Unit) : EB := .seq (hid b_BDone_8) .ret
@[simp] def b_BDone_10 (_ : Unit) : EB := .cond (.t 8) (hid b_BDone_9) .skip
@[simp] def b_BDone_11 (_ : Unit) : EB := .seq (hid b_BDone_6) (hid b_BDone_10)
@[simp] def b_BDone_12 (_ : Unit) : EB := .seq (hid b_BDone_4) (hid b_BDone_11)
@[simp] def l_BDone_13 (_ : Unit) : List EOp := [⟨0, (some 11), none, (.q (.lda 3 (.t 1))), []⟩, ⟨1, none, none, (.fz (.sto 3 (.t 2) (.t 11))), []⟩, ⟨2, (some 3), none, (.q (.mov (.k .nilIface))), []⟩]
@[simp] def b_BDone_14 (_ : Unit) : EB := reg0 (hid l_BDone_13) 3
@[simp] def b_BDone_15 (_ : Unit) : EB := .seq (hid b_BDone_14) .ret
@[simp] def b_BDone_16 (_ : Unit) : EB := .seq (hid b_BDone_12) (hid b_BDone_15)
@[simp] def b_BDone_17 (_ : Unit) : EB := .seq (hid b_BDone_2) (hid b_BDone_16)
def c_BDone : EB × List QOp × Nat := ((hid b_BDone_17), [(.lda 3 (.t 2)), (.mov (.t 3))], 12)
theorem k_BDone : cfun Tryz.prog 47 = some c_BDone := by kernel_rfl

@[simp] def l_BPlaces_1 (_ : Unit) : List EOp := [⟨0, (some 3), none, (.q (.box 42 (.t 0))), []⟩, ⟨1, (some 4), none, (.q (.box 47 (.t 1))), []⟩, ⟨2, (some 6), none, (.q (.mov (.k (.slice none 0 0)))), []⟩, ⟨3, (some 7), none, (.q (.mov (.k .nilIface))), []⟩]
@[simp] def b_BPlaces_2 (_ : Unit) : EB := reg0 (hid l_BPlaces_1) 4
@[simp] def l_BPlaces_3 (_ : Unit) : List EOp := [⟨0, (some 11), none, (.q (.lda 38 (.t 3))), []⟩, ⟨1, (some 12), none, (.q (.lda 5 (.t 4))), []⟩, ⟨2, (some 13), none, (.call 20 [(.t 11), (.t 12)]), []⟩, ⟨3, (some 8), none, (.q (.mov (.t 13))), []⟩]
@[simp] def b_BPlaces_4 (_ : Unit) : EB := reg0 (hid l_BPlaces_3) 4
@[simp] def l_BPlaces_5 (_ : Unit) : List EOp := [⟨0, (some 14), none, (.q (.mov (.t 8))), []⟩, ⟨1, (some 15), none, (.q (.eqi true (.t 14))), []⟩]
@[simp] def b_BPlaces_6 (_ : Unit) : EB := reg0 (hid l_BPlaces_5) 2
@[simp] def l_BPlaces_7 (_ : Unit) : List EOp := [⟨0, (some 16), none, (.q (.mov (.t 8))), []⟩, ⟨1, (some 6), none, (.q (.mov (.k (.slice none 0 0)))), []⟩, ⟨2, (some 7), none, (.q (.mov (.t 16))), []⟩]
@[simp] def b_BPlaces_8 (_ : Unit) : EB := reg0 (hid l_BPlaces_7) 3
@[simp] def b_BPlaces_9 (_ : Unit) : EB := .seq (hid b_BPlaces_8) .ret
@[simp] def b_BPlaces_10 (_ : Unit) : EB := .cond (.t 15) (hid b_BPlaces_9) .skip
@[simp] def b_BPlaces_11 (_ : Unit) : EB := .seq (hid b_BPlaces_6) (hid b_BPlaces_10)
@[simp] def b_BPlaces_12 (_ : Unit) : EB := .seq (hid b_BPlaces_4) (hid b_BPlaces_11)
@[simp] def l_BPlaces_13 (_ : Unit) : List EOp := [⟨0, (some 17), none, (.q (.mov (.t 2))), []⟩, ⟨1, (some 18), none, (.call 43 [(.t 17)]), []⟩, ⟨2, (some 19), none, (.q (.un .not (.t 18))), []⟩]
@[simp] def b_BPlaces_14 (_ : Unit) : EB := reg0 (hid l_BPlaces_13) 3
@[simp] def l_BPlaces_15 (_ : Unit) : List EOp := [⟨0, (some 20), none, (.q (.mki 120 (.k (.int .i64 1)))), []⟩, ⟨1, (some 6), none, (.q (.mov (.k (.slice none 0 0)))), []⟩, ⟨2, (some 7), none, (.q (.mov (.t 20))), []⟩]
@[simp] def b_BPlaces_16 (_ : Unit) : EB := reg0 (hid l_BPlaces_15) 3
@[simp] def b_BPlaces_17 (_ : Unit) : EB := .seq (hid b_BPlaces_16) .ret
@[simp] def b_BPlaces_18 (_ : Unit) : EB := .cond (.t 19) (hid b_BPlaces_17) .skip
@[simp] def b_BPlaces_19 (_ : Unit) : EB := .seq (hid b_BPlaces_14) (hid b_BPlaces_18)
@[simp] def l_BPlaces_21 (_ : Unit) : List EOp := [⟨6, (some 21), none, (.q (.mov (.t 27))), []⟩, ⟨7, (some 28), none, (.q (.ext 0 (.t 21))), []⟩, ⟨8, (some 29), none, (.q (.ext 1 (.t 21))), []⟩, ⟨9, (some 9), none, (.q (.mov (.t 28))), []⟩, ⟨10, (some 10), none, (.q (.mov (.t 29))), []⟩]
@[simp] def l_BPlaces_20 (_ : Unit) : List EOp := ⟨0, (some 22), none, (.q (.lda 38 (.t 3))), []⟩ :: ⟨1, (some 23), none, (.q (.lda 5 (.t 4))), []⟩ :: ⟨2, (some 24), none, (.q (.mov (.t 2))), []⟩ :: ⟨3, (some 25), none, (.q (.build zU8 [])), []⟩ :: ⟨4, (some 26), none, (.q (.build (zU8 ++ (([(.int .i64 0), (.int .i64 0), (.int .i64 0), (.int .i64 0), (.int .i64 0), (.int .i64 0), (.int .i64 0), (.int .i64 0), (.int .i64 0), (.slice none 0 0), (.slice none 0 0), (.int .i64 0)] : List Value) ++ zU8)) [(0, 38, (.t 22)), (38, 5, (.t 23)), (43, 1, (.t 24)), (44, 32, (.t 25))])), []⟩ :: ⟨5, (some 27), none, (.call 44 [(.t 26)]), []⟩ :: hid l_BPlaces_21
@[simp] def b_BPlaces_22 (_ : Unit) : EB := reg0 (hid l_BPlaces_20) 11
@[simp] def l_BPlaces_23 (_ : Unit) : List EOp := [⟨0, (some 30), none, (.q (.mov (.t 10))), []⟩, ⟨1, (some 6), none, (.q (.mov (.t 30))), []⟩, ⟨2, (some 7), none, (.q (.mov (.k .nilIface))), []⟩]
@[simp] def b_BPlaces_24 (_ : Unit) : EB := reg0 (hid l_BPlaces_23) 3
@[simp] def b_BPlaces_25 (_ : Unit) : EB := .seq (hid b_BPlaces_24) .ret
@[simp] def b_BPlaces_26 (_ : Unit) : EB := .seq (hid b_BPlaces_22) (hid b_BPlaces_25)
@[simp] def b_BPlaces_27 (_ : Unit) : EB := .seq (hid b_BPlaces_19) (hid b_BPlaces_26)
@[simp] def b_BPlaces_28 (_ : Unit) : EB := .seq (hid b_BPlaces_12) (hid b_BPlaces_27)
@[simp] def b_BPlaces_29 (_ : Unit) : EB := .seq (hid b_BPlaces_2) (hid b_BPlaces_28)
def c_BPlaces : EB × List QOp × Nat := ((hid b_BPlaces_29), [(.mov (.t 6)), (.mov (.t 7))], 31)
theorem k_BPlaces : cfun Tryz.prog 13 = some c_BPlaces := by kernel_rfl

@[simp] def l_BCommit_1 (_ : Unit) : List EOp := [⟨0, (some 4), none, (.q (.box 42 (.t 0))), []⟩, ⟨1, (some 5), none, (.q (.box 47 (.t 1))), []⟩, ⟨2, (some 7), none, (.q (.box 23 (.t 3))), []⟩, ⟨3, (some 8), none, (.q (.alloc 63 [(.int .i64 0), (.slice none 0 0), (.slice none 0 0)])), []⟩, ⟨4, (some 9), none, (.q (.mov (.k .nilIface))), []⟩]
@[simp] def b_BCommit_2 (_ : Unit) : EB := reg0 (hid l_BCommit_1) 5
@[simp] def l_BCommit_3 (_ : Unit) : List EOp := [⟨0, (some 13), none, (.q (.lda 38 (.t 4))), []⟩, ⟨1, (some 14), none, (.q (.lda 5 (.t 5))), []⟩, ⟨2, (some 15), none, (.call 20 [(.t 13), (.t 14)]), []⟩, ⟨3, (some 10), none, (.q (.mov (.t 15))), []⟩]
@[simp] def b_BCommit_4 (_ : Unit) : EB := reg0 (hid l_BCommit_3) 4
@[simp] def l_BCommit_5 (_ : Unit) : List EOp := [⟨0, (some 16), none, (.q (.mov (.t 10))), []⟩, ⟨1, (some 17), none, (.q (.eqi true (.t 16))), []⟩]
@[simp] def b_BCommit_6 (_ : Unit) : EB := reg0 (hid l_BCommit_5) 2
@[simp] def l_BCommit_7 (_ : Unit) : List EOp := [⟨0, (some 18), none, (.q (.build [(.int .i64 0), (.slice none 0 0), (.slice none 0 0)] [])), []⟩, ⟨1, (some 19), none, (.q (.mov (.t 10))), []⟩, ⟨2, none, none, (.fz (.sto 3 (.t 8) (.t 18))), []⟩, ⟨3, (some 9), none, (.q (.mov (.t 19))), []⟩]
@[simp] def b_BCommit_8 (_ : Unit) : EB := reg0 (hid l_BCommit_7) 4
@[simp] def b_BCommit_9 (_ : Unit) : EB := .seq (hid b_BCommit_8) .ret
@[simp] def b_BCommit_10 (_ : Unit) : EB := .cond (.t 17) (hid b_BCommit_9) .skip
@[simp] def b_BCommit_11 (_ : Unit) : EB := .seq (hid b_BCommit_6) (hid b_BCommit_10)
@[simp] def b_BCommit_12 (_ : Unit) : EB := .seq (hid b_BCommit_4) (hid b_BCommit_11)
@[simp] def l_BCommit_14 (_ : Unit) : List EOp := [⟨6, (some 26), (some (23, false)), (.q (.eqa false 32 .u8 (.t 24) (.t 25))), []⟩, ⟨7, (some 27), none, (.q (.pick (.t 23) (.k (.bool true)) (.t 26))), []⟩]
@[simp] def l_BCommit_13 (_ : Unit) : List EOp := ⟨0, (some 20), none, (.q (.mov (.t 2))), []⟩ :: ⟨1, (some 21), none, (.call 43 [(.t 20)]), []⟩ :: ⟨2, (some 22), none, (.q (.un .not (.t 21))), []⟩ :: ⟨3, (some 23), none, (.q (.mov (.t 22))), []⟩ :: ⟨4, (some 24), (some (23, false)), (.q (.lda 32 (.t 7))), []⟩ :: ⟨5, (some 25), (some (23, false)), (.q (.build zU8 [])), []⟩ :: hid l_BCommit_14
@[simp] def b_BCommit_15 (_ : Unit) : EB := reg0 (hid l_BCommit_13) 8
@[simp] def l_BCommit_16 (_ : Unit) : List EOp := [⟨0, (some 28), none, (.q (.build [(.int .i64 0), (.slice none 0 0), (.slice none 0 0)] [])), []⟩, ⟨1, (some 29), none, (.q (.mki 120 (.k (.int .i64 1)))), []⟩, ⟨2, none, none, (.fz (.sto 3 (.t 8) (.t 28))), []⟩, ⟨3, (some 9), none, (.q (.mov (.t 29))), []⟩]
@[simp] def b_BCommit_17 (_ : Unit) : EB := reg0 (hid l_BCommit_16) 4
@[simp] def b_BCommit_18 (_ : Unit) : EB := .seq (hid b_BCommit_17) .ret
@[simp] def b_BCommit_19 (_ : Unit) : EB := .cond (.t 27) (hid b_BCommit_18) .skip
@[simp] def b_BCommit_20 (_ : Unit) : EB := .seq (hid b_BCommit_15) (hid b_BCommit_19)
@[simp] def l_BCommit_22 (_ : Unit) : List EOp := [⟨6, (some 30), none, (.q (.mov (.t 36))), []⟩, ⟨7, (some 37), none, (.q (.ext 0 (.t 30))), []⟩, ⟨8, (some 38), none, (.q (.ext 1 (.t 30))), []⟩, ⟨9, (some 11), none, (.q (.mov (.t 37))), []⟩, ⟨10, (some 12), none, (.q (.mov (.t 38))), []⟩]
@[simp] def l_BCommit_21 (_ : Unit) : List EOp := ⟨0, (some 31), none, (.q (.lda 38 (.t 4))), []⟩ :: ⟨1, (some 32), none, (.q (.lda 5 (.t 5))), []⟩ :: ⟨2, (some 33), none, (.q (.mov (.t 2))), []⟩ :: ⟨3, (some 34), none, (.q (.lda 32 (.t 7))), []⟩ :: ⟨4, (some 35), none, (.q (.build (zU8 ++ (([(.int .i64 0), (.int .i64 0), (.int .i64 0), (.int .i64 0), (.int .i64 0), (.int .i64 0), (.int .i64 0), (.int .i64 0), (.int .i64 0), (.slice none 0 0), (.slice none 0 0), (.int .i64 0)] : List Value) ++ zU8)) [(0, 38, (.t 31)), (38, 5, (.t 32)), (43, 1, (.t 33)), (44, 32, (.t 34))])), []⟩ :: ⟨5, (some 36), none, (.call 44 [(.t 35)]), []⟩ :: hid l_BCommit_22
@[simp] def b_BCommit_23 (_ : Unit) : EB := reg0 (hid l_BCommit_21) 11
@[simp] def l_BCommit_25 (_ : Unit) : List EOp := [⟨6, (some 45), none, (.call 47 [(.t 44)]), []⟩, ⟨7, (some 46), none, (.q (.ext 0 (.t 45))), []⟩, ⟨8, (some 47), none, (.q (.ext 1 (.t 45))), []⟩, ⟨9, none, none, (.fz (.sto 3 (.t 8) (.t 46))), []⟩, ⟨10, (some 9), none, (.q (.mov (.t 47))), []⟩]
@[simp] def l_BCommit_24 (_ : Unit) : List EOp := ⟨0, (some 39), none, (.q (.fad 0 (.t 4))), []⟩ :: ⟨1, (some 40), none, (.q (.lda 33 (.t 39))), []⟩ :: ⟨2, (some 41), none, (.q (.build (zU8 ++ [(.int .i64 0), (.int .i64 0), (.slice none 0 0)]) [(0, 33, (.t 40))])), []⟩ :: ⟨3, (some 42), none, (.fz (.q (.bsl 35 (zU8 ++ [(.int .i64 0), (.int .i64 0), (.slice none 0 0)]) 1 [(0, (.t 41))]))), []⟩ :: ⟨4, (some 43), none, (.q (.mov (.t 11))), []⟩ :: ⟨5, (some 44), none, (.q (.build [(.int .i64 0), (.slice none 0 0), (.slice none 0 0)] [(1, 1, (.t 42)), (2, 1, (.t 43))])), []⟩ :: hid l_BCommit_25
@[simp] def b_BCommit_26 (_ : Unit) : EB := reg0 (hid l_BCommit_24) 11
@[simp] def b_BCommit_27 (_ : Unit) : EB := .seq (hid b_BCommit_26) .ret
@[simp] def b_BCommit_28 (_ : Unit) : EB := .seq (hid b_BCommit_23) (hid b_BCommit_27)
@[simp] def b_BCommit_29 (_ : Unit) : EB := .seq (hid b_BCommit_20) (hid b_BCommit_28)
@[simp] def b_BCommit_30 (_ : Unit) : EB := .seq (hid b_BCommit_12) (hid b_BCommit_29)
@[simp] def b_BCommit_31 (_ : Unit) : EB := .seq (hid b_BCommit_2) (hid b_BCommit_30)
def c_BCommit : EB × List QOp × Nat := ((hid b_BCommit_31), [(.lda 3 (.t 8)), (.mov (.t 9))], 48)
theorem k_BCommit : cfun Tryz.prog 18 = some c_BCommit := by kernel_rfl


def zTx : Txn := ⟨0, [], []⟩
def donT (t : Txn) : Txn × Nat := if chkT t ≠ 0 then (zTx, chkT t) else (t, 0)
def plcS (p : Prm) (s : Sta) (o : Int) : List (Int × Int) × Nat :=
  if bldE p s ≠ 0 then ([], bldE p s) else if ¬ (o = 0 ∨ o = 1) then ([], 1) else (plcB p s o, 0)
def cmtT (p : Prm) (s : Sta) (o : Int) (lock : List UInt8) : Txn := ⟨0, [⟨p.tx, p.n, 0, []⟩], outsB p s o lock⟩
/-- A side's commitment; the error. -/
def cmtS (p : Prm) (s : Sta) (o : Int) (lock : List UInt8) : Txn × Nat :=
  if bldE p s ≠ 0 then (zTx, bldE p s) else if ¬ (o = 0 ∨ o = 1) ∨ lock = hz then (zTx, 1) else donT (cmtT p s o lock)

/-! ### what follows where a state can stand on params -/
theorem keysS_ris : ∀ {l : List Int} {o : Int}, keysS o l = true → RisI l ∧ ((l.length : Int) ≤ 15 - o ∨ l = []) ∧ ∀ k, l[0]? = some k → o < k
  | [], o, _ => ⟨by intro i a b h; simp at h, .inr rfl, by intro k h; simp at h⟩
  | a :: r, o, h => by
    simp only [keysS, Bool.and_eq_true, decide_eq_true_eq] at h
    obtain ⟨h1, h2, h3⟩ := keysS_ris h.2
    refine ⟨?_, .inl ?_, ?_⟩
    · intro i x y hx hy
      cases i with
      | zero =>
        simp at hx
        subst hx
        exact h3 y (by simpa using hy)
      | succ i => exact h1 i x y (by simpa using hx) (by simpa using hy)
    · rcases h2 with h2 | h2
      · simp; omega
      · subst h2; simp; omega
    · intro k hk
      simp at hk; omega
theorem payL_mem' : ∀ {o : Option Int} {l : List Pay}, payL o l = true → ∀ p ∈ l, mayP p = true
  | o, [], _, p, hp => by simp at hp
  | o, a :: r, h, p, hp => by
    simp only [payL, Bool.and_eq_true] at h
    rcases List.mem_cons.1 hp with rfl | hp
    · exact h.1.1
    · exact payL_mem' h.2 p hp
theorem bld_0 {p : Prm} {s : Sta} (h : bldE p s = 0) : (mayS s = true ∧ 1 ≤ p.dl ∧ p.dl ≤ 65536 ∧ 0 ≤ p.fe ∧ p.fe ≤ 1125899906842624) ∧ ((0 ≤ p.k0 ∧ p.k0 < 16) ∧ (0 ≤ p.k1 ∧ p.k1 < 16) ∧ p.k0 ≠ p.k1) ∧ totS s = p.am ∧ p.fe ≤ s.h0 := by
  unfold bldE at h
  split at h
  · simp at h
  rename_i h1
  split at h
  · simp at h
  rename_i h2
  split at h
  · simp at h
  rename_i h3
  split at h
  · simp at h
  rename_i h4
  refine ⟨⟨?_, by omega, by omega, by omega, by omega⟩, ⟨?_, ?_, ?_⟩, by simpa using h3, by omega⟩
  · cases hm : mayS s
    · exact absurd (.inl hm) h1
    · rfl
  · apply Classical.byContradiction; intro q; exact h2 (.inl q)
  · apply Classical.byContradiction; intro q; exact h2 (.inr (.inl q))
  · intro q; exact h2 (.inr (.inr q))
theorem outs_cond {p : Prm} {s : Sta} (h : bldE p s = 0) : i64 (s.h0 - p.fe) ∧ (s.pays.length ≤ 8 ∧ s.holds.length ≤ 8) ∧ (∀ x ∈ s.pays, 10 ≤ x.am ∧ (x.fr = 0 ∨ x.fr = 1)) ∧ ∀ h ∈ s.holds, KeysOK h.keys := by
  obtain ⟨⟨hm, d1, d2, d3, d4⟩, _, _, hf⟩ := bld_0 h
  obtain ⟨hr', hpl, hhl, htot⟩ := mayS_t hm
  refine ⟨by unfold i64; omega, ⟨by omega, by omega⟩, ?_, ?_⟩
  · intro x hx
    have := of_decide_eq_true (payL_mem' hpl x hx)
    exact ⟨this.2.2.2.1, this.2.2.1⟩
  · intro x hx
    have := holL_mem hhl x hx
    simp only [mayH, Bool.and_eq_true, decide_eq_true_eq] at this
    obtain ⟨k1, k2⟩ := this
    obtain ⟨q1, q2, _⟩ := keysS_ris k1
    have hlen : x.keys.length ≤ 16 := by
      rcases q2 with q2 | q2
      · omega
      · rw [q2]; simp
    exact (keys_ris k2.2.2.2.2 hlen q1).1

theorem drop33i (a b c : EC) : List.drop 33 (hc hz ++ [a, b, c]) = [b, c] := by
  rw [List.drop_append, List.drop_of_length_le (by simp [hz])]
  rfl
theorem outs_risk {p : Prm} {s : Sta} (h : bldE p s = 0) : ∀ h ∈ s.holds, insN h.keys = h.keys := by
  obtain ⟨⟨hm, _⟩, _⟩ := bld_0 h
  obtain ⟨_, _, hhl, _⟩ := mayS_t hm
  intro x hx
  have := holL_mem hhl x hx
  simp only [mayH, Bool.and_eq_true, decide_eq_true_eq] at this
  exact ins_ris (keysS_ris this.1).1
theorem waitV_i64 {p : Prm} (hp : p.ok) (o w : Int) : i64 (waitV p o w) := by
  unfold waitV
  split
  · exact hp.2.2.2.2.2.1
  · simp [i64]
theorem outsB_ok {p : Prm} {s : Sta} {o : Int} {lock : List UInt8} (hp : p.ok) (hs : s.ok) (hl : lock.length = 32) (h : bldE p s = 0) : (∀ x ∈ outsB p s o lock, x.ok) ∧ (outsB p s o lock).length ≤ 20 := by
  obtain ⟨k1, k2, k3, k4⟩ := outs_cond h
  have hr := outs_risk h
  obtain ⟨ok1, ok2, ok3, ok4, ok5, ok6, ok7⟩ := id hs
  have hh : ∀ w, i64 (hasP p s w) := fun w => by unfold hasP; split; exact k1; exact ok3
  have hf := fineB_ok (o := o) hp hl
  have hk : ∀ w, ∀ k ∈ [keyO p w], i64 k := fun w k hk => by simp at hk; subst hk; exact keyO_i64 hp _
  refine ⟨?_, ?_⟩
  · intro x hx
    unfold outsB at hx
    simp only [List.mem_append] at hx
    rcases hx with (hx | hx) | (hx | hx)
    · unfold out1 at hx
      split at hx
      · simp at hx; subst hx
        refine ⟨hh o, ?_, by simp [ownB]⟩
        intro b hb
        simp [ownB] at hb
        rcases hb with rfl | rfl
        · exact ⟨hk o, hz_len, by simp [i64], hp.2.2.2.2.2.1, by simp⟩
        · exact hf
      · simp at hx
    · unfold out2 at hx
      split at hx
      · simp at hx; subst hx
        refine ⟨hh _, ?_, by simp [allB]⟩
        intro b hb
        simp [allB] at hb
        subst hb
        rw [(keys_one _).2]
        exact ⟨hk _, hz_len, by simp [i64], by simp [i64], by simp⟩
      · simp at hx
    · obtain ⟨y, hy, rfl⟩ := List.mem_map.1 hx
      have hyo := ok4 y hy
      refine ⟨hyo.2.2.1, ?_, by simp [paidB]⟩
      intro b hb
      simp [paidB] at hb
      rcases hb with rfl | rfl | rfl
      · exact ⟨hk _, hyo.2.2.2.2, by simp [i64], waitV_i64 hp _ _, by simp⟩
      · exact ⟨hk _, hz_len, hyo.2.2.2.1, waitV_i64 hp _ _, by simp⟩
      · exact hf
    · obtain ⟨y, hy, rfl⟩ := List.mem_map.1 hx
      have hyo := ok5 y hy
      refine ⟨hyo.2.1, ?_, by simp [allB]⟩
      intro b hb
      simp [allB] at hb
      subst hb
      rw [hr y hy]
      exact ⟨hyo.2.2.1, hz_len, by simp [i64], by simp [i64], hyo.2.2.2⟩
  · have h1 : (out1 p s o lock).length ≤ 1 := by unfold out1; split <;> simp
    have h2 : (out2 p s o).length ≤ 1 := by unfold out2; split <;> simp
    unfold outsB
    simp [outP, outH]
    omega
theorem cmtT_ok {p : Prm} {s : Sta} {o : Int} {lock : List UInt8} (hp : p.ok) (hs : s.ok) (hl : lock.length = 32) (h : bldE p s = 0) : (cmtT p s o lock).ok := by
  obtain ⟨h1, h2⟩ := outsB_ok (o := o) hp hs hl h
  refine ⟨by simp [cmtT, i64], ?_, h1, by simp [cmtT], by simp [cmtT]; omega⟩
  intro x hx
  simp [cmtT] at hx
  subst hx
  exact ⟨hp.1, hp.2.1, by simp [i64], by simp⟩
/-- What is said of an input without a secret is said of one whose secret is nil. -/
theorem fr_nl {Φ : Nat → Prop} {w : World} {es : Nat} {r : List FV} {v : Value} (h : FR Φ w (.sl es [r ++ [.lit (.slice none 0 0)]]) v) : FR Φ w (.sl es [r ++ [.sl 1 []]]) v := by
  cases h with
  | sl es xs b off cap vs hb h0 hl hn hcap hcell hfr =>
    refine .sl es [r ++ [.sl 1 []]] b off cap vs hb h0 ?_ ?_ hcap hcell ?_
    · intro x hx
      simp at hx
      subst hx
      have := hl _ (by simp : (r ++ [FV.lit (.slice none 0 0)]) ∈ [r ++ [FV.lit (.slice none 0 0)]])
      simpa using this
    · simpa using hn
    · intro j x u hx hu
      simp only [List.flatten_cons, List.flatten_nil, List.append_nil] at hx hfr
      by_cases hj : j < r.length
      · refine hfr j x u ?_ hu
        rw [List.getElem?_append_left hj] at hx ⊢
        exact hx
      · rw [List.getElem?_append_right (by omega)] at hx
        have hj0 : j - r.length = 0 := by
          rcases Nat.eq_zero_or_pos (j - r.length) with e | e
          · exact e
          · rw [List.getElem?_eq_none (by simp; omega)] at hx; simp at hx
        rw [hj0] at hx
        simp at hx
        subst hx
        have h1 := hfr j (.lit (.slice none 0 0)) u (by rw [List.getElem?_append_right (by omega), hj0]; rfl) hu
        cases h1
        exact FR.emp 1 none 0
theorem ecalls_nlI {P : Program} {f : FuncId} {a c : EC} {r : List FV} {rest : List EV} {H : List EO} {post : EV → List (Option EO) → Prop} (h : ECalls P f (.v (.agg [a, .fz (.sl 35 [r ++ [.sl 1 []]]), c]) :: rest) H post) :
    ECalls P f (.v (.agg [a, .fz (.sl 35 [r ++ [.lit (.slice none 0 0)]]), c]) :: rest) H post := by
  intro ρ Φ w vals r' ha
  refine h ρ Φ w vals r' ?_
  obtain ⟨u, us, rfl, h1, h2⟩ := ha.cons_left
  refine All2.cons ?_ h2
  obtain ⟨vs, rfl, hv⟩ := h1
  refine ⟨vs, rfl, by simpa using hv.1, ?_⟩
  intro i x y hx hy
  rcases i with _ | _ | _ | i
  · exact hv.2 0 x y hx hy
  · have := hv.2 1 _ y rfl hy
    simp at hx; subst hx
    exact fr_nl this
  · exact hv.2 2 x y hx hy
  · simp at hx
theorem mkfold (p : Prm) (a b c o : Int) (P : List Pay) (Q : List Hol) (l : List UInt8) : prmC p ++ (EC.fz (.lit (.int .i64 a)) :: EC.fz (.lit (.int .i64 b)) :: EC.fz (.lit (.int .i64 c)) :: EC.fz (.sl 36 (payv P)) :: EC.fz (.sl 3 (holv Q)) :: EC.fz (.lit (.int .i64 o)) :: hc l) = mkC p ⟨a, b, c, P, Q⟩ o l := rfl
set_option maxHeartbeats 4000000 in
theorem BDone_ok (t : Txn) (ht : t.ok) : ECalls Tryz.prog 47 [TXv t] [] fun y H' => H' = [] ∧ y = .tup [.agg (txC (donT t).1), .c (.fz (.lit (errV (donT t).2)))] := by
  have h1 := TxCheck_ok t ht
  refine ecalls k_BDone ?_
  simp [c_BDone, TXv, txC, iC, -errV_0]
  refine call0 h1 (by simp [TXv, txC, iC]) ?_
  rintro y H' ⟨rfl, rfl⟩
  refine ⟨.inl (by simp), le_ok rfl, ?_⟩
  by_cases c : chkT t = 0
  · rw [show donT t = (t, 0) from if_neg (by simpa using c)]
    simp [c, -errV_0]
    exact fin [] (by decide) rfl rfl rfl ⟨rfl, rfl⟩
  · rw [show donT t = (zTx, chkT t) from if_pos c]
    simp [c, -errV_0]
    refine finW _ (weak_nlB (o := 16) (k := 1) 35 rfl rfl) (finW _ (weak_nlB (o := 16) (k := 2) 2 rfl rfl) ?_)
    exact fin [] (by decide) rfl rfl rfl ⟨rfl, rfl⟩
set_option maxHeartbeats 4000000 in
theorem BPlaces_ok (p : Prm) (s : Sta) (o : Int) (hp : p.ok) (hs : s.ok) : ECalls Tryz.prog 13 [PVv p, SV s, I .i64 o] [] fun y H' => H' = [] ∧ y = .tup [.c (.fz (.sl 2 (plcv (plcS p s o).1))), .c (.fz (.lit (errV (plcS p s o).2)))] := by
  have h1 := hp.1
  have lp := prmC_len h1
  have tp := pm_take h1
  refine ecalls k_BPlaces ?_
  simp [c_BPlaces, PVv, SV, staC, I, lp, tp, -errV_0]
  refine call0 (BCheck_ok p s hp hs) (by simp [PVv, SV, staC]) ?_
  rintro y H' ⟨rfl, rfl⟩
  refine ⟨.inl (by simp), le_ok rfl, ?_⟩
  by_cases c : bldE p s = 0
  rotate_left
  · rw [show plcS p s o = ([], bldE p s) from if_pos c]
    simp [c, -errV_0]
    refine finW _ (weak_nilF 6 2 rfl) ?_
    exact fin [] (by decide) rfl rfl rfl ⟨rfl, rfl⟩
  simp [c, I, -errV_0]
  refine call0 (BSide_ok o) (by simp [I]) ?_
  rintro y H' ⟨rfl, rfl⟩
  refine ⟨.inl (by simp), le_ok rfl, ?_⟩
  cases c2 : decide (o = 0 ∨ o = 1)
  · have c2 := of_decide_eq_false c2
    rw [show plcS p s o = ([], 1) by unfold plcS; rw [if_neg (by simpa using c), if_pos c2]]
    simp [-errV_0]
    refine finW _ (weak_nilF 6 2 rfl) ?_
    exact fin [] (by decide) rfl rfl rfl ⟨rfl, rfl⟩
  have c2 := of_decide_eq_true c2
  rw [show plcS p s o = (plcB p s o, 0) by unfold plcS; rw [if_neg (by simpa using c), if_neg (fun q => q c2)]]
  obtain ⟨k1, k2, k3, k4⟩ := outs_cond c
  simp [PVv, SV, staC, I, lp, tp, -errV_0]
  simp [List.take_append, List.drop_append, List.take_of_length_le, List.drop_of_length_le, lp, hz_len, tp, -errV_0]
  simp only [mkfold]
  refine call0 (BOuts_ok p s o hz hp hz_len c2 hs k1 k2 k3 k4) (by simp [MKv]) ?_
  rintro y H' ⟨rfl, rfl⟩
  refine ⟨.inl (by simp), le_ok rfl, ?_⟩
  simp [-errV_0]
  exact fin [] (by decide) rfl rfl rfl ⟨rfl, rfl⟩

set_option maxHeartbeats 8000000 in
theorem BCommit_ok (p : Prm) (s : Sta) (o : Int) (lock : List UInt8) (hp : p.ok) (hs : s.ok) (hl : lock.length = 32) : ECalls Tryz.prog 18 [PVv p, SV s, I .i64 o, .v (.agg (hc lock))] [] fun y H' => H' = [] ∧ y = .tup [.agg (txC (cmtS p s o lock).1), .c (.fz (.lit (errV (cmtS p s o lock).2)))] := by
  have h1 := hp.1
  have lp := prmC_len h1
  have tp := pm_take h1
  refine ecalls k_BCommit ?_
  simp [c_BCommit, PVv, SV, staC, I, lp, tp, -errV_0]
  refine call0 (BCheck_ok p s hp hs) (by simp [PVv, SV, staC]) ?_
  rintro y H' ⟨rfl, rfl⟩
  refine ⟨.inl (by simp), le_ok rfl, ?_⟩
  by_cases c : bldE p s = 0
  rotate_left
  · rw [show cmtS p s o lock = (zTx, bldE p s) from if_pos c]
    simp [c, -errV_0]
    refine finW _ (weak_nlB (o := 48) (k := 1) 35 rfl rfl) (finW _ (weak_nlB (o := 48) (k := 2) 2 rfl rfl) ?_)
    exact fin [] (by decide) rfl rfl rfl ⟨rfl, rfl⟩
  simp [c, I, -errV_0]
  refine call0 (BSide_ok o) (by simp [I]) ?_
  rintro y H' ⟨rfl, rfl⟩
  refine ⟨.inl (by simp), le_ok rfl, ?_⟩
  cases c2 : decide (o = 0 ∨ o = 1)
  · have c2 := of_decide_eq_false c2
    rw [show cmtS p s o lock = (zTx, 1) by unfold cmtS; rw [if_neg (by simpa using c), if_pos (.inl c2)]]
    simp [-errV_0]
    refine finW _ (weak_nlB (o := 48) (k := 1) 35 rfl rfl) (finW _ (weak_nlB (o := 48) (k := 2) 2 rfl rfl) ?_)
    exact fin [] (by decide) rfl rfl rfl ⟨rfl, rfl⟩
  have c2 := of_decide_eq_true c2
  obtain ⟨k1, k2, k3, k4⟩ := outs_cond c
  simp [PVv, SV, staC, I, lp, tp, hl, hc_t32 hl, -errV_0]
  refine alt (fun c3 => ?_) (fun c3 => ?_)
  · rw [show cmtS p s o lock = (zTx, 1) by unfold cmtS; rw [if_neg (by simpa using c), if_pos (.inr c3)]]
    simp [-errV_0]
    refine finW _ (weak_nlB (o := 48) (k := 1) 35 rfl rfl) (finW _ (weak_nlB (o := 48) (k := 2) 2 rfl rfl) ?_)
    exact fin [] (by decide) rfl rfl rfl ⟨rfl, rfl⟩
  rw [show cmtS p s o lock = donT (cmtT p s o lock) by unfold cmtS; rw [if_neg (by simpa using c), if_neg (by rintro (q | q); exact q c2; exact c3 q)]]
  simp [List.take_append, List.drop_append, List.take_of_length_le, List.drop_of_length_le, lp, hz_len, hl, tp, hc_t32 hl, -errV_0]
  simp only [mkfold]
  refine call0 (BOuts_ok p s o lock hp hl c2 hs k1 k2 k3 k4) (by simp [MKv]) ?_
  rintro y H' ⟨rfl, rfl⟩
  refine ⟨.inl (by simp), le_ok rfl, ?_⟩
  have t33 := pm_33 h1
  have hD := BDone_ok (cmtT p s o lock) (cmtT_ok hp hs hl c)
  have hD' : ECalls Tryz.prog 47 [.v (.agg [iC 0, .fz (.sl 35 [(hf p.tx ++ [iF p.n, iF 0]) ++ [.lit (.slice none 0 0)]]), .fz (.sl 2 (outv (outsB p s o lock)))])] [] _ := ecalls_nlI (by rw [List.append_assoc]; exact hD)
  simp [lp, t33, iC, drop33i, h1, frzAll_hc, -errV_0]
  refine call0 hD' (by simp [iC, iF]) ?_
  rintro y H' ⟨rfl, rfl⟩
  refine ⟨.inl (by simp [txC, iC]), le_ok rfl, ?_⟩
  simp [txC, iC, -errV_0]
  exact fin [] (by decide) rfl rfl rfl ⟨rfl, rfl⟩

end Go.Proofs.YtflcfdeanneoeaaGreatDoor
