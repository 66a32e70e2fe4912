import Derived.Test.YtejjhgdnmknejaaGreatDoorAll11
import Derived.Test.YtejjhgdnmknejaaGreatDoorAll8
import Derived.Test.YtejjhgdnmknejaaGreatDoorAll6
import Derived.Test.YtejjhgdnmknejaaGreatDoorProg
import Derived.Test.YtejjhgdnmknejaaGreatDoorAll7
namespace Go.Proofs.YtejjhgdnmknejaaGreatDoor
open Go Go.EW
set_option linter.unusedSimpArgs false
set_option linter.unusedVariables false

@[simp] def l_RCCheck_1 (_ : Unit) : List EOp := [⟨0, (some 1), none, (.q (.box 152 (.t 0))), []⟩, ⟨1, (some 2), none, (.q (.mov (.k (.int .i64 0)))), []⟩]
@[simp] def b_RCCheck_2 (_ : Unit) : EB := reg0 (hid l_RCCheck_1) 2
@[simp] def l_RCCheck_4 (_ : Unit) : List EOp := [⟨6, (some 13), (some (11, false)), (.q (.ldc (.t 12))), []⟩, ⟨7, (some 14), (some (11, false)), (.q (.len (.t 13))), []⟩, ⟨8, (some 15), (some (11, false)), (.q (.bin .gtr (.t 14) (.k (.int .i64 8)))), []⟩, ⟨9, (some 16), none, (.q (.pick (.t 11) (.k (.bool true)) (.t 15))), []⟩]
@[simp] def l_RCCheck_3 (_ : Unit) : List EOp := ⟨0, (some 7), none, (.q (.fad 0 (.t 1))), []⟩ :: ⟨1, (some 8), none, (.q (.ldc (.t 7))), []⟩ :: ⟨2, (some 9), none, (.q (.len (.t 8))), []⟩ :: ⟨3, (some 10), none, (.q (.bin .lss (.t 9) (.k (.int .i64 1)))), []⟩ :: ⟨4, (some 11), none, (.q (.mov (.t 10))), []⟩ :: ⟨5, (some 12), (some (11, false)), (.q (.fad 0 (.t 1))), []⟩ :: hid l_RCCheck_4
@[simp] def b_RCCheck_5 (_ : Unit) : EB := reg0 (hid l_RCCheck_3) 10
@[simp] def l_RCCheck_6 (_ : Unit) : List EOp := [⟨0, (some 2), none, (.q (.mov (.k (.int .i64 1)))), []⟩]
@[simp] def b_RCCheck_7 (_ : Unit) : EB := reg0 (hid l_RCCheck_6) 1
@[simp] def b_RCCheck_8 (_ : Unit) : EB := .seq (hid b_RCCheck_7) .ret
@[simp] def b_RCCheck_9 (_ : Unit) : EB := .cond (.t 16) (hid b_RCCheck_8) .skip
@[simp] def b_RCCheck_10 (_ : Unit) : EB := .seq (hid b_RCCheck_5) (hid b_RCCheck_9)
@[simp] def l_RCCheck_11 (_ : Unit) : List EOp := [⟨0, (some 3), none, (.q (.mov (.k (.int .i64 0)))), []⟩]
@[simp] def b_RCCheck_12 (_ : Unit) : EB := reg0 (hid l_RCCheck_11) 1
@[simp] def l_RCCheck_13 (_ : Unit) : List EOp := [⟨0, (some 17), none, (.q (.mov (.t 3))), []⟩, ⟨1, (some 18), none, (.q (.fad 0 (.t 1))), []⟩, ⟨2, (some 19), none, (.q (.ldc (.t 18))), []⟩, ⟨3, (some 20), none, (.q (.len (.t 19))), []⟩, ⟨4, (some 21), none, (.q (.bin .lss (.t 17) (.t 20))), []⟩]
@[simp] def b_RCCheck_14 (_ : Unit) : EB := reg0 (hid l_RCCheck_13) 5
@[simp] def b_RCCheck_15 (_ : Unit) : EB := .cond (.t 21) .skip (.exit 0)
@[simp] def b_RCCheck_16 (_ : Unit) : EB := .seq (hid b_RCCheck_14) (hid b_RCCheck_15)
@[simp] def l_RCCheck_18 (_ : Unit) : List EOp := [⟨6, none, none, (.fz (.sto 35 (.t 4) (.t 28))), []⟩]
@[simp] def l_RCCheck_17 (_ : Unit) : List EOp := ⟨0, (some 24), none, (.q (.fad 0 (.t 1))), []⟩ :: ⟨1, (some 25), none, (.q (.ldc (.t 24))), []⟩ :: ⟨2, (some 26), none, (.q (.mov (.t 3))), []⟩ :: ⟨3, (some 27), none, (.q (.isl 35 (.t 25) (.t 26))), []⟩ :: ⟨4, (some 28), none, (.q (.lda 35 (.t 27))), []⟩ :: ⟨5, (some 4), none, (.q (.alloc 212 (([(.slice none 0 0)] : List Value) ++ zU8 ++ [(.int .i64 0), (.int .i64 0)]))), []⟩ :: hid l_RCCheck_18
@[simp] def b_RCCheck_19 (_ : Unit) : EB := reg0 (hid l_RCCheck_17) 7
@[simp] def l_RCCheck_23 (_ : Unit) : List EOp := [⟨18, (some 47), none, (.q (.pick (.t 43) (.k (.bool true)) (.t 46))), []⟩, ⟨19, (some 48), none, (.q (.mov (.t 47))), []⟩, ⟨20, (some 49), (some (48, false)), (.q (.fad 34 (.t 4))), []⟩, ⟨21, (some 50), (some (48, false)), (.q (.ldc (.t 49))), []⟩, ⟨22, (some 51), (some (48, false)), (.q (.bin .gtr (.t 50) (.k (.int .i64 65536)))), []⟩, ⟨23, (some 52), none, (.q (.pick (.t 48) (.k (.bool true)) (.t 51))), []⟩]
@[simp] def l_RCCheck_22 (_ : Unit) : List EOp := ⟨12, (some 41), (some (38, false)), (.q (.bin .gtr (.t 40) (.k (.int .i64 1099511627776)))), []⟩ :: ⟨13, (some 42), none, (.q (.pick (.t 38) (.k (.bool true)) (.t 41))), []⟩ :: ⟨14, (some 43), none, (.q (.mov (.t 42))), []⟩ :: ⟨15, (some 44), (some (43, false)), (.q (.fad 34 (.t 4))), []⟩ :: ⟨16, (some 45), (some (43, false)), (.q (.ldc (.t 44))), []⟩ :: ⟨17, (some 46), (some (43, false)), (.q (.bin .lss (.t 45) (.k (.int .i64 0)))), []⟩ :: hid l_RCCheck_23
@[simp] def l_RCCheck_21 (_ : Unit) : List EOp := ⟨6, (some 35), (some (33, false)), (.q (.ldc (.t 34))), []⟩ :: ⟨7, (some 36), (some (33, false)), (.q (.bin .lss (.t 35) (.k (.int .i64 0)))), []⟩ :: ⟨8, (some 37), none, (.q (.pick (.t 33) (.k (.bool true)) (.t 36))), []⟩ :: ⟨9, (some 38), none, (.q (.mov (.t 37))), []⟩ :: ⟨10, (some 39), (some (38, false)), (.q (.fad 33 (.t 4))), []⟩ :: ⟨11, (some 40), (some (38, false)), (.q (.ldc (.t 39))), []⟩ :: hid l_RCCheck_22
@[simp] def l_RCCheck_20 (_ : Unit) : List EOp := ⟨0, (some 29), none, (.q (.fad 0 (.t 4))), []⟩ :: ⟨1, (some 30), none, (.q (.ldc (.t 29))), []⟩ :: ⟨2, (some 31), none, (.q (.len (.t 30))), []⟩ :: ⟨3, (some 32), none, (.q (.bin .lss (.t 31) (.k (.int .i64 1)))), []⟩ :: ⟨4, (some 33), none, (.q (.mov (.t 32))), []⟩ :: ⟨5, (some 34), (some (33, false)), (.q (.fad 33 (.t 4))), []⟩ :: hid l_RCCheck_21
@[simp] def b_RCCheck_24 (_ : Unit) : EB := reg0 (hid l_RCCheck_20) 24
@[simp] def l_RCCheck_25 (_ : Unit) : List EOp := [⟨0, (some 2), none, (.q (.mov (.k (.int .i64 1)))), []⟩]
@[simp] def b_RCCheck_26 (_ : Unit) : EB := reg0 (hid l_RCCheck_25) 1
@[simp] def b_RCCheck_27 (_ : Unit) : EB := .seq (hid b_RCCheck_26) .ret
@[simp] def b_RCCheck_28 (_ : Unit) : EB := .cond (.t 52) (hid b_RCCheck_27) .skip
@[simp] def b_RCCheck_29 (_ : Unit) : EB := .seq (hid b_RCCheck_24) (hid b_RCCheck_28)
@[simp] def l_RCCheck_30 (_ : Unit) : List EOp := [⟨0, (some 5), none, (.q (.mov (.k (.int .i64 (-1))))), []⟩]
@[simp] def b_RCCheck_31 (_ : Unit) : EB := reg0 (hid l_RCCheck_30) 1
@[simp] def l_RCCheck_32 (_ : Unit) : List EOp := [⟨0, (some 6), none, (.q (.mov (.k (.int .i64 0)))), []⟩]
@[simp] def b_RCCheck_33 (_ : Unit) : EB := reg0 (hid l_RCCheck_32) 1
@[simp] def l_RCCheck_34 (_ : Unit) : List EOp := [⟨0, (some 53), none, (.q (.mov (.t 6))), []⟩, ⟨1, (some 54), none, (.q (.fad 0 (.t 4))), []⟩, ⟨2, (some 55), none, (.q (.ldc (.t 54))), []⟩, ⟨3, (some 56), none, (.q (.len (.t 55))), []⟩, ⟨4, (some 57), none, (.q (.bin .lss (.t 53) (.t 56))), []⟩]
@[simp] def b_RCCheck_35 (_ : Unit) : EB := reg0 (hid l_RCCheck_34) 5
@[simp] def b_RCCheck_36 (_ : Unit) : EB := .cond (.t 57) .skip (.exit 2)
@[simp] def b_RCCheck_37 (_ : Unit) : EB := .seq (hid b_RCCheck_35) (hid b_RCCheck_36)
@[simp] def l_RCCheck_40 (_ : Unit) : List EOp := [⟨12, (some 72), (some (67, false)), (.q (.ldc (.t 71))), []⟩, ⟨13, (some 73), (some (67, false)), (.q (.bin .gtr (.t 72) (.k (.int .i64 15)))), []⟩, ⟨14, (some 74), none, (.q (.pick (.t 67) (.k (.bool true)) (.t 73))), []⟩]
@[simp] def l_RCCheck_39 (_ : Unit) : List EOp := ⟨6, (some 66), none, (.q (.bin .leq (.t 64) (.t 65))), []⟩ :: ⟨7, (some 67), none, (.q (.mov (.t 66))), []⟩ :: ⟨8, (some 68), (some (67, false)), (.q (.fad 0 (.t 4))), []⟩ :: ⟨9, (some 69), (some (67, false)), (.q (.ldc (.t 68))), []⟩ :: ⟨10, (some 70), (some (67, false)), (.q (.mov (.t 6))), []⟩ :: ⟨11, (some 71), (some (67, false)), (.q (.isl 1 (.t 69) (.t 70))), []⟩ :: hid l_RCCheck_40
@[simp] def l_RCCheck_38 (_ : Unit) : List EOp := ⟨0, (some 60), none, (.q (.fad 0 (.t 4))), []⟩ :: ⟨1, (some 61), none, (.q (.ldc (.t 60))), []⟩ :: ⟨2, (some 62), none, (.q (.mov (.t 6))), []⟩ :: ⟨3, (some 63), none, (.q (.isl 1 (.t 61) (.t 62))), []⟩ :: ⟨4, (some 64), none, (.q (.ldc (.t 63))), []⟩ :: ⟨5, (some 65), none, (.q (.mov (.t 5))), []⟩ :: hid l_RCCheck_39
@[simp] def b_RCCheck_41 (_ : Unit) : EB := reg0 (hid l_RCCheck_38) 15
@[simp] def l_RCCheck_42 (_ : Unit) : List EOp := [⟨0, (some 2), none, (.q (.mov (.k (.int .i64 1)))), []⟩]
@[simp] def b_RCCheck_43 (_ : Unit) : EB := reg0 (hid l_RCCheck_42) 1
@[simp] def b_RCCheck_44 (_ : Unit) : EB := .seq (hid b_RCCheck_43) .ret
@[simp] def b_RCCheck_45 (_ : Unit) : EB := .cond (.t 74) (hid b_RCCheck_44) .skip
@[simp] def b_RCCheck_46 (_ : Unit) : EB := .seq (hid b_RCCheck_41) (hid b_RCCheck_45)
@[simp] def l_RCCheck_47 (_ : Unit) : List EOp := [⟨0, (some 75), none, (.q (.fad 0 (.t 4))), []⟩, ⟨1, (some 76), none, (.q (.ldc (.t 75))), []⟩, ⟨2, (some 77), none, (.q (.mov (.t 6))), []⟩, ⟨3, (some 78), none, (.q (.isl 1 (.t 76) (.t 77))), []⟩, ⟨4, (some 79), none, (.q (.ldc (.t 78))), []⟩, ⟨5, (some 5), none, (.q (.mov (.t 79))), []⟩]
@[simp] def b_RCCheck_48 (_ : Unit) : EB := reg0 (hid l_RCCheck_47) 6
@[simp] def b_RCCheck_49 (_ : Unit) : EB := .seq (hid b_RCCheck_46) (hid b_RCCheck_48)
@[simp] def b_RCCheck_50 (_ : Unit) : EB := .block 3 (hid b_RCCheck_49)
@[simp] def l_RCCheck_51 (_ : Unit) : List EOp := [⟨0, (some 58), none, (.q (.mov (.t 6))), []⟩, ⟨1, (some 59), none, (.q (.bin .add (.t 58) (.k (.int .i64 1)))), []⟩, ⟨2, (some 6), none, (.q (.mov (.t 59))), []⟩]
@[simp] def b_RCCheck_52 (_ : Unit) : EB := reg0 (hid l_RCCheck_51) 3
@[simp] def b_RCCheck_53 (_ : Unit) : EB := .seq (hid b_RCCheck_50) (hid b_RCCheck_52)
@[simp] def b_RCCheck_54 (_ : Unit) : EB := .seq (hid b_RCCheck_37) (hid b_RCCheck_53)
@[simp] def b_RCCheck_55 (_ : Unit) : EB := .loop (hid b_RCCheck_54)
@[simp] def b_RCCheck_56 (_ : Unit) : EB := .block 2 (hid b_RCCheck_55)
@[simp] def b_RCCheck_57 (_ : Unit) : EB := .seq (hid b_RCCheck_33) (hid b_RCCheck_56)
@[simp] def b_RCCheck_58 (_ : Unit) : EB := .seq (hid b_RCCheck_31) (hid b_RCCheck_57)
@[simp] def b_RCCheck_59 (_ : Unit) : EB := .seq (hid b_RCCheck_29) (hid b_RCCheck_58)
@[simp] def b_RCCheck_60 (_ : Unit) : EB := .seq (hid b_RCCheck_19) (hid b_RCCheck_59)
@[simp] def b_RCCheck_61 (_ : Unit) : EB := .block 1 (hid b_RCCheck_60)
@[simp] def l_RCCheck_62 (_ : Unit) : List EOp := [⟨0, (some 22), none, (.q (.mov (.t 3))), []⟩, ⟨1, (some 23), none, (.q (.bin .add (.t 22) (.k (.int .i64 1)))), []⟩, ⟨2, (some 3), none, (.q (.mov (.t 23))), []⟩]
@[simp] def b_RCCheck_63 (_ : Unit) : EB := reg0 (hid l_RCCheck_62) 3
@[simp] def b_RCCheck_64 (_ : Unit) : EB := .seq (hid b_RCCheck_61) (hid b_RCCheck_63)
@[simp] def b_RCCheck_65 (_ : Unit) : EB := .seq (hid b_RCCheck_16) (hid b_RCCheck_64)
@[simp] def b_RCCheck_66 (_ : Unit) : EB := .loop (hid b_RCCheck_65)
@[simp] def b_RCCheck_67 (_ : Unit) : EB := .block 0 (hid b_RCCheck_66)
@[simp] def b_RCCheck_68 (_ : Unit) : EB := .seq (hid b_RCCheck_12) (hid b_RCCheck_67)
@[simp] def l_RCCheck_69 (_ : Unit) : List EOp := [⟨0, (some 2), none, (.q (.mov (.k (.int .i64 0)))), []⟩]
@[simp] def b_RCCheck_70 (_ : Unit) : EB := reg0 (hid l_RCCheck_69) 1
@[simp] def b_RCCheck_71 (_ : Unit) : EB := .seq (hid b_RCCheck_70) .ret
@[simp] def b_RCCheck_72 (_ : Unit) : EB := .seq (hid b_RCCheck_68) (hid b_RCCheck_71)
@[simp] def b_RCCheck_73 (_ : Unit) : EB := .seq (hid b_RCCheck_10) (hid b_RCCheck_72)
@[simp] def b_RCCheck_74 (_ : Unit) : EB := .seq (hid b_RCCheck_2) (hid b_RCCheck_73)
def c_RCCheck : EB × List QOp × Nat := ((hid b_RCCheck_74), [(.mov (.t 2))], 80)
theorem k_RCCheck : cfun Tryz.prog 120 = some c_RCCheck := by kernel_rfl

@[simp] def l_RTxTotal_1 (_ : Unit) : List EOp := [⟨0, (some 1), none, (.q (.box 77 (.t 0))), []⟩, ⟨1, (some 2), none, (.q (.mov (.k (.int .i64 0)))), []⟩, ⟨2, (some 3), none, (.q (.mov (.k (.int .i64 0)))), []⟩]
@[simp] def b_RTxTotal_2 (_ : Unit) : EB := reg0 (hid l_RTxTotal_1) 3
@[simp] def l_RTxTotal_3 (_ : Unit) : List EOp := [⟨0, (some 4), none, (.q (.mov (.k (.int .i64 0)))), []⟩]
@[simp] def b_RTxTotal_4 (_ : Unit) : EB := reg0 (hid l_RTxTotal_3) 1
@[simp] def l_RTxTotal_5 (_ : Unit) : List EOp := [⟨0, (some 5), none, (.q (.mov (.k (.int .i64 0)))), []⟩]
@[simp] def b_RTxTotal_6 (_ : Unit) : EB := reg0 (hid l_RTxTotal_5) 1
@[simp] def l_RTxTotal_7 (_ : Unit) : List EOp := [⟨0, (some 7), none, (.q (.mov (.t 5))), []⟩, ⟨1, (some 8), none, (.q (.fad 2 (.t 1))), []⟩, ⟨2, (some 9), none, (.q (.ldc (.t 8))), []⟩, ⟨3, (some 10), none, (.q (.len (.t 9))), []⟩, ⟨4, (some 11), none, (.q (.bin .lss (.t 7) (.t 10))), []⟩]
@[simp] def b_RTxTotal_8 (_ : Unit) : EB := reg0 (hid l_RTxTotal_7) 5
@[simp] def b_RTxTotal_9 (_ : Unit) : EB := .cond (.t 11) .skip (.exit 0)
@[simp] def b_RTxTotal_10 (_ : Unit) : EB := .seq (hid b_RTxTotal_8) (hid b_RTxTotal_9)
@[simp] def l_RTxTotal_12 (_ : Unit) : List EOp := [⟨6, (some 6), none, (.q (.mov (.t 19))), []⟩]
@[simp] def l_RTxTotal_11 (_ : Unit) : List EOp := ⟨0, (some 14), none, (.q (.fad 2 (.t 1))), []⟩ :: ⟨1, (some 15), none, (.q (.ldc (.t 14))), []⟩ :: ⟨2, (some 16), none, (.q (.mov (.t 5))), []⟩ :: ⟨3, (some 17), none, (.q (.isl 2 (.t 15) (.t 16))), []⟩ :: ⟨4, (some 18), none, (.q (.fad 0 (.t 17))), []⟩ :: ⟨5, (some 19), none, (.q (.ldc (.t 18))), []⟩ :: hid l_RTxTotal_12
@[simp] def b_RTxTotal_13 (_ : Unit) : EB := reg0 (hid l_RTxTotal_11) 7
@[simp] def l_RTxTotal_15 (_ : Unit) : List EOp := [⟨6, (some 26), none, (.q (.mov (.t 25))), []⟩, ⟨7, (some 27), (some (26, false)), (.q (.mov (.t 4))), []⟩, ⟨8, (some 28), (some (26, false)), (.q (.mov (.t 6))), []⟩, ⟨9, (some 29), (some (26, false)), (.q (.bin .add (.t 27) (.t 28))), []⟩, ⟨10, (some 30), (some (26, false)), (.q (.bin .gtr (.t 29) (.k (.int .i64 1125899906842624)))), []⟩, ⟨11, (some 31), none, (.q (.pick (.t 26) (.k (.bool true)) (.t 30))), []⟩]
@[simp] def l_RTxTotal_14 (_ : Unit) : List EOp := ⟨0, (some 20), none, (.q (.mov (.t 6))), []⟩ :: ⟨1, (some 21), none, (.q (.bin .lss (.t 20) (.k (.int .i64 0)))), []⟩ :: ⟨2, (some 22), none, (.q (.mov (.t 21))), []⟩ :: ⟨3, (some 23), (some (22, false)), (.q (.mov (.t 6))), []⟩ :: ⟨4, (some 24), (some (22, false)), (.q (.bin .gtr (.t 23) (.k (.int .i64 1125899906842624)))), []⟩ :: ⟨5, (some 25), none, (.q (.pick (.t 22) (.k (.bool true)) (.t 24))), []⟩ :: hid l_RTxTotal_15
@[simp] def b_RTxTotal_16 (_ : Unit) : EB := reg0 (hid l_RTxTotal_14) 12
@[simp] def l_RTxTotal_17 (_ : Unit) : List EOp := [⟨0, (some 2), none, (.q (.mov (.k (.int .i64 0)))), []⟩, ⟨1, (some 3), none, (.q (.mov (.k (.int .i64 5)))), []⟩]
@[simp] def b_RTxTotal_18 (_ : Unit) : EB := reg0 (hid l_RTxTotal_17) 2
@[simp] def b_RTxTotal_19 (_ : Unit) : EB := .seq (hid b_RTxTotal_18) .ret
@[simp] def b_RTxTotal_20 (_ : Unit) : EB := .cond (.t 31) (hid b_RTxTotal_19) .skip
@[simp] def b_RTxTotal_21 (_ : Unit) : EB := .seq (hid b_RTxTotal_16) (hid b_RTxTotal_20)
@[simp] def l_RTxTotal_22 (_ : Unit) : List EOp := [⟨0, (some 32), none, (.q (.mov (.t 4))), []⟩, ⟨1, (some 33), none, (.q (.mov (.t 6))), []⟩, ⟨2, (some 34), none, (.q (.bin .add (.t 32) (.t 33))), []⟩, ⟨3, (some 4), none, (.q (.mov (.t 34))), []⟩]
@[simp] def b_RTxTotal_23 (_ : Unit) : EB := reg0 (hid l_RTxTotal_22) 4
@[simp] def b_RTxTotal_24 (_ : Unit) : EB := .seq (hid b_RTxTotal_21) (hid b_RTxTotal_23)
@[simp] def b_RTxTotal_25 (_ : Unit) : EB := .seq (hid b_RTxTotal_13) (hid b_RTxTotal_24)
@[simp] def b_RTxTotal_26 (_ : Unit) : EB := .block 1 (hid b_RTxTotal_25)
@[simp] def l_RTxTotal_27 (_ : Unit) : List EOp := [⟨0, (some 12), none, (.q (.mov (.t 5))), []⟩, ⟨1, (some 13), none, (.q (.bin .add (.t 12) (.k (.int .i64 1)))), []⟩, ⟨2, (some 5), none, (.q (.mov (.t 13))), []⟩]
@[simp] def b_RTxTotal_28 (_ : Unit) : EB := reg0 (hid l_RTxTotal_27) 3
@[simp] def b_RTxTotal_29 (_ : Unit) : EB := .seq (hid b_RTxTotal_26) (hid b_RTxTotal_28)
@[simp] def b_RTxTotal_30 (_ : Unit) : EB := .seq (hid b_RTxTotal_10) (hid b_RTxTotal_29)
@[simp] def b_RTxTotal_31 (_ : Unit) : EB := .loop (hid b_RTxTotal_30)
@[simp] def b_RTxTotal_32 (_ : Unit) : EB := .block 0 (hid b_RTxTotal_31)
@[simp] def b_RTxTotal_33 (_ : Unit) : EB := .seq (hid b_RTxTotal_6) (hid b_RTxTotal_32)
@[simp] def l_RTxTotal_34 (_ : Unit) : List EOp := [⟨0, (some 35), none, (.q (.mov (.t 4))), []⟩, ⟨1, (some 2), none, (.q (.mov (.t 35))), []⟩, ⟨2, (some 3), none, (.q (.mov (.k (.int .i64 0)))), []⟩]
@[simp] def b_RTxTotal_35 (_ : Unit) : EB := reg0 (hid l_RTxTotal_34) 3
@[simp] def b_RTxTotal_36 (_ : Unit) : EB := .seq (hid b_RTxTotal_35) .ret
@[simp] def b_RTxTotal_37 (_ : Unit) : EB := .seq (hid b_RTxTotal_33) (hid b_RTxTotal_36)
@[simp] def b_RTxTotal_38 (_ : Unit) : EB := .seq (hid b_RTxTotal_4) (hid b_RTxTotal_37)
@[simp] def b_RTxTotal_39 (_ : Unit) : EB := .seq (hid b_RTxTotal_2) (hid b_RTxTotal_38)
def c_RTxTotal : EB × List QOp × Nat := ((hid b_RTxTotal_39), [(.mov (.t 2)), (.mov (.t 3))], 36)
theorem k_RTxTotal : cfun Tryz.prog 121 = some c_RTxTotal := by kernel_rfl

@[simp] def l_RTxCheck_1 (_ : Unit) : List EOp := [⟨0, (some 1), none, (.q (.box 77 (.t 0))), []⟩, ⟨1, (some 2), none, (.q (.mov (.k (.int .i64 0)))), []⟩]
@[simp] def b_RTxCheck_2 (_ : Unit) : EB := reg0 (hid l_RTxCheck_1) 2
@[simp] def l_RTxCheck_8 (_ : Unit) : List EOp := [⟨30, (some 41), (some (37, false)), (.q (.bin .gtr (.t 40) (.k (.int .i64 64)))), []⟩, ⟨31, (some 42), none, (.q (.pick (.t 37) (.k (.bool true)) (.t 41))), []⟩]
@[simp] def l_RTxCheck_7 (_ : Unit) : List EOp := ⟨24, (some 35), (some (31, false)), (.q (.bin .lss (.t 34) (.k (.int .i64 1)))), []⟩ :: ⟨25, (some 36), none, (.q (.pick (.t 31) (.k (.bool true)) (.t 35))), []⟩ :: ⟨26, (some 37), none, (.q (.mov (.t 36))), []⟩ :: ⟨27, (some 38), (some (37, false)), (.q (.fad 2 (.t 1))), []⟩ :: ⟨28, (some 39), (some (37, false)), (.q (.ldc (.t 38))), []⟩ :: ⟨29, (some 40), (some (37, false)), (.q (.len (.t 39))), []⟩ :: hid l_RTxCheck_8
@[simp] def l_RTxCheck_6 (_ : Unit) : List EOp := ⟨18, (some 29), (some (25, false)), (.q (.bin .gtr (.t 28) (.k (.int .i64 64)))), []⟩ :: ⟨19, (some 30), none, (.q (.pick (.t 25) (.k (.bool true)) (.t 29))), []⟩ :: ⟨20, (some 31), none, (.q (.mov (.t 30))), []⟩ :: ⟨21, (some 32), (some (31, false)), (.q (.fad 2 (.t 1))), []⟩ :: ⟨22, (some 33), (some (31, false)), (.q (.ldc (.t 32))), []⟩ :: ⟨23, (some 34), (some (31, false)), (.q (.len (.t 33))), []⟩ :: hid l_RTxCheck_7
@[simp] def l_RTxCheck_5 (_ : Unit) : List EOp := ⟨12, (some 23), (some (19, false)), (.q (.bin .lss (.t 22) (.k (.int .i64 1)))), []⟩ :: ⟨13, (some 24), none, (.q (.pick (.t 19) (.k (.bool true)) (.t 23))), []⟩ :: ⟨14, (some 25), none, (.q (.mov (.t 24))), []⟩ :: ⟨15, (some 26), (some (25, false)), (.q (.fad 1 (.t 1))), []⟩ :: ⟨16, (some 27), (some (25, false)), (.q (.ldc (.t 26))), []⟩ :: ⟨17, (some 28), (some (25, false)), (.q (.len (.t 27))), []⟩ :: hid l_RTxCheck_6
@[simp] def l_RTxCheck_4 (_ : Unit) : List EOp := ⟨6, (some 17), (some (14, false)), (.q (.bin .gtr (.t 16) (.k (.int .i64 1099511627776)))), []⟩ :: ⟨7, (some 18), none, (.q (.pick (.t 14) (.k (.bool true)) (.t 17))), []⟩ :: ⟨8, (some 19), none, (.q (.mov (.t 18))), []⟩ :: ⟨9, (some 20), (some (19, false)), (.q (.fad 1 (.t 1))), []⟩ :: ⟨10, (some 21), (some (19, false)), (.q (.ldc (.t 20))), []⟩ :: ⟨11, (some 22), (some (19, false)), (.q (.len (.t 21))), []⟩ :: hid l_RTxCheck_5
@[simp] def l_RTxCheck_3 (_ : Unit) : List EOp := ⟨0, (some 11), none, (.q (.fad 0 (.t 1))), []⟩ :: ⟨1, (some 12), none, (.q (.ldc (.t 11))), []⟩ :: ⟨2, (some 13), none, (.q (.bin .lss (.t 12) (.k (.int .i64 0)))), []⟩ :: ⟨3, (some 14), none, (.q (.mov (.t 13))), []⟩ :: ⟨4, (some 15), (some (14, false)), (.q (.fad 0 (.t 1))), []⟩ :: ⟨5, (some 16), (some (14, false)), (.q (.ldc (.t 15))), []⟩ :: hid l_RTxCheck_4
@[simp] def b_RTxCheck_9 (_ : Unit) : EB := reg0 (hid l_RTxCheck_3) 32
@[simp] def l_RTxCheck_10 (_ : Unit) : List EOp := [⟨0, (some 2), none, (.q (.mov (.k (.int .i64 4)))), []⟩]
@[simp] def b_RTxCheck_11 (_ : Unit) : EB := reg0 (hid l_RTxCheck_10) 1
@[simp] def b_RTxCheck_12 (_ : Unit) : EB := .seq (hid b_RTxCheck_11) .ret
@[simp] def b_RTxCheck_13 (_ : Unit) : EB := .cond (.t 42) (hid b_RTxCheck_12) .skip
@[simp] def b_RTxCheck_14 (_ : Unit) : EB := .seq (hid b_RTxCheck_9) (hid b_RTxCheck_13)
@[simp] def l_RTxCheck_15 (_ : Unit) : List EOp := [⟨0, (some 3), none, (.q (.mov (.k (.int .i64 0)))), []⟩]
@[simp] def b_RTxCheck_16 (_ : Unit) : EB := reg0 (hid l_RTxCheck_15) 1
@[simp] def l_RTxCheck_17 (_ : Unit) : List EOp := [⟨0, (some 43), none, (.q (.mov (.t 3))), []⟩, ⟨1, (some 44), none, (.q (.fad 1 (.t 1))), []⟩, ⟨2, (some 45), none, (.q (.ldc (.t 44))), []⟩, ⟨3, (some 46), none, (.q (.len (.t 45))), []⟩, ⟨4, (some 47), none, (.q (.bin .lss (.t 43) (.t 46))), []⟩]
@[simp] def b_RTxCheck_18 (_ : Unit) : EB := reg0 (hid l_RTxCheck_17) 5
@[simp] def b_RTxCheck_19 (_ : Unit) : EB := .cond (.t 47) .skip (.exit 0)
@[simp] def b_RTxCheck_20 (_ : Unit) : EB := .seq (hid b_RTxCheck_18) (hid b_RTxCheck_19)
@[simp] def l_RTxCheck_22 (_ : Unit) : List EOp := [⟨6, none, none, (.fz (.sto 35 (.t 4) (.t 54))), []⟩]
@[simp] def l_RTxCheck_21 (_ : Unit) : List EOp := ⟨0, (some 50), none, (.q (.fad 1 (.t 1))), []⟩ :: ⟨1, (some 51), none, (.q (.ldc (.t 50))), []⟩ :: ⟨2, (some 52), none, (.q (.mov (.t 3))), []⟩ :: ⟨3, (some 53), none, (.q (.isl 35 (.t 51) (.t 52))), []⟩ :: ⟨4, (some 54), none, (.q (.lda 35 (.t 53))), []⟩ :: ⟨5, (some 4), none, (.q (.alloc 149 (zU8 ++ [(.int .i64 0), (.int .i64 0), (.slice none 0 0)]))), []⟩ :: hid l_RTxCheck_22
@[simp] def b_RTxCheck_23 (_ : Unit) : EB := reg0 (hid l_RTxCheck_21) 7
@[simp] def l_RTxCheck_28 (_ : Unit) : List EOp := [⟨24, (some 79), (some (75, false)), (.q (.bin .gtr (.t 78) (.k (.int .i64 64)))), []⟩, ⟨25, (some 80), none, (.q (.pick (.t 75) (.k (.bool true)) (.t 79))), []⟩]
@[simp] def l_RTxCheck_27 (_ : Unit) : List EOp := ⟨18, (some 73), (some (70, false)), (.q (.bin .gtr (.t 72) (.k (.int .i64 7)))), []⟩ :: ⟨19, (some 74), none, (.q (.pick (.t 70) (.k (.bool true)) (.t 73))), []⟩ :: ⟨20, (some 75), none, (.q (.mov (.t 74))), []⟩ :: ⟨21, (some 76), (some (75, false)), (.q (.fad 34 (.t 4))), []⟩ :: ⟨22, (some 77), (some (75, false)), (.q (.ldc (.t 76))), []⟩ :: ⟨23, (some 78), (some (75, false)), (.q (.len (.t 77))), []⟩ :: hid l_RTxCheck_28
@[simp] def l_RTxCheck_26 (_ : Unit) : List EOp := ⟨12, (some 67), (some (65, false)), (.q (.ldc (.t 66))), []⟩ :: ⟨13, (some 68), (some (65, false)), (.q (.bin .lss (.t 67) (.k (.int .i64 0)))), []⟩ :: ⟨14, (some 69), none, (.q (.pick (.t 65) (.k (.bool true)) (.t 68))), []⟩ :: ⟨15, (some 70), none, (.q (.mov (.t 69))), []⟩ :: ⟨16, (some 71), (some (70, false)), (.q (.fad 33 (.t 4))), []⟩ :: ⟨17, (some 72), (some (70, false)), (.q (.ldc (.t 71))), []⟩ :: hid l_RTxCheck_27
@[simp] def l_RTxCheck_25 (_ : Unit) : List EOp := ⟨6, (some 61), (some (59, false)), (.q (.fad 32 (.t 60))), []⟩ :: ⟨7, (some 62), (some (59, false)), (.q (.ldc (.t 61))), []⟩ :: ⟨8, (some 63), (some (59, false)), (.q (.bin .gtr (.t 62) (.k (.int .i64 63)))), []⟩ :: ⟨9, (some 64), none, (.q (.pick (.t 59) (.k (.bool true)) (.t 63))), []⟩ :: ⟨10, (some 65), none, (.q (.mov (.t 64))), []⟩ :: ⟨11, (some 66), (some (65, false)), (.q (.fad 33 (.t 4))), []⟩ :: hid l_RTxCheck_26
@[simp] def l_RTxCheck_24 (_ : Unit) : List EOp := ⟨0, (some 55), none, (.q (.fad 0 (.t 4))), []⟩ :: ⟨1, (some 56), none, (.q (.fad 32 (.t 55))), []⟩ :: ⟨2, (some 57), none, (.q (.ldc (.t 56))), []⟩ :: ⟨3, (some 58), none, (.q (.bin .lss (.t 57) (.k (.int .i64 0)))), []⟩ :: ⟨4, (some 59), none, (.q (.mov (.t 58))), []⟩ :: ⟨5, (some 60), (some (59, false)), (.q (.fad 0 (.t 4))), []⟩ :: hid l_RTxCheck_25
@[simp] def b_RTxCheck_29 (_ : Unit) : EB := reg0 (hid l_RTxCheck_24) 26
@[simp] def l_RTxCheck_30 (_ : Unit) : List EOp := [⟨0, (some 2), none, (.q (.mov (.k (.int .i64 4)))), []⟩]
@[simp] def b_RTxCheck_31 (_ : Unit) : EB := reg0 (hid l_RTxCheck_30) 1
@[simp] def b_RTxCheck_32 (_ : Unit) : EB := .seq (hid b_RTxCheck_31) .ret
@[simp] def b_RTxCheck_33 (_ : Unit) : EB := .cond (.t 80) (hid b_RTxCheck_32) .skip
@[simp] def b_RTxCheck_34 (_ : Unit) : EB := .seq (hid b_RTxCheck_29) (hid b_RTxCheck_33)
@[simp] def b_RTxCheck_35 (_ : Unit) : EB := .seq (hid b_RTxCheck_23) (hid b_RTxCheck_34)
@[simp] def b_RTxCheck_36 (_ : Unit) : EB := .block 1 (hid b_RTxCheck_35)
@[simp] def l_RTxCheck_37 (_ : Unit) : List EOp := [⟨0, (some 48), none, (.q (.mov (.t 3))), []⟩, ⟨1, (some 49), none, (.q (.bin .add (.t 48) (.k (.int .i64 1)))), []⟩, ⟨2, (some 3), none, (.q (.mov (.t 49))), []⟩]
@[simp] def b_RTxCheck_38 (_ : Unit) : EB := reg0 (hid l_RTxCheck_37) 3
@[simp] def b_RTxCheck_39 (_ : Unit) : EB := .seq (hid b_RTxCheck_36) (hid b_RTxCheck_38)
@[simp] def b_RTxCheck_40 (_ : Unit) : EB := .seq (hid b_RTxCheck_20) (hid b_RTxCheck_39)
@[simp] def b_RTxCheck_41 (_ : Unit) : EB := .loop (hid b_RTxCheck_40)
@[simp] def b_RTxCheck_42 (_ : Unit) : EB := .block 0 (hid b_RTxCheck_41)
@[simp] def b_RTxCheck_43 (_ : Unit) : EB := .seq (hid b_RTxCheck_16) (hid b_RTxCheck_42)
@[simp] def l_RTxCheck_44 (_ : Unit) : List EOp := [⟨0, (some 5), none, (.q (.mov (.k (.int .i64 0)))), []⟩]
@[simp] def b_RTxCheck_45 (_ : Unit) : EB := reg0 (hid l_RTxCheck_44) 1
@[simp] def l_RTxCheck_46 (_ : Unit) : List EOp := [⟨0, (some 81), none, (.q (.mov (.t 5))), []⟩, ⟨1, (some 82), none, (.q (.fad 1 (.t 1))), []⟩, ⟨2, (some 83), none, (.q (.ldc (.t 82))), []⟩, ⟨3, (some 84), none, (.q (.len (.t 83))), []⟩, ⟨4, (some 85), none, (.q (.bin .lss (.t 81) (.t 84))), []⟩]
@[simp] def b_RTxCheck_47 (_ : Unit) : EB := reg0 (hid l_RTxCheck_46) 5
@[simp] def b_RTxCheck_48 (_ : Unit) : EB := .cond (.t 85) .skip (.exit 2)
@[simp] def b_RTxCheck_49 (_ : Unit) : EB := .seq (hid b_RTxCheck_47) (hid b_RTxCheck_48)
@[simp] def l_RTxCheck_50 (_ : Unit) : List EOp := [⟨0, (some 6), none, (.q (.mov (.k (.int .i64 0)))), []⟩]
@[simp] def b_RTxCheck_51 (_ : Unit) : EB := reg0 (hid l_RTxCheck_50) 1
@[simp] def l_RTxCheck_52 (_ : Unit) : List EOp := [⟨0, (some 88), none, (.q (.mov (.t 6))), []⟩, ⟨1, (some 89), none, (.q (.mov (.t 5))), []⟩, ⟨2, (some 90), none, (.q (.bin .lss (.t 88) (.t 89))), []⟩]
@[simp] def b_RTxCheck_53 (_ : Unit) : EB := reg0 (hid l_RTxCheck_52) 3
@[simp] def b_RTxCheck_54 (_ : Unit) : EB := .cond (.t 90) .skip (.exit 4)
@[simp] def b_RTxCheck_55 (_ : Unit) : EB := .seq (hid b_RTxCheck_53) (hid b_RTxCheck_54)
@[simp] def l_RTxCheck_58 (_ : Unit) : List EOp := [⟨12, (some 105), none, (.q (.eqw false [(32, .u8), (1, .i64)] (.t 98) (.t 104))), []⟩]
@[simp] def l_RTxCheck_57 (_ : Unit) : List EOp := ⟨6, (some 99), none, (.q (.fad 1 (.t 1))), []⟩ :: ⟨7, (some 100), none, (.q (.ldc (.t 99))), []⟩ :: ⟨8, (some 101), none, (.q (.mov (.t 6))), []⟩ :: ⟨9, (some 102), none, (.q (.isl 35 (.t 100) (.t 101))), []⟩ :: ⟨10, (some 103), none, (.q (.fad 0 (.t 102))), []⟩ :: ⟨11, (some 104), none, (.q (.lda 33 (.t 103))), []⟩ :: hid l_RTxCheck_58
@[simp] def l_RTxCheck_56 (_ : Unit) : List EOp := ⟨0, (some 93), none, (.q (.fad 1 (.t 1))), []⟩ :: ⟨1, (some 94), none, (.q (.ldc (.t 93))), []⟩ :: ⟨2, (some 95), none, (.q (.mov (.t 5))), []⟩ :: ⟨3, (some 96), none, (.q (.isl 35 (.t 94) (.t 95))), []⟩ :: ⟨4, (some 97), none, (.q (.fad 0 (.t 96))), []⟩ :: ⟨5, (some 98), none, (.q (.lda 33 (.t 97))), []⟩ :: hid l_RTxCheck_57
@[simp] def b_RTxCheck_59 (_ : Unit) : EB := reg0 (hid l_RTxCheck_56) 13
@[simp] def l_RTxCheck_60 (_ : Unit) : List EOp := [⟨0, (some 2), none, (.q (.mov (.k (.int .i64 9)))), []⟩]
@[simp] def b_RTxCheck_61 (_ : Unit) : EB := reg0 (hid l_RTxCheck_60) 1
@[simp] def b_RTxCheck_62 (_ : Unit) : EB := .seq (hid b_RTxCheck_61) .ret
@[simp] def b_RTxCheck_63 (_ : Unit) : EB := .cond (.t 105) (hid b_RTxCheck_62) .skip
@[simp] def b_RTxCheck_64 (_ : Unit) : EB := .seq (hid b_RTxCheck_59) (hid b_RTxCheck_63)
@[simp] def b_RTxCheck_65 (_ : Unit) : EB := .block 5 (hid b_RTxCheck_64)
@[simp] def l_RTxCheck_66 (_ : Unit) : List EOp := [⟨0, (some 91), none, (.q (.mov (.t 6))), []⟩, ⟨1, (some 92), none, (.q (.bin .add (.t 91) (.k (.int .i64 1)))), []⟩, ⟨2, (some 6), none, (.q (.mov (.t 92))), []⟩]
@[simp] def b_RTxCheck_67 (_ : Unit) : EB := reg0 (hid l_RTxCheck_66) 3
@[simp] def b_RTxCheck_68 (_ : Unit) : EB := .seq (hid b_RTxCheck_65) (hid b_RTxCheck_67)
@[simp] def b_RTxCheck_69 (_ : Unit) : EB := .seq (hid b_RTxCheck_55) (hid b_RTxCheck_68)
@[simp] def b_RTxCheck_70 (_ : Unit) : EB := .loop (hid b_RTxCheck_69)
@[simp] def b_RTxCheck_71 (_ : Unit) : EB := .block 4 (hid b_RTxCheck_70)
@[simp] def b_RTxCheck_72 (_ : Unit) : EB := .seq (hid b_RTxCheck_51) (hid b_RTxCheck_71)
@[simp] def b_RTxCheck_73 (_ : Unit) : EB := .block 3 (hid b_RTxCheck_72)
@[simp] def l_RTxCheck_74 (_ : Unit) : List EOp := [⟨0, (some 86), none, (.q (.mov (.t 5))), []⟩, ⟨1, (some 87), none, (.q (.bin .add (.t 86) (.k (.int .i64 1)))), []⟩, ⟨2, (some 5), none, (.q (.mov (.t 87))), []⟩]
@[simp] def b_RTxCheck_75 (_ : Unit) : EB := reg0 (hid l_RTxCheck_74) 3
@[simp] def b_RTxCheck_76 (_ : Unit) : EB := .seq (hid b_RTxCheck_73) (hid b_RTxCheck_75)
@[simp] def b_RTxCheck_77 (_ : Unit) : EB := .seq (hid b_RTxCheck_49) (hid b_RTxCheck_76)
@[simp] def b_RTxCheck_78 (_ : Unit) : EB := .loop (hid b_RTxCheck_77)
@[simp] def b_RTxCheck_79 (_ : Unit) : EB := .block 2 (hid b_RTxCheck_78)
@[simp] def b_RTxCheck_80 (_ : Unit) : EB := .seq (hid b_RTxCheck_45) (hid b_RTxCheck_79)
@[simp] def l_RTxCheck_81 (_ : Unit) : List EOp := [⟨0, (some 7), none, (.q (.mov (.k (.int .i64 0)))), []⟩]
@[simp] def b_RTxCheck_82 (_ : Unit) : EB := reg0 (hid l_RTxCheck_81) 1
@[simp] def l_RTxCheck_83 (_ : Unit) : List EOp := [⟨0, (some 106), none, (.q (.mov (.t 7))), []⟩, ⟨1, (some 107), none, (.q (.fad 2 (.t 1))), []⟩, ⟨2, (some 108), none, (.q (.ldc (.t 107))), []⟩, ⟨3, (some 109), none, (.q (.len (.t 108))), []⟩, ⟨4, (some 110), none, (.q (.bin .lss (.t 106) (.t 109))), []⟩]
@[simp] def b_RTxCheck_84 (_ : Unit) : EB := reg0 (hid l_RTxCheck_83) 5
@[simp] def b_RTxCheck_85 (_ : Unit) : EB := .cond (.t 110) .skip (.exit 6)
@[simp] def b_RTxCheck_86 (_ : Unit) : EB := .seq (hid b_RTxCheck_84) (hid b_RTxCheck_85)
@[simp] def l_RTxCheck_88 (_ : Unit) : List EOp := [⟨6, (some 119), none, (.q (.bin .lss (.t 118) (.k (.int .i64 10)))), []⟩]
@[simp] def l_RTxCheck_87 (_ : Unit) : List EOp := ⟨0, (some 113), none, (.q (.fad 2 (.t 1))), []⟩ :: ⟨1, (some 114), none, (.q (.ldc (.t 113))), []⟩ :: ⟨2, (some 115), none, (.q (.mov (.t 7))), []⟩ :: ⟨3, (some 116), none, (.q (.isl 2 (.t 114) (.t 115))), []⟩ :: ⟨4, (some 117), none, (.q (.fad 0 (.t 116))), []⟩ :: ⟨5, (some 118), none, (.q (.ldc (.t 117))), []⟩ :: hid l_RTxCheck_88
@[simp] def b_RTxCheck_89 (_ : Unit) : EB := reg0 (hid l_RTxCheck_87) 7
@[simp] def l_RTxCheck_90 (_ : Unit) : List EOp := [⟨0, (some 2), none, (.q (.mov (.k (.int .i64 27)))), []⟩]
@[simp] def b_RTxCheck_91 (_ : Unit) : EB := reg0 (hid l_RTxCheck_90) 1
@[simp] def b_RTxCheck_92 (_ : Unit) : EB := .seq (hid b_RTxCheck_91) .ret
@[simp] def b_RTxCheck_93 (_ : Unit) : EB := .cond (.t 119) (hid b_RTxCheck_92) .skip
@[simp] def b_RTxCheck_94 (_ : Unit) : EB := .seq (hid b_RTxCheck_89) (hid b_RTxCheck_93)
@[simp] def l_RTxCheck_96 (_ : Unit) : List EOp := [⟨6, (some 126), none, (.q (.bin .gtr (.t 125) (.k (.int .i64 1125899906842624)))), []⟩]
@[simp] def l_RTxCheck_95 (_ : Unit) : List EOp := ⟨0, (some 120), none, (.q (.fad 2 (.t 1))), []⟩ :: ⟨1, (some 121), none, (.q (.ldc (.t 120))), []⟩ :: ⟨2, (some 122), none, (.q (.mov (.t 7))), []⟩ :: ⟨3, (some 123), none, (.q (.isl 2 (.t 121) (.t 122))), []⟩ :: ⟨4, (some 124), none, (.q (.fad 0 (.t 123))), []⟩ :: ⟨5, (some 125), none, (.q (.ldc (.t 124))), []⟩ :: hid l_RTxCheck_96
@[simp] def b_RTxCheck_97 (_ : Unit) : EB := reg0 (hid l_RTxCheck_95) 7
@[simp] def l_RTxCheck_98 (_ : Unit) : List EOp := [⟨0, (some 2), none, (.q (.mov (.k (.int .i64 5)))), []⟩]
@[simp] def b_RTxCheck_99 (_ : Unit) : EB := reg0 (hid l_RTxCheck_98) 1
@[simp] def b_RTxCheck_100 (_ : Unit) : EB := .seq (hid b_RTxCheck_99) .ret
@[simp] def b_RTxCheck_101 (_ : Unit) : EB := .cond (.t 126) (hid b_RTxCheck_100) .skip
@[simp] def b_RTxCheck_102 (_ : Unit) : EB := .seq (hid b_RTxCheck_97) (hid b_RTxCheck_101)
@[simp] def l_RTxCheck_104 (_ : Unit) : List EOp := [⟨6, (some 133), none, (.call 120 [(.t 132)]), []⟩, ⟨7, (some 8), none, (.q (.mov (.t 133))), []⟩]
@[simp] def l_RTxCheck_103 (_ : Unit) : List EOp := ⟨0, (some 127), none, (.q (.fad 2 (.t 1))), []⟩ :: ⟨1, (some 128), none, (.q (.ldc (.t 127))), []⟩ :: ⟨2, (some 129), none, (.q (.mov (.t 7))), []⟩ :: ⟨3, (some 130), none, (.q (.isl 2 (.t 128) (.t 129))), []⟩ :: ⟨4, (some 131), none, (.q (.fad 1 (.t 130))), []⟩ :: ⟨5, (some 132), none, (.q (.lda 1 (.t 131))), []⟩ :: hid l_RTxCheck_104
@[simp] def b_RTxCheck_105 (_ : Unit) : EB := reg0 (hid l_RTxCheck_103) 8
@[simp] def l_RTxCheck_106 (_ : Unit) : List EOp := [⟨0, (some 134), none, (.q (.mov (.t 8))), []⟩, ⟨1, (some 135), none, (.q (.bin .neq (.t 134) (.k (.int .i64 0)))), []⟩]
@[simp] def b_RTxCheck_107 (_ : Unit) : EB := reg0 (hid l_RTxCheck_106) 2
@[simp] def l_RTxCheck_108 (_ : Unit) : List EOp := [⟨0, (some 136), none, (.q (.mov (.t 8))), []⟩, ⟨1, (some 2), none, (.q (.mov (.t 136))), []⟩]
@[simp] def b_RTxCheck_109 (_ : Unit) : EB := reg0 (hid l_RTxCheck_108) 2
@[simp] def b_RTxCheck_110 (_ : Unit) : EB := .seq (hid b_RTxCheck_109) .ret
@[simp] def b_RTxCheck_111 (_ : Unit) : EB := .cond (.t 135) (hid b_RTxCheck_110) .skip
@[simp] def b_RTxCheck_112 (_ : Unit) : EB := .seq (hid b_RTxCheck_107) (hid b_RTxCheck_111)
@[simp] def b_RTxCheck_113 (_ : Unit) : EB := .seq (hid b_RTxCheck_105) (hid b_RTxCheck_112)
@[simp] def b_RTxCheck_114 (_ : Unit) : EB := .seq (hid b_RTxCheck_102) (hid b_RTxCheck_113)
@[simp] def b_RTxCheck_115 (_ : Unit) : EB := .seq (hid b_RTxCheck_94) (hid b_RTxCheck_114)
@[simp] def b_RTxCheck_116 (_ : Unit) : EB := .block 7 (hid b_RTxCheck_115)
@[simp] def l_RTxCheck_117 (_ : Unit) : List EOp := [⟨0, (some 111), none, (.q (.mov (.t 7))), []⟩, ⟨1, (some 112), none, (.q (.bin .add (.t 111) (.k (.int .i64 1)))), []⟩, ⟨2, (some 7), none, (.q (.mov (.t 112))), []⟩]
@[simp] def b_RTxCheck_118 (_ : Unit) : EB := reg0 (hid l_RTxCheck_117) 3
@[simp] def b_RTxCheck_119 (_ : Unit) : EB := .seq (hid b_RTxCheck_116) (hid b_RTxCheck_118)
@[simp] def b_RTxCheck_120 (_ : Unit) : EB := .seq (hid b_RTxCheck_86) (hid b_RTxCheck_119)
@[simp] def b_RTxCheck_121 (_ : Unit) : EB := .loop (hid b_RTxCheck_120)
@[simp] def b_RTxCheck_122 (_ : Unit) : EB := .block 6 (hid b_RTxCheck_121)
@[simp] def b_RTxCheck_123 (_ : Unit) : EB := .seq (hid b_RTxCheck_82) (hid b_RTxCheck_122)
@[simp] def l_RTxCheck_125 (_ : Unit) : List EOp := [⟨6, (some 10), none, (.q (.mov (.t 141))), []⟩]
@[simp] def l_RTxCheck_124 (_ : Unit) : List EOp := ⟨0, (some 138), none, (.q (.lda 3 (.t 1))), []⟩ :: ⟨1, (some 139), none, (.call 121 [(.t 138)]), []⟩ :: ⟨2, (some 137), none, (.q (.mov (.t 139))), []⟩ :: ⟨3, (some 140), none, (.q (.ext 0 (.t 137))), []⟩ :: ⟨4, (some 141), none, (.q (.ext 1 (.t 137))), []⟩ :: ⟨5, (some 9), none, (.q (.mov (.t 140))), []⟩ :: hid l_RTxCheck_125
@[simp] def b_RTxCheck_126 (_ : Unit) : EB := reg0 (hid l_RTxCheck_124) 7
@[simp] def l_RTxCheck_127 (_ : Unit) : List EOp := [⟨0, (some 142), none, (.q (.mov (.t 10))), []⟩, ⟨1, (some 2), none, (.q (.mov (.t 142))), []⟩]
@[simp] def b_RTxCheck_128 (_ : Unit) : EB := reg0 (hid l_RTxCheck_127) 2
@[simp] def b_RTxCheck_129 (_ : Unit) : EB := .seq (hid b_RTxCheck_128) .ret
@[simp] def b_RTxCheck_130 (_ : Unit) : EB := .seq (hid b_RTxCheck_126) (hid b_RTxCheck_129)
@[simp] def b_RTxCheck_131 (_ : Unit) : EB := .seq (hid b_RTxCheck_123) (hid b_RTxCheck_130)
@[simp] def b_RTxCheck_132 (_ : Unit) : EB := .seq (hid b_RTxCheck_80) (hid b_RTxCheck_131)
@[simp] def b_RTxCheck_133 (_ : Unit) : EB := .seq (hid b_RTxCheck_43) (hid b_RTxCheck_132)
@[simp] def b_RTxCheck_134 (_ : Unit) : EB := .seq (hid b_RTxCheck_14) (hid b_RTxCheck_133)
@[simp] def b_RTxCheck_135 (_ : Unit) : EB := .seq (hid b_RTxCheck_2) (hid b_RTxCheck_134)
def c_RTxCheck : EB × List QOp × Nat := ((hid b_RTxCheck_135), [(.mov (.t 2))], 143)
theorem k_RTxCheck : cfun Tryz.prog 59 = some c_RTxCheck := by kernel_rfl


theorem drop35b (a b c : EC) : List.drop 35 (a :: (hc hz ++ [b, c])) = [] := by rw [List.drop_eq_nil_iff]; simp [hz]
def AllB (l : List Bra) (i : Nat) : Prop := (l.take i).all brM = true
theorem all_take {l : List Bra} {i : Nat} {b : Bra} (h : l[i]? = some b) (ht : AllB l i) (hb : brM b = true) : AllB l (i + 1) := by
  unfold AllB at *
  rw [List.take_add_one, h, List.all_append, ht]; simp [hb]
def AllI (l : List Inp) (i : Nat) : Prop := (l.take i).all inM = true
theorem alli_take {l : List Inp} {i : Nat} {b : Inp} (h : l[i]? = some b) (ht : AllI l i) (hb : inM b = true) : AllI l (i + 1) := by
  unfold AllI at *
  rw [List.take_add_one, h, List.all_append, ht]; simp [hb]
theorem cnE_bad {l : List Bra} {i : Nat} {b : Bra} (h : l[i]? = some b) (hb : brM b = false) : cnE l = 1 := by
  refine if_neg ?_
  rintro ⟨_, h2⟩
  have := (List.all_eq_true.1 h2) b (List.mem_of_getElem? h)
  rw [hb] at this
  simp at this

set_option maxHeartbeats 8000000 in
theorem RCCheck_ok (l : List Bra) (hl : ∀ h ∈ l, h.ok) (hn : l.length ≤ 100000000) : ECalls Tryz.prog 120 [CNv l] [] fun y H' => H' = [] ∧ y = I .i64 (cnE l) := by
  refine ecalls k_RCCheck ?_
  simp [c_RCCheck, CNv, I]
  by_cases c1 : l.length < 1
  · have c1' : (l.length : Int) < 1 := by omega
    have d1 : ¬ 1 ≤ l.length := by omega
    have d1' : ¬ (1 : Int) ≤ (l.length : Int) := by omega
    have hv : cnE l = 1 := if_neg (by omega)
    rw [hv]
    simp [c1, c1', d1, d1']
    exact fin [] (by decide) rfl rfl rfl ⟨rfl, rfl⟩
  have c1' : ¬ (l.length : Int) < 1 := by omega
  have d1 : 1 ≤ l.length := by omega
  have d1' : (1 : Int) ≤ (l.length : Int) := by omega
  by_cases c2 : 8 < l.length
  · have c2' : (8 : Int) < (l.length : Int) := by omega
    have d2 : ¬ l.length ≤ 8 := by omega
    have d2' : ¬ (l.length : Int) ≤ 8 := by omega
    have hv : cnE l = 1 := if_neg (by omega)
    rw [hv]
    simp [c1, c1', d1, d1', c2, c2', d2, d2']
    exact fin [] (by decide) rfl rfl rfl ⟨rfl, rfl⟩
  have c2' : ¬ (8 : Int) < (l.length : Int) := by omega
  have d2 : l.length ≤ 8 := by omega
  have d2' : (l.length : Int) ≤ 8 := by omega
  simp [c1, c1', d1, d1', c2, c2', d2, d2']
  refine eloop (α := Nat) (fun i => i ≤ l.length ∧ AllB l i) (fun i => l.length - i)
    (fun i => [.any, Ptr 0, .any, I .i64 i, .any, .any, .any, .any, .any, .any, .any, .any, .any, .any, .any, .any, .any, .any, .any, .any, .any, .any, .any, .any, .any, .any, .any, .any, .any, .any, .any, .any, .any, .any, .any, .any, .any, .any, .any, .any, .any, .any, .any, .any, .any, .any, .any, .any, .any, .any, .any, .any, .any, .any, .any, .any, .any, .any, .any, .any, .any, .any, .any, .any, .any, .any, .any, .any, .any, .any, .any, .any, .any, .any, .any, .any, .any, .any, .any, .any]) (fun _ => [some (.box 152 [.fz (.sl 35 (brav l))])]) 0 [0]
    ⟨by simp, by simp [AllB]⟩ (by simp [Ptr, I]) (by simp) (by simp) (by simp) (by simp) ?_
  rintro i ⟨hi1, hi2⟩
  simp [Ptr, I]
  refine alt (fun hlt => ?_) (fun hlt => ?_)
  rotate_left
  · have hil : i = l.length := by omega
    subst hil
    unfold AllB at hi2
    rw [List.take_length] at hi2
    have hv : cnE l = 0 := if_pos ⟨by omega, hi2⟩
    rw [hv]
    simp
    exact fin [] (by decide) rfl rfl rfl ⟨rfl, rfl⟩
  have hln : i < l.length := by omega
  obtain ⟨b, hcb⟩ : ∃ b, l[i]? = some b := ⟨l[i], by simp [hln]⟩
  have hge : (brav l)[i]'(by simp [hln]) = braF b := by
    have e := brav_get hcb
    rw [List.getElem?_eq_getElem (by simp [hln])] at e
    exact Option.some.inj e
  obtain ⟨hk, h1, ha, ho, h4⟩ := hl b (List.mem_of_getElem? hcb)
  have l0 := bc_len h1
  have l1 := bf_len h1
  have tk := bc_take h1
  have e0 := idx_of (bc_0 b) (by omega)
  have e33 := idx_of (bc_33 h1) (by omega)
  have e34 := idx_of (bc_34 h1) (by omega)
  simp [hln, hge, braF_fz, l0, l1, tk, drop35b, e0, e33, e34, iC]
  have hbad : ∀ q : ¬ (1 ≤ b.keys.length ∧ 0 ≤ b.af ∧ b.af ≤ 1099511627776 ∧ 0 ≤ b.ol ∧ b.ol ≤ 65536), cnE l = 1 := fun q => cnE_bad hcb (by unfold brM; rw [decide_eq_false q, Bool.and_false])
  by_cases c3 : b.keys.length < 1
  · have c3' : (b.keys.length : Int) < 1 := by omega
    have d3 : ¬ 1 ≤ b.keys.length := by omega
    have d3' : ¬ (1 : Int) ≤ (b.keys.length : Int) := by omega
    rw [hbad (by omega)]
    simp [c3, c3', d3, d3']
    exact fin [] (by decide) rfl rfl rfl ⟨rfl, rfl⟩
  have c3' : ¬ (b.keys.length : Int) < 1 := by omega
  have d3 : 1 ≤ b.keys.length := by omega
  have d3' : (1 : Int) ≤ (b.keys.length : Int) := by omega
  by_cases c4 : b.af < 0
  · have d4 : ¬ 0 ≤ b.af := by omega
    rw [hbad (by omega)]
    simp [c3, c3', d3, d3', c4, d4, l0, e33, e34, iC]
    exact fin [] (by decide) rfl rfl rfl ⟨rfl, rfl⟩
  have d4 : 0 ≤ b.af := by omega
  by_cases c5 : 1099511627776 < b.af
  · have d5 : ¬ b.af ≤ 1099511627776 := by omega
    rw [hbad (by omega)]
    simp [c3, c3', d3, d3', c4, d4, c5, d5, l0, e33, e34, iC]
    exact fin [] (by decide) rfl rfl rfl ⟨rfl, rfl⟩
  have d5 : b.af ≤ 1099511627776 := by omega
  by_cases c6 : b.ol < 0
  · have d6 : ¬ 0 ≤ b.ol := by omega
    rw [hbad (by omega)]
    simp [c3, c3', d3, d3', c4, d4, c5, d5, c6, d6, l0, e33, e34, iC]
    exact fin [] (by decide) rfl rfl rfl ⟨rfl, rfl⟩
  have d6 : 0 ≤ b.ol := by omega
  by_cases c7 : 65536 < b.ol
  · have d7 : ¬ b.ol ≤ 65536 := by omega
    rw [hbad (by omega)]
    simp [c3, c3', d3, d3', c4, d4, c5, d5, c6, d6, c7, d7, l0, e33, e34, iC]
    exact fin [] (by decide) rfl rfl rfl ⟨rfl, rfl⟩
  have d7 : b.ol ≤ 65536 := by omega
  simp [c3, c3', d3, d3', c4, d4, c5, d5, c6, d6, c7, d7, l0, e33, e34, iC]
  refine eloop (α := Nat × Int) (fun a => a.1 ≤ b.keys.length ∧ keysS (-1) b.keys = keysS a.2 (b.keys.drop a.1)) (fun a => b.keys.length - a.1)
    (fun a => [.any, Ptr 0, .any, I .i64 i, Ptr 1, I .i64 a.2, I .i64 a.1, .any, .any, .any, .any, .any, .any, .any, .any, .any, .any, .any, .any, .any, .any, .any, .any, .any, .any, .any, .any, .any, .any, .any, .any, .any, .any, .any, .any, .any, .any, .any, .any, .any, .any, .any, .any, .any, .any, .any, .any, .any, .any, .any, .any, .any, .any, .any, .any, .any, .any, .any, .any, .any, .any, .any, .any, .any, .any, .any, .any, .any, .any, .any, .any, .any, .any, .any, .any, .any, .any, .any, .any, .any]) (fun _ => [some (.box 152 [.fz (.sl 35 (brav l))]), some (.box 212 (braC b))]) (0, -1) [0, 161]
    ⟨by simp, by simp⟩ (by simp [Ptr, I]) (by simp) (by simp) (by simp) (by simp) ?_
  rintro ⟨j, last⟩ ⟨hj1, hj2⟩
  dsimp only at hj1 hj2
  simp [Ptr, I, l0, e0]
  refine alt (fun hlt2 => ?_) (fun hlt2 => ?_)
  · have hjn : j < b.keys.length := by omega
    obtain ⟨k, hck⟩ : ∃ k, b.keys[j]? = some k := ⟨b.keys[j], by simp [hjn]⟩
    have ga : ∀ h2, (intv b.keys)[j]'h2 = [.lit (.int .i64 k)] := fun h2 => by rw [intv_at hjn, hck]; rfl
    rw [drop_cons hck] at hj2
    have w1 : IntKind.i64.wrap ((j : Int) + 1) = ((j + 1 : Nat) : Int) := wrap_i64 (by omega) (by omega)
    have hbk : ¬ (last < k ∧ k < 16) → cnE l = 1 := fun q => cnE_bad hcb (by unfold brM; rw [hj2]; simp only [keysS, decide_eq_false q, Bool.false_and])
    simp [hjn, ga, l0, e0]
    by_cases g1 : k ≤ last
    · have g1' : ¬ last < k := by omega
      rw [hbk (by omega)]
      simp [g1, g1']
      exact fin [] (by decide) rfl rfl rfl ⟨rfl, rfl⟩
    have g1' : last < k := by omega
    by_cases g2 : 15 < k
    · have g2' : ¬ k ≤ 15 := by omega
      rw [hbk (by omega)]
      simp [g1, g1', g2, g2', hjn, ga, l0, e0]
      exact fin [] (by decide) rfl rfl rfl ⟨rfl, rfl⟩
    have g2' : k ≤ 15 := by omega
    simp [g1, g1', g2, g2', hjn, ga, l0, e0, w1, -Int.natCast_add]
    exact round (j + 1, k) [0, 1] ⟨by dsimp only; omega, by dsimp only; rw [hj2, keysS, decide_eq_true ⟨g1', by omega⟩, Bool.true_and]⟩ (by dsimp only; omega) (by simp [Ptr, I]) (by simp) (by simp) (by simp) (by simp)
  · have hd : b.keys.drop j = [] := by rw [List.drop_eq_nil_iff]; omega
    have hks : keysS (-1) b.keys = true := by rw [hj2, hd]; rfl
    have hbm : brM b = true := by unfold brM; rw [hks, Bool.true_and]; exact decide_eq_true ⟨d3, d4, d5, d6, d7⟩
    have w1 : IntKind.i64.wrap ((i : Int) + 1) = ((i + 1 : Nat) : Int) := wrap_i64 (by omega) (by omega)
    simp [w1, -Int.natCast_add]
    exact round (i + 1) [0] ⟨by omega, all_take hcb hi2 hbm⟩ (by omega) (by simp [Ptr, I]) (by simp) (by simp) (by simp) (by simp)

set_option maxHeartbeats 4000000 in
theorem RTxTotal_ok (t : Txn) (ht : t.ok) : ECalls Tryz.prog 121 [TXv t] [] fun y H' => H' = [] ∧ y = .tup [.c (iC (totO 0 t.outs).1), .c (iC ((totO 0 t.outs).2 : Int))] := by
  obtain ⟨h1, h2, h3, h4, h5⟩ := ht
  obtain ⟨F, hF⟩ : ∃ F, totO 0 t.outs = F := ⟨_, rfl⟩
  rw [hF]
  refine ecalls k_RTxTotal ?_
  simp [c_RTxTotal, TXv, txC, I, iC]
  refine eloop (α := Nat × Int) (fun a => a.1 ≤ t.outs.length ∧ totO a.2 (t.outs.drop a.1) = F ∧ 0 ≤ a.2 ∧ a.2 ≤ 1125899906842624) (fun a => t.outs.length - a.1)
    (fun a => [.any, Ptr 0, .any, .any, I .i64 a.2, I .i64 a.1, .any, .any, .any, .any, .any, .any, .any, .any, .any, .any, .any, .any, .any, .any, .any, .any, .any, .any, .any, .any, .any, .any, .any, .any, .any, .any, .any, .any, .any, .any]) (fun _ => [some (.box 77 (txC t))]) (0, 0) [0]
    ⟨by simp, by simpa using hF, by simp, by simp⟩ (by simp [I, Ptr]) (by simp [txC, iC]) (by simp) (by simp) (by simp) ?_
  rintro ⟨i, n⟩ ⟨hi1, hi2, hi3, hi4⟩
  dsimp only at hi1 hi2 hi3 hi4
  simp [I, Ptr, txC, iC]
  refine alt (fun hlt => ?_) (fun hlt => ?_)
  · have hln : i < t.outs.length := by omega
    obtain ⟨p, hc⟩ : ∃ p, t.outs[i]? = some p := ⟨t.outs[i], by simp [hln]⟩
    have hge : (outv t.outs)[i]'(by simp [hln]) = outF p := by
      have e := outv_get hc
      rw [List.getElem?_eq_getElem (by simp [hln])] at e
      exact Option.some.inj e
    have hpo := h3 p (List.mem_of_getElem? hc)
    have hpa := hpo.1
    unfold i64 at hpa
    rw [drop_cons hc] at hi2
    have w1 : IntKind.i64.wrap ((i : Int) + 1) = ((i + 1 : Nat) : Int) := wrap_i64 (by omega) (by omega)
    simp [hln, hge, outF, iF]
    by_cases c1 : p.am < 0
    · have c1' : ¬ 0 ≤ p.am := by omega
      have hv : F = (0, 5) := by rw [← hi2]; exact if_pos (.inl c1)
      rw [hv]
      simp [c1, c1']
      exact fin [] (by decide) rfl rfl rfl ⟨rfl, rfl⟩
    have c1' : 0 ≤ p.am := by omega
    by_cases c3 : 1125899906842624 < p.am
    · have c3' : ¬ p.am ≤ 1125899906842624 := by omega
      have hv : F = (0, 5) := by rw [← hi2]; exact if_pos (.inr (by omega))
      rw [hv]
      simp [c1, c1', c3, c3']
      exact fin [] (by decide) rfl rfl rfl ⟨rfl, rfl⟩
    have c3' : p.am ≤ 1125899906842624 := by omega
    have w3 : IntKind.i64.wrap (n + p.am) = n + p.am := wrap_i64 (by omega) (by omega)
    by_cases c2 : 1125899906842624 < n + p.am
    · have c2' : ¬ n + p.am ≤ 1125899906842624 := by omega
      have hv : F = (0, 5) := by rw [← hi2]; exact if_pos (.inr (by omega))
      rw [hv]
      simp [c1, c1', c3, c3', w3, c2, c2']
      exact fin [] (by decide) rfl rfl rfl ⟨rfl, rfl⟩
    have c2' : n + p.am ≤ 1125899906842624 := by omega
    have hn : totO (n + p.am) (t.outs.drop (i + 1)) = F := by rw [← hi2]; exact (if_neg (by omega)).symm
    simp [c1, c1', c3, c3', c2, c2', w3, w1, -Int.natCast_add]
    exact round (i + 1, n + p.am) [0] ⟨by dsimp only; omega, hn, by dsimp only; omega, by dsimp only; omega⟩ (by dsimp only; omega) (by simp [I, Ptr]) (by simp) (by simp) (by simp) (by simp)
  · have hd : t.outs.drop i = [] := by rw [List.drop_eq_nil_iff]; omega
    rw [hd] at hi2
    rw [← hi2]
    simp
    exact fin [] (by decide) rfl rfl rfl ⟨rfl, rfl⟩

set_option maxHeartbeats 16000000 in
theorem RTxCheck_ok (t : Txn) (ht : t.ok) : ECalls Tryz.prog 59 [TXv t] [] fun y H' => H' = [] ∧ y = I .i64 (chkT t) := by
  obtain ⟨h1, h2, h3, h4, h5⟩ := id ht
  have hv4 : (t.lk < 0 ∨ 1099511627776 < t.lk ∨ ¬ (1 ≤ t.ins.length ∧ t.ins.length ≤ 64) ∨ ¬ (1 ≤ t.outs.length ∧ t.outs.length ≤ 64) ∨ t.ins.all inM = false) → chkT t = 4 := fun h => if_pos h
  refine ecalls k_RTxCheck ?_
  simp [c_RTxCheck, TXv, txC, I, iC]
  by_cases c1 : t.lk < 0
  · have c1' : ¬ 0 ≤ t.lk := by omega
    rw [hv4 (.inl c1)]
    simp [c1, c1']
    exact fin [] (by decide) rfl rfl rfl ⟨rfl, rfl⟩
  have c1' : 0 ≤ t.lk := by omega
  by_cases c2 : 1099511627776 < t.lk
  · have c2' : ¬ t.lk ≤ 1099511627776 := by omega
    rw [hv4 (.inr (.inl c2))]
    simp [c1, c1', c2, c2']
    exact fin [] (by decide) rfl rfl rfl ⟨rfl, rfl⟩
  have c2' : t.lk ≤ 1099511627776 := by omega
  by_cases c3 : t.ins.length < 1
  · have c3' : (t.ins.length : Int) < 1 := by omega
    have d3 : ¬ 1 ≤ t.ins.length := by omega
    have d3' : ¬ (1 : Int) ≤ (t.ins.length : Int) := by omega
    rw [hv4 (.inr (.inr (.inl (by omega))))]
    simp [c1, c1', c2, c2', c3, c3', d3, d3']
    exact fin [] (by decide) rfl rfl rfl ⟨rfl, rfl⟩
  have c3' : ¬ (t.ins.length : Int) < 1 := by omega
  have d3 : 1 ≤ t.ins.length := by omega
  have d3' : (1 : Int) ≤ (t.ins.length : Int) := by omega
  by_cases c4 : 64 < t.ins.length
  · have c4' : (64 : Int) < (t.ins.length : Int) := by omega
    have d4 : ¬ t.ins.length ≤ 64 := by omega
    have d4' : ¬ (t.ins.length : Int) ≤ 64 := by omega
    rw [hv4 (.inr (.inr (.inl (by omega))))]
    simp [c1, c1', c2, c2', c3, c3', d3, d3', c4, c4', d4, d4']
    exact fin [] (by decide) rfl rfl rfl ⟨rfl, rfl⟩
  have c4' : ¬ (64 : Int) < (t.ins.length : Int) := by omega
  have d4 : t.ins.length ≤ 64 := by omega
  have d4' : (t.ins.length : Int) ≤ 64 := by omega
  by_cases c5 : t.outs.length < 1
  · have c5' : (t.outs.length : Int) < 1 := by omega
    have d5 : ¬ 1 ≤ t.outs.length := by omega
    have d5' : ¬ (1 : Int) ≤ (t.outs.length : Int) := by omega
    rw [hv4 (.inr (.inr (.inr (.inl (by omega)))))]
    simp [c1, c1', c2, c2', c3, c3', d3, d3', c4, c4', d4, d4', c5, c5', d5, d5']
    exact fin [] (by decide) rfl rfl rfl ⟨rfl, rfl⟩
  have c5' : ¬ (t.outs.length : Int) < 1 := by omega
  have d5 : 1 ≤ t.outs.length := by omega
  have d5' : (1 : Int) ≤ (t.outs.length : Int) := by omega
  by_cases c6 : 64 < t.outs.length
  · have c6' : (64 : Int) < (t.outs.length : Int) := by omega
    have d6 : ¬ t.outs.length ≤ 64 := by omega
    have d6' : ¬ (t.outs.length : Int) ≤ 64 := by omega
    rw [hv4 (.inr (.inr (.inr (.inl (by omega)))))]
    simp [c1, c1', c2, c2', c3, c3', d3, d3', c4, c4', d4, d4', c5, c5', d5, d5', c6, c6', d6, d6']
    exact fin [] (by decide) rfl rfl rfl ⟨rfl, rfl⟩
  have c6' : ¬ (64 : Int) < (t.outs.length : Int) := by omega
  have d6 : t.outs.length ≤ 64 := by omega
  have d6' : (t.outs.length : Int) ≤ 64 := by omega
  simp [c1, c1', c2, c2', c3, c3', d3, d3', c4, c4', d4, d4', c5, c5', d5, d5', c6, c6', d6, d6']
  refine eloop (α := Nat) (fun i => i ≤ t.ins.length ∧ AllI t.ins i) (fun i => t.ins.length - i)
    (fun i => [.any, Ptr 0, .any, I .i64 i, .any, .any, .any, .any, .any, .any, .any, .any, .any, .any, .any, .any, .any, .any, .any, .any, .any, .any, .any, .any, .any, .any, .any, .any, .any, .any, .any, .any, .any, .any, .any, .any, .any, .any, .any, .any, .any, .any, .any, .any, .any, .any, .any, .any, .any, .any, .any, .any, .any, .any, .any, .any, .any, .any, .any, .any, .any, .any, .any, .any, .any, .any, .any, .any, .any, .any, .any, .any, .any, .any, .any, .any, .any, .any, .any, .any, .any, .any, .any, .any, .any, .any, .any, .any, .any, .any, .any, .any, .any, .any, .any, .any, .any, .any, .any, .any, .any, .any, .any, .any, .any, .any, .any, .any, .any, .any, .any, .any, .any, .any, .any, .any, .any, .any, .any, .any, .any, .any, .any, .any, .any, .any, .any, .any, .any, .any, .any, .any, .any, .any, .any, .any, .any, .any, .any, .any, .any, .any, .any]) (fun _ => [some (.box 77 (txC t))]) 0 [0]
    ⟨by simp, by simp [AllI]⟩ (by simp [Ptr, I]) (by simp [txC, iC]) (by simp) (by simp) (by simp) ?_
  rintro i ⟨hi1, hi2⟩
  simp [Ptr, I, txC, iC]
  refine alt (fun hlt => ?_) (fun hlt => ?_)
  · have hln : i < t.ins.length := by omega
    obtain ⟨p, hcp⟩ : ∃ p, t.ins[i]? = some p := ⟨t.ins[i], by simp [hln]⟩
    have hge : (inpv t.ins)[i]'(by simp [hln]) = inpF p := by
      have e := inpv_get hcp
      rw [List.getElem?_eq_getElem (by simp [hln])] at e
      exact Option.some.inj e
    have hpo := h2 p (List.mem_of_getElem? hcp)
    have l0 := ic_len hpo.1
    have l1 := if_len hpo.1
    have tk := ic_take hpo.1
    have e32 := idx_of (ic_32 hpo.1) (by omega)
    have e33 := idx_of (ic_33 hpo.1) (by omega)
    have e34 := idx_of (ic_34 hpo.1) (by omega)
    have w1 : IntKind.i64.wrap ((i : Int) + 1) = ((i + 1 : Nat) : Int) := wrap_i64 (by omega) (by omega)
    have hb : (bsv p.sec).length = p.sec.length := by simp
    have hbad : ¬ (0 ≤ p.n ∧ p.n < 64 ∧ 0 ≤ p.br ∧ p.br < 8 ∧ p.sec.length ≤ 64) → chkT t = 4 := fun q => hv4 (.inr (.inr (.inr (.inr (by rw [List.all_eq_false]; exact ⟨p, List.mem_of_getElem? hcp, by unfold inM; rw [decide_eq_false q]; simp⟩)))))
    simp [hln, hge, inpF_fz, l0, l1, tk, drop35i, e32, e33, e34, iC]
    by_cases g1 : p.n < 0
    · have g1' : ¬ 0 ≤ p.n := by omega
      rw [hbad (by omega)]
      simp [g1, g1']
      exact fin [] (by decide) rfl rfl rfl ⟨rfl, rfl⟩
    have g1' : 0 ≤ p.n := by omega
    by_cases g2 : 63 < p.n
    · have g2' : ¬ p.n ≤ 63 := by omega
      rw [hbad (by omega)]
      simp [g1, g1', g2, g2', l0, e32, e33, e34, iC]
      exact fin [] (by decide) rfl rfl rfl ⟨rfl, rfl⟩
    have g2' : p.n ≤ 63 := by omega
    by_cases g3 : p.br < 0
    · have g3' : ¬ 0 ≤ p.br := by omega
      rw [hbad (by omega)]
      simp [g1, g1', g2, g2', g3, g3', l0, e32, e33, e34, iC]
      exact fin [] (by decide) rfl rfl rfl ⟨rfl, rfl⟩
    have g3' : 0 ≤ p.br := by omega
    by_cases g4 : 7 < p.br
    · have g4' : ¬ p.br ≤ 7 := by omega
      rw [hbad (by omega)]
      simp [g1, g1', g2, g2', g3, g3', g4, g4', l0, e32, e33, e34, iC]
      exact fin [] (by decide) rfl rfl rfl ⟨rfl, rfl⟩
    have g4' : p.br ≤ 7 := by omega
    by_cases g5 : 64 < p.sec.length
    · have g5' : (64 : Int) < (p.sec.length : Int) := by omega
      have k5 : ¬ p.sec.length ≤ 64 := by omega
      have k5' : ¬ (p.sec.length : Int) ≤ 64 := by omega
      rw [hbad (by omega)]
      simp [g1, g1', g2, g2', g3, g3', g4, g4', g5, g5', k5, k5', hb, l0, e32, e33, e34, iC]
      exact fin [] (by decide) rfl rfl rfl ⟨rfl, rfl⟩
    have g5' : ¬ (64 : Int) < (p.sec.length : Int) := by omega
    have k5 : p.sec.length ≤ 64 := by omega
    have k5' : (p.sec.length : Int) ≤ 64 := by omega
    have hgd : inM p = true := decide_eq_true ⟨by omega, by omega, by omega, by omega, by omega⟩
    simp [g1, g1', g2, g2', g3, g3', g4, g4', g5, g5', k5, k5', hb, l0, e32, e33, e34, iC, w1, -Int.natCast_add]
    exact round (i + 1) [0] ⟨by omega, alli_take hcp hi2 hgd⟩ (by omega) (by simp [Ptr, I]) (by simp) (by simp) (by simp) (by simp)
  have hil : i = t.ins.length := by omega
  subst hil
  unfold AllI at hi2
  rw [List.take_length] at hi2
  have hv9 : chkT t = if ¬ (t.ins.map ptI).Nodup then 9 else if outsE t.outs ≠ 0 then outsE t.outs else (totO 0 t.outs).2 := by
    unfold chkT
    rw [if_neg]
    rintro (h | h | h | h | h)
    · exact c1 h
    · exact c2 h
    · omega
    · omega
    · rw [hi2] at h; simp at h
  clear hi1 hlt
  simp
  refine eloop (α := Nat) (fun i => i ≤ t.ins.length ∧ ((t.ins.take i).map ptI).Nodup) (fun i => t.ins.length - i)
    (fun i => [.any, Ptr 0, .any, .any, .any, I .i64 i, .any, .any, .any, .any, .any, .any, .any, .any, .any, .any, .any, .any, .any, .any, .any, .any, .any, .any, .any, .any, .any, .any, .any, .any, .any, .any, .any, .any, .any, .any, .any, .any, .any, .any, .any, .any, .any, .any, .any, .any, .any, .any, .any, .any, .any, .any, .any, .any, .any, .any, .any, .any, .any, .any, .any, .any, .any, .any, .any, .any, .any, .any, .any, .any, .any, .any, .any, .any, .any, .any, .any, .any, .any, .any, .any, .any, .any, .any, .any, .any, .any, .any, .any, .any, .any, .any, .any, .any, .any, .any, .any, .any, .any, .any, .any, .any, .any, .any, .any, .any, .any, .any, .any, .any, .any, .any, .any, .any, .any, .any, .any, .any, .any, .any, .any, .any, .any, .any, .any, .any, .any, .any, .any, .any, .any, .any, .any, .any, .any, .any, .any, .any, .any, .any, .any, .any, .any]) (fun _ => [some (.box 77 (txC t))]) 0 [0]
    ⟨by simp, by simp⟩ (by simp [Ptr, I]) (by simp [txC, iC]) (by simp) (by simp) (by simp) ?_
  rintro i ⟨hi1, hn1⟩
  simp [Ptr, I, txC, iC]
  refine alt (fun hlt => ?_) (fun hlt => ?_)
  · have hln : i < t.ins.length := by omega
    obtain ⟨p, hcp⟩ : ∃ p, t.ins[i]? = some p := ⟨t.ins[i], by simp [hln]⟩
    have hge : (inpv t.ins)[i]'(by simp [hln]) = inpF p := by
      have e := inpv_get hcp
      rw [List.getElem?_eq_getElem (by simp [hln])] at e
      exact Option.some.inj e
    have hpo := h2 p (List.mem_of_getElem? hcp)
    simp
    refine eloop (α := Nat) (fun k => k ≤ i ∧ ∀ (j : Nat) (x : Inp), j < k → t.ins[j]? = some x → ptI p ≠ ptI x) (fun k => i - k)
      (fun k => [.any, Ptr 0, .any, .any, .any, I .i64 i, I .i64 k, .any, .any, .any, .any, .any, .any, .any, .any, .any, .any, .any, .any, .any, .any, .any, .any, .any, .any, .any, .any, .any, .any, .any, .any, .any, .any, .any, .any, .any, .any, .any, .any, .any, .any, .any, .any, .any, .any, .any, .any, .any, .any, .any, .any, .any, .any, .any, .any, .any, .any, .any, .any, .any, .any, .any, .any, .any, .any, .any, .any, .any, .any, .any, .any, .any, .any, .any, .any, .any, .any, .any, .any, .any, .any, .any, .any, .any, .any, .any, .any, .any, .any, .any, .any, .any, .any, .any, .any, .any, .any, .any, .any, .any, .any, .any, .any, .any, .any, .any, .any, .any, .any, .any, .any, .any, .any, .any, .any, .any, .any, .any, .any, .any, .any, .any, .any, .any, .any, .any, .any, .any, .any, .any, .any, .any, .any, .any, .any, .any, .any, .any, .any, .any, .any, .any, .any]) (fun _ => [some (.box 77 (txC t))]) 0 [0]
      ⟨by simp, by intro j x h; omega⟩ (by simp [Ptr, I]) (by simp [txC, iC]) (by simp) (by simp) (by simp) ?_
    rintro k ⟨hk1, hk2⟩
    simp [Ptr, I, txC, iC]
    refine alt (fun hlk => ?_) (fun hlk => ?_)
    · have hkn : k < t.ins.length := by omega
      obtain ⟨q, hcq⟩ : ∃ q, t.ins[k]? = some q := ⟨t.ins[k], by simp [hkn]⟩
      have hgq : (inpv t.ins)[k]'(by simp [hkn]) = inpF q := by
        have e := inpv_get hcq
        rw [List.getElem?_eq_getElem (by simp [hkn])] at e
        exact Option.some.inj e
      have hqo := h2 q (List.mem_of_getElem? hcq)
      have lp := ic_len hpo.1
      have lq := ic_len hqo.1
      have fp := if_len hpo.1
      have fq := if_len hqo.1
      have pp := ic_pt hpo.1
      have pq := ic_pt hqo.1
      have kp := litK_pt hpo
      have kq := litK_pt hqo
      have kp' : litK (unrle [(32, .u8), (1, .i64)]) (hc p.tx ++ [EC.fz (FV.lit (Value.int IntKind.i64 p.n))]) = some (ptI p) := kp
      have kq' : litK (unrle [(32, .u8), (1, .i64)]) (hc q.tx ++ [EC.fz (FV.lit (Value.int IntKind.i64 q.n))]) = some (ptI q) := kq
      have w1 : IntKind.i64.wrap ((k : Int) + 1) = ((k + 1 : Nat) : Int) := wrap_i64 (by omega) (by omega)
      simp [hln, hkn, hge, hgq, inpF_fz, lp, lq, fp, fq, pp, pq, iC, kp', kq']
      refine alt (fun he => ?_) (fun he => ?_)
      · have hnd : ¬ (t.ins.map ptI).Nodup := by
          intro h
          have := (List.pairwise_iff_getElem.1 h) k i (by simp; omega) (by simp; omega) (by omega)
          simp only [List.getElem_map] at this
          have e1 : t.ins[k] = q := by rw [List.getElem?_eq_getElem hkn] at hcq; exact Option.some.inj hcq
          have e2 : t.ins[i] = p := by rw [List.getElem?_eq_getElem hln] at hcp; exact Option.some.inj hcp
          rw [e1, e2] at this
          exact this he.symm
        rw [hv9, if_pos hnd]
        simp
        exact fin [] (by decide) rfl rfl rfl ⟨rfl, rfl⟩
      · simp [w1, -Int.natCast_add]
        refine round (k + 1) [0] ⟨by omega, ?_⟩ (by omega) (by simp [Ptr, I]) (by simp) (by simp) (by simp) (by simp)
        intro j x hj hx
        rcases Nat.lt_or_ge j k with g | g
        · exact hk2 j x g hx
        · obtain rfl : j = k := by omega
          rw [hcq] at hx
          obtain rfl := Option.some.inj hx
          exact he
    · have hki : k = i := by omega
      subst hki
      have w1 : IntKind.i64.wrap ((k : Int) + 1) = ((k + 1 : Nat) : Int) := wrap_i64 (by omega) (by omega)
      have hn2 : ((t.ins.take (k + 1)).map ptI).Nodup := by
        rw [take_s hcp, List.map_append, List.map_singleton, List.nodup_append]
        refine ⟨hn1, by simp, ?_⟩
        intro a ha b hb
        simp at hb; subst hb
        obtain ⟨x, hx, rfl⟩ := List.mem_map.1 ha
        obtain ⟨j, hj⟩ := List.getElem?_of_mem hx
        rw [List.getElem?_take] at hj
        split at hj
        · rename_i hjk
          exact fun e => hk2 j x hjk hj e.symm
        · simp at hj
      simp [w1, -Int.natCast_add]
      exact round (k + 1) [0] ⟨by omega, by rw [← List.map_take]; exact hn2⟩ (by omega) (by simp [Ptr, I]) (by simp) (by simp) (by simp) (by simp)
  have hil : i = t.ins.length := by omega
  subst hil
  rw [List.take_length] at hn1
  rw [hv9, if_neg (by simpa using hn1)]
  obtain ⟨V, hV⟩ : ∃ V, (if outsE t.outs ≠ 0 then outsE t.outs else (totO 0 t.outs).2) = V := ⟨_, rfl⟩
  rw [hV]
  clear hi1 hlt
  simp
  refine eloop (α := Nat) (fun i => i ≤ t.outs.length ∧ outsE t.outs = outsE (t.outs.drop i)) (fun i => t.outs.length - i)
    (fun i => [.any, Ptr 0, .any, .any, .any, .any, .any, I .i64 i, .any, .any, .any, .any, .any, .any, .any, .any, .any, .any, .any, .any, .any, .any, .any, .any, .any, .any, .any, .any, .any, .any, .any, .any, .any, .any, .any, .any, .any, .any, .any, .any, .any, .any, .any, .any, .any, .any, .any, .any, .any, .any, .any, .any, .any, .any, .any, .any, .any, .any, .any, .any, .any, .any, .any, .any, .any, .any, .any, .any, .any, .any, .any, .any, .any, .any, .any, .any, .any, .any, .any, .any, .any, .any, .any, .any, .any, .any, .any, .any, .any, .any, .any, .any, .any, .any, .any, .any, .any, .any, .any, .any, .any, .any, .any, .any, .any, .any, .any, .any, .any, .any, .any, .any, .any, .any, .any, .any, .any, .any, .any, .any, .any, .any, .any, .any, .any, .any, .any, .any, .any, .any, .any, .any, .any, .any, .any, .any, .any, .any, .any, .any, .any, .any, .any]) (fun _ => [some (.box 77 (txC t))]) 0 [0]
    ⟨by simp, by simp⟩ (by simp [I, Ptr]) (by simp [txC, iC]) (by simp) (by simp) (by simp) ?_
  rintro i ⟨hi1, hi2'⟩
  simp [I, Ptr, txC, iC]
  refine alt (fun hlt => ?_) (fun hlt => ?_)
  · have hln : i < t.outs.length := by omega
    obtain ⟨p, hcp⟩ : ∃ p, t.outs[i]? = some p := ⟨t.outs[i], by simp [hln]⟩
    have hge : (outv t.outs)[i]'(by simp [hln]) = outF p := by
      have e := outv_get hcp
      rw [List.getElem?_eq_getElem (by simp [hln])] at e
      exact Option.some.inj e
    have hpo := h3 p (List.mem_of_getElem? hcp)
    rw [drop_cons hcp] at hi2'
    have w1 : IntKind.i64.wrap ((i : Int) + 1) = ((i + 1 : Nat) : Int) := wrap_i64 (by omega) (by omega)
    have hbad : ouE p ≠ 0 → V = ouE p := fun q => by
      have hn : outsE t.outs = ouE p := by rw [hi2']; exact if_pos q
      rw [← hV, if_pos (by rw [hn]; exact q), hn]
    simp [hln, hge, outF, iF]
    by_cases g1 : p.am < 10
    · have g1' : ¬ 10 ≤ p.am := by omega
      have hou : ouE p = 27 := if_pos g1
      rw [hbad (by omega), hou]
      simp [g1, g1']
      exact fin [] (by decide) rfl rfl rfl ⟨rfl, rfl⟩
    have g1' : 10 ≤ p.am := by omega
    by_cases g2 : 1125899906842624 < p.am
    · have g2' : ¬ p.am ≤ 1125899906842624 := by omega
      have hou : ouE p = 5 := by unfold ouE; rw [if_neg g1, if_pos g2]
      rw [hbad (by omega), hou]
      simp [g1, g1', g2, g2', hln, hge, outF, iF]
      exact fin [] (by decide) rfl rfl rfl ⟨rfl, rfl⟩
    have g2' : p.am ≤ 1125899906842624 := by omega
    have hou : ouE p = cnE p.cs := by unfold ouE; rw [if_neg g1, if_neg g2]
    simp [g1, g1', g2, g2', hln, hge, outF, iF]
    refine call0 (RCCheck_ok p.cs hpo.2.1 hpo.2.2) (by simp [CNv]) ?_
    rintro y H' ⟨rfl, rfl⟩
    refine ⟨.inl (by simp [I]), le_ok rfl, ?_⟩
    by_cases c7 : cnE p.cs = 0
    · have hn : outsE t.outs = outsE (t.outs.drop (i + 1)) := by rw [hi2']; exact if_neg (by rw [hou]; simpa using c7)
      simp [I, c7, w1, -Int.natCast_add]
      exact round (i + 1) [0] ⟨by omega, hn⟩ (by omega) (by simp [I, Ptr]) (by simp) (by simp) (by simp) (by simp)
    · rw [hbad (by rw [hou]; exact c7), hou]
      simp [I, c7]
      exact fin [] (by decide) rfl rfl rfl ⟨rfl, rfl⟩
  have hil : i = t.outs.length := by omega
  subst hil
  rw [List.drop_length] at hi2'
  have hz0 : outsE t.outs = 0 := hi2'
  rw [show V = (totO 0 t.outs).2 by rw [← hV, if_neg (by simpa using hz0)]]
  simp
  refine call0 (RTxTotal_ok t ht) (by simp [TXv, txC, iC]) ?_
  rintro y H' ⟨rfl, rfl⟩
  refine ⟨.inl (by simp [iC]), le_ok rfl, ?_⟩
  simp [iC]
  exact fin [] (by decide) rfl rfl rfl ⟨rfl, rfl⟩

end Go.Proofs.YtejjhgdnmknejaaGreatDoor

namespace Go.Proofs.YtejjhgdnmknejaaGreatDoor
open Go Go.EW
set_option linter.unusedSimpArgs false
set_option linter.unusedVariables false

@[simp] def l_VCheck_1 (_ : Unit) : List EOp := [⟨0, (some 1), none, (.q (.box 44 (.t 0))), []⟩, ⟨1, (some 2), none, (.q (.mov (.k .nilIface))), []⟩]
@[simp] def b_VCheck_2 (_ : Unit) : EB := reg0 (hid l_VCheck_1) 2
@[simp] def l_VCheck_4 (_ : Unit) : List EOp := [⟨6, (some 12), none, (.q (.fad 76 (.t 1))), []⟩, ⟨7, (some 13), none, (.q (.iad 3 1 (.t 12) (.k (.int .i64 2)))), []⟩, ⟨8, (some 14), none, (.q (.ldc (.t 13))), []⟩, ⟨9, (some 3), none, (.q (.mov (.t 8))), []⟩, ⟨10, (some 4), none, (.q (.mov (.t 11))), []⟩, ⟨11, (some 5), none, (.q (.mov (.t 14))), []⟩]
@[simp] def l_VCheck_3 (_ : Unit) : List EOp := ⟨0, (some 6), none, (.q (.fad 76 (.t 1))), []⟩ :: ⟨1, (some 7), none, (.q (.iad 3 1 (.t 6) (.k (.int .i64 0)))), []⟩ :: ⟨2, (some 8), none, (.q (.ldc (.t 7))), []⟩ :: ⟨3, (some 9), none, (.q (.fad 76 (.t 1))), []⟩ :: ⟨4, (some 10), none, (.q (.iad 3 1 (.t 9) (.k (.int .i64 1)))), []⟩ :: ⟨5, (some 11), none, (.q (.ldc (.t 10))), []⟩ :: hid l_VCheck_4
@[simp] def b_VCheck_5 (_ : Unit) : EB := reg0 (hid l_VCheck_3) 12
@[simp] def l_VCheck_13 (_ : Unit) : List EOp := [⟨42, (some 58), (some (52, false)), (.q (.un .not (.t 57))), []⟩, ⟨43, (some 59), none, (.q (.pick (.t 52) (.k (.bool true)) (.t 58))), []⟩, ⟨44, (some 15), none, (.q (.mov (.t 59))), []⟩]
@[simp] def l_VCheck_12 (_ : Unit) : List EOp := ⟨36, (some 52), none, (.q (.mov (.t 51))), []⟩ :: ⟨37, (some 53), (some (52, false)), (.q (.fad 38 (.t 1))), []⟩ :: ⟨38, (some 54), (some (52, false)), (.q (.lda 38 (.t 53))), []⟩ :: ⟨39, (some 55), (some (52, false)), (.q (.mov (.t 4))), []⟩ :: ⟨40, (some 56), (some (52, false)), (.q (.mov (.t 5))), []⟩ :: ⟨41, (some 57), (some (52, false)), (.call 50 [(.t 54), (.t 55), (.t 56)]), []⟩ :: hid l_VCheck_13
@[simp] def l_VCheck_11 (_ : Unit) : List EOp := ⟨30, (some 46), (some (44, false)), (.q (.lda 38 (.t 45))), []⟩ :: ⟨31, (some 47), (some (44, false)), (.q (.mov (.t 3))), []⟩ :: ⟨32, (some 48), (some (44, false)), (.q (.mov (.t 4))), []⟩ :: ⟨33, (some 49), (some (44, false)), (.call 50 [(.t 46), (.t 47), (.t 48)]), []⟩ :: ⟨34, (some 50), (some (44, false)), (.q (.un .not (.t 49))), []⟩ :: ⟨35, (some 51), none, (.q (.pick (.t 44) (.k (.bool true)) (.t 50))), []⟩ :: hid l_VCheck_12
@[simp] def l_VCheck_10 (_ : Unit) : List EOp := ⟨24, (some 40), (some (39, false)), (.q (.mov (.t 3))), []⟩ :: ⟨25, (some 41), (some (39, false)), (.q (.mov (.t 5))), []⟩ :: ⟨26, (some 42), (some (39, false)), (.q (.bin .eql (.t 40) (.t 41))), []⟩ :: ⟨27, (some 43), none, (.q (.pick (.t 39) (.k (.bool true)) (.t 42))), []⟩ :: ⟨28, (some 44), none, (.q (.mov (.t 43))), []⟩ :: ⟨29, (some 45), (some (44, false)), (.q (.fad 0 (.t 1))), []⟩ :: hid l_VCheck_11
@[simp] def l_VCheck_9 (_ : Unit) : List EOp := ⟨18, (some 34), none, (.q (.mov (.t 33))), []⟩ :: ⟨19, (some 35), (some (34, false)), (.q (.mov (.t 4))), []⟩ :: ⟨20, (some 36), (some (34, false)), (.q (.mov (.t 5))), []⟩ :: ⟨21, (some 37), (some (34, false)), (.q (.bin .eql (.t 35) (.t 36))), []⟩ :: ⟨22, (some 38), none, (.q (.pick (.t 34) (.k (.bool true)) (.t 37))), []⟩ :: ⟨23, (some 39), none, (.q (.mov (.t 38))), []⟩ :: hid l_VCheck_10
@[simp] def l_VCheck_8 (_ : Unit) : List EOp := ⟨12, (some 28), none, (.q (.pick (.t 24) (.k (.bool true)) (.t 27))), []⟩ :: ⟨13, (some 29), none, (.q (.mov (.t 28))), []⟩ :: ⟨14, (some 30), (some (29, false)), (.q (.mov (.t 3))), []⟩ :: ⟨15, (some 31), (some (29, false)), (.q (.mov (.t 4))), []⟩ :: ⟨16, (some 32), (some (29, false)), (.q (.bin .eql (.t 30) (.t 31))), []⟩ :: ⟨17, (some 33), none, (.q (.pick (.t 29) (.k (.bool true)) (.t 32))), []⟩ :: hid l_VCheck_9
@[simp] def l_VCheck_7 (_ : Unit) : List EOp := ⟨6, (some 22), (some (19, false)), (.q (.un .not (.t 21))), []⟩ :: ⟨7, (some 23), none, (.q (.pick (.t 19) (.k (.bool true)) (.t 22))), []⟩ :: ⟨8, (some 24), none, (.q (.mov (.t 23))), []⟩ :: ⟨9, (some 25), (some (24, false)), (.q (.mov (.t 5))), []⟩ :: ⟨10, (some 26), (some (24, false)), (.call 49 [(.t 25)]), []⟩ :: ⟨11, (some 27), (some (24, false)), (.q (.un .not (.t 26))), []⟩ :: hid l_VCheck_8
@[simp] def l_VCheck_6 (_ : Unit) : List EOp := ⟨0, (some 16), none, (.q (.mov (.t 3))), []⟩ :: ⟨1, (some 17), none, (.call 49 [(.t 16)]), []⟩ :: ⟨2, (some 18), none, (.q (.un .not (.t 17))), []⟩ :: ⟨3, (some 19), none, (.q (.mov (.t 18))), []⟩ :: ⟨4, (some 20), (some (19, false)), (.q (.mov (.t 4))), []⟩ :: ⟨5, (some 21), (some (19, false)), (.call 49 [(.t 20)]), []⟩ :: hid l_VCheck_7
@[simp] def b_VCheck_14 (_ : Unit) : EB := reg0 (hid l_VCheck_6) 45
@[simp] def l_VCheck_15 (_ : Unit) : List EOp := [⟨0, (some 60), none, (.q (.mki 132 (.k (.int .i64 33)))), []⟩, ⟨1, (some 2), none, (.q (.mov (.t 60))), []⟩]
@[simp] def b_VCheck_16 (_ : Unit) : EB := reg0 (hid l_VCheck_15) 2
@[simp] def b_VCheck_17 (_ : Unit) : EB := .seq (hid b_VCheck_16) .ret
@[simp] def l_VCheck_20 (_ : Unit) : List EOp := [⟨12, (some 74), none, (.q (.pick (.t 70) (.k (.bool true)) (.t 73))), []⟩, ⟨13, (some 61), none, (.q (.mov (.t 74))), []⟩]
@[simp] def l_VCheck_19 (_ : Unit) : List EOp := ⟨6, (some 68), (some (65, false)), (.q (.bin .gtr (.t 67) (.k (.int .i64 1125899906842624)))), []⟩ :: ⟨7, (some 69), none, (.q (.pick (.t 65) (.k (.bool true)) (.t 68))), []⟩ :: ⟨8, (some 70), none, (.q (.mov (.t 69))), []⟩ :: ⟨9, (some 71), (some (70, false)), (.q (.fad 79 (.t 1))), []⟩ :: ⟨10, (some 72), (some (70, false)), (.q (.ldc (.t 71))), []⟩ :: ⟨11, (some 73), (some (70, false)), (.q (.bin .gtr (.t 72) (.k (.int .i64 1125899906842624)))), []⟩ :: hid l_VCheck_20
@[simp] def l_VCheck_18 (_ : Unit) : List EOp := ⟨0, (some 62), none, (.q (.fad 80 (.t 1))), []⟩ :: ⟨1, (some 63), none, (.q (.ldc (.t 62))), []⟩ :: ⟨2, (some 64), none, (.q (.bin .lss (.t 63) (.k (.int .i64 0)))), []⟩ :: ⟨3, (some 65), none, (.q (.mov (.t 64))), []⟩ :: ⟨4, (some 66), (some (65, false)), (.q (.fad 80 (.t 1))), []⟩ :: ⟨5, (some 67), (some (65, false)), (.q (.ldc (.t 66))), []⟩ :: hid l_VCheck_19
@[simp] def b_VCheck_21 (_ : Unit) : EB := reg0 (hid l_VCheck_18) 14
@[simp] def l_VCheck_22 (_ : Unit) : List EOp := [⟨0, (some 75), none, (.q (.mki 132 (.k (.int .i64 1)))), []⟩, ⟨1, (some 2), none, (.q (.mov (.t 75))), []⟩]
@[simp] def b_VCheck_23 (_ : Unit) : EB := reg0 (hid l_VCheck_22) 2
@[simp] def b_VCheck_24 (_ : Unit) : EB := .seq (hid b_VCheck_23) .ret
@[simp] def l_VCheck_26 (_ : Unit) : List EOp := [⟨6, (some 76), none, (.q (.mov (.t 82))), []⟩]
@[simp] def l_VCheck_25 (_ : Unit) : List EOp := ⟨0, (some 77), none, (.q (.fad 79 (.t 1))), []⟩ :: ⟨1, (some 78), none, (.q (.ldc (.t 77))), []⟩ :: ⟨2, (some 79), none, (.q (.fad 80 (.t 1))), []⟩ :: ⟨3, (some 80), none, (.q (.ldc (.t 79))), []⟩ :: ⟨4, (some 81), none, (.q (.bin .add (.k (.int .i64 10)) (.t 80))), []⟩ :: ⟨5, (some 82), none, (.q (.bin .lss (.t 78) (.t 81))), []⟩ :: hid l_VCheck_26
@[simp] def b_VCheck_27 (_ : Unit) : EB := reg0 (hid l_VCheck_25) 7
@[simp] def l_VCheck_28 (_ : Unit) : List EOp := [⟨0, (some 83), none, (.q (.mki 132 (.k (.int .i64 27)))), []⟩, ⟨1, (some 2), none, (.q (.mov (.t 83))), []⟩]
@[simp] def b_VCheck_29 (_ : Unit) : EB := reg0 (hid l_VCheck_28) 2
@[simp] def b_VCheck_30 (_ : Unit) : EB := .seq (hid b_VCheck_29) .ret
@[simp] def b_VCheck_31 (_ : Unit) : EB := .cond (.t 76) (hid b_VCheck_30) .skip
@[simp] def b_VCheck_32 (_ : Unit) : EB := .seq (hid b_VCheck_27) (hid b_VCheck_31)
@[simp] def b_VCheck_33 (_ : Unit) : EB := .cond (.t 61) (hid b_VCheck_24) (hid b_VCheck_32)
@[simp] def b_VCheck_34 (_ : Unit) : EB := .seq (hid b_VCheck_21) (hid b_VCheck_33)
@[simp] def b_VCheck_35 (_ : Unit) : EB := .cond (.t 15) (hid b_VCheck_17) (hid b_VCheck_34)
@[simp] def b_VCheck_36 (_ : Unit) : EB := .seq (hid b_VCheck_14) (hid b_VCheck_35)
@[simp] def b_VCheck_37 (_ : Unit) : EB := .block 0 (hid b_VCheck_36)
@[simp] def l_VCheck_38 (_ : Unit) : List EOp := [⟨0, (some 2), none, (.q (.mov (.k .nilIface))), []⟩]
@[simp] def b_VCheck_39 (_ : Unit) : EB := reg0 (hid l_VCheck_38) 1
@[simp] def b_VCheck_40 (_ : Unit) : EB := .seq (hid b_VCheck_39) .ret
@[simp] def b_VCheck_41 (_ : Unit) : EB := .seq (hid b_VCheck_37) (hid b_VCheck_40)
@[simp] def b_VCheck_42 (_ : Unit) : EB := .seq (hid b_VCheck_5) (hid b_VCheck_41)
@[simp] def b_VCheck_43 (_ : Unit) : EB := .seq (hid b_VCheck_2) (hid b_VCheck_42)
def c_VCheck : EB × List QOp × Nat := ((hid b_VCheck_43), [(.mov (.t 2))], 84)
theorem k_VCheck : cfun Tryz.prog 15 = some c_VCheck := by kernel_rfl


def prtV (r : Rte) : Prop := (0 ≤ r.a ∧ r.a < 16) ∧ (0 ≤ r.b ∧ r.b < 16) ∧ (0 ≤ r.c ∧ r.c < 16) ∧ ¬ r.a = r.b ∧ ¬ r.b = r.c ∧ ¬ r.a = r.c ∧ ofV r.f r.a r.b = true ∧ ofV r.s r.b r.c = true
instance (r : Rte) : Decidable (prtV r) := by unfold prtV; infer_instance
/-- Whether a route can be: the error. -/
def chkV (r : Rte) : Nat := if ¬ prtV r then 33 else if r.fe < 0 ∨ 1125899906842624 < r.fe ∨ 1125899906842624 < r.am then 1 else if r.am < 10 + r.fe then 27 else 0
@[simp] theorem errV_33v : Value.iface 132 (.int .i64 33) = errV 33 := rfl
@[simp] theorem errV_27v : Value.iface 132 (.int .i64 27) = errV 27 := rfl

set_option maxHeartbeats 8000000 in
theorem VCheck_ok (r : Rte) (hr : r.ok) : ECalls Tryz.prog 15 [RVv r] [] fun y H' => H' = [] ∧ y = .lit (errV (chkV r)) := by
  obtain ⟨⟨h1, _⟩, ⟨h2, _⟩, ⟨ha0, ha1⟩, ⟨hb0, hb1⟩, ⟨hc0, hc1⟩, ⟨hm0, hm1⟩, ⟨hf0, hf1⟩⟩ := id hr
  have l0 := rteC_len h1 h2
  have t0 := rt_take h1 h2
  have g76 := rt_76 h1 h2
  have g77 := rt_77 h1 h2
  have g78 := rt_78 h1 h2
  have g79 := rt_79 h1 h2
  have g80 := rt_80 h1 h2
  have t38 := rt_t38 h1
  have s38 := rt_s38 h1 h2
  have e76 := idx_of g76 (by omega)
  have e77 := idx_of g77 (by omega)
  have e78 := idx_of g78 (by omega)
  have e79 := idx_of g79 (by omega)
  have e80 := idx_of g80 (by omega)
  refine ecalls k_VCheck ?_
  simp [c_VCheck, RVv, I, l0, t0, e76, e77, e78, e79, e80, iC, -errV_0]
  refine call0 (Vparty_ok r.a) (by simp [I]) ?_
  rintro y H' ⟨rfl, rfl⟩
  refine ⟨.inl (by simp), le_ok rfl, ?_⟩
  by_cases q0 : 0 ≤ r.a ∧ r.a < 16
  rotate_left
  · have hv : chkV r = 33 := by unfold chkV; rw [if_pos (fun h => q0 h.1)]
    rw [hv, decide_eq_false q0]
    simp [l0, t0, e76, e77, e78, e79, e80, t38, s38, iC, -errV_0]
    exact fin [] (by decide) rfl rfl rfl ⟨rfl, rfl⟩
  rw [decide_eq_true q0]
  simp [l0, t0, e76, e77, e78, e79, e80, t38, s38, iC, -errV_0]
  refine call0 (Vparty_ok r.b) (by simp [I]) ?_
  rintro y H' ⟨rfl, rfl⟩
  refine ⟨.inl (by simp), le_ok rfl, ?_⟩
  by_cases q1 : 0 ≤ r.b ∧ r.b < 16
  rotate_left
  · have hv : chkV r = 33 := by unfold chkV; rw [if_pos (fun h => q1 h.2.1)]
    rw [hv, decide_eq_false q1]
    simp [l0, t0, e76, e77, e78, e79, e80, t38, s38, iC, -errV_0]
    exact fin [] (by decide) rfl rfl rfl ⟨rfl, rfl⟩
  rw [decide_eq_true q1]
  simp [l0, t0, e76, e77, e78, e79, e80, t38, s38, iC, -errV_0]
  refine call0 (Vparty_ok r.c) (by simp [I]) ?_
  rintro y H' ⟨rfl, rfl⟩
  refine ⟨.inl (by simp), le_ok rfl, ?_⟩
  by_cases q2 : 0 ≤ r.c ∧ r.c < 16
  rotate_left
  · have hv : chkV r = 33 := by unfold chkV; rw [if_pos (fun h => q2 h.2.2.1)]
    rw [hv, decide_eq_false q2]
    simp [l0, t0, e76, e77, e78, e79, e80, t38, s38, iC, -errV_0]
    exact fin [] (by decide) rfl rfl rfl ⟨rfl, rfl⟩
  rw [decide_eq_true q2]
  simp [l0, t0, e76, e77, e78, e79, e80, t38, s38, iC, -errV_0]
  by_cases q3 : r.a = r.b
  · have hv : chkV r = 33 := by unfold chkV; rw [if_pos (fun h => h.2.2.2.1 q3)]
    rw [hv]
    simp [l0, t0, e76, e77, e78, e79, e80, t38, s38, iC, q3, -errV_0]
    exact fin [] (by decide) rfl rfl rfl ⟨rfl, rfl⟩
  simp [l0, t0, e76, e77, e78, e79, e80, t38, s38, iC, q3, -errV_0]
  by_cases q4 : r.b = r.c
  · have hv : chkV r = 33 := by unfold chkV; rw [if_pos (fun h => h.2.2.2.2.1 q4)]
    rw [hv]
    simp [l0, t0, e76, e77, e78, e79, e80, t38, s38, iC, q3, q4, -errV_0]
    exact fin [] (by decide) rfl rfl rfl ⟨rfl, rfl⟩
  simp [l0, t0, e76, e77, e78, e79, e80, t38, s38, iC, q3, q4, -errV_0]
  by_cases q5 : r.a = r.c
  · have hv : chkV r = 33 := by unfold chkV; rw [if_pos (fun h => h.2.2.2.2.2.1 q5)]
    rw [hv]
    simp [l0, t0, e76, e77, e78, e79, e80, t38, s38, iC, q3, q4, q5, -errV_0]
    exact fin [] (by decide) rfl rfl rfl ⟨rfl, rfl⟩
  simp [l0, t0, e76, e77, e78, e79, e80, t38, s38, iC, q3, q4, q5, -errV_0]
  refine call0 (Vof_ok r.f r.a r.b h1) (by simp [PVv, I]) ?_
  rintro y H' ⟨rfl, rfl⟩
  refine ⟨.inl (by simp), le_ok rfl, ?_⟩
  by_cases q6 : ofV r.f r.a r.b = true
  rotate_left
  · have hv : chkV r = 33 := by unfold chkV; rw [if_pos (fun h => q6 h.2.2.2.2.2.2.1)]
    have q6' : ofV r.f r.a r.b = false := by simpa using q6
    rw [hv, q6']
    simp [l0, t0, e76, e77, e78, e79, e80, t38, s38, iC, q3, q4, q5, -errV_0]
    exact fin [] (by decide) rfl rfl rfl ⟨rfl, rfl⟩
  rw [q6]
  simp [l0, t0, e76, e77, e78, e79, e80, t38, s38, iC, q3, q4, q5, -errV_0]
  refine call0 (Vof_ok r.s r.b r.c h2) (by simp [PVv, I]) ?_
  rintro y H' ⟨rfl, rfl⟩
  refine ⟨.inl (by simp), le_ok rfl, ?_⟩
  by_cases q7 : ofV r.s r.b r.c = true
  rotate_left
  · have hv : chkV r = 33 := by unfold chkV; rw [if_pos (fun h => q7 h.2.2.2.2.2.2.2)]
    have q7' : ofV r.s r.b r.c = false := by simpa using q7
    rw [hv, q7']
    simp [l0, t0, e76, e77, e78, e79, e80, t38, s38, iC, q3, q4, q5, -errV_0]
    exact fin [] (by decide) rfl rfl rfl ⟨rfl, rfl⟩
  rw [q7]
  simp [l0, t0, e76, e77, e78, e79, e80, t38, s38, iC, q3, q4, q5, -errV_0]
  have hp : ¬ ¬ prtV r := fun h => h ⟨q0, q1, q2, q3, q4, q5, q6, q7⟩
  by_cases z0 : r.fe < 0
  · have hv : chkV r = 1 := by unfold chkV; rw [if_neg hp, if_pos (.inl z0)]
    have z0n : ¬ 0 ≤ r.fe := by omega
    rw [hv]
    simp [l0, t0, e76, e77, e78, e79, e80, t38, s38, iC, z0, z0n, -errV_0]
    exact fin [] (by decide) rfl rfl rfl ⟨rfl, rfl⟩
  have z0p : 0 ≤ r.fe := by omega
  by_cases z1 : 1125899906842624 < r.fe
  · have hv : chkV r = 1 := by unfold chkV; rw [if_neg hp, if_pos (.inr (.inl z1))]
    rw [hv]
    simp [l0, t0, e76, e77, e78, e79, e80, t38, s38, iC, z0, z0p, z1, -errV_0]
    exact fin [] (by decide) rfl rfl rfl ⟨rfl, rfl⟩
  have z1p : r.fe ≤ 1125899906842624 := by omega
  by_cases z2 : 1125899906842624 < r.am
  · have hv : chkV r = 1 := by unfold chkV; rw [if_neg hp, if_pos (.inr (.inr z2))]
    rw [hv]
    simp [l0, t0, e76, e77, e78, e79, e80, t38, s38, iC, z0, z0p, z1, z1p, z2, -errV_0]
    exact fin [] (by decide) rfl rfl rfl ⟨rfl, rfl⟩
  have z2p : r.am ≤ 1125899906842624 := by omega
  have w1 : IntKind.i64.wrap (10 + r.fe) = 10 + r.fe := wrap_i64 (by omega) (by omega)
  by_cases z3 : r.am < 10 + r.fe
  · have hv : chkV r = 27 := by unfold chkV; rw [if_neg hp, if_neg (by omega), if_pos z3]
    rw [hv]
    simp [l0, t0, e76, e77, e78, e79, e80, t38, s38, iC, z0, z0p, z1, z1p, z2, z2p, w1, z3, -errV_0]
    exact fin [] (by decide) rfl rfl rfl ⟨rfl, rfl⟩
  have z3p : 10 + r.fe ≤ r.am := by omega
  have hv : chkV r = 0 := by unfold chkV; rw [if_neg hp, if_neg (by omega), if_neg z3]
  rw [hv]
  simp [l0, t0, e76, e77, e78, e79, e80, t38, s38, iC, z0, z0p, z1, z1p, z2, z2p, w1, z3, z3p, -errV_0]
  exact fin [] (by decide) rfl rfl rfl ⟨rfl, rfl⟩

end Go.Proofs.YtejjhgdnmknejaaGreatDoor

namespace Go.Proofs.YtejjhgdnmknejaaGreatDoor
open Go Go.EW
set_option linter.unusedSimpArgs false
set_option linter.unusedVariables false

@[simp] def l_IdxI_1 (_ : Unit) : List EOp := [⟨0, (some 4), none, (.q (.mov (.k (.int .i64 0)))), []⟩]
@[simp] def b_IdxI_2 (_ : Unit) : EB := reg0 (hid l_IdxI_1) 1
@[simp] def l_IdxI_3 (_ : Unit) : List EOp := [⟨0, (some 6), none, (.q (.mov (.t 0))), []⟩, ⟨1, (some 7), none, (.q (.len (.t 6))), []⟩, ⟨2, (some 8), none, (.q (.mov (.k (.int .i64 0)))), []⟩]
@[simp] def b_IdxI_4 (_ : Unit) : EB := reg0 (hid l_IdxI_3) 3
@[simp] def l_IdxI_5 (_ : Unit) : List EOp := [⟨0, (some 9), none, (.q (.bin .lss (.t 8) (.t 7))), []⟩]
@[simp] def b_IdxI_6 (_ : Unit) : EB := reg0 (hid l_IdxI_5) 1
@[simp] def b_IdxI_7 (_ : Unit) : EB := .cond (.t 9) .skip (.exit 0)
@[simp] def l_IdxI_8 (_ : Unit) : List EOp := [⟨0, (some 10), none, (.q (.mov (.t 8))), []⟩, ⟨1, (some 5), none, (.q (.mov (.t 10))), []⟩]
@[simp] def b_IdxI_9 (_ : Unit) : EB := reg0 (hid l_IdxI_8) 2
@[simp] def l_IdxI_10 (_ : Unit) : List EOp := [⟨0, (some 11), none, (.q (.mov (.t 1))), []⟩, ⟨1, (some 12), none, (.q (.mov (.t 0))), []⟩, ⟨2, (some 13), none, (.q (.mov (.t 5))), []⟩, ⟨3, (some 14), none, (.q (.isl 1 (.t 12) (.t 13))), []⟩, ⟨4, (some 15), none, (.q (.ldc (.t 14))), []⟩, ⟨5, (some 16), none, (.q (.bin .eql (.t 11) (.t 15))), []⟩]
@[simp] def b_IdxI_11 (_ : Unit) : EB := reg0 (hid l_IdxI_10) 6
@[simp] def l_IdxI_12 (_ : Unit) : List EOp := [⟨0, (some 17), none, (.q (.mov (.t 5))), []⟩, ⟨1, (some 4), none, (.q (.mov (.t 17))), []⟩]
@[simp] def b_IdxI_13 (_ : Unit) : EB := reg0 (hid l_IdxI_12) 2
@[simp] def b_IdxI_14 (_ : Unit) : EB := .seq (hid b_IdxI_13) .ret
@[simp] def b_IdxI_15 (_ : Unit) : EB := .cond (.t 16) (hid b_IdxI_14) .skip
@[simp] def b_IdxI_16 (_ : Unit) : EB := .seq (hid b_IdxI_11) (hid b_IdxI_15)
@[simp] def b_IdxI_17 (_ : Unit) : EB := .seq (hid b_IdxI_9) (hid b_IdxI_16)
@[simp] def b_IdxI_18 (_ : Unit) : EB := .block 1 (hid b_IdxI_17)
@[simp] def l_IdxI_19 (_ : Unit) : List EOp := [⟨0, (some 18), none, (.q (.bin .add (.t 8) (.k (.int .i64 1)))), []⟩, ⟨1, (some 8), none, (.q (.mov (.t 18))), []⟩]
@[simp] def b_IdxI_20 (_ : Unit) : EB := reg0 (hid l_IdxI_19) 2
@[simp] def b_IdxI_21 (_ : Unit) : EB := .seq (hid b_IdxI_18) (hid b_IdxI_20)
@[simp] def b_IdxI_22 (_ : Unit) : EB := .seq (hid b_IdxI_7) (hid b_IdxI_21)
@[simp] def b_IdxI_23 (_ : Unit) : EB := .seq (hid b_IdxI_6) (hid b_IdxI_22)
@[simp] def b_IdxI_24 (_ : Unit) : EB := .loop (hid b_IdxI_23)
@[simp] def b_IdxI_25 (_ : Unit) : EB := .block 0 (hid b_IdxI_24)
@[simp] def b_IdxI_26 (_ : Unit) : EB := .seq (hid b_IdxI_4) (hid b_IdxI_25)
@[simp] def l_IdxI_27 (_ : Unit) : List EOp := [⟨0, (some 4), none, (.q (.mov (.k (.int .i64 (-1))))), []⟩]
@[simp] def b_IdxI_28 (_ : Unit) : EB := reg0 (hid l_IdxI_27) 1
@[simp] def b_IdxI_29 (_ : Unit) : EB := .seq (hid b_IdxI_28) .ret
@[simp] def b_IdxI_30 (_ : Unit) : EB := .seq (hid b_IdxI_26) (hid b_IdxI_29)
@[simp] def b_IdxI_31 (_ : Unit) : EB := .seq (hid b_IdxI_2) (hid b_IdxI_30)
def c_IdxI : EB × List QOp × Nat := ((hid b_IdxI_31), [(.mov (.t 4))], 19)
theorem k_IdxI : cfun Tryz.prog 56 = some c_IdxI := by kernel_rfl

@[simp] def l_VSide_1 (_ : Unit) : List EOp := [⟨0, (some 2), none, (.q (.box 42 (.t 0))), []⟩, ⟨1, (some 4), none, (.q (.mov (.k (.int .i64 0)))), []⟩, ⟨2, (some 5), none, (.q (.mov (.k .nilIface))), []⟩]
@[simp] def b_VSide_2 (_ : Unit) : EB := reg0 (hid l_VSide_1) 3
@[simp] def l_VSide_3 (_ : Unit) : List EOp := [⟨0, (some 7), none, (.q (.fad 34 (.t 2))), []⟩, ⟨1, (some 8), none, (.q (.sar 2 (.t 7) none none)), []⟩, ⟨2, (some 9), none, (.q (.mov (.t 1))), []⟩, ⟨3, (some 10), none, (.call 56 [(.t 8), (.t 9)]), []⟩, ⟨4, (some 6), none, (.q (.mov (.t 10))), []⟩]
@[simp] def b_VSide_4 (_ : Unit) : EB := reg0 (hid l_VSide_3) 5
@[simp] def l_VSide_5 (_ : Unit) : List EOp := [⟨0, (some 11), none, (.q (.mov (.t 6))), []⟩, ⟨1, (some 12), none, (.q (.bin .lss (.t 11) (.k (.int .i64 0)))), []⟩]
@[simp] def b_VSide_6 (_ : Unit) : EB := reg0 (hid l_VSide_5) 2
@[simp] def l_VSide_7 (_ : Unit) : List EOp := [⟨0, (some 13), none, (.q (.mki 132 (.k (.int .i64 33)))), []⟩, ⟨1, (some 4), none, (.q (.mov (.k (.int .i64 0)))), []⟩, ⟨2, (some 5), none, (.q (.mov (.t 13))), []⟩]
@[simp] def b_VSide_8 (_ : Unit) : EB := reg0 (hid l_VSide_7) 3
@[simp] def b_VSide_9 (_ : Unit) : EB := .seq (hid b_VSide_8) .ret
@[simp] def b_VSide_10 (_ : Unit) : EB := .cond (.t 12) (hid b_VSide_9) .skip
@[simp] def b_VSide_11 (_ : Unit) : EB := .seq (hid b_VSide_6) (hid b_VSide_10)
@[simp] def l_VSide_12 (_ : Unit) : List EOp := [⟨0, (some 14), none, (.q (.mov (.t 6))), []⟩, ⟨1, (some 4), none, (.q (.mov (.t 14))), []⟩, ⟨2, (some 5), none, (.q (.mov (.k .nilIface))), []⟩]
@[simp] def b_VSide_13 (_ : Unit) : EB := reg0 (hid l_VSide_12) 3
@[simp] def b_VSide_14 (_ : Unit) : EB := .seq (hid b_VSide_13) .ret
@[simp] def b_VSide_15 (_ : Unit) : EB := .seq (hid b_VSide_11) (hid b_VSide_14)
@[simp] def b_VSide_16 (_ : Unit) : EB := .seq (hid b_VSide_4) (hid b_VSide_15)
@[simp] def b_VSide_17 (_ : Unit) : EB := .seq (hid b_VSide_2) (hid b_VSide_16)
@[simp] def l_Vsides_1 (_ : Unit) : List EOp := [⟨0, (some 1), none, (.q (.box 44 (.t 0))), []⟩, ⟨1, (some 2), none, (.q (.mov (.k (.int .i64 0)))), []⟩, ⟨2, (some 3), none, (.q (.mov (.k (.int .i64 0)))), []⟩]
@[simp] def b_Vsides_2 (_ : Unit) : EB := reg0 (hid l_Vsides_1) 3
@[simp] def l_Vsides_5 (_ : Unit) : List EOp := [⟨6, (some 10), none, (.call 56 [(.t 6), (.t 9)]), [7, 8, 9, 10, 11, 12]⟩, ⟨13, (some 17), none, (.call 56 [(.t 13), (.t 16)]), []⟩, ⟨14, (some 2), none, (.q (.mov (.t 10))), []⟩, ⟨15, (some 3), none, (.q (.mov (.t 17))), []⟩]
@[simp] def l_Vsides_4 (_ : Unit) : List EOp := ⟨7, (some 11), none, (.q (.fad 38 (.t 1))), []⟩ :: ⟨8, (some 12), none, (.q (.fad 34 (.t 11))), []⟩ :: ⟨9, (some 13), none, (.q (.sar 2 (.t 12) none none)), []⟩ :: ⟨10, (some 14), none, (.q (.fad 76 (.t 1))), []⟩ :: ⟨11, (some 15), none, (.q (.iad 3 1 (.t 14) (.k (.int .i64 1)))), []⟩ :: ⟨12, (some 16), none, (.q (.ldc (.t 15))), []⟩ :: hid l_Vsides_5
@[simp] def l_Vsides_3 (_ : Unit) : List EOp := ⟨0, (some 4), none, (.q (.fad 0 (.t 1))), []⟩ :: ⟨1, (some 5), none, (.q (.fad 34 (.t 4))), []⟩ :: ⟨2, (some 6), none, (.q (.sar 2 (.t 5) none none)), []⟩ :: ⟨3, (some 7), none, (.q (.fad 76 (.t 1))), []⟩ :: ⟨4, (some 8), none, (.q (.iad 3 1 (.t 7) (.k (.int .i64 0)))), []⟩ :: ⟨5, (some 9), none, (.q (.ldc (.t 8))), []⟩ :: hid l_Vsides_4
@[simp] def b_Vsides_6 (_ : Unit) : EB := reg1 (hid l_Vsides_3) 16
@[simp] def b_Vsides_7 (_ : Unit) : EB := .seq (hid b_Vsides_6) .ret
@[simp] def b_Vsides_8 (_ : Unit) : EB := .seq (hid b_Vsides_2) (hid b_Vsides_7)
def c_Vsides : EB × List QOp × Nat := ((hid b_Vsides_8), [(.mov (.t 2)), (.mov (.t 3))], 18)
theorem k_Vsides : cfun Tryz.prog 41 = some c_Vsides := by kernel_rfl

@[simp] def l_Vhold_1 (_ : Unit) : List EOp := [⟨0, (some 2), none, (.q (.box 44 (.t 0))), []⟩, ⟨1, (some 4), none, (.q (.alloc 124 [(.int .i64 0), (.int .i64 0), (.slice none 0 0)])), []⟩]
@[simp] def b_Vhold_2 (_ : Unit) : EB := reg0 (hid l_Vhold_1) 2
@[simp] def l_Vhold_3 (_ : Unit) : List EOp := [⟨0, (some 6), none, (.q (.fad 76 (.t 2))), []⟩, ⟨1, (some 7), none, (.q (.sar 3 (.t 6) none none)), []⟩, ⟨2, (some 8), none, (.call 76 [(.t 7)]), []⟩, ⟨3, (some 5), none, (.q (.mov (.t 8))), []⟩]
@[simp] def b_Vhold_4 (_ : Unit) : EB := reg0 (hid l_Vhold_3) 4
@[simp] def l_Vhold_5 (_ : Unit) : List EOp := [⟨0, (some 9), none, (.q (.mov (.t 5))), []⟩, ⟨1, (some 10), none, (.call 77 [(.t 9)]), []⟩]
@[simp] def b_Vhold_6 (_ : Unit) : EB := reg0 (hid l_Vhold_5) 2
@[simp] def l_Vhold_7 (_ : Unit) : List EOp := [⟨0, (some 11), none, (.q (.mov (.t 1))), []⟩, ⟨1, (some 12), none, (.q (.fad 79 (.t 2))), []⟩, ⟨2, (some 13), none, (.q (.ldc (.t 12))), []⟩, ⟨3, (some 14), none, (.q (.mov (.t 5))), []⟩, ⟨4, (some 15), none, (.q (.build [(.int .i64 0), (.int .i64 0), (.slice none 0 0)] [(0, 1, (.t 11)), (1, 1, (.t 13)), (2, 1, (.t 14))])), []⟩, ⟨5, none, none, (.fz (.sto 3 (.t 4) (.t 15))), []⟩]
@[simp] def b_Vhold_8 (_ : Unit) : EB := reg0 (hid l_Vhold_7) 6
@[simp] def b_Vhold_9 (_ : Unit) : EB := .seq (hid b_Vhold_8) .ret
@[simp] def b_Vhold_10 (_ : Unit) : EB := .seq (hid b_Vhold_6) (hid b_Vhold_9)
@[simp] def b_Vhold_11 (_ : Unit) : EB := .seq (hid b_Vhold_4) (hid b_Vhold_10)
@[simp] def b_Vhold_12 (_ : Unit) : EB := .seq (hid b_Vhold_2) (hid b_Vhold_11)
def c_Vhold : EB × List QOp × Nat := ((hid b_Vhold_12), [(.lda 3 (.t 4))], 16)
theorem k_Vhold : cfun Tryz.prog 43 = some c_Vhold := by kernel_rfl


def sid (a b x : Int) : Int := if a = x then 0 else if b = x then 1 else -1
theorem IdxI_ok (a b x : Int) : ECalls Tryz.prog 56 [IL [a, b], I .i64 x] [] fun y H' => H' = [] ∧ y = I .i64 (sid a b x) := by
  refine ecalls k_IdxI ?_
  simp [c_IdxI, IL, I]
  refine eloop (α := Nat) (fun i => i ≤ 2 ∧ (0 < i → ¬ a = x) ∧ (1 < i → ¬ b = x)) (fun i => 2 - i) (fun i => [IL [a, b], I .i64 x, .any, .any, .any, .any, .any, I .i64 2, I .i64 i, .any, .any, .any, .any, .any, .any, .any, .any, .any, .any]) (fun _ => []) 0 []
    ⟨by omega, by omega, by omega⟩ (by simp [I, IL]) (by simp) (by simp) (by simp) (by simp) ?_
  rintro i ⟨hi, h0, h1⟩
  rcases (by omega : i = 0 ∨ i = 1 ∨ i = 2) with rfl | rfl | rfl
  · by_cases ha : a = x
    · have hv : sid a b x = 0 := if_pos ha
      rw [hv]
      subst ha
      simp [I, IL, intv]
      exact fin [] (by decide) rfl rfl rfl ⟨rfl, rfl⟩
    · have ha' : ¬ x = a := fun h => ha h.symm
      have w : IntKind.i64.wrap 1 = 1 := by decide +kernel
      simp [I, IL, intv, ha', w]
      exact round 1 [] ⟨by omega, fun _ => ha, by omega⟩ (by omega) (by simp [I, IL, intv]) (by simp) (by simp) (by simp) (by simp)
  · have ha := h0 (by omega)
    by_cases hb : b = x
    · have hv : sid a b x = 1 := by unfold sid; rw [if_neg ha, if_pos hb]
      rw [hv]
      subst hb
      simp [I, IL, intv]
      exact fin [] (by decide) rfl rfl rfl ⟨rfl, rfl⟩
    · have hb' : ¬ x = b := fun h => hb h.symm
      have w : IntKind.i64.wrap (1 + 1) = 2 := by decide +kernel
      have w2 : IntKind.i64.wrap 2 = 2 := by decide +kernel
      simp [I, IL, intv, hb', w, w2]
      exact round 2 [] ⟨by omega, fun _ => ha, fun _ => hb⟩ (by omega) (by simp [I, IL, intv]) (by simp) (by simp) (by simp) (by simp)
  · have ha := h0 (by omega)
    have hb := h1 (by omega)
    have hv : sid a b x = -1 := by unfold sid; rw [if_neg ha, if_neg hb]
    rw [hv]
    simp [I, IL]
    exact fin [] (by decide) rfl rfl rfl ⟨rfl, rfl⟩

theorem Vsides_ok (r : Rte) (hr : r.ok) : ECalls Tryz.prog 41 [RVv r] [] fun y H' => H' = [] ∧ y = .tup [.c (iC (sid r.f.k0 r.f.k1 r.a)), .c (iC (sid r.s.k0 r.s.k1 r.b))] := by
  obtain ⟨⟨h1, _⟩, ⟨h2, _⟩, _⟩ := id hr
  have l0 := rteC_len h1 h2
  have t0 := rt_take h1 h2
  have e76 := idx_of (rt_76 h1 h2) (by omega)
  have e77 := idx_of (rt_77 h1 h2) (by omega)
  have k1 := rt_k1 h1
  have k2 := rt_k2 h1 h2
  refine ecalls k_Vsides ?_
  simp [c_Vsides, RVv, I, l0, t0, e76, e77, iC]
  refine call0 (IdxI_ok r.f.k0 r.f.k1 r.a) (by simp [IL, I, l0, k1, iC, intv]) ?_
  rintro y H' ⟨rfl, rfl⟩
  refine ⟨.inr ⟨rfl, by simp⟩, le_ok rfl, ?_⟩
  simp [I, l0, t0, e76, e77, iC]
  refine call0 (IdxI_ok r.s.k0 r.s.k1 r.b) (by simp [IL, I, l0, k2, iC, intv]) ?_
  rintro y H' ⟨rfl, rfl⟩
  refine ⟨.inr ⟨rfl, by simp⟩, le_ok rfl, ?_⟩
  simp [I]
  exact fin [] (by decide) rfl rfl rfl ⟨rfl, rfl⟩

/-- What is held. -/
def holV (r : Rte) (id' : Int) : Hol := ⟨id', r.am, srt [r.a, r.b, r.c]⟩
theorem Vhold_ok (r : Rte) (id' : Int) (hr : r.ok) : ECalls Tryz.prog 43 [RVv r, I .i64 id'] [] fun y H' => H' = [some (.row 3 1 (intv (srt [r.a, r.b, r.c])))] ∧ y = .v (.agg [iC id', iC r.am, .row 0 3]) := by
  obtain ⟨⟨h1, _⟩, ⟨h2, _⟩, _⟩ := id hr
  have l0 := rteC_len h1 h2
  have t0 := rt_take h1 h2
  have e79 := idx_of (rt_79 h1 h2) (by omega)
  have d76 := rt_d76 h1 h2
  have hso := SortI_ok [r.a, r.b, r.c] rfl
  have hcl := cloneI_ok [r.a, r.b, r.c] (by simp)
  refine ecalls k_Vhold ?_
  simp [c_Vhold, RVv, I, l0, t0, e79, iC]
  refine call0 hcl (by simp [IL, l0, d76, frzAll, frz, iC, intv]) ?_
  rintro y H' ⟨rfl, rfl⟩
  refine ⟨.inr ⟨rfl, by simp [intv]⟩, by simp, ?_⟩
  simp
  refine callH [64] hso (by simp) (by simp) (by simp) (by simp) (by simp) ?_
  rintro y H' ⟨rfl, rfl⟩
  refine ⟨.inl (by simp), by simp, ?_⟩
  simp [e79, l0, iC]
  exact fin [64] (by decide) rfl rfl rfl ⟨rfl, rfl⟩

end Go.Proofs.YtejjhgdnmknejaaGreatDoor

set_option linter.unusedVariables false
set_option linter.unusedSimpArgs false
namespace Go.Proofs.YtejjhgdnmknejaaGreatDoor
open Go.RowKit Go.Lib Go.EW
namespace InsH

theorem elem : ∃ ti z, ElemT Tryz.prog 47 124 3 40 ti z := elemT_of (by kernel_rfl) (by kernel_rfl) (by kernel_rfl) (by kernel_rfl) (by decide)
theorem fov (w : World) (a b : Value) : (callFunc 154 #[a, b]).run Tryz.prog w = ((Extern.SlicesOverlaps.overlaps #[47, 47] #[4] #[a, b]).run Tryz.prog w).andThen fun v w' => .ok (.value v) w' := by
  rw [run_callFunc_extern Tryz.func154 (by kernel_rfl) (by kernel_rfl) (by kernel_rfl) (e := Extern.SlicesOverlaps.overlaps #[47, 47] #[4]) (by kernel_rfl)]

set_option maxHeartbeats 4000000 in
set_option maxRecDepth 100000 in
theorem shift : InsShift Tryz.prog 92 154 47 3 := by
  intro g n c i vb mc W1 W2 w hi hroom hc63 hov hc1 hc2
  have hz2 : ¬ ((i : Int) = (n : Int)) := by omega
  have hw1 : IntKind.i64.wrap ((i : Int) + 1) = (i : Int) + 1 := by rw [IntKind.wrap_i64]; omega
  have hw2 : IntKind.i64.wrap ((n : Int) + 1) = (n : Int) + 1 := by rw [IntKind.wrap_i64]; omega
  have hb1 : (0 : Int) ≤ (i : Int) + 1 := by omega
  have hin : i ≤ n := by omega
  have htn : ((i : Int) + 1).toNat = i + 1 := by omega
  have hb2 : ¬ (c = i + 1) := by omega
  have hb3 : (i : Int) ≤ (n : Int) + 1 := by omega
  have hb4 : ¬ (c = i) := by omega
  go_enter Tryz.func92, Tryz.ntmps92
  go_wp2_with (simp only [hov])
  go_region_law (refine step_copy_runI rfl _ _ 47 47 rfl _ _ (by simp [Act.eval, Act.put]) (by simp [Act.eval, Act.put]) (hc1 _) ?_)
  go_wp2_with (at_builtin; refine wpList_copy_runI _ rfl _ _ 47 47 rfl _ _ rfl rfl (hc2 _) ?_)
  go_ret
  exact ⟨rfl, rfl⟩

set_option maxHeartbeats 4000000 in
set_option maxRecDepth 100000 in
theorem atEnd : InsEnd Tryz.prog 92 47 := by
  intro base n c vb m mc v' w W1 hnc hm hap
  have hz1 : ¬ ((m : Int) = 0) := by omega
  go_enter Tryz.func92, Tryz.ntmps92
  cases base with
  | none =>
    go_wp2_with (at_builtin; refine Lib.wpList_append_run _ rfl _ _ _ _ rfl _ _ rfl rfl _ _ hap ?_)
    go_ret
    exact ⟨rfl, rfl⟩
  | some a =>
    obtain ⟨ab, ao, asp⟩ := a
    go_wp2_with (at_builtin; refine Lib.wpList_append_run _ rfl _ _ _ _ rfl _ _ rfl rfl _ _ hap ?_)
    all_goals (go_ret; exact ⟨rfl, rfl⟩)

set_option maxHeartbeats 4000000 in
set_option maxRecDepth 100000 in
theorem grow : InsGrow Tryz.prog 92 47 3 3 := by
  intro g n c i vb mc g2 C W1 W2 W3 w hi hnc hroom hc63 hC hC63 hap hc1 hc2
  have hz2 : ¬ ((i : Int) = (n : Int)) := by omega
  have hz3 : (c : Int) < (n : Int) + 1 := by omega
  have hw1 : IntKind.i64.wrap ((i : Int) + 1) = (i : Int) + 1 := by rw [IntKind.wrap_i64]; omega
  have hw2 : IntKind.i64.wrap ((n : Int) + 1) = (n : Int) + 1 := by rw [IntKind.wrap_i64]; omega
  have hw3 : IntKind.i64.wrap ((n : Int) + 1 - (i : Int)) = (n : Int) + 1 - (i : Int) := by rw [IntKind.wrap_i64]; omega
  have hb1 : (0 : Int) ≤ (i : Int) + 1 := by omega
  have hin : i ≤ n := by omega
  have htn : ((i : Int) + 1).toNat = i + 1 := by omega
  have hb2 : ¬ (C = i + 1) := by omega
  have hb3 : (i : Int) ≤ (n : Int) := by omega
  have hb4 : ¬ (C = i) := by omega
  have hb5 : ¬ (c = i) := by omega
  have hb6 : (i : Int) ≤ (n : Int) + 1 := by omega
  go_enter Tryz.func92, Tryz.ntmps92
  go_wp2_with (first
    | (at_builtin; refine Lib.wpList_append_run _ rfl _ _ _ _ rfl _ _ rfl rfl _ _ (hap _) ?_)
    | (at_builtin; refine wpList_copy_runI _ rfl _ _ 47 47 rfl _ _ rfl rfl (hc1 _) ?_))
  go_region_law (refine step_copy_runI rfl _ _ 47 47 rfl _ _ (by simp [Act.eval, Act.put]) (by simp [Act.eval, Act.put]) (hc2 _) ?_)
  go_wp2
  go_ret
  exact ⟨rfl, rfl⟩

/-- slices.Insert of one element. -/
theorem ins_ok (xs : List (List FV)) (x : List FV) (i : Nat) (hin : i ≤ xs.length) (hn : xs.length + 1 ≤ 10000000) :
    ECalls Tryz.prog 92 [.v (.c (.row 0 xs.length)), .lit (.int .i64 i), .v (.c (.row 1 1))] [.row 124 3 xs, .row 124 3 [x]] fun y H' =>
      H' = [none, some (.row 124 3 [x]), some (.row 124 3 (xs.take i ++ x :: xs.drop i))] ∧ y = .v (.c (.row 2 (xs.length + 1))) := by
  obtain ⟨ti, z, E⟩ := elem
  exact ins_ecalls E (by kernel_rfl) shift atEnd grow fov xs x i hin (by omega) (by omega)

set_option maxHeartbeats 4000000 in
set_option maxRecDepth 100000 in
theorem del1 : DelOne Tryz.prog 167 47 3 := by
  intro g n c i j k A W1 W2 w hj hk hi hnc hc63 hA hap hcl
  have hz2 : ¬ ((i : Int) = (j : Int)) := by omega
  have hb1 : (i : Int) ≤ (j : Int) := by omega
  have hb2 : (j : Int) ≤ (n : Int) := by omega
  have hin : i ≤ n := by omega
  have hic : i ≤ c := by omega
  have hjc : j ≤ c := by omega
  have hb3 : (k : Int) ≤ (n : Int) := by omega
  have hb4 : ¬ (c = k) := by omega
  have hb5 : (n : Int) ≤ (c : Int) := by omega
  clear hj hk
  go_enter Tryz.func167, Tryz.ntmps167
  go_wp2_with fail
  go_region_law (refine step_append_runI rfl _ _ 47 47 rfl _ _ (by simp [Act.eval, Act.put]) (by simp [Act.eval, Act.put, hA]) (hap _) ?_)
  go_wp2
  go_ret
  exact ⟨rfl, rfl⟩

/-- slices.Delete of one element. -/
theorem del_ok (xs : List (List FV)) (i : Nat) (hin : i < xs.length) :
    ECalls Tryz.prog 167 [.v (.c (.row 0 xs.length)), .lit (.int .i64 i), .lit (.int .i64 ((i : Int) + 1))] [.row 124 3 xs] fun y H' =>
      H' = [none, some (.row 124 3 (xs.take i ++ xs.drop (i + 1)))] ∧ y = .v (.c (.row 1 (xs.length - 1))) := by
  obtain ⟨ti, z, E⟩ := elem
  exact del_ecalls E del1 xs i hin

end InsH
end Go.Proofs.YtejjhgdnmknejaaGreatDoor
