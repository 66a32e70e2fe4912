import Derived.Test.YtejjhgdnmknejaaGreatDoorAll7
import Derived.Test.YtejjhgdnmknejaaGreatDoorAll5
import Derived.Test.YtejjhgdnmknejaaGreatDoorAll6
import Derived.Test.YtejjhgdnmknejaaGreatDoorProg
namespace Go.Proofs.YtejjhgdnmknejaaGreatDoor
open Go Go.EW
set_option linter.unusedSimpArgs false
set_option linter.unusedVariables false

@[simp] def l_LessI_1 (_ : Unit) : List EOp := [⟨0, (some 4), none, (.q (.mov (.k (.bool false)))), []⟩]
@[simp] def b_LessI_2 (_ : Unit) : EB := reg0 (hid l_LessI_1) 1
@[simp] def l_LessI_5 (_ : Unit) : List EOp := [⟨12, (some 4), none, (.q (.mov (.t 16))), []⟩]
@[simp] def l_LessI_4 (_ : Unit) : List EOp := ⟨6, (some 11), none, (.q (.pick (.t 7) (.t 10) (.k (.bool false)))), []⟩ :: ⟨7, (some 12), none, (.q (.mov (.t 11))), []⟩ :: ⟨8, (some 13), (some (12, false)), (.q (.mov (.t 0))), []⟩ :: ⟨9, (some 14), (some (12, false)), (.q (.mov (.t 1))), []⟩ :: ⟨10, (some 15), (some (12, false)), (.q (.bin .lss (.t 13) (.t 14))), []⟩ :: ⟨11, (some 16), none, (.q (.pick (.t 12) (.k (.bool true)) (.t 15))), []⟩ :: hid l_LessI_5
@[simp] def l_LessI_3 (_ : Unit) : List EOp := ⟨0, (some 5), none, (.q (.mov (.t 0))), []⟩ :: ⟨1, (some 6), none, (.call 190 [(.t 5)]), []⟩ :: ⟨2, (some 7), none, (.q (.mov (.t 6))), []⟩ :: ⟨3, (some 8), (some (7, true)), (.q (.mov (.t 1))), []⟩ :: ⟨4, (some 9), (some (7, true)), (.call 190 [(.t 8)]), []⟩ :: ⟨5, (some 10), (some (7, true)), (.q (.un .not (.t 9))), []⟩ :: hid l_LessI_4
@[simp] def b_LessI_6 (_ : Unit) : EB := reg0 (hid l_LessI_3) 13
@[simp] def b_LessI_7 (_ : Unit) : EB := .seq (hid b_LessI_6) .ret
@[simp] def b_LessI_8 (_ : Unit) : EB := .seq (hid b_LessI_2) (hid b_LessI_7)
def c_LessI : EB × List QOp × Nat := ((hid b_LessI_8), [(.mov (.t 4))], 17)
theorem k_LessI : cfun Tryz.prog 144 = some c_LessI := by kernel_rfl

@[simp] def l_InsI_1 (_ : Unit) : List EOp := [⟨0, (some 8), none, (.q (.mov (.t 1))), []⟩, ⟨1, (some 9), none, (.q (.bin .add (.t 8) (.k (.int .i64 1)))), []⟩, ⟨2, (some 6), none, (.q (.mov (.t 9))), []⟩]
@[simp] def b_InsI_2 (_ : Unit) : EB := reg0 (hid l_InsI_1) 3
@[simp] def l_InsI_3 (_ : Unit) : List EOp := [⟨0, (some 10), none, (.q (.mov (.t 6))), []⟩, ⟨1, (some 11), none, (.q (.mov (.t 2))), []⟩, ⟨2, (some 12), none, (.q (.bin .lss (.t 10) (.t 11))), []⟩]
@[simp] def b_InsI_4 (_ : Unit) : EB := reg0 (hid l_InsI_3) 3
@[simp] def b_InsI_5 (_ : Unit) : EB := .cond (.t 12) .skip (.exit 0)
@[simp] def b_InsI_6 (_ : Unit) : EB := .seq (hid b_InsI_4) (hid b_InsI_5)
@[simp] def l_InsI_7 (_ : Unit) : List EOp := [⟨0, (some 15), none, (.q (.mov (.t 6))), []⟩, ⟨1, (some 7), none, (.q (.mov (.t 15))), []⟩]
@[simp] def b_InsI_8 (_ : Unit) : EB := reg0 (hid l_InsI_7) 2
@[simp] def l_InsI_11 (_ : Unit) : List EOp := [⟨12, (some 28), (some (19, true)), (.q (.ldc (.t 27))), []⟩, ⟨13, (some 29), (some (19, true)), (.call 144 [(.t 23), (.t 28)]), []⟩, ⟨14, (some 30), none, (.q (.pick (.t 19) (.t 29) (.k (.bool false)))), []⟩]
@[simp] def l_InsI_10 (_ : Unit) : List EOp := ⟨6, (some 22), (some (19, true)), (.q (.isl 1 (.t 20) (.t 21))), []⟩ :: ⟨7, (some 23), (some (19, true)), (.q (.ldc (.t 22))), []⟩ :: ⟨8, (some 24), (some (19, true)), (.q (.mov (.t 0))), []⟩ :: ⟨9, (some 25), (some (19, true)), (.q (.mov (.t 7))), []⟩ :: ⟨10, (some 26), (some (19, true)), (.q (.bin .sub (.t 25) (.k (.int .i64 1)))), []⟩ :: ⟨11, (some 27), (some (19, true)), (.q (.isl 1 (.t 24) (.t 26))), []⟩ :: hid l_InsI_11
@[simp] def l_InsI_9 (_ : Unit) : List EOp := ⟨0, (some 16), none, (.q (.mov (.t 7))), []⟩ :: ⟨1, (some 17), none, (.q (.mov (.t 1))), []⟩ :: ⟨2, (some 18), none, (.q (.bin .gtr (.t 16) (.t 17))), []⟩ :: ⟨3, (some 19), none, (.q (.mov (.t 18))), []⟩ :: ⟨4, (some 20), (some (19, true)), (.q (.mov (.t 0))), []⟩ :: ⟨5, (some 21), (some (19, true)), (.q (.mov (.t 7))), []⟩ :: hid l_InsI_10
@[simp] def b_InsI_12 (_ : Unit) : EB := reg0 (hid l_InsI_9) 15
@[simp] def b_InsI_13 (_ : Unit) : EB := .cond (.t 30) .skip (.exit 2)
@[simp] def b_InsI_14 (_ : Unit) : EB := .seq (hid b_InsI_12) (hid b_InsI_13)
@[simp] def l_InsI_17 (_ : Unit) : List EOp := [⟨12, (some 45), none, (.q (.isl 1 (.t 43) (.t 44))), []⟩, ⟨13, (some 46), none, (.q (.ldc (.t 45))), []⟩, ⟨14, (some 47), none, (.q (.isl 1 (.t 33) (.t 34))), []⟩, ⟨15, none, none, (.sto 1 (.t 47) (.t 42)), [2, 3, 4]⟩, ⟨16, (some 48), none, (.q (.isl 1 (.t 35) (.t 37))), []⟩, ⟨17, none, none, (.sto 1 (.t 48) (.t 46)), []⟩]
@[simp] def l_InsI_16 (_ : Unit) : List EOp := ⟨6, (some 39), none, (.q (.mov (.t 7))), []⟩ :: ⟨7, (some 40), none, (.q (.bin .sub (.t 39) (.k (.int .i64 1)))), []⟩ :: ⟨8, (some 41), none, (.q (.isl 1 (.t 38) (.t 40))), []⟩ :: ⟨9, (some 42), none, (.q (.ldc (.t 41))), []⟩ :: ⟨10, (some 43), none, (.q (.mov (.t 0))), []⟩ :: ⟨11, (some 44), none, (.q (.mov (.t 7))), []⟩ :: hid l_InsI_17
@[simp] def l_InsI_15 (_ : Unit) : List EOp := ⟨0, (some 33), none, (.q (.mov (.t 0))), []⟩ :: ⟨1, (some 34), none, (.q (.mov (.t 7))), []⟩ :: ⟨2, (some 35), none, (.q (.mov (.t 0))), []⟩ :: ⟨3, (some 36), none, (.q (.mov (.t 7))), []⟩ :: ⟨4, (some 37), none, (.q (.bin .sub (.t 36) (.k (.int .i64 1)))), []⟩ :: ⟨5, (some 38), none, (.q (.mov (.t 0))), []⟩ :: hid l_InsI_16
@[simp] def b_InsI_18 (_ : Unit) : EB := reg1 (hid l_InsI_15) 18
@[simp] def b_InsI_19 (_ : Unit) : EB := .block 3 (hid b_InsI_18)
@[simp] def l_InsI_20 (_ : Unit) : List EOp := [⟨0, (some 31), none, (.q (.mov (.t 7))), []⟩, ⟨1, (some 32), none, (.q (.bin .sub (.t 31) (.k (.int .i64 1)))), []⟩, ⟨2, (some 7), none, (.q (.mov (.t 32))), []⟩]
@[simp] def b_InsI_21 (_ : Unit) : EB := reg0 (hid l_InsI_20) 3
@[simp] def b_InsI_22 (_ : Unit) : EB := .seq (hid b_InsI_19) (hid b_InsI_21)
@[simp] def b_InsI_23 (_ : Unit) : EB := .seq (hid b_InsI_14) (hid b_InsI_22)
@[simp] def b_InsI_24 (_ : Unit) : EB := .loop (hid b_InsI_23)
@[simp] def b_InsI_25 (_ : Unit) : EB := .block 2 (hid b_InsI_24)
@[simp] def b_InsI_26 (_ : Unit) : EB := .seq (hid b_InsI_8) (hid b_InsI_25)
@[simp] def b_InsI_27 (_ : Unit) : EB := .block 1 (hid b_InsI_26)
@[simp] def l_InsI_28 (_ : Unit) : List EOp := [⟨0, (some 13), none, (.q (.mov (.t 6))), []⟩, ⟨1, (some 14), none, (.q (.bin .add (.t 13) (.k (.int .i64 1)))), []⟩, ⟨2, (some 6), none, (.q (.mov (.t 14))), []⟩]
@[simp] def b_InsI_29 (_ : Unit) : EB := reg0 (hid l_InsI_28) 3
@[simp] def b_InsI_30 (_ : Unit) : EB := .seq (hid b_InsI_27) (hid b_InsI_29)
@[simp] def b_InsI_31 (_ : Unit) : EB := .seq (hid b_InsI_6) (hid b_InsI_30)
@[simp] def b_InsI_32 (_ : Unit) : EB := .loop (hid b_InsI_31)
@[simp] def b_InsI_33 (_ : Unit) : EB := .block 0 (hid b_InsI_32)
@[simp] def b_InsI_34 (_ : Unit) : EB := .seq (hid b_InsI_2) (hid b_InsI_33)
def c_InsI : EB × List QOp × Nat := ((hid b_InsI_34), [], 49)
theorem k_InsI : cfun Tryz.prog 180 = some c_InsI := by kernel_rfl

@[simp] def l_PdqI_1 (_ : Unit) : List EOp := [⟨0, (some 8), none, (.q (.mov (.k (.bool true)))), []⟩]
@[simp] def b_PdqI_2 (_ : Unit) : EB := reg0 (hid l_PdqI_1) 1
@[simp] def l_PdqI_3 (_ : Unit) : List EOp := [⟨0, (some 9), none, (.q (.mov (.k (.bool true)))), []⟩]
@[simp] def b_PdqI_4 (_ : Unit) : EB := reg0 (hid l_PdqI_3) 1
@[simp] def l_PdqI_5 (_ : Unit) : List EOp := [⟨0, (some 19), none, (.q (.mov (.t 2))), []⟩, ⟨1, (some 20), none, (.q (.mov (.t 1))), []⟩, ⟨2, (some 21), none, (.q (.bin .sub (.t 19) (.t 20))), []⟩, ⟨3, (some 10), none, (.q (.mov (.t 21))), []⟩]
@[simp] def b_PdqI_6 (_ : Unit) : EB := reg0 (hid l_PdqI_5) 4
@[simp] def l_PdqI_7 (_ : Unit) : List EOp := [⟨0, (some 22), none, (.q (.mov (.t 10))), []⟩, ⟨1, (some 23), none, (.q (.bin .leq (.t 22) (.k (.int .i64 12)))), []⟩]
@[simp] def b_PdqI_8 (_ : Unit) : EB := reg0 (hid l_PdqI_7) 2
@[simp] def l_PdqI_9 (_ : Unit) : List EOp := [⟨0, (some 24), none, (.q (.mov (.t 0))), []⟩, ⟨1, (some 25), none, (.q (.mov (.t 1))), []⟩, ⟨2, (some 26), none, (.q (.mov (.t 2))), []⟩, ⟨3, (some 27), none, (.call 180 [(.t 24), (.t 25), (.t 26)]), []⟩]
@[simp] def b_PdqI_10 (_ : Unit) : EB := reg0 (hid l_PdqI_9) 4
@[simp] def b_PdqI_11 (_ : Unit) : EB := .seq (hid b_PdqI_10) .ret
@[simp] def b_PdqI_12 (_ : Unit) : EB := .cond (.t 23) (hid b_PdqI_11) .skip
@[simp] def b_PdqI_13 (_ : Unit) : EB := .seq (hid b_PdqI_8) (hid b_PdqI_12)
@[simp] def l_PdqI_14 (_ : Unit) : List EOp := [⟨0, (some 28), none, (.q (.mov (.t 3))), []⟩, ⟨1, (some 29), none, (.q (.bin .eql (.t 28) (.k (.int .i64 0)))), []⟩]
@[simp] def b_PdqI_15 (_ : Unit) : EB := reg0 (hid l_PdqI_14) 2
@[simp] def l_PdqI_16 (_ : Unit) : List EOp := [⟨0, (some 30), none, (.q (.mov (.t 0))), []⟩, ⟨1, (some 31), none, (.q (.mov (.t 1))), []⟩, ⟨2, (some 32), none, (.q (.mov (.t 2))), []⟩, ⟨3, (some 33), none, (.call 181 [(.t 30), (.t 31), (.t 32)]), []⟩]
@[simp] def b_PdqI_17 (_ : Unit) : EB := reg0 (hid l_PdqI_16) 4
@[simp] def b_PdqI_18 (_ : Unit) : EB := .seq (hid b_PdqI_17) .ret
@[simp] def b_PdqI_19 (_ : Unit) : EB := .cond (.t 29) (hid b_PdqI_18) .skip
@[simp] def b_PdqI_20 (_ : Unit) : EB := .seq (hid b_PdqI_15) (hid b_PdqI_19)
@[simp] def l_PdqI_21 (_ : Unit) : List EOp := [⟨0, (some 34), none, (.q (.mov (.t 8))), []⟩, ⟨1, (some 35), none, (.q (.un .not (.t 34))), []⟩]
@[simp] def b_PdqI_22 (_ : Unit) : EB := reg0 (hid l_PdqI_21) 2
@[simp] def l_PdqI_23 (_ : Unit) : List EOp := [⟨0, (some 36), none, (.q (.mov (.t 0))), []⟩, ⟨1, (some 37), none, (.q (.mov (.t 1))), []⟩, ⟨2, (some 38), none, (.q (.mov (.t 2))), []⟩, ⟨3, (some 39), none, (.call 182 [(.t 36), (.t 37), (.t 38)]), []⟩]
@[simp] def b_PdqI_24 (_ : Unit) : EB := reg0 (hid l_PdqI_23) 4
@[simp] def l_PdqI_25 (_ : Unit) : List EOp := [⟨0, (some 40), none, (.q (.mov (.t 3))), []⟩, ⟨1, (some 41), none, (.q (.bin .sub (.t 40) (.k (.int .i64 1)))), []⟩, ⟨2, (some 3), none, (.q (.mov (.t 41))), []⟩]
@[simp] def b_PdqI_26 (_ : Unit) : EB := reg0 (hid l_PdqI_25) 3
@[simp] def b_PdqI_27 (_ : Unit) : EB := .seq (hid b_PdqI_24) (hid b_PdqI_26)
@[simp] def b_PdqI_28 (_ : Unit) : EB := .cond (.t 35) (hid b_PdqI_27) .skip
@[simp] def b_PdqI_29 (_ : Unit) : EB := .seq (hid b_PdqI_22) (hid b_PdqI_28)
@[simp] def l_PdqI_31 (_ : Unit) : List EOp := [⟨6, (some 48), none, (.q (.ext 1 (.t 42))), []⟩, ⟨7, (some 11), none, (.q (.mov (.t 47))), []⟩, ⟨8, (some 12), none, (.q (.mov (.t 48))), []⟩]
@[simp] def l_PdqI_30 (_ : Unit) : List EOp := ⟨0, (some 43), none, (.q (.mov (.t 0))), []⟩ :: ⟨1, (some 44), none, (.q (.mov (.t 1))), []⟩ :: ⟨2, (some 45), none, (.q (.mov (.t 2))), []⟩ :: ⟨3, (some 46), none, (.call 183 [(.t 43), (.t 44), (.t 45)]), []⟩ :: ⟨4, (some 42), none, (.q (.mov (.t 46))), []⟩ :: ⟨5, (some 47), none, (.q (.ext 0 (.t 42))), []⟩ :: hid l_PdqI_31
@[simp] def b_PdqI_32 (_ : Unit) : EB := reg0 (hid l_PdqI_30) 9
@[simp] def l_PdqI_33 (_ : Unit) : List EOp := [⟨0, (some 49), none, (.q (.mov (.t 12))), []⟩, ⟨1, (some 50), none, (.q (.bin .eql (.t 49) (.k (.int .i64 2)))), []⟩]
@[simp] def b_PdqI_34 (_ : Unit) : EB := reg0 (hid l_PdqI_33) 2
@[simp] def l_PdqI_35 (_ : Unit) : List EOp := [⟨0, (some 51), none, (.q (.mov (.t 0))), []⟩, ⟨1, (some 52), none, (.q (.mov (.t 1))), []⟩, ⟨2, (some 53), none, (.q (.mov (.t 2))), []⟩, ⟨3, (some 54), none, (.call 184 [(.t 51), (.t 52), (.t 53)]), []⟩]
@[simp] def b_PdqI_36 (_ : Unit) : EB := reg0 (hid l_PdqI_35) 4
@[simp] def l_PdqI_38 (_ : Unit) : List EOp := [⟨6, (some 11), none, (.q (.mov (.t 60))), []⟩]
@[simp] def l_PdqI_37 (_ : Unit) : List EOp := ⟨0, (some 55), none, (.q (.mov (.t 2))), []⟩ :: ⟨1, (some 56), none, (.q (.bin .sub (.t 55) (.k (.int .i64 1)))), []⟩ :: ⟨2, (some 57), none, (.q (.mov (.t 11))), []⟩ :: ⟨3, (some 58), none, (.q (.mov (.t 1))), []⟩ :: ⟨4, (some 59), none, (.q (.bin .sub (.t 57) (.t 58))), []⟩ :: ⟨5, (some 60), none, (.q (.bin .sub (.t 56) (.t 59))), []⟩ :: hid l_PdqI_38
@[simp] def b_PdqI_39 (_ : Unit) : EB := reg0 (hid l_PdqI_37) 7
@[simp] def l_PdqI_40 (_ : Unit) : List EOp := [⟨0, (some 12), none, (.q (.mov (.k (.int .i64 1)))), []⟩]
@[simp] def b_PdqI_41 (_ : Unit) : EB := reg0 (hid l_PdqI_40) 1
@[simp] def b_PdqI_42 (_ : Unit) : EB := .seq (hid b_PdqI_39) (hid b_PdqI_41)
@[simp] def b_PdqI_43 (_ : Unit) : EB := .seq (hid b_PdqI_36) (hid b_PdqI_42)
@[simp] def b_PdqI_44 (_ : Unit) : EB := .cond (.t 50) (hid b_PdqI_43) .skip
@[simp] def b_PdqI_45 (_ : Unit) : EB := .seq (hid b_PdqI_34) (hid b_PdqI_44)
@[simp] def l_PdqI_47 (_ : Unit) : List EOp := [⟨6, (some 67), (some (65, true)), (.q (.bin .eql (.t 66) (.k (.int .i64 1)))), []⟩, ⟨7, (some 68), none, (.q (.pick (.t 65) (.t 67) (.k (.bool false)))), []⟩]
@[simp] def l_PdqI_46 (_ : Unit) : List EOp := ⟨0, (some 61), none, (.q (.mov (.t 8))), []⟩ :: ⟨1, (some 62), none, (.q (.mov (.t 61))), []⟩ :: ⟨2, (some 63), (some (62, true)), (.q (.mov (.t 9))), []⟩ :: ⟨3, (some 64), none, (.q (.pick (.t 62) (.t 63) (.k (.bool false)))), []⟩ :: ⟨4, (some 65), none, (.q (.mov (.t 64))), []⟩ :: ⟨5, (some 66), (some (65, true)), (.q (.mov (.t 12))), []⟩ :: hid l_PdqI_47
@[simp] def b_PdqI_48 (_ : Unit) : EB := reg0 (hid l_PdqI_46) 8
@[simp] def l_PdqI_49 (_ : Unit) : List EOp := [⟨0, (some 69), none, (.q (.mov (.t 0))), []⟩, ⟨1, (some 70), none, (.q (.mov (.t 1))), []⟩, ⟨2, (some 71), none, (.q (.mov (.t 2))), []⟩, ⟨3, (some 72), none, (.call 185 [(.t 69), (.t 70), (.t 71)]), []⟩]
@[simp] def b_PdqI_50 (_ : Unit) : EB := reg0 (hid l_PdqI_49) 4
@[simp] def b_PdqI_51 (_ : Unit) : EB := .cond (.t 72) .ret .skip
@[simp] def b_PdqI_52 (_ : Unit) : EB := .seq (hid b_PdqI_50) (hid b_PdqI_51)
@[simp] def b_PdqI_53 (_ : Unit) : EB := .cond (.t 68) (hid b_PdqI_52) .skip
@[simp] def b_PdqI_54 (_ : Unit) : EB := .seq (hid b_PdqI_48) (hid b_PdqI_53)
@[simp] def l_PdqI_57 (_ : Unit) : List EOp := [⟨12, (some 85), (some (75, true)), (.call 144 [(.t 80), (.t 84)]), []⟩, ⟨13, (some 86), (some (75, true)), (.q (.un .not (.t 85))), []⟩, ⟨14, (some 87), none, (.q (.pick (.t 75) (.t 86) (.k (.bool false)))), []⟩]
@[simp] def l_PdqI_56 (_ : Unit) : List EOp := ⟨6, (some 79), (some (75, true)), (.q (.isl 1 (.t 76) (.t 78))), []⟩ :: ⟨7, (some 80), (some (75, true)), (.q (.ldc (.t 79))), []⟩ :: ⟨8, (some 81), (some (75, true)), (.q (.mov (.t 0))), []⟩ :: ⟨9, (some 82), (some (75, true)), (.q (.mov (.t 11))), []⟩ :: ⟨10, (some 83), (some (75, true)), (.q (.isl 1 (.t 81) (.t 82))), []⟩ :: ⟨11, (some 84), (some (75, true)), (.q (.ldc (.t 83))), []⟩ :: hid l_PdqI_57
@[simp] def l_PdqI_55 (_ : Unit) : List EOp := ⟨0, (some 73), none, (.q (.mov (.t 1))), []⟩ :: ⟨1, (some 74), none, (.q (.bin .gtr (.t 73) (.k (.int .i64 0)))), []⟩ :: ⟨2, (some 75), none, (.q (.mov (.t 74))), []⟩ :: ⟨3, (some 76), (some (75, true)), (.q (.mov (.t 0))), []⟩ :: ⟨4, (some 77), (some (75, true)), (.q (.mov (.t 1))), []⟩ :: ⟨5, (some 78), (some (75, true)), (.q (.bin .sub (.t 77) (.k (.int .i64 1)))), []⟩ :: hid l_PdqI_56
@[simp] def b_PdqI_58 (_ : Unit) : EB := reg0 (hid l_PdqI_55) 15
@[simp] def l_PdqI_59 (_ : Unit) : List EOp := [⟨0, (some 88), none, (.q (.mov (.t 0))), []⟩, ⟨1, (some 89), none, (.q (.mov (.t 1))), []⟩, ⟨2, (some 90), none, (.q (.mov (.t 2))), []⟩, ⟨3, (some 91), none, (.q (.mov (.t 11))), []⟩, ⟨4, (some 92), none, (.call 186 [(.t 88), (.t 89), (.t 90), (.t 91)]), []⟩, ⟨5, (some 13), none, (.q (.mov (.t 92))), []⟩]
@[simp] def b_PdqI_60 (_ : Unit) : EB := reg0 (hid l_PdqI_59) 6
@[simp] def l_PdqI_61 (_ : Unit) : List EOp := [⟨0, (some 93), none, (.q (.mov (.t 13))), []⟩, ⟨1, (some 1), none, (.q (.mov (.t 93))), []⟩]
@[simp] def b_PdqI_62 (_ : Unit) : EB := reg0 (hid l_PdqI_61) 2
@[simp] def b_PdqI_63 (_ : Unit) : EB := .seq (hid b_PdqI_62) (.exit 1)
@[simp] def b_PdqI_64 (_ : Unit) : EB := .seq (hid b_PdqI_60) (hid b_PdqI_63)
@[simp] def b_PdqI_65 (_ : Unit) : EB := .cond (.t 87) (hid b_PdqI_64) .skip
@[simp] def b_PdqI_66 (_ : Unit) : EB := .seq (hid b_PdqI_58) (hid b_PdqI_65)
@[simp] def l_PdqI_68 (_ : Unit) : List EOp := [⟨6, (some 100), none, (.q (.ext 0 (.t 94))), []⟩, ⟨7, (some 101), none, (.q (.ext 1 (.t 94))), []⟩, ⟨8, (some 14), none, (.q (.mov (.t 100))), []⟩, ⟨9, (some 15), none, (.q (.mov (.t 101))), []⟩]
@[simp] def l_PdqI_67 (_ : Unit) : List EOp := ⟨0, (some 95), none, (.q (.mov (.t 0))), []⟩ :: ⟨1, (some 96), none, (.q (.mov (.t 1))), []⟩ :: ⟨2, (some 97), none, (.q (.mov (.t 2))), []⟩ :: ⟨3, (some 98), none, (.q (.mov (.t 11))), []⟩ :: ⟨4, (some 99), none, (.call 187 [(.t 95), (.t 96), (.t 97), (.t 98)]), []⟩ :: ⟨5, (some 94), none, (.q (.mov (.t 99))), []⟩ :: hid l_PdqI_68
@[simp] def b_PdqI_69 (_ : Unit) : EB := reg0 (hid l_PdqI_67) 10
@[simp] def l_PdqI_70 (_ : Unit) : List EOp := [⟨0, (some 102), none, (.q (.mov (.t 15))), []⟩, ⟨1, (some 9), none, (.q (.mov (.t 102))), []⟩]
@[simp] def b_PdqI_71 (_ : Unit) : EB := reg0 (hid l_PdqI_70) 2
@[simp] def l_PdqI_73 (_ : Unit) : List EOp := [⟨6, (some 16), none, (.q (.mov (.t 105))), []⟩, ⟨7, (some 17), none, (.q (.mov (.t 108))), []⟩]
@[simp] def l_PdqI_72 (_ : Unit) : List EOp := ⟨0, (some 103), none, (.q (.mov (.t 14))), []⟩ :: ⟨1, (some 104), none, (.q (.mov (.t 1))), []⟩ :: ⟨2, (some 105), none, (.q (.bin .sub (.t 103) (.t 104))), []⟩ :: ⟨3, (some 106), none, (.q (.mov (.t 2))), []⟩ :: ⟨4, (some 107), none, (.q (.mov (.t 14))), []⟩ :: ⟨5, (some 108), none, (.q (.bin .sub (.t 106) (.t 107))), []⟩ :: hid l_PdqI_73
@[simp] def b_PdqI_74 (_ : Unit) : EB := reg0 (hid l_PdqI_72) 8
@[simp] def l_PdqI_75 (_ : Unit) : List EOp := [⟨0, (some 109), none, (.q (.mov (.t 10))), []⟩, ⟨1, (some 110), none, (.q (.bin .quo (.t 109) (.k (.int .i64 8)))), []⟩, ⟨2, (some 18), none, (.q (.mov (.t 110))), []⟩]
@[simp] def b_PdqI_76 (_ : Unit) : EB := reg0 (hid l_PdqI_75) 3
@[simp] def l_PdqI_77 (_ : Unit) : List EOp := [⟨0, (some 111), none, (.q (.mov (.t 16))), []⟩, ⟨1, (some 112), none, (.q (.mov (.t 17))), []⟩, ⟨2, (some 113), none, (.q (.bin .lss (.t 111) (.t 112))), []⟩]
@[simp] def b_PdqI_78 (_ : Unit) : EB := reg0 (hid l_PdqI_77) 3
@[simp] def l_PdqI_79 (_ : Unit) : List EOp := [⟨0, (some 114), none, (.q (.mov (.t 16))), []⟩, ⟨1, (some 115), none, (.q (.mov (.t 18))), []⟩, ⟨2, (some 116), none, (.q (.bin .geq (.t 114) (.t 115))), []⟩, ⟨3, (some 8), none, (.q (.mov (.t 116))), []⟩]
@[simp] def b_PdqI_80 (_ : Unit) : EB := reg0 (hid l_PdqI_79) 4
@[simp] def l_PdqI_81 (_ : Unit) : List EOp := [⟨0, (some 117), none, (.q (.mov (.t 0))), []⟩, ⟨1, (some 118), none, (.q (.mov (.t 1))), []⟩, ⟨2, (some 119), none, (.q (.mov (.t 14))), []⟩, ⟨3, (some 120), none, (.q (.mov (.t 3))), []⟩, ⟨4, (some 121), none, (.call 142 [(.t 117), (.t 118), (.t 119), (.t 120)]), []⟩]
@[simp] def b_PdqI_82 (_ : Unit) : EB := reg0 (hid l_PdqI_81) 5
@[simp] def l_PdqI_83 (_ : Unit) : List EOp := [⟨0, (some 122), none, (.q (.mov (.t 14))), []⟩, ⟨1, (some 123), none, (.q (.bin .add (.t 122) (.k (.int .i64 1)))), []⟩, ⟨2, (some 1), none, (.q (.mov (.t 123))), []⟩]
@[simp] def b_PdqI_84 (_ : Unit) : EB := reg0 (hid l_PdqI_83) 3
@[simp] def b_PdqI_85 (_ : Unit) : EB := .seq (hid b_PdqI_82) (hid b_PdqI_84)
@[simp] def b_PdqI_86 (_ : Unit) : EB := .seq (hid b_PdqI_80) (hid b_PdqI_85)
@[simp] def l_PdqI_87 (_ : Unit) : List EOp := [⟨0, (some 124), none, (.q (.mov (.t 17))), []⟩, ⟨1, (some 125), none, (.q (.mov (.t 18))), []⟩, ⟨2, (some 126), none, (.q (.bin .geq (.t 124) (.t 125))), []⟩, ⟨3, (some 8), none, (.q (.mov (.t 126))), []⟩]
@[simp] def b_PdqI_88 (_ : Unit) : EB := reg0 (hid l_PdqI_87) 4
@[simp] def l_PdqI_89 (_ : Unit) : List EOp := [⟨0, (some 127), none, (.q (.mov (.t 0))), []⟩, ⟨1, (some 128), none, (.q (.mov (.t 14))), []⟩, ⟨2, (some 129), none, (.q (.bin .add (.t 128) (.k (.int .i64 1)))), []⟩, ⟨3, (some 130), none, (.q (.mov (.t 2))), []⟩, ⟨4, (some 131), none, (.q (.mov (.t 3))), []⟩, ⟨5, (some 132), none, (.call 142 [(.t 127), (.t 129), (.t 130), (.t 131)]), []⟩]
@[simp] def b_PdqI_90 (_ : Unit) : EB := reg0 (hid l_PdqI_89) 6
@[simp] def l_PdqI_91 (_ : Unit) : List EOp := [⟨0, (some 133), none, (.q (.mov (.t 14))), []⟩, ⟨1, (some 2), none, (.q (.mov (.t 133))), []⟩]
@[simp] def b_PdqI_92 (_ : Unit) : EB := reg0 (hid l_PdqI_91) 2
@[simp] def b_PdqI_93 (_ : Unit) : EB := .seq (hid b_PdqI_90) (hid b_PdqI_92)
@[simp] def b_PdqI_94 (_ : Unit) : EB := .seq (hid b_PdqI_88) (hid b_PdqI_93)
@[simp] def b_PdqI_95 (_ : Unit) : EB := .cond (.t 113) (hid b_PdqI_86) (hid b_PdqI_94)
@[simp] def b_PdqI_96 (_ : Unit) : EB := .seq (hid b_PdqI_78) (hid b_PdqI_95)
@[simp] def b_PdqI_97 (_ : Unit) : EB := .seq (hid b_PdqI_76) (hid b_PdqI_96)
@[simp] def b_PdqI_98 (_ : Unit) : EB := .seq (hid b_PdqI_74) (hid b_PdqI_97)
@[simp] def b_PdqI_99 (_ : Unit) : EB := .seq (hid b_PdqI_71) (hid b_PdqI_98)
@[simp] def b_PdqI_100 (_ : Unit) : EB := .seq (hid b_PdqI_69) (hid b_PdqI_99)
@[simp] def b_PdqI_101 (_ : Unit) : EB := .seq (hid b_PdqI_66) (hid b_PdqI_100)
@[simp] def b_PdqI_102 (_ : Unit) : EB := .seq (hid b_PdqI_54) (hid b_PdqI_101)
@[simp] def b_PdqI_103 (_ : Unit) : EB := .seq (hid b_PdqI_45) (hid b_PdqI_102)
@[simp] def b_PdqI_104 (_ : Unit) : EB := .seq (hid b_PdqI_32) (hid b_PdqI_103)
@[simp] def b_PdqI_105 (_ : Unit) : EB := .seq (hid b_PdqI_29) (hid b_PdqI_104)
@[simp] def b_PdqI_106 (_ : Unit) : EB := .seq (hid b_PdqI_20) (hid b_PdqI_105)
@[simp] def b_PdqI_107 (_ : Unit) : EB := .seq (hid b_PdqI_13) (hid b_PdqI_106)
@[simp] def b_PdqI_108 (_ : Unit) : EB := .seq (hid b_PdqI_6) (hid b_PdqI_107)
@[simp] def b_PdqI_109 (_ : Unit) : EB := .block 1 (hid b_PdqI_108)
@[simp] def b_PdqI_110 (_ : Unit) : EB := .loop (hid b_PdqI_109)
@[simp] def b_PdqI_111 (_ : Unit) : EB := .block 0 (hid b_PdqI_110)
@[simp] def b_PdqI_112 (_ : Unit) : EB := .seq (hid b_PdqI_4) (hid b_PdqI_111)
@[simp] def b_PdqI_113 (_ : Unit) : EB := .seq (hid b_PdqI_2) (hid b_PdqI_112)
def c_PdqI : EB × List QOp × Nat := ((hid b_PdqI_113), [], 134)
theorem k_PdqI : cfun Tryz.prog 142 = some c_PdqI := by kernel_rfl

@[simp] def l_LenB_1 (_ : Unit) : List EOp := [⟨0, (some 2), none, (.q (.mov (.k (.int .i64 0)))), []⟩]
@[simp] def b_LenB_2 (_ : Unit) : EB := reg0 (hid l_LenB_1) 1
@[simp] def l_LenB_3 (_ : Unit) : List EOp := [⟨0, (some 3), none, (.q (.mov (.t 0))), []⟩, ⟨1, (some 4), none, (.q (.cnv .u32 (.t 3))), []⟩, ⟨2, (some 5), none, (.call 188 [(.t 4)]), []⟩, ⟨3, (some 2), none, (.q (.mov (.t 5))), []⟩]
@[simp] def b_LenB_4 (_ : Unit) : EB := reg0 (hid l_LenB_3) 4
@[simp] def b_LenB_5 (_ : Unit) : EB := .seq (hid b_LenB_4) .ret
@[simp] def b_LenB_6 (_ : Unit) : EB := .cond (.k (.bool false)) (hid b_LenB_5) .skip
@[simp] def l_LenB_7 (_ : Unit) : List EOp := [⟨0, (some 6), none, (.q (.mov (.t 0))), []⟩, ⟨1, (some 7), none, (.call 189 [(.t 6)]), []⟩, ⟨2, (some 2), none, (.q (.mov (.t 7))), []⟩]
@[simp] def b_LenB_8 (_ : Unit) : EB := reg0 (hid l_LenB_7) 3
@[simp] def b_LenB_9 (_ : Unit) : EB := .seq (hid b_LenB_8) .ret
@[simp] def b_LenB_10 (_ : Unit) : EB := .seq (hid b_LenB_6) (hid b_LenB_9)
@[simp] def b_LenB_11 (_ : Unit) : EB := .seq (hid b_LenB_2) (hid b_LenB_10)
def c_LenB : EB × List QOp × Nat := ((hid b_LenB_11), [(.mov (.t 2))], 8)
theorem k_LenB : cfun Tryz.prog 143 = some c_LenB := by kernel_rfl

def s_LenB64_0 : ByteArray := ⟨#[0, 1, 2, 2, 3, 3, 3, 3, 4, 4, 4, 4, 4, 4, 4, 4, 5, 5, 5, 5, 5, 5, 5, 5, 5, 5, 5, 5, 5, 5, 5, 5, 6, 6, 6, 6, 6, 6, 6, 6, 6, 6, 6, 6, 6, 6, 6, 6, 6, 6, 6, 6, 6, 6, 6, 6, 6, 6, 6, 6, 6, 6, 6, 6, 7, 7, 7, 7, 7, 7, 7, 7, 7, 7, 7, 7, 7, 7, 7, 7, 7, 7, 7, 7, 7, 7, 7, 7, 7, 7, 7, 7, 7, 7, 7, 7, 7, 7, 7, 7, 7, 7, 7, 7, 7, 7, 7, 7, 7, 7, 7, 7, 7, 7, 7, 7, 7, 7, 7, 7, 7, 7, 7, 7, 7, 7, 7, 7, 8, 8, 8, 8, 8, 8, 8, 8, 8, 8, 8, 8, 8, 8, 8, 8, 8, 8, 8, 8, 8, 8, 8, 8, 8, 8, 8, 8, 8, 8, 8, 8, 8, 8, 8, 8, 8, 8, 8, 8, 8, 8, 8, 8, 8, 8, 8, 8, 8, 8, 8, 8, 8, 8, 8, 8, 8, 8, 8, 8, 8, 8, 8, 8, 8, 8, 8, 8, 8, 8, 8, 8, 8, 8, 8, 8, 8, 8, 8, 8, 8, 8, 8, 8, 8, 8, 8, 8, 8, 8, 8, 8, 8, 8, 8, 8, 8, 8, 8, 8, 8, 8, 8, 8, 8, 8, 8, 8, 8, 8, 8, 8, 8, 8, 8, 8, 8, 8, 8, 8, 8, 8, 8, 8, 8, 8, 8, 8]⟩
@[simp] def l_LenB64_1 (_ : Unit) : List EOp := [⟨0, (some 2), none, (.q (.mov (.k (.int .i64 0)))), []⟩]
@[simp] def b_LenB64_2 (_ : Unit) : EB := reg0 (hid l_LenB64_1) 1
@[simp] def l_LenB64_3 (_ : Unit) : List EOp := [⟨0, (some 3), none, (.q (.mov (.t 0))), []⟩, ⟨1, (some 4), none, (.q (.bin .geq (.t 3) (.k (.int .u64 4294967296)))), []⟩]
@[simp] def b_LenB64_4 (_ : Unit) : EB := reg0 (hid l_LenB64_3) 2
@[simp] def l_LenB64_5 (_ : Unit) : List EOp := [⟨0, (some 5), none, (.q (.mov (.t 0))), []⟩, ⟨1, (some 6), none, (.q (.bin .shr (.t 5) (.k (.int .u64 32)))), []⟩, ⟨2, (some 0), none, (.q (.mov (.t 6))), []⟩]
@[simp] def b_LenB64_6 (_ : Unit) : EB := reg0 (hid l_LenB64_5) 3
@[simp] def l_LenB64_7 (_ : Unit) : List EOp := [⟨0, (some 2), none, (.q (.mov (.k (.int .i64 32)))), []⟩]
@[simp] def b_LenB64_8 (_ : Unit) : EB := reg0 (hid l_LenB64_7) 1
@[simp] def b_LenB64_9 (_ : Unit) : EB := .seq (hid b_LenB64_6) (hid b_LenB64_8)
@[simp] def b_LenB64_10 (_ : Unit) : EB := .cond (.t 4) (hid b_LenB64_9) .skip
@[simp] def b_LenB64_11 (_ : Unit) : EB := .seq (hid b_LenB64_4) (hid b_LenB64_10)
@[simp] def l_LenB64_12 (_ : Unit) : List EOp := [⟨0, (some 7), none, (.q (.mov (.t 0))), []⟩, ⟨1, (some 8), none, (.q (.bin .geq (.t 7) (.k (.int .u64 65536)))), []⟩]
@[simp] def b_LenB64_13 (_ : Unit) : EB := reg0 (hid l_LenB64_12) 2
@[simp] def l_LenB64_14 (_ : Unit) : List EOp := [⟨0, (some 9), none, (.q (.mov (.t 0))), []⟩, ⟨1, (some 10), none, (.q (.bin .shr (.t 9) (.k (.int .u64 16)))), []⟩, ⟨2, (some 0), none, (.q (.mov (.t 10))), []⟩]
@[simp] def b_LenB64_15 (_ : Unit) : EB := reg0 (hid l_LenB64_14) 3
@[simp] def l_LenB64_16 (_ : Unit) : List EOp := [⟨0, (some 11), none, (.q (.mov (.t 2))), []⟩, ⟨1, (some 12), none, (.q (.bin .add (.t 11) (.k (.int .i64 16)))), []⟩, ⟨2, (some 2), none, (.q (.mov (.t 12))), []⟩]
@[simp] def b_LenB64_17 (_ : Unit) : EB := reg0 (hid l_LenB64_16) 3
@[simp] def b_LenB64_18 (_ : Unit) : EB := .seq (hid b_LenB64_15) (hid b_LenB64_17)
@[simp] def b_LenB64_19 (_ : Unit) : EB := .cond (.t 8) (hid b_LenB64_18) .skip
@[simp] def b_LenB64_20 (_ : Unit) : EB := .seq (hid b_LenB64_13) (hid b_LenB64_19)
@[simp] def l_LenB64_21 (_ : Unit) : List EOp := [⟨0, (some 13), none, (.q (.mov (.t 0))), []⟩, ⟨1, (some 14), none, (.q (.bin .geq (.t 13) (.k (.int .u64 256)))), []⟩]
@[simp] def b_LenB64_22 (_ : Unit) : EB := reg0 (hid l_LenB64_21) 2
@[simp] def l_LenB64_23 (_ : Unit) : List EOp := [⟨0, (some 15), none, (.q (.mov (.t 0))), []⟩, ⟨1, (some 16), none, (.q (.bin .shr (.t 15) (.k (.int .u64 8)))), []⟩, ⟨2, (some 0), none, (.q (.mov (.t 16))), []⟩]
@[simp] def b_LenB64_24 (_ : Unit) : EB := reg0 (hid l_LenB64_23) 3
@[simp] def l_LenB64_25 (_ : Unit) : List EOp := [⟨0, (some 17), none, (.q (.mov (.t 2))), []⟩, ⟨1, (some 18), none, (.q (.bin .add (.t 17) (.k (.int .i64 8)))), []⟩, ⟨2, (some 2), none, (.q (.mov (.t 18))), []⟩]
@[simp] def b_LenB64_26 (_ : Unit) : EB := reg0 (hid l_LenB64_25) 3
@[simp] def b_LenB64_27 (_ : Unit) : EB := .seq (hid b_LenB64_24) (hid b_LenB64_26)
@[simp] def b_LenB64_28 (_ : Unit) : EB := .cond (.t 14) (hid b_LenB64_27) .skip
@[simp] def b_LenB64_29 (_ : Unit) : EB := .seq (hid b_LenB64_22) (hid b_LenB64_28)
@[simp] def l_LenB64_31 (_ : Unit) : List EOp := [⟨6, (some 2), none, (.q (.mov (.t 24))), []⟩]
@[simp] def l_LenB64_30 (_ : Unit) : List EOp := ⟨0, (some 19), none, (.q (.mov (.t 2))), []⟩ :: ⟨1, (some 20), none, (.q (.mov (.t 0))), []⟩ :: ⟨2, (some 21), none, (.q (.cnv .u8 (.t 20))), []⟩ :: ⟨3, (some 22), none, (.q (.ixs (.k (.string s_LenB64_0)) (.t 21))), []⟩ :: ⟨4, (some 23), none, (.q (.cnv .i64 (.t 22))), []⟩ :: ⟨5, (some 24), none, (.q (.bin .add (.t 19) (.t 23))), []⟩ :: hid l_LenB64_31
@[simp] def b_LenB64_32 (_ : Unit) : EB := reg0 (hid l_LenB64_30) 7
@[simp] def b_LenB64_33 (_ : Unit) : EB := .seq (hid b_LenB64_32) .ret
@[simp] def b_LenB64_34 (_ : Unit) : EB := .seq (hid b_LenB64_29) (hid b_LenB64_33)
@[simp] def b_LenB64_35 (_ : Unit) : EB := .seq (hid b_LenB64_20) (hid b_LenB64_34)
@[simp] def b_LenB64_36 (_ : Unit) : EB := .seq (hid b_LenB64_11) (hid b_LenB64_35)
@[simp] def b_LenB64_37 (_ : Unit) : EB := .seq (hid b_LenB64_2) (hid b_LenB64_36)
def c_LenB64 : EB × List QOp × Nat := ((hid b_LenB64_37), [(.mov (.t 2))], 25)
theorem k_LenB64 : cfun Tryz.prog 189 = some c_LenB64 := by kernel_rfl

@[simp] def l_SortI_1 (_ : Unit) : List EOp := [⟨0, (some 3), none, (.q (.mov (.t 0))), []⟩, ⟨1, (some 4), none, (.q (.len (.t 3))), []⟩, ⟨2, (some 2), none, (.q (.mov (.t 4))), []⟩]
@[simp] def b_SortI_2 (_ : Unit) : EB := reg0 (hid l_SortI_1) 3
@[simp] def l_SortI_3 (_ : Unit) : List EOp := [⟨0, (some 5), none, (.q (.mov (.t 0))), []⟩, ⟨1, (some 6), none, (.q (.mov (.t 2))), []⟩, ⟨2, (some 7), none, (.q (.mov (.t 2))), []⟩, ⟨3, (some 8), none, (.q (.cnv .u64 (.t 7))), []⟩, ⟨4, (some 9), none, (.call 143 [(.t 8)]), []⟩, ⟨5, (some 10), none, (.call 142 [(.t 5), (.k (.int .i64 0)), (.t 6), (.t 9)]), []⟩]
@[simp] def b_SortI_4 (_ : Unit) : EB := reg0 (hid l_SortI_3) 6
@[simp] def b_SortI_5 (_ : Unit) : EB := .seq (hid b_SortI_2) (hid b_SortI_4)
def c_SortI : EB × List QOp × Nat := ((hid b_SortI_5), [], 11)
theorem k_SortI : cfun Tryz.prog 77 = some c_SortI := by kernel_rfl


/-! ### three numbers, sorted -/
theorem LessI_ok (a b : Int) : ECalls Tryz.prog 144 [I .i64 a, I .i64 b] [] fun y H' => H' = [] ∧ y = .lit (.bool (decide (a < b))) := by
  refine ecalls k_LessI ?_
  simp [c_LessI, I]
  refine call0 (NaNI_ok a) (by simp [I]) ?_
  rintro y H' ⟨rfl, rfl⟩
  refine ⟨.inl (by simp), le_ok rfl, ?_⟩
  simp
  exact fin [] (by decide) rfl rfl rfl ⟨rfl, rfl⟩
def swS (l : List Int) (j : Nat) : List Int := (l.set (j + 1) ((l[j]?).getD 0)).set j ((l[j + 1]?).getD 0)
theorem swS_len (l : List Int) (j : Nat) : (swS l j).length = l.length := by simp [swS]
/-- A number let sink to its place. -/
def sinkS : Nat → List Int → List Int
  | 0, l => l
  | j + 1, l => if (l[j + 1]?).getD 0 < (l[j]?).getD 0 then sinkS j (swS l j) else l
theorem sinkS_len : ∀ (j : Nat) (l : List Int), (sinkS j l).length = l.length
  | 0, _ => rfl
  | j + 1, l => by
    unfold sinkS
    split
    · rw [sinkS_len j, swS_len]
    · rfl
def restS : Nat → List Int → List Int
  | 1, l => sinkS 2 (sinkS 1 l)
  | 2, l => sinkS 2 l
  | _, l => l
/-- Three numbers by their order. -/
def srt (l : List Int) : List Int := restS 1 l
theorem srt_len (l : List Int) : (srt l).length = l.length := by show (sinkS 2 (sinkS 1 l)).length = l.length; rw [sinkS_len, sinkS_len]
def inF (n : Int) : List FV := [.lit (.int .i64 n)]
theorem intv_at {l : List Int} {i : Nat} (h : i < l.length) (h2 : i < (intv l).length) : (intv l)[i]'h2 = [.lit (.int .i64 ((l[i]?).getD 0))] := by
  simp [intv, h]
theorem intv_set (l : List Int) (i : Nat) (x : Int) : (intv l).set i [.lit (.int .i64 x)] = intv (l.set i x) := by simp [intv, List.map_set]

set_option maxHeartbeats 4000000 in
theorem InsI_ok (l : List Int) (h3 : l.length = 3) : ECalls Tryz.prog 180 [.v (.c (.row 0 3)), I .i64 0, I .i64 3] [.row 3 1 (intv l)] fun y H' => H' = [some (.row 3 1 (intv (srt l)))] ∧ y = .tup [] := by
  obtain ⟨F, hF⟩ : ∃ F, srt l = F := ⟨_, rfl⟩
  rw [hF]
  have w0 : IntKind.i64.wrap 1 = 1 := by decide +kernel
  refine ecalls k_InsI ?_
  simp [c_InsI, I, w0]
  refine eloop (α := Nat × List Int) (fun a => 1 ≤ a.1 ∧ a.1 ≤ 3 ∧ a.2.length = 3 ∧ restS a.1 a.2 = F) (fun a => 3 - a.1)
    (fun a => [.v (.c (.row 0 3)), I .i64 0, I .i64 3, .any, .any, .any, I .i64 a.1, .any, .any, .any, .any, .any, .any, .any, .any, .any, .any, .any, .any, .any, .any, .any, .any, .any, .any, .any, .any, .any, .any, .any, .any, .any, .any, .any, .any, .any, .any, .any, .any, .any, .any, .any, .any, .any, .any, .any, .any, .any, .any]) (fun a => [some (.row 3 1 (intv a.2))]) (1, l) [0]
    ⟨by simp, by simp, h3, hF⟩ (by simp [I]) (by simp) (by simp) (by simp) (by simp) ?_
  rintro ⟨i, m⟩ ⟨hi1, hi3, hm, hr⟩
  dsimp only at hi1 hi3 hm hr
  by_cases hlt : i < 3
  · have hli : (i : Int) < 3 := by omega
    have w1 : IntKind.i64.wrap ((i : Int) + 1) = ((i + 1 : Nat) : Int) := wrap_i64 (by omega) (by omega)
    have hnext : restS (i + 1) (sinkS i m) = F := by
      rw [← hr]
      rcases (by omega : i = 1 ∨ i = 2) with rfl | rfl
      · rfl
      · rfl
    obtain ⟨G, hG⟩ : ∃ G, sinkS i m = G := ⟨_, rfl⟩
    have hGl : G.length = 3 := by rw [← hG, sinkS_len]; exact hm
    rw [hG] at hnext
    simp [I, hli, hlt]
    refine eloop (α := Nat × List Int) (fun a => a.1 ≤ i ∧ a.2.length = 3 ∧ sinkS a.1 a.2 = G) (fun a => a.1)
      (fun a => [.v (.c (.row 0 3)), I .i64 0, I .i64 3, .any, .any, .any, I .i64 i, I .i64 a.1, .any, .any, .any, .any, .any, .any, .any, .any, .any, .any, .any, .any, .any, .any, .any, .any, .any, .any, .any, .any, .any, .any, .any, .any, .any, .any, .any, .any, .any, .any, .any, .any, .any, .any, .any, .any, .any, .any, .any, .any, .any]) (fun a => [some (.row 3 1 (intv a.2))]) (i, m) [0]
      ⟨Nat.le_refl _, hm, hG⟩ (by simp [I]) (by simp) (by simp) (by simp) (by simp) ?_
    rintro ⟨j, k⟩ ⟨hj, hk, hs⟩
    dsimp only at hj hk hs
    rcases Nat.eq_zero_or_pos j with hj0 | hj0
    · subst hj0
      have hkG : k = G := hs
      subst hkG
      simp [I, w1, -Int.natCast_add]
      exact round (i + 1, k) [0] ⟨by dsimp only; omega, by dsimp only; omega, hk, hnext⟩ (by dsimp only; omega) (by simp [I]) (by simp) (by simp) (by simp) (by simp)
    · obtain ⟨p, rfl⟩ : ∃ p, j = p + 1 := ⟨j - 1, by omega⟩
      have hjp : (0 : Int) < ((p + 1 : Nat) : Int) := by omega
      have wj : IntKind.i64.wrap (((p + 1 : Nat) : Int) - 1) = (p : Int) := by rw [wrap_i64 (by omega) (by omega)]; omega
      obtain ⟨j, hje⟩ : ∃ j, p + 1 = j := ⟨_, rfl⟩
      have hp3 : p < 3 := by omega
      have hj3 : j < 3 := by omega
      obtain ⟨A, hA⟩ : ∃ A, (k[p]?).getD 0 = A := ⟨_, rfl⟩
      obtain ⟨B, hB⟩ : ∃ B, (k[j]?).getD 0 = B := ⟨_, rfl⟩
      have ga : ∀ h2, (intv k)[p]'h2 = [.lit (.int .i64 A)] := fun h2 => by rw [intv_at (by omega), hA]
      have gb : ∀ h2, (intv k)[j]'h2 = [.lit (.int .i64 B)] := fun h2 => by rw [intv_at (by omega), hB]
      have hs' : (if B < A then sinkS p (swS k p) else k) = G := by
        rw [← hs, ← hB, ← hA, ← hje]
        rfl
      rw [hje] at hjp wj
      have ip : (p : Int) < 3 := by omega
      have ij : (j : Int) < 3 := by omega
      have n0 : ¬ ((j : Int) < 0) := by omega
      have n1 : ¬ ((p : Int) < 0) := by omega
      rw [hje]
      have hjn : 0 < j := by omega
      simp [I, hjp, hjn, wj, ga, gb, hk, hp3, hj3, ip, ij, n0, n1]
      refine call0 (LessI_ok B A) (by simp [I]) ?_
      rintro y H' ⟨rfl, rfl⟩
      refine ⟨.inl (by simp), le_ok rfl, ?_⟩
      have hsw : (k.set j A).set p B = swS k p := by unfold swS; rw [hje, hA, hB]
      by_cases hBA : B < A
      · rw [if_pos hBA] at hs'
        rw [decide_eq_true hBA]
        have gp : ∀ h2, (intv (k.set j A))[p]'h2 = [.lit (.int .i64 (((k.set j A)[p]?).getD 0))] := fun h2 => intv_at (by simp; omega) h2
        simp [I, wj, ga, gb, gp, hk, hp3, hj3, ip, ij, n0, n1, intv_set, hsw]
        exact round (p, swS k p) [0] ⟨by dsimp only; omega, by rw [swS_len]; exact hk, hs'⟩ (by dsimp only; omega) (by simp [I]) (by simp) (by simp) (by simp) (by simp)
      · rw [if_neg hBA] at hs'
        subst hs'
        rw [decide_eq_false hBA]
        simp [I, w1, -Int.natCast_add]
        exact round (i + 1, k) [0] ⟨by dsimp only; omega, by dsimp only; omega, hk, hnext⟩ (by dsimp only; omega) (by simp [I]) (by simp) (by simp) (by simp) (by simp)
  · have h3' : i = 3 := by omega
    subst h3'
    have hmF : m = F := hr
    subst hmF
    simp [I]
    exact fin [] (by decide) rfl rfl (by simp [objsOut, show List.range 1 = [0] from rfl]) ⟨rfl, rfl⟩

theorem LenB64_ok : ECalls Tryz.prog 189 [.lit (.int .u64 3)] [] fun y H' => H' = [] ∧ y = I .i64 2 := by
  refine ecalls k_LenB64 ?_
  have w1 : IntKind.u8.wrap 3 = 3 := by decide +kernel
  have w2 : IntKind.i64.wrap 2 = 2 := by decide +kernel
  have hs : s_LenB64_0.data[3]? = some 2 := by decide +kernel
  simp [c_LenB64, I, w1, hs, w2]
  exact fin [] (by decide) rfl rfl rfl ⟨rfl, rfl⟩
theorem LenB_ok : ECalls Tryz.prog 143 [.lit (.int .u64 3)] [] fun y H' => H' = [] ∧ y = I .i64 2 := by
  refine ecalls k_LenB ?_
  simp [c_LenB, I]
  refine call0 LenB64_ok (by simp) ?_
  rintro y H' ⟨rfl, rfl⟩
  refine ⟨.inl (by simp [I]), le_ok rfl, ?_⟩
  simp [I]
  exact fin [] (by decide) rfl rfl rfl ⟨rfl, rfl⟩
theorem PdqI_ok (l : List Int) (k : Int) (h3 : l.length = 3) : ECalls Tryz.prog 142 [.v (.c (.row 0 3)), I .i64 0, I .i64 3, I .i64 k] [.row 3 1 (intv l)] fun y H' => H' = [some (.row 3 1 (intv (srt l)))] ∧ y = .tup [] := by
  have w0 : IntKind.i64.wrap 3 = 3 := by decide +kernel
  refine ecalls k_PdqI ?_
  simp [c_PdqI, I]
  refine eloop (α := Nat) (fun i => i = 0) (fun i => i) (fun i => [.v (.c (.row 0 3)), I .i64 0, I .i64 3, I .i64 k, .any, .any, .any, .any, .lit (.bool true), .lit (.bool true), .any, .any, .any, .any, .any, .any, .any, .any, .any, .any, .any, .any, .any, .any, .any, .any, .any, .any, .any, .any, .any, .any, .any, .any, .any, .any, .any, .any, .any, .any, .any, .any, .any, .any, .any, .any, .any, .any, .any, .any, .any, .any, .any, .any, .any, .any, .any, .any, .any, .any, .any, .any, .any, .any, .any, .any, .any, .any, .any, .any, .any, .any, .any, .any, .any, .any, .any, .any, .any, .any, .any, .any, .any, .any, .any, .any, .any, .any, .any, .any, .any, .any, .any, .any, .any, .any, .any, .any, .any, .any, .any, .any, .any, .any, .any, .any, .any, .any, .any, .any, .any, .any, .any, .any, .any, .any, .any, .any, .any, .any, .any, .any, .any, .any, .any, .any, .any, .any, .any, .any, .any, .any, .any, .any]) (fun _ => [some (.row 3 1 (intv l))]) 0 [0]
    rfl (by simp [I]) (by simp) (by simp) (by simp) (by simp) ?_
  rintro i rfl
  simp [I, w0]
  refine callH [0] (InsI_ok l h3) (by simp [I]) (by simp) (by simp) (by simp) (by simp) ?_
  rintro y H' ⟨rfl, rfl⟩
  refine ⟨.inl (by simp), by simp, ?_⟩
  simp
  exact fin [] (by decide) rfl rfl (by simp [objsOut, show List.range 1 = [0] from rfl]) ⟨rfl, rfl⟩
theorem SortI_ok (l : List Int) (h3 : l.length = 3) : ECalls Tryz.prog 77 [.v (.c (.row 0 3))] [.row 3 1 (intv l)] fun y H' => H' = [some (.row 3 1 (intv (srt l)))] ∧ y = .tup [] := by
  have w0 : IntKind.u64.wrap 3 = 3 := by decide +kernel
  refine ecalls k_SortI ?_
  simp [c_SortI, I, w0]
  refine call0 LenB_ok (by simp) ?_
  rintro y H' ⟨rfl, rfl⟩
  refine ⟨.inl (by simp [I]), le_ok rfl, ?_⟩
  simp [I]
  refine callH [0] (PdqI_ok l 2 h3) (by simp [I]) (by simp) (by simp) (by simp) (by simp) ?_
  rintro y H' ⟨rfl, rfl⟩
  refine ⟨.inl (by simp), by simp, ?_⟩
  simp
  exact fin [] (by decide) rfl rfl (by simp [objsOut, show List.range 1 = [0] from rfl]) ⟨rfl, rfl⟩

end Go.Proofs.YtejjhgdnmknejaaGreatDoor

namespace Go.Proofs.YtejjhgdnmknejaaGreatDoor
open Go Go.EW
set_option linter.unusedSimpArgs false
set_option linter.unusedVariables false

@[simp] def l_Vparty_1 (_ : Unit) : List EOp := [⟨0, (some 2), none, (.q (.mov (.k (.bool false)))), []⟩]
@[simp] def b_Vparty_2 (_ : Unit) : EB := reg0 (hid l_Vparty_1) 1
@[simp] def l_Vparty_4 (_ : Unit) : List EOp := [⟨6, (some 2), none, (.q (.mov (.t 8))), []⟩]
@[simp] def l_Vparty_3 (_ : Unit) : List EOp := ⟨0, (some 3), none, (.q (.mov (.t 0))), []⟩ :: ⟨1, (some 4), none, (.q (.bin .geq (.t 3) (.k (.int .i64 0)))), []⟩ :: ⟨2, (some 5), none, (.q (.mov (.t 4))), []⟩ :: ⟨3, (some 6), (some (5, true)), (.q (.mov (.t 0))), []⟩ :: ⟨4, (some 7), (some (5, true)), (.q (.bin .lss (.t 6) (.k (.int .i64 16)))), []⟩ :: ⟨5, (some 8), none, (.q (.pick (.t 5) (.t 7) (.k (.bool false)))), []⟩ :: hid l_Vparty_4
@[simp] def b_Vparty_5 (_ : Unit) : EB := reg0 (hid l_Vparty_3) 7
@[simp] def b_Vparty_6 (_ : Unit) : EB := .seq (hid b_Vparty_5) .ret
@[simp] def b_Vparty_7 (_ : Unit) : EB := .seq (hid b_Vparty_2) (hid b_Vparty_6)
def c_Vparty : EB × List QOp × Nat := ((hid b_Vparty_7), [(.mov (.t 2))], 9)
theorem k_Vparty : cfun Tryz.prog 49 = some c_Vparty := by kernel_rfl

@[simp] def l_Vof_1 (_ : Unit) : List EOp := [⟨0, (some 3), none, (.q (.box 42 (.t 0))), []⟩, ⟨1, (some 6), none, (.q (.mov (.k (.bool false)))), []⟩]
@[simp] def b_Vof_2 (_ : Unit) : EB := reg0 (hid l_Vof_1) 2
@[simp] def l_Vof_5 (_ : Unit) : List EOp := [⟨12, (some 19), (some (13, false)), (.q (.eqa false 2 .i64 (.t 15) (.t 18))), []⟩, ⟨13, (some 20), none, (.q (.pick (.t 13) (.k (.bool true)) (.t 19))), []⟩, ⟨14, (some 6), none, (.q (.mov (.t 20))), []⟩]
@[simp] def l_Vof_4 (_ : Unit) : List EOp := ⟨6, (some 13), none, (.q (.mov (.t 12))), []⟩ :: ⟨7, (some 14), (some (13, false)), (.q (.fad 34 (.t 3))), []⟩ :: ⟨8, (some 15), (some (13, false)), (.q (.lda 2 (.t 14))), []⟩ :: ⟨9, (some 16), (some (13, false)), (.q (.mov (.t 2))), []⟩ :: ⟨10, (some 17), (some (13, false)), (.q (.mov (.t 1))), []⟩ :: ⟨11, (some 18), (some (13, false)), (.q (.build [(.int .i64 0), (.int .i64 0)] [(0, 1, (.t 16)), (1, 1, (.t 17))])), []⟩ :: hid l_Vof_5
@[simp] def l_Vof_3 (_ : Unit) : List EOp := ⟨0, (some 7), none, (.q (.fad 34 (.t 3))), []⟩ :: ⟨1, (some 8), none, (.q (.lda 2 (.t 7))), []⟩ :: ⟨2, (some 9), none, (.q (.mov (.t 1))), []⟩ :: ⟨3, (some 10), none, (.q (.mov (.t 2))), []⟩ :: ⟨4, (some 11), none, (.q (.build [(.int .i64 0), (.int .i64 0)] [(0, 1, (.t 9)), (1, 1, (.t 10))])), []⟩ :: ⟨5, (some 12), none, (.q (.eqa false 2 .i64 (.t 8) (.t 11))), []⟩ :: hid l_Vof_4
@[simp] def b_Vof_6 (_ : Unit) : EB := reg0 (hid l_Vof_3) 15
@[simp] def b_Vof_7 (_ : Unit) : EB := .seq (hid b_Vof_6) .ret
@[simp] def b_Vof_8 (_ : Unit) : EB := .seq (hid b_Vof_2) (hid b_Vof_7)
def c_Vof : EB × List QOp × Nat := ((hid b_Vof_8), [(.mov (.t 6))], 21)
theorem k_Vof : cfun Tryz.prog 50 = some c_Vof := by kernel_rfl


/-! ### routes -/
structure Prm where
  tx : List UInt8
  n : Int
  am : Int
  k0 : Int
  k1 : Int
  dl : Int
  fe : Int
structure Rte where
  f : Prm
  s : Prm
  a : Int
  b : Int
  c : Int
  am : Int
  fe : Int
def iC (n : Int) : EC := .fz (.lit (.int .i64 n))
def prmC (p : Prm) : List EC := hc p.tx ++ [iC p.n, iC p.am, iC p.k0, iC p.k1, iC p.dl, iC p.fe]
def rteC (r : Rte) : List EC := prmC r.f ++ (prmC r.s ++ [iC r.a, iC r.b, iC r.c, iC r.am, iC r.fe])
def PVv (p : Prm) : EV := .v (.agg (prmC p))
def RVv (r : Rte) : EV := .v (.agg (rteC r))
def Prm.ok (p : Prm) : Prop := p.tx.length = 32 ∧ i64 p.n ∧ i64 p.am ∧ i64 p.k0 ∧ i64 p.k1 ∧ i64 p.dl ∧ i64 p.fe
def Rte.ok (r : Rte) : Prop := r.f.ok ∧ r.s.ok ∧ i64 r.a ∧ i64 r.b ∧ i64 r.c ∧ i64 r.am ∧ i64 r.fe
section
variable {p : Prm} (h : p.tx.length = 32)
include h
theorem prmC_len : (prmC p).length = 38 := by simp [prmC, hc_len, h]
theorem pm_take : (prmC p).take 38 = prmC p := List.take_of_length_le (by rw [prmC_len h]; omega)
theorem pm_d34 : ((prmC p).drop 34).take 2 = [iC p.k0, iC p.k1] := by
  have e : (hc p.tx).length = 32 := by rw [hc_len, h]
  unfold prmC
  rw [List.drop_append, List.drop_of_length_le (by omega), e]
  rfl
theorem pm_34 : (prmC p)[34]? = some (iC p.k0) := by
  have e : (hc p.tx).length = 32 := by rw [hc_len, h]
  unfold prmC
  rw [List.getElem?_append_right (by omega), e]; rfl
theorem pm_35 : (prmC p)[35]? = some (iC p.k1) := by
  have e : (hc p.tx).length = 32 := by rw [hc_len, h]
  unfold prmC
  rw [List.getElem?_append_right (by omega), e]; rfl
end
theorem rt_t38 {r : Rte} (hf : r.f.tx.length = 32) : (rteC r).take 38 = prmC r.f := by unfold rteC; rw [← prmC_len hf, List.take_left]
theorem rt_d38 {r : Rte} (hf : r.f.tx.length = 32) : (rteC r).drop 38 = prmC r.s ++ [iC r.a, iC r.b, iC r.c, iC r.am, iC r.fe] := by unfold rteC; rw [← prmC_len hf, List.drop_left]
theorem rt_k1 {r : Rte} (hf : r.f.tx.length = 32) : ((rteC r).drop 34).take 2 = [iC r.f.k0, iC r.f.k1] := by
  unfold rteC
  rw [List.drop_append_of_le_length (by rw [prmC_len hf]; omega), List.take_append_of_le_length (by rw [List.length_drop, prmC_len hf]; omega), pm_d34 hf]
section
variable {r : Rte} (hf : r.f.tx.length = 32) (hs : r.s.tx.length = 32)
include hf hs
theorem rteC_len : (rteC r).length = 81 := by simp [rteC, prmC_len hf, prmC_len hs]
theorem rt_take : (rteC r).take 81 = rteC r := List.take_of_length_le (by rw [rteC_len hf hs]; omega)
theorem rt_s38 : ((rteC r).drop 38).take 38 = prmC r.s := by rw [rt_d38 hf, ← prmC_len hs, List.take_left]
theorem rt_d76 : (rteC r).drop 76 = [iC r.a, iC r.b, iC r.c, iC r.am, iC r.fe] := by
  rw [show 76 = 38 + 38 from rfl, ← List.drop_drop, rt_d38 hf, ← prmC_len hs, List.drop_left]
theorem rt_k2 : ((rteC r).drop 72).take 2 = [iC r.s.k0, iC r.s.k1] := by
  rw [show 72 = 38 + 34 from rfl, ← List.drop_drop, rt_d38 hf, List.drop_append_of_le_length (by rw [prmC_len hs]; omega), List.take_append_of_le_length (by rw [List.length_drop, prmC_len hs]; omega), pm_d34 hs]
theorem rt_at (i : Nat) : (rteC r)[76 + i]? = [iC r.a, iC r.b, iC r.c, iC r.am, iC r.fe][i]? := by
  rw [← List.getElem?_drop, rt_d76 hf hs]
theorem rt_76 : (rteC r)[76]? = some (iC r.a) := rt_at hf hs 0
theorem rt_77 : (rteC r)[77]? = some (iC r.b) := rt_at hf hs 1
theorem rt_78 : (rteC r)[78]? = some (iC r.c) := rt_at hf hs 2
theorem rt_79 : (rteC r)[79]? = some (iC r.am) := rt_at hf hs 3
theorem rt_80 : (rteC r)[80]? = some (iC r.fe) := rt_at hf hs 4
end
theorem conAll_mp (H : Nat → Option EO) (ids : List Nat) : ∀ l : List FV, conAll H ids (l.map EC.fz) = some (l.map EC.fz)
  | [] => rfl
  | a :: r => by simp only [List.map_cons, conAll, conC, conAll_mp H ids r]; rfl
theorem strAll_mp (ids : List Nat) : ∀ l : List FV, strAll ids (l.map EC.fz) = some (l.map EC.fz)
  | [] => rfl
  | a :: r => by simp only [List.map_cons, strAll, strC, strAll_mp ids r]; rfl
theorem frzAll_mp : ∀ l : List FV, frzAll (l.map EC.fz) = some l
  | [] => rfl
  | a :: r => by simp only [List.map_cons, frzAll, frz, frzAll_mp r]; rfl
theorem refs_mp : ∀ l : List FV, (l.map EC.fz).flatMap refsC = []
  | [] => rfl
  | a :: r => by simp only [List.map_cons, List.flatMap_cons, refs_mp r]; rfl
theorem fz_mp (ids : List Nat) : ∀ l : List FV, (l.map EC.fz).flatMap (fzC ids) = []
  | [] => rfl
  | a :: r => by simp only [List.map_cons, List.flatMap_cons, fz_mp ids r]; rfl
theorem ren_mp (g : Nat → Nat) : ∀ l : List FV, (l.map EC.fz).map (renC g) = l.map EC.fz
  | [] => rfl
  | a :: r => by simp only [List.map_cons, ren_mp g r]; rfl
def iF (n : Int) : FV := .lit (.int .i64 n)
def prmF (p : Prm) : List FV := hf p.tx ++ [iF p.n, iF p.am, iF p.k0, iF p.k1, iF p.dl, iF p.fe]
def rteF (r : Rte) : List FV := prmF r.f ++ (prmF r.s ++ [iF r.a, iF r.b, iF r.c, iF r.am, iF r.fe])
theorem prmF_fz (p : Prm) : (prmF p).map EC.fz = prmC p := by simp [prmF, prmC, iF, iC]
theorem rteF_fz (r : Rte) : (rteF r).map EC.fz = rteC r := by simp [rteF, rteC, prmF_fz, iF, iC]
@[simp] theorem conAll_prmC (H : Nat → Option EO) (ids : List Nat) (p : Prm) : conAll H ids (prmC p) = some (prmC p) := by rw [← prmF_fz]; exact conAll_mp H ids _
@[simp] theorem strAll_prmC (ids : List Nat) (p : Prm) : strAll ids (prmC p) = some (prmC p) := by rw [← prmF_fz]; exact strAll_mp ids _
@[simp] theorem frzAll_prmC (p : Prm) : frzAll (prmC p) = some (prmF p) := by rw [← prmF_fz]; exact frzAll_mp _
@[simp] theorem refs_prmC (p : Prm) : (prmC p).flatMap refsC = [] := by rw [← prmF_fz]; exact refs_mp _
@[simp] theorem fz_prmC (ids : List Nat) (p : Prm) : (prmC p).flatMap (fzC ids) = [] := by rw [← prmF_fz]; exact fz_mp ids _
@[simp] theorem ren_prmC (g : Nat → Nat) (p : Prm) : (prmC p).map (renC g) = prmC p := by rw [← prmF_fz]; exact ren_mp g _
@[simp] theorem conAll_rteC (H : Nat → Option EO) (ids : List Nat) (p : Rte) : conAll H ids (rteC p) = some (rteC p) := by rw [← rteF_fz]; exact conAll_mp H ids _
@[simp] theorem strAll_rteC (ids : List Nat) (p : Rte) : strAll ids (rteC p) = some (rteC p) := by rw [← rteF_fz]; exact strAll_mp ids _
@[simp] theorem frzAll_rteC (p : Rte) : frzAll (rteC p) = some (rteF p) := by rw [← rteF_fz]; exact frzAll_mp _
@[simp] theorem refs_rteC (p : Rte) : (rteC p).flatMap refsC = [] := by rw [← rteF_fz]; exact refs_mp _
@[simp] theorem fz_rteC (ids : List Nat) (p : Rte) : (rteC p).flatMap (fzC ids) = [] := by rw [← rteF_fz]; exact fz_mp ids _
@[simp] theorem ren_rteC (g : Nat → Nat) (p : Rte) : (rteC p).map (renC g) = rteC p := by rw [← rteF_fz]; exact ren_mp g _
theorem idx_of {l : List EC} {k : Nat} {c : EC} (e : l[k]? = some c) (h : k < l.length) : l[k]'h = c := by
  rw [List.getElem?_eq_getElem h] at e
  exact Option.some.inj e

theorem Vparty_ok (n : Int) : ECalls Tryz.prog 49 [I .i64 n] [] fun y H' => H' = [] ∧ y = .lit (.bool (decide (0 ≤ n ∧ n < 16))) := by
  refine ecalls k_Vparty ?_
  simp [c_Vparty, I]
  by_cases h : 0 ≤ n
  · simp [h]
    exact fin [] (by decide) rfl rfl rfl ⟨rfl, rfl⟩
  · simp [h]
    exact fin [] (by decide) rfl rfl rfl ⟨rfl, rfl⟩
def ofV (p : Prm) (a b : Int) : Bool := decide ((p.k0 = a ∧ p.k1 = b) ∨ (p.k0 = b ∧ p.k1 = a))

set_option maxHeartbeats 2000000 in
theorem Vof_ok (p : Prm) (a b : Int) (hp : p.tx.length = 32) : ECalls Tryz.prog 50 [PVv p, I .i64 a, I .i64 b] [] fun y H' => H' = [] ∧ y = .lit (.bool (ofV p a b)) := by
  have h1 := prmC_len hp
  have h2 := pm_take hp
  have h3 := pm_d34 hp
  refine ecalls k_Vof ?_
  simp [c_Vof, I, PVv, h1, h2, h3, iC]
  by_cases c1 : p.k0 = a ∧ p.k1 = b
  · have hv : ofV p a b = true := decide_eq_true (.inl c1)
    rw [hv]
    simp [c1.1, c1.2]
    exact fin [] (by decide) rfl rfl rfl ⟨rfl, rfl⟩
  · have c1' : ¬ p.k0 = a ∨ ¬ p.k1 = b := by omega
    have hv : ofV p a b = (decide (p.k0 = b) && decide (p.k1 = a)) := by
      unfold ofV
      by_cases c2 : p.k0 = b ∧ p.k1 = a
      · rw [decide_eq_true (.inr c2), decide_eq_true c2.1, decide_eq_true c2.2]; rfl
      · rw [decide_eq_false (by omega)]
        by_cases c3 : p.k0 = b
        · rw [decide_eq_true c3, decide_eq_false (fun h => c2 ⟨c3, h⟩)]; rfl
        · rw [decide_eq_false c3]; rfl
    rw [hv]
    simp [c1', h1, h2, h3, iC]
    refine alt (fun h => absurd h c1) (fun _ => ?_)
    simp
    exact fin [] (by decide) rfl rfl rfl ⟨rfl, by simp⟩

end Go.Proofs.YtejjhgdnmknejaaGreatDoor

namespace Go.Proofs.YtejjhgdnmknejaaGreatDoor
open Go Go.EW
set_option linter.unusedSimpArgs false
set_option linter.unusedVariables false

theorem opn_twoV : Opn BB Tryz.prog 26 (fun p : Int × Int => [FV.lit (.int .i64 p.1), .lit (.int .i64 p.2)]) (fun p => i64 p.1 ∧ i64 p.2) (fun _ => 1) :=
  (opn_array bok (e := 3) (es := 1) (n := 2) (by kernel_rfl) (by kernel_rfl) (by kernel_rfl) opn_i64).map (fun l => (l[0]?.getD 0, l[1]?.getD 0)) (by
    rintro l ⟨_, h⟩
    match l, h with
    | [a, b], _ => simp) (by
    rintro l ⟨h1, h⟩
    match l, h, h1 with
    | [a, b], _, h1 => exact ⟨h1 a (by simp), h1 b (by simp)⟩) (fun _ _ => by omega)
theorem opn_threeV : Opn BB Tryz.prog 29 (fun p : Int × Int × Int => [FV.lit (.int .i64 p.1), .lit (.int .i64 p.2.1), .lit (.int .i64 p.2.2)]) (fun p => i64 p.1 ∧ i64 p.2.1 ∧ i64 p.2.2) (fun _ => 1) :=
  (opn_array bok (e := 3) (es := 1) (n := 3) (by kernel_rfl) (by kernel_rfl) (by kernel_rfl) opn_i64).map (fun l => (l[0]?.getD 0, l[1]?.getD 0, l[2]?.getD 0)) (by
    rintro l ⟨_, h⟩
    match l, h with
    | [a, b, c], _ => simp) (by
    rintro l ⟨h1, h⟩
    match l, h, h1 with
    | [a, b, c], _, h1 => exact ⟨h1 a (by simp), h1 b (by simp), h1 c (by simp)⟩) (fun _ _ => by omega)
theorem opn_outV : Opn BB Tryz.prog 25 (fun p : List UInt8 × Int => hf p.1 ++ [FV.lit (.int .i64 p.2)]) (fun p => p.1.length = 32 ∧ i64 p.2) (fun _ => 1) :=
  (opn_struct (tot := 33) bok Tryz.underlying25 (by kernel_rfl)
    (opnFs_cons bok (n := 32) (tot := 1) opn_hash rfl (by kernel_rfl) (opnFs_cons bok (n := 1) (tot := 0) opn_i64 rfl (by kernel_rfl) opnFs_nil))).map
    (fun p => (p.1, p.2.1)) (by rintro ⟨a, b, u⟩ _; simp) (by rintro ⟨a, b, u⟩ h; exact ⟨h.1, h.2.1⟩) (by rintro ⟨a, b, u⟩ _; simp)
theorem opn_prm : Opn BB Tryz.prog 28 prmF Prm.ok (fun _ => 1) :=
  (opn_struct (tot := 38) bok Tryz.underlying28 (by kernel_rfl)
    (opnFs_cons bok (n := 33) (tot := 5) opn_outV rfl (by kernel_rfl) (opnFs_cons bok (n := 1) (tot := 4) opn_i64 rfl (by kernel_rfl)
      (opnFs_cons bok (n := 2) (tot := 2) opn_twoV rfl (by kernel_rfl) (opnFs_cons bok (n := 1) (tot := 1) opn_i64 rfl (by kernel_rfl)
      (opnFs_cons bok (n := 1) (tot := 0) opn_i64 rfl (by kernel_rfl) opnFs_nil)))))).map
    (fun p => (⟨p.1.1, p.1.2, p.2.1, p.2.2.1.1, p.2.2.1.2, p.2.2.2.1, p.2.2.2.2.1⟩ : Prm)) (by rintro ⟨⟨a, a'⟩, b, ⟨c, c'⟩, d, e, u⟩ _; simp [prmF, iF]) (by rintro ⟨⟨a, a'⟩, b, ⟨c, c'⟩, d, e, u⟩ h; exact ⟨h.1.1, h.1.2, h.2.1, h.2.2.1.1, h.2.2.1.2, h.2.2.2.1, h.2.2.2.2.1⟩) (by rintro ⟨⟨a, a'⟩, b, ⟨c, c'⟩, d, e, u⟩ _; simp)
theorem opn_rte : Opn BB Tryz.prog 31 rteF Rte.ok (fun _ => 1) :=
  (opn_struct (tot := 81) bok Tryz.underlying31 (by kernel_rfl)
    (opnFs_cons bok (n := 38) (tot := 43) opn_prm rfl (by kernel_rfl) (opnFs_cons bok (n := 38) (tot := 5) opn_prm rfl (by kernel_rfl)
      (opnFs_cons bok (n := 3) (tot := 2) opn_threeV rfl (by kernel_rfl) (opnFs_cons bok (n := 1) (tot := 1) opn_i64 rfl (by kernel_rfl)
      (opnFs_cons bok (n := 1) (tot := 0) opn_i64 rfl (by kernel_rfl) opnFs_nil)))))).map
    (fun p => (⟨p.1, p.2.1, p.2.2.1.1, p.2.2.1.2.1, p.2.2.1.2.2, p.2.2.2.1, p.2.2.2.2.1⟩ : Rte)) (by rintro ⟨a, b, ⟨c, c', c''⟩, d, e, u⟩ _; simp [rteF, iF]) (by rintro ⟨a, b, ⟨c, c', c''⟩, d, e, u⟩ h; exact ⟨h.1, h.2.1, h.2.2.1.1, h.2.2.1.2.1, h.2.2.1.2.2, h.2.2.2.1, h.2.2.2.2.1⟩) (by rintro ⟨a, b, ⟨c, c', c''⟩, d, e, u⟩ _; simp)
def zRteV : Value := .agg (Array.replicate 32 (.int .u8 0) ++ #[.int .i64 0, .int .i64 0, .int .i64 0, .int .i64 0, .int .i64 0, .int .i64 0] ++ Array.replicate 32 (.int .u8 0) ++ #[.int .i64 0, .int .i64 0, .int .i64 0, .int .i64 0, .int .i64 0, .int .i64 0, .int .i64 0, .int .i64 0, .int .i64 0, .int .i64 0, .int .i64 0])
def zPrmD {H : Type} : DataW H := .agg [.agg [.agg (List.replicate 32 (.lit (.int .u8 0))), .lit (.int .i64 0)], .lit (.int .i64 0), .agg [.lit (.int .i64 0), .lit (.int .i64 0)], .lit (.int .i64 0), .lit (.int .i64 0)]

end Go.Proofs.YtejjhgdnmknejaaGreatDoor

namespace Go.Proofs.YtejjhgdnmknejaaGreatDoor
open Go Go.EW
set_option linter.unusedSimpArgs false
set_option linter.unusedVariables false

theorem opn_Two : Opn BB Tryz.prog 37 (fun p : Sta × Sta × Int => staF p.1 ++ (staF p.2.1 ++ [FV.lit (.int .i64 p.2.2)])) (fun p => p.1.ok0 ∧ p.2.1.ok0 ∧ i64 p.2.2) (fun p => staB p.1 + staB p.2.1 + 1) :=
  (opn_struct (tot := 11) bok Tryz.underlying37 (by kernel_rfl)
    (opnFs_cons bok (n := 5) (tot := 6) opn_sta rfl (by kernel_rfl) (opnFs_cons bok (n := 5) (tot := 1) opn_sta rfl (by kernel_rfl)
      (opnFs_cons bok (n := 1) (tot := 0) opn_i64 rfl (by kernel_rfl) opnFs_nil)))).map
    (fun p => (p.1, p.2.1, p.2.2.1)) (by rintro ⟨a, b, c, u⟩ _; simp) (by rintro ⟨a, b, c, u⟩ h; exact ⟨h.1, h.2.1, h.2.2.1⟩) (by rintro ⟨a, b, c, u⟩ _; simp; try omega)

end Go.Proofs.YtejjhgdnmknejaaGreatDoor

namespace Go.Proofs.YtejjhgdnmknejaaGreatDoor
open Go Go.EW
set_option linter.unusedSimpArgs false
set_option linter.unusedVariables false

@[simp] def l_VCheck_1 (_ : Unit) : List EOp := [⟨0, (some 1), none, (.q (.box 44 (.t 0))), []⟩, ⟨1, (some 2), none, (.q (.mov (.k .nilIface))), []⟩]
@[simp] def b_VCheck_2 (_ : Unit) : EB := reg0 (hid l_VCheck_1) 2
@[simp] def l_VCheck_4 (_ : Unit) : List EOp := [⟨6, (some 12), none, (.q (.fad 76 (.t 1))), []⟩, ⟨7, (some 13), none, (.q (.iad 3 1 (.t 12) (.k (.int .i64 2)))), []⟩, ⟨8, (some 14), none, (.q (.ldc (.t 13))), []⟩, ⟨9, (some 3), none, (.q (.mov (.t 8))), []⟩, ⟨10, (some 4), none, (.q (.mov (.t 11))), []⟩, ⟨11, (some 5), none, (.q (.mov (.t 14))), []⟩]
@[simp] def l_VCheck_3 (_ : Unit) : List EOp := ⟨0, (some 6), none, (.q (.fad 76 (.t 1))), []⟩ :: ⟨1, (some 7), none, (.q (.iad 3 1 (.t 6) (.k (.int .i64 0)))), []⟩ :: ⟨2, (some 8), none, (.q (.ldc (.t 7))), []⟩ :: ⟨3, (some 9), none, (.q (.fad 76 (.t 1))), []⟩ :: ⟨4, (some 10), none, (.q (.iad 3 1 (.t 9) (.k (.int .i64 1)))), []⟩ :: ⟨5, (some 11), none, (.q (.ldc (.t 10))), []⟩ :: hid l_VCheck_4
@[simp] def b_VCheck_5 (_ : Unit) : EB := reg0 (hid l_VCheck_3) 12
@[simp] def l_VCheck_13 (_ : Unit) : List EOp := [⟨42, (some 58), (some (52, false)), (.q (.un .not (.t 57))), []⟩, ⟨43, (some 59), none, (.q (.pick (.t 52) (.k (.bool true)) (.t 58))), []⟩, ⟨44, (some 15), none, (.q (.mov (.t 59))), []⟩]
@[simp] def l_VCheck_12 (_ : Unit) : List EOp := ⟨36, (some 52), none, (.q (.mov (.t 51))), []⟩ :: ⟨37, (some 53), (some (52, false)), (.q (.fad 38 (.t 1))), []⟩ :: ⟨38, (some 54), (some (52, false)), (.q (.lda 38 (.t 53))), []⟩ :: ⟨39, (some 55), (some (52, false)), (.q (.mov (.t 4))), []⟩ :: ⟨40, (some 56), (some (52, false)), (.q (.mov (.t 5))), []⟩ :: ⟨41, (some 57), (some (52, false)), (.call 50 [(.t 54), (.t 55), (.t 56)]), []⟩ :: hid l_VCheck_13
@[simp] def l_VCheck_11 (_ : Unit) : List EOp := ⟨30, (some 46), (some (44, false)), (.q (.lda 38 (.t 45))), []⟩ :: ⟨31, (some 47), (some (44, false)), (.q (.mov (.t 3))), []⟩ :: ⟨32, (some 48), (some (44, false)), (.q (.mov (.t 4))), []⟩ :: ⟨33, (some 49), (some (44, false)), (.call 50 [(.t 46), (.t 47), (.t 48)]), []⟩ :: ⟨34, (some 50), (some (44, false)), (.q (.un .not (.t 49))), []⟩ :: ⟨35, (some 51), none, (.q (.pick (.t 44) (.k (.bool true)) (.t 50))), []⟩ :: hid l_VCheck_12
@[simp] def l_VCheck_10 (_ : Unit) : List EOp := ⟨24, (some 40), (some (39, false)), (.q (.mov (.t 3))), []⟩ :: ⟨25, (some 41), (some (39, false)), (.q (.mov (.t 5))), []⟩ :: ⟨26, (some 42), (some (39, false)), (.q (.bin .eql (.t 40) (.t 41))), []⟩ :: ⟨27, (some 43), none, (.q (.pick (.t 39) (.k (.bool true)) (.t 42))), []⟩ :: ⟨28, (some 44), none, (.q (.mov (.t 43))), []⟩ :: ⟨29, (some 45), (some (44, false)), (.q (.fad 0 (.t 1))), []⟩ :: hid l_VCheck_11
@[simp] def l_VCheck_9 (_ : Unit) : List EOp := ⟨18, (some 34), none, (.q (.mov (.t 33))), []⟩ :: ⟨19, (some 35), (some (34, false)), (.q (.mov (.t 4))), []⟩ :: ⟨20, (some 36), (some (34, false)), (.q (.mov (.t 5))), []⟩ :: ⟨21, (some 37), (some (34, false)), (.q (.bin .eql (.t 35) (.t 36))), []⟩ :: ⟨22, (some 38), none, (.q (.pick (.t 34) (.k (.bool true)) (.t 37))), []⟩ :: ⟨23, (some 39), none, (.q (.mov (.t 38))), []⟩ :: hid l_VCheck_10
@[simp] def l_VCheck_8 (_ : Unit) : List EOp := ⟨12, (some 28), none, (.q (.pick (.t 24) (.k (.bool true)) (.t 27))), []⟩ :: ⟨13, (some 29), none, (.q (.mov (.t 28))), []⟩ :: ⟨14, (some 30), (some (29, false)), (.q (.mov (.t 3))), []⟩ :: ⟨15, (some 31), (some (29, false)), (.q (.mov (.t 4))), []⟩ :: ⟨16, (some 32), (some (29, false)), (.q (.bin .eql (.t 30) (.t 31))), []⟩ :: ⟨17, (some 33), none, (.q (.pick (.t 29) (.k (.bool true)) (.t 32))), []⟩ :: hid l_VCheck_9
@[simp] def l_VCheck_7 (_ : Unit) : List EOp := ⟨6, (some 22), (some (19, false)), (.q (.un .not (.t 21))), []⟩ :: ⟨7, (some 23), none, (.q (.pick (.t 19) (.k (.bool true)) (.t 22))), []⟩ :: ⟨8, (some 24), none, (.q (.mov (.t 23))), []⟩ :: ⟨9, (some 25), (some (24, false)), (.q (.mov (.t 5))), []⟩ :: ⟨10, (some 26), (some (24, false)), (.call 49 [(.t 25)]), []⟩ :: ⟨11, (some 27), (some (24, false)), (.q (.un .not (.t 26))), []⟩ :: hid l_VCheck_8
@[simp] def l_VCheck_6 (_ : Unit) : List EOp := ⟨0, (some 16), none, (.q (.mov (.t 3))), []⟩ :: ⟨1, (some 17), none, (.call 49 [(.t 16)]), []⟩ :: ⟨2, (some 18), none, (.q (.un .not (.t 17))), []⟩ :: ⟨3, (some 19), none, (.q (.mov (.t 18))), []⟩ :: ⟨4, (some 20), (some (19, false)), (.q (.mov (.t 4))), []⟩ :: ⟨5, (some 21), (some (19, false)), (.call 49 [(.t 20)]), []⟩ :: hid l_VCheck_7
@[simp] def b_VCheck_14 (_ : Unit) : EB := reg0 (hid l_VCheck_6) 45
@[simp] def l_VCheck_15 (_ : Unit) : List EOp := [⟨0, (some 60), none, (.q (.mki 132 (.k (.int .i64 33)))), []⟩, ⟨1, (some 2), none, (.q (.mov (.t 60))), []⟩]
@[simp] def b_VCheck_16 (_ : Unit) : EB := reg0 (hid l_VCheck_15) 2
@[simp] def b_VCheck_17 (_ : Unit) : EB := .seq (hid b_VCheck_16) .ret
@[simp] def l_VCheck_20 (_ : Unit) : List EOp := [⟨12, (some 74), none, (.q (.pick (.t 70) (.k (.bool true)) (.t 73))), []⟩, ⟨13, (some 61), none, (.q (.mov (.t 74))), []⟩]
@[simp] def l_VCheck_19 (_ : Unit) : List EOp := ⟨6, (some 68), (some (65, false)), (.q (.bin .gtr (.t 67) (.k (.int .i64 1125899906842624)))), []⟩ :: ⟨7, (some 69), none, (.q (.pick (.t 65) (.k (.bool true)) (.t 68))), []⟩ :: ⟨8, (some 70), none, (.q (.mov (.t 69))), []⟩ :: ⟨9, (some 71), (some (70, false)), (.q (.fad 79 (.t 1))), []⟩ :: ⟨10, (some 72), (some (70, false)), (.q (.ldc (.t 71))), []⟩ :: ⟨11, (some 73), (some (70, false)), (.q (.bin .gtr (.t 72) (.k (.int .i64 1125899906842624)))), []⟩ :: hid l_VCheck_20
@[simp] def l_VCheck_18 (_ : Unit) : List EOp := ⟨0, (some 62), none, (.q (.fad 80 (.t 1))), []⟩ :: ⟨1, (some 63), none, (.q (.ldc (.t 62))), []⟩ :: ⟨2, (some 64), none, (.q (.bin .lss (.t 63) (.k (.int .i64 0)))), []⟩ :: ⟨3, (some 65), none, (.q (.mov (.t 64))), []⟩ :: ⟨4, (some 66), (some (65, false)), (.q (.fad 80 (.t 1))), []⟩ :: ⟨5, (some 67), (some (65, false)), (.q (.ldc (.t 66))), []⟩ :: hid l_VCheck_19
@[simp] def b_VCheck_21 (_ : Unit) : EB := reg0 (hid l_VCheck_18) 14
@[simp] def l_VCheck_22 (_ : Unit) : List EOp := [⟨0, (some 75), none, (.q (.mki 132 (.k (.int .i64 1)))), []⟩, ⟨1, (some 2), none, (.q (.mov (.t 75))), []⟩]
@[simp] def b_VCheck_23 (_ : Unit) : EB := reg0 (hid l_VCheck_22) 2
@[simp] def b_VCheck_24 (_ : Unit) : EB := .seq (hid b_VCheck_23) .ret
@[simp] def l_VCheck_26 (_ : Unit) : List EOp := [⟨6, (some 76), none, (.q (.mov (.t 82))), []⟩]
@[simp] def l_VCheck_25 (_ : Unit) : List EOp := ⟨0, (some 77), none, (.q (.fad 79 (.t 1))), []⟩ :: ⟨1, (some 78), none, (.q (.ldc (.t 77))), []⟩ :: ⟨2, (some 79), none, (.q (.fad 80 (.t 1))), []⟩ :: ⟨3, (some 80), none, (.q (.ldc (.t 79))), []⟩ :: ⟨4, (some 81), none, (.q (.bin .add (.k (.int .i64 10)) (.t 80))), []⟩ :: ⟨5, (some 82), none, (.q (.bin .lss (.t 78) (.t 81))), []⟩ :: hid l_VCheck_26
@[simp] def b_VCheck_27 (_ : Unit) : EB := reg0 (hid l_VCheck_25) 7
@[simp] def l_VCheck_28 (_ : Unit) : List EOp := [⟨0, (some 83), none, (.q (.mki 132 (.k (.int .i64 27)))), []⟩, ⟨1, (some 2), none, (.q (.mov (.t 83))), []⟩]
@[simp] def b_VCheck_29 (_ : Unit) : EB := reg0 (hid l_VCheck_28) 2
@[simp] def b_VCheck_30 (_ : Unit) : EB := .seq (hid b_VCheck_29) .ret
@[simp] def b_VCheck_31 (_ : Unit) : EB := .cond (.t 76) (hid b_VCheck_30) .skip
@[simp] def b_VCheck_32 (_ : Unit) : EB := .seq (hid b_VCheck_27) (hid b_VCheck_31)
@[simp] def b_VCheck_33 (_ : Unit) : EB := .cond (.t 61) (hid b_VCheck_24) (hid b_VCheck_32)
@[simp] def b_VCheck_34 (_ : Unit) : EB := .seq (hid b_VCheck_21) (hid b_VCheck_33)
@[simp] def b_VCheck_35 (_ : Unit) : EB := .cond (.t 15) (hid b_VCheck_17) (hid b_VCheck_34)
@[simp] def b_VCheck_36 (_ : Unit) : EB := .seq (hid b_VCheck_14) (hid b_VCheck_35)
@[simp] def b_VCheck_37 (_ : Unit) : EB := .block 0 (hid b_VCheck_36)
@[simp] def l_VCheck_38 (_ : Unit) : List EOp := [⟨0, (some 2), none, (.q (.mov (.k .nilIface))), []⟩]
@[simp] def b_VCheck_39 (_ : Unit) : EB := reg0 (hid l_VCheck_38) 1
@[simp] def b_VCheck_40 (_ : Unit) : EB := .seq (hid b_VCheck_39) .ret
@[simp] def b_VCheck_41 (_ : Unit) : EB := .seq (hid b_VCheck_37) (hid b_VCheck_40)
@[simp] def b_VCheck_42 (_ : Unit) : EB := .seq (hid b_VCheck_5) (hid b_VCheck_41)
@[simp] def b_VCheck_43 (_ : Unit) : EB := .seq (hid b_VCheck_2) (hid b_VCheck_42)
def c_VCheck : EB × List QOp × Nat := ((hid b_VCheck_43), [(.mov (.t 2))], 84)
theorem k_VCheck : cfun Tryz.prog 15 = some c_VCheck := by kernel_rfl


def prtV (r : Rte) : Prop := (0 ≤ r.a ∧ r.a < 16) ∧ (0 ≤ r.b ∧ r.b < 16) ∧ (0 ≤ r.c ∧ r.c < 16) ∧ ¬ r.a = r.b ∧ ¬ r.b = r.c ∧ ¬ r.a = r.c ∧ ofV r.f r.a r.b = true ∧ ofV r.s r.b r.c = true
instance (r : Rte) : Decidable (prtV r) := by unfold prtV; infer_instance
/-- Whether a route can be: the error. -/
def chkV (r : Rte) : Nat := if ¬ prtV r then 33 else if r.fe < 0 ∨ 1125899906842624 < r.fe ∨ 1125899906842624 < r.am then 1 else if r.am < 10 + r.fe then 27 else 0
@[simp] theorem errV_33v : Value.iface 132 (.int .i64 33) = errV 33 := rfl
@[simp] theorem errV_27v : Value.iface 132 (.int .i64 27) = errV 27 := rfl

set_option maxHeartbeats 8000000 in
theorem VCheck_ok (r : Rte) (hr : r.ok) : ECalls Tryz.prog 15 [RVv r] [] fun y H' => H' = [] ∧ y = .lit (errV (chkV r)) := by
  obtain ⟨⟨h1, _⟩, ⟨h2, _⟩, ⟨ha0, ha1⟩, ⟨hb0, hb1⟩, ⟨hc0, hc1⟩, ⟨hm0, hm1⟩, ⟨hf0, hf1⟩⟩ := id hr
  have l0 := rteC_len h1 h2
  have t0 := rt_take h1 h2
  have g76 := rt_76 h1 h2
  have g77 := rt_77 h1 h2
  have g78 := rt_78 h1 h2
  have g79 := rt_79 h1 h2
  have g80 := rt_80 h1 h2
  have t38 := rt_t38 h1
  have s38 := rt_s38 h1 h2
  have e76 := idx_of g76 (by omega)
  have e77 := idx_of g77 (by omega)
  have e78 := idx_of g78 (by omega)
  have e79 := idx_of g79 (by omega)
  have e80 := idx_of g80 (by omega)
  refine ecalls k_VCheck ?_
  simp [c_VCheck, RVv, I, l0, t0, e76, e77, e78, e79, e80, iC, -errV_0]
  refine call0 (Vparty_ok r.a) (by simp [I]) ?_
  rintro y H' ⟨rfl, rfl⟩
  refine ⟨.inl (by simp), le_ok rfl, ?_⟩
  by_cases q0 : 0 ≤ r.a ∧ r.a < 16
  rotate_left
  · have hv : chkV r = 33 := by unfold chkV; rw [if_pos (fun h => q0 h.1)]
    rw [hv, decide_eq_false q0]
    simp [l0, t0, e76, e77, e78, e79, e80, t38, s38, iC, -errV_0]
    exact fin [] (by decide) rfl rfl rfl ⟨rfl, rfl⟩
  rw [decide_eq_true q0]
  simp [l0, t0, e76, e77, e78, e79, e80, t38, s38, iC, -errV_0]
  refine call0 (Vparty_ok r.b) (by simp [I]) ?_
  rintro y H' ⟨rfl, rfl⟩
  refine ⟨.inl (by simp), le_ok rfl, ?_⟩
  by_cases q1 : 0 ≤ r.b ∧ r.b < 16
  rotate_left
  · have hv : chkV r = 33 := by unfold chkV; rw [if_pos (fun h => q1 h.2.1)]
    rw [hv, decide_eq_false q1]
    simp [l0, t0, e76, e77, e78, e79, e80, t38, s38, iC, -errV_0]
    exact fin [] (by decide) rfl rfl rfl ⟨rfl, rfl⟩
  rw [decide_eq_true q1]
  simp [l0, t0, e76, e77, e78, e79, e80, t38, s38, iC, -errV_0]
  refine call0 (Vparty_ok r.c) (by simp [I]) ?_
  rintro y H' ⟨rfl, rfl⟩
  refine ⟨.inl (by simp), le_ok rfl, ?_⟩
  by_cases q2 : 0 ≤ r.c ∧ r.c < 16
  rotate_left
  · have hv : chkV r = 33 := by unfold chkV; rw [if_pos (fun h => q2 h.2.2.1)]
    rw [hv, decide_eq_false q2]
    simp [l0, t0, e76, e77, e78, e79, e80, t38, s38, iC, -errV_0]
    exact fin [] (by decide) rfl rfl rfl ⟨rfl, rfl⟩
  rw [decide_eq_true q2]
  simp [l0, t0, e76, e77, e78, e79, e80, t38, s38, iC, -errV_0]
  by_cases q3 : r.a = r.b
  · have hv : chkV r = 33 := by unfold chkV; rw [if_pos (fun h => h.2.2.2.1 q3)]
    rw [hv]
    simp [l0, t0, e76, e77, e78, e79, e80, t38, s38, iC, q3, -errV_0]
    exact fin [] (by decide) rfl rfl rfl ⟨rfl, rfl⟩
  simp [l0, t0, e76, e77, e78, e79, e80, t38, s38, iC, q3, -errV_0]
  by_cases q4 : r.b = r.c
  · have hv : chkV r = 33 := by unfold chkV; rw [if_pos (fun h => h.2.2.2.2.1 q4)]
    rw [hv]
    simp [l0, t0, e76, e77, e78, e79, e80, t38, s38, iC, q3, q4, -errV_0]
    exact fin [] (by decide) rfl rfl rfl ⟨rfl, rfl⟩
  simp [l0, t0, e76, e77, e78, e79, e80, t38, s38, iC, q3, q4, -errV_0]
  by_cases q5 : r.a = r.c
  · have hv : chkV r = 33 := by unfold chkV; rw [if_pos (fun h => h.2.2.2.2.2.1 q5)]
    rw [hv]
    simp [l0, t0, e76, e77, e78, e79, e80, t38, s38, iC, q3, q4, q5, -errV_0]
    exact fin [] (by decide) rfl rfl rfl ⟨rfl, rfl⟩
  simp [l0, t0, e76, e77, e78, e79, e80, t38, s38, iC, q3, q4, q5, -errV_0]
  refine call0 (Vof_ok r.f r.a r.b h1) (by simp [PVv, I]) ?_
  rintro y H' ⟨rfl, rfl⟩
  refine ⟨.inl (by simp), le_ok rfl, ?_⟩
  by_cases q6 : ofV r.f r.a r.b = true
  rotate_left
  · have hv : chkV r = 33 := by unfold chkV; rw [if_pos (fun h => q6 h.2.2.2.2.2.2.1)]
    have q6' : ofV r.f r.a r.b = false := by simpa using q6
    rw [hv, q6']
    simp [l0, t0, e76, e77, e78, e79, e80, t38, s38, iC, q3, q4, q5, -errV_0]
    exact fin [] (by decide) rfl rfl rfl ⟨rfl, rfl⟩
  rw [q6]
  simp [l0, t0, e76, e77, e78, e79, e80, t38, s38, iC, q3, q4, q5, -errV_0]
  refine call0 (Vof_ok r.s r.b r.c h2) (by simp [PVv, I]) ?_
  rintro y H' ⟨rfl, rfl⟩
  refine ⟨.inl (by simp), le_ok rfl, ?_⟩
  by_cases q7 : ofV r.s r.b r.c = true
  rotate_left
  · have hv : chkV r = 33 := by unfold chkV; rw [if_pos (fun h => q7 h.2.2.2.2.2.2.2)]
    have q7' : ofV r.s r.b r.c = false := by simpa using q7
    rw [hv, q7']
    simp [l0, t0, e76, e77, e78, e79, e80, t38, s38, iC, q3, q4, q5, -errV_0]
    exact fin [] (by decide) rfl rfl rfl ⟨rfl, rfl⟩
  rw [q7]
  simp [l0, t0, e76, e77, e78, e79, e80, t38, s38, iC, q3, q4, q5, -errV_0]
  have hp : ¬ ¬ prtV r := fun h => h ⟨q0, q1, q2, q3, q4, q5, q6, q7⟩
  by_cases z0 : r.fe < 0
  · have hv : chkV r = 1 := by unfold chkV; rw [if_neg hp, if_pos (.inl z0)]
    have z0n : ¬ 0 ≤ r.fe := by omega
    rw [hv]
    simp [l0, t0, e76, e77, e78, e79, e80, t38, s38, iC, z0, z0n, -errV_0]
    exact fin [] (by decide) rfl rfl rfl ⟨rfl, rfl⟩
  have z0p : 0 ≤ r.fe := by omega
  by_cases z1 : 1125899906842624 < r.fe
  · have hv : chkV r = 1 := by unfold chkV; rw [if_neg hp, if_pos (.inr (.inl z1))]
    rw [hv]
    simp [l0, t0, e76, e77, e78, e79, e80, t38, s38, iC, z0, z0p, z1, -errV_0]
    exact fin [] (by decide) rfl rfl rfl ⟨rfl, rfl⟩
  have z1p : r.fe ≤ 1125899906842624 := by omega
  by_cases z2 : 1125899906842624 < r.am
  · have hv : chkV r = 1 := by unfold chkV; rw [if_neg hp, if_pos (.inr (.inr z2))]
    rw [hv]
    simp [l0, t0, e76, e77, e78, e79, e80, t38, s38, iC, z0, z0p, z1, z1p, z2, -errV_0]
    exact fin [] (by decide) rfl rfl rfl ⟨rfl, rfl⟩
  have z2p : r.am ≤ 1125899906842624 := by omega
  have w1 : IntKind.i64.wrap (10 + r.fe) = 10 + r.fe := wrap_i64 (by omega) (by omega)
  by_cases z3 : r.am < 10 + r.fe
  · have hv : chkV r = 27 := by unfold chkV; rw [if_neg hp, if_neg (by omega), if_pos z3]
    rw [hv]
    simp [l0, t0, e76, e77, e78, e79, e80, t38, s38, iC, z0, z0p, z1, z1p, z2, z2p, w1, z3, -errV_0]
    exact fin [] (by decide) rfl rfl rfl ⟨rfl, rfl⟩
  have z3p : 10 + r.fe ≤ r.am := by omega
  have hv : chkV r = 0 := by unfold chkV; rw [if_neg hp, if_neg (by omega), if_neg z3]
  rw [hv]
  simp [l0, t0, e76, e77, e78, e79, e80, t38, s38, iC, z0, z0p, z1, z1p, z2, z2p, w1, z3, z3p, -errV_0]
  exact fin [] (by decide) rfl rfl rfl ⟨rfl, rfl⟩

end Go.Proofs.YtejjhgdnmknejaaGreatDoor

namespace Go.Proofs.YtejjhgdnmknejaaGreatDoor
open Go Go.EW
set_option linter.unusedSimpArgs false
set_option linter.unusedVariables false

@[simp] def l_IdxI_1 (_ : Unit) : List EOp := [⟨0, (some 4), none, (.q (.mov (.k (.int .i64 0)))), []⟩]
@[simp] def b_IdxI_2 (_ : Unit) : EB := reg0 (hid l_IdxI_1) 1
@[simp] def l_IdxI_3 (_ : Unit) : List EOp := [⟨0, (some 6), none, (.q (.mov (.t 0))), []⟩, ⟨1, (some 7), none, (.q (.len (.t 6))), []⟩, ⟨2, (some 8), none, (.q (.mov (.k (.int .i64 0)))), []⟩]
@[simp] def b_IdxI_4 (_ : Unit) : EB := reg0 (hid l_IdxI_3) 3
@[simp] def l_IdxI_5 (_ : Unit) : List EOp := [⟨0, (some 9), none, (.q (.bin .lss (.t 8) (.t 7))), []⟩]
@[simp] def b_IdxI_6 (_ : Unit) : EB := reg0 (hid l_IdxI_5) 1
@[simp] def b_IdxI_7 (_ : Unit) : EB := .cond (.t 9) .skip (.exit 0)
@[simp] def l_IdxI_8 (_ : Unit) : List EOp := [⟨0, (some 10), none, (.q (.mov (.t 8))), []⟩, ⟨1, (some 5), none, (.q (.mov (.t 10))), []⟩]
@[simp] def b_IdxI_9 (_ : Unit) : EB := reg0 (hid l_IdxI_8) 2
@[simp] def l_IdxI_10 (_ : Unit) : List EOp := [⟨0, (some 11), none, (.q (.mov (.t 1))), []⟩, ⟨1, (some 12), none, (.q (.mov (.t 0))), []⟩, ⟨2, (some 13), none, (.q (.mov (.t 5))), []⟩, ⟨3, (some 14), none, (.q (.isl 1 (.t 12) (.t 13))), []⟩, ⟨4, (some 15), none, (.q (.ldc (.t 14))), []⟩, ⟨5, (some 16), none, (.q (.bin .eql (.t 11) (.t 15))), []⟩]
@[simp] def b_IdxI_11 (_ : Unit) : EB := reg0 (hid l_IdxI_10) 6
@[simp] def l_IdxI_12 (_ : Unit) : List EOp := [⟨0, (some 17), none, (.q (.mov (.t 5))), []⟩, ⟨1, (some 4), none, (.q (.mov (.t 17))), []⟩]
@[simp] def b_IdxI_13 (_ : Unit) : EB := reg0 (hid l_IdxI_12) 2
@[simp] def b_IdxI_14 (_ : Unit) : EB := .seq (hid b_IdxI_13) .ret
@[simp] def b_IdxI_15 (_ : Unit) : EB := .cond (.t 16) (hid b_IdxI_14) .skip
@[simp] def b_IdxI_16 (_ : Unit) : EB := .seq (hid b_IdxI_11) (hid b_IdxI_15)
@[simp] def b_IdxI_17 (_ : Unit) : EB := .seq (hid b_IdxI_9) (hid b_IdxI_16)
@[simp] def b_IdxI_18 (_ : Unit) : EB := .block 1 (hid b_IdxI_17)
@[simp] def l_IdxI_19 (_ : Unit) : List EOp := [⟨0, (some 18), none, (.q (.bin .add (.t 8) (.k (.int .i64 1)))), []⟩, ⟨1, (some 8), none, (.q (.mov (.t 18))), []⟩]
@[simp] def b_IdxI_20 (_ : Unit) : EB := reg0 (hid l_IdxI_19) 2
@[simp] def b_IdxI_21 (_ : Unit) : EB := .seq (hid b_IdxI_18) (hid b_IdxI_20)
@[simp] def b_IdxI_22 (_ : Unit) : EB := .seq (hid b_IdxI_7) (hid b_IdxI_21)
@[simp] def b_IdxI_23 (_ : Unit) : EB := .seq (hid b_IdxI_6) (hid b_IdxI_22)
@[simp] def b_IdxI_24 (_ : Unit) : EB := .loop (hid b_IdxI_23)
@[simp] def b_IdxI_25 (_ : Unit) : EB := .block 0 (hid b_IdxI_24)
@[simp] def b_IdxI_26 (_ : Unit) : EB := .seq (hid b_IdxI_4) (hid b_IdxI_25)
@[simp] def l_IdxI_27 (_ : Unit) : List EOp := [⟨0, (some 4), none, (.q (.mov (.k (.int .i64 (-1))))), []⟩]
@[simp] def b_IdxI_28 (_ : Unit) : EB := reg0 (hid l_IdxI_27) 1
@[simp] def b_IdxI_29 (_ : Unit) : EB := .seq (hid b_IdxI_28) .ret
@[simp] def b_IdxI_30 (_ : Unit) : EB := .seq (hid b_IdxI_26) (hid b_IdxI_29)
@[simp] def b_IdxI_31 (_ : Unit) : EB := .seq (hid b_IdxI_2) (hid b_IdxI_30)
def c_IdxI : EB × List QOp × Nat := ((hid b_IdxI_31), [(.mov (.t 4))], 19)
theorem k_IdxI : cfun Tryz.prog 56 = some c_IdxI := by kernel_rfl

@[simp] def l_VSide_1 (_ : Unit) : List EOp := [⟨0, (some 2), none, (.q (.box 42 (.t 0))), []⟩, ⟨1, (some 4), none, (.q (.mov (.k (.int .i64 0)))), []⟩, ⟨2, (some 5), none, (.q (.mov (.k .nilIface))), []⟩]
@[simp] def b_VSide_2 (_ : Unit) : EB := reg0 (hid l_VSide_1) 3
@[simp] def l_VSide_3 (_ : Unit) : List EOp := [⟨0, (some 7), none, (.q (.fad 34 (.t 2))), []⟩, ⟨1, (some 8), none, (.q (.sar 2 (.t 7) none none)), []⟩, ⟨2, (some 9), none, (.q (.mov (.t 1))), []⟩, ⟨3, (some 10), none, (.call 56 [(.t 8), (.t 9)]), []⟩, ⟨4, (some 6), none, (.q (.mov (.t 10))), []⟩]
@[simp] def b_VSide_4 (_ : Unit) : EB := reg0 (hid l_VSide_3) 5
@[simp] def l_VSide_5 (_ : Unit) : List EOp := [⟨0, (some 11), none, (.q (.mov (.t 6))), []⟩, ⟨1, (some 12), none, (.q (.bin .lss (.t 11) (.k (.int .i64 0)))), []⟩]
@[simp] def b_VSide_6 (_ : Unit) : EB := reg0 (hid l_VSide_5) 2
@[simp] def l_VSide_7 (_ : Unit) : List EOp := [⟨0, (some 13), none, (.q (.mki 132 (.k (.int .i64 33)))), []⟩, ⟨1, (some 4), none, (.q (.mov (.k (.int .i64 0)))), []⟩, ⟨2, (some 5), none, (.q (.mov (.t 13))), []⟩]
@[simp] def b_VSide_8 (_ : Unit) : EB := reg0 (hid l_VSide_7) 3
@[simp] def b_VSide_9 (_ : Unit) : EB := .seq (hid b_VSide_8) .ret
@[simp] def b_VSide_10 (_ : Unit) : EB := .cond (.t 12) (hid b_VSide_9) .skip
@[simp] def b_VSide_11 (_ : Unit) : EB := .seq (hid b_VSide_6) (hid b_VSide_10)
@[simp] def l_VSide_12 (_ : Unit) : List EOp := [⟨0, (some 14), none, (.q (.mov (.t 6))), []⟩, ⟨1, (some 4), none, (.q (.mov (.t 14))), []⟩, ⟨2, (some 5), none, (.q (.mov (.k .nilIface))), []⟩]
@[simp] def b_VSide_13 (_ : Unit) : EB := reg0 (hid l_VSide_12) 3
@[simp] def b_VSide_14 (_ : Unit) : EB := .seq (hid b_VSide_13) .ret
@[simp] def b_VSide_15 (_ : Unit) : EB := .seq (hid b_VSide_11) (hid b_VSide_14)
@[simp] def b_VSide_16 (_ : Unit) : EB := .seq (hid b_VSide_4) (hid b_VSide_15)
@[simp] def b_VSide_17 (_ : Unit) : EB := .seq (hid b_VSide_2) (hid b_VSide_16)
def c_VSide : EB × List QOp × Nat := ((hid b_VSide_17), [(.mov (.t 4)), (.mov (.t 5))], 15)
theorem k_VSide : cfun Tryz.prog 19 = some c_VSide := by kernel_rfl

@[simp] def l_Vsides_1 (_ : Unit) : List EOp := [⟨0, (some 1), none, (.q (.box 44 (.t 0))), []⟩, ⟨1, (some 2), none, (.q (.mov (.k (.int .i64 0)))), []⟩, ⟨2, (some 3), none, (.q (.mov (.k (.int .i64 0)))), []⟩]
@[simp] def b_Vsides_2 (_ : Unit) : EB := reg0 (hid l_Vsides_1) 3
@[simp] def l_Vsides_5 (_ : Unit) : List EOp := [⟨6, (some 10), none, (.call 56 [(.t 6), (.t 9)]), [7, 8, 9, 10, 11, 12]⟩, ⟨13, (some 17), none, (.call 56 [(.t 13), (.t 16)]), []⟩, ⟨14, (some 2), none, (.q (.mov (.t 10))), []⟩, ⟨15, (some 3), none, (.q (.mov (.t 17))), []⟩]
@[simp] def l_Vsides_4 (_ : Unit) : List EOp := ⟨7, (some 11), none, (.q (.fad 38 (.t 1))), []⟩ :: ⟨8, (some 12), none, (.q (.fad 34 (.t 11))), []⟩ :: ⟨9, (some 13), none, (.q (.sar 2 (.t 12) none none)), []⟩ :: ⟨10, (some 14), none, (.q (.fad 76 (.t 1))), []⟩ :: ⟨11, (some 15), none, (.q (.iad 3 1 (.t 14) (.k (.int .i64 1)))), []⟩ :: ⟨12, (some 16), none, (.q (.ldc (.t 15))), []⟩ :: hid l_Vsides_5
@[simp] def l_Vsides_3 (_ : Unit) : List EOp := ⟨0, (some 4), none, (.q (.fad 0 (.t 1))), []⟩ :: ⟨1, (some 5), none, (.q (.fad 34 (.t 4))), []⟩ :: ⟨2, (some 6), none, (.q (.sar 2 (.t 5) none none)), []⟩ :: ⟨3, (some 7), none, (.q (.fad 76 (.t 1))), []⟩ :: ⟨4, (some 8), none, (.q (.iad 3 1 (.t 7) (.k (.int .i64 0)))), []⟩ :: ⟨5, (some 9), none, (.q (.ldc (.t 8))), []⟩ :: hid l_Vsides_4
@[simp] def b_Vsides_6 (_ : Unit) : EB := reg1 (hid l_Vsides_3) 16
@[simp] def b_Vsides_7 (_ : Unit) : EB := .seq (hid b_Vsides_6) .ret
@[simp] def b_Vsides_8 (_ : Unit) : EB := .seq (hid b_Vsides_2) (hid b_Vsides_7)
def c_Vsides : EB × List QOp × Nat := ((hid b_Vsides_8), [(.mov (.t 2)), (.mov (.t 3))], 18)
theorem k_Vsides : cfun Tryz.prog 41 = some c_Vsides := by kernel_rfl

@[simp] def l_Vhold_1 (_ : Unit) : List EOp := [⟨0, (some 2), none, (.q (.box 44 (.t 0))), []⟩, ⟨1, (some 4), none, (.q (.alloc 124 [(.int .i64 0), (.int .i64 0), (.slice none 0 0)])), []⟩]
@[simp] def b_Vhold_2 (_ : Unit) : EB := reg0 (hid l_Vhold_1) 2
@[simp] def l_Vhold_3 (_ : Unit) : List EOp := [⟨0, (some 6), none, (.q (.fad 76 (.t 2))), []⟩, ⟨1, (some 7), none, (.q (.sar 3 (.t 6) none none)), []⟩, ⟨2, (some 8), none, (.call 76 [(.t 7)]), []⟩, ⟨3, (some 5), none, (.q (.mov (.t 8))), []⟩]
@[simp] def b_Vhold_4 (_ : Unit) : EB := reg0 (hid l_Vhold_3) 4
@[simp] def l_Vhold_5 (_ : Unit) : List EOp := [⟨0, (some 9), none, (.q (.mov (.t 5))), []⟩, ⟨1, (some 10), none, (.call 77 [(.t 9)]), []⟩]
@[simp] def b_Vhold_6 (_ : Unit) : EB := reg0 (hid l_Vhold_5) 2
@[simp] def l_Vhold_7 (_ : Unit) : List EOp := [⟨0, (some 11), none, (.q (.mov (.t 1))), []⟩, ⟨1, (some 12), none, (.q (.fad 79 (.t 2))), []⟩, ⟨2, (some 13), none, (.q (.ldc (.t 12))), []⟩, ⟨3, (some 14), none, (.q (.mov (.t 5))), []⟩, ⟨4, (some 15), none, (.q (.build [(.int .i64 0), (.int .i64 0), (.slice none 0 0)] [(0, 1, (.t 11)), (1, 1, (.t 13)), (2, 1, (.t 14))])), []⟩, ⟨5, none, none, (.fz (.sto 3 (.t 4) (.t 15))), []⟩]
@[simp] def b_Vhold_8 (_ : Unit) : EB := reg0 (hid l_Vhold_7) 6
@[simp] def b_Vhold_9 (_ : Unit) : EB := .seq (hid b_Vhold_8) .ret
@[simp] def b_Vhold_10 (_ : Unit) : EB := .seq (hid b_Vhold_6) (hid b_Vhold_9)
@[simp] def b_Vhold_11 (_ : Unit) : EB := .seq (hid b_Vhold_4) (hid b_Vhold_10)
@[simp] def b_Vhold_12 (_ : Unit) : EB := .seq (hid b_Vhold_2) (hid b_Vhold_11)
def c_Vhold : EB × List QOp × Nat := ((hid b_Vhold_12), [(.lda 3 (.t 4))], 16)
theorem k_Vhold : cfun Tryz.prog 43 = some c_Vhold := by kernel_rfl


def sid (a b x : Int) : Int := if a = x then 0 else if b = x then 1 else -1
theorem IdxI_ok (a b x : Int) : ECalls Tryz.prog 56 [IL [a, b], I .i64 x] [] fun y H' => H' = [] ∧ y = I .i64 (sid a b x) := by
  refine ecalls k_IdxI ?_
  simp [c_IdxI, IL, I]
  refine eloop (α := Nat) (fun i => i ≤ 2 ∧ (0 < i → ¬ a = x) ∧ (1 < i → ¬ b = x)) (fun i => 2 - i) (fun i => [IL [a, b], I .i64 x, .any, .any, .any, .any, .any, I .i64 2, I .i64 i, .any, .any, .any, .any, .any, .any, .any, .any, .any, .any]) (fun _ => []) 0 []
    ⟨by omega, by omega, by omega⟩ (by simp [I, IL]) (by simp) (by simp) (by simp) (by simp) ?_
  rintro i ⟨hi, h0, h1⟩
  rcases (by omega : i = 0 ∨ i = 1 ∨ i = 2) with rfl | rfl | rfl
  · by_cases ha : a = x
    · have hv : sid a b x = 0 := if_pos ha
      rw [hv]
      subst ha
      simp [I, IL, intv]
      exact fin [] (by decide) rfl rfl rfl ⟨rfl, rfl⟩
    · have ha' : ¬ x = a := fun h => ha h.symm
      have w : IntKind.i64.wrap 1 = 1 := by decide +kernel
      simp [I, IL, intv, ha', w]
      exact round 1 [] ⟨by omega, fun _ => ha, by omega⟩ (by omega) (by simp [I, IL, intv]) (by simp) (by simp) (by simp) (by simp)
  · have ha := h0 (by omega)
    by_cases hb : b = x
    · have hv : sid a b x = 1 := by unfold sid; rw [if_neg ha, if_pos hb]
      rw [hv]
      subst hb
      simp [I, IL, intv]
      exact fin [] (by decide) rfl rfl rfl ⟨rfl, rfl⟩
    · have hb' : ¬ x = b := fun h => hb h.symm
      have w : IntKind.i64.wrap (1 + 1) = 2 := by decide +kernel
      have w2 : IntKind.i64.wrap 2 = 2 := by decide +kernel
      simp [I, IL, intv, hb', w, w2]
      exact round 2 [] ⟨by omega, fun _ => ha, fun _ => hb⟩ (by omega) (by simp [I, IL, intv]) (by simp) (by simp) (by simp) (by simp)
  · have ha := h0 (by omega)
    have hb := h1 (by omega)
    have hv : sid a b x = -1 := by unfold sid; rw [if_neg ha, if_neg hb]
    rw [hv]
    simp [I, IL]
    exact fin [] (by decide) rfl rfl rfl ⟨rfl, rfl⟩

def sidV (p : Prm) (who : Int) : Int × Nat := if p.k0 = who then (0, 0) else if p.k1 = who then (1, 0) else (0, 33)
theorem frz2 (a b : Int) : frzAll [iC a, iC b] = some [iF a, iF b] := rfl

theorem VSide_ok (p : Prm) (who : Int) (hp : p.tx.length = 32) : ECalls Tryz.prog 19 [PVv p, I .i64 who] [] fun y H' => H' = [] ∧ y = .tup [.c (iC (sidV p who).1), .c (.fz (.lit (errV (sidV p who).2)))] := by
  have h1 := prmC_len hp
  have h2 := pm_take hp
  have h3 := pm_d34 hp
  refine ecalls k_VSide ?_
  simp [c_VSide, PVv, I, h1, h2, -errV_0]
  refine call0 (IdxI_ok p.k0 p.k1 who) (by simp [IL, I, h1, h3, iC, intv]) ?_
  rintro y H' ⟨rfl, rfl⟩
  refine ⟨.inr ⟨rfl, by simp⟩, le_ok rfl, ?_⟩
  unfold sidV sid
  by_cases c1 : p.k0 = who
  · simp [I, c1, -errV_0]
    exact fin [] (by decide) rfl rfl rfl ⟨rfl, rfl⟩
  by_cases c2 : p.k1 = who
  · simp [I, c1, c2, -errV_0]
    exact fin [] (by decide) rfl rfl rfl ⟨rfl, rfl⟩
  · simp [I, c1, c2, -errV_0]
    exact fin [] (by decide) rfl rfl rfl ⟨rfl, rfl⟩

theorem Vsides_ok (r : Rte) (hr : r.ok) : ECalls Tryz.prog 41 [RVv r] [] fun y H' => H' = [] ∧ y = .tup [.c (iC (sid r.f.k0 r.f.k1 r.a)), .c (iC (sid r.s.k0 r.s.k1 r.b))] := by
  obtain ⟨⟨h1, _⟩, ⟨h2, _⟩, _⟩ := id hr
  have l0 := rteC_len h1 h2
  have t0 := rt_take h1 h2
  have e76 := idx_of (rt_76 h1 h2) (by omega)
  have e77 := idx_of (rt_77 h1 h2) (by omega)
  have k1 := rt_k1 h1
  have k2 := rt_k2 h1 h2
  refine ecalls k_Vsides ?_
  simp [c_Vsides, RVv, I, l0, t0, e76, e77, iC]
  refine call0 (IdxI_ok r.f.k0 r.f.k1 r.a) (by simp [IL, I, l0, k1, iC, intv]) ?_
  rintro y H' ⟨rfl, rfl⟩
  refine ⟨.inr ⟨rfl, by simp⟩, le_ok rfl, ?_⟩
  simp [I, l0, t0, e76, e77, iC]
  refine call0 (IdxI_ok r.s.k0 r.s.k1 r.b) (by simp [IL, I, l0, k2, iC, intv]) ?_
  rintro y H' ⟨rfl, rfl⟩
  refine ⟨.inr ⟨rfl, by simp⟩, le_ok rfl, ?_⟩
  simp [I]
  exact fin [] (by decide) rfl rfl rfl ⟨rfl, rfl⟩

/-- What is held. -/
def holV (r : Rte) (id' : Int) : Hol := ⟨id', r.am, srt [r.a, r.b, r.c]⟩
theorem Vhold_ok (r : Rte) (id' : Int) (hr : r.ok) : ECalls Tryz.prog 43 [RVv r, I .i64 id'] [] fun y H' => H' = [some (.row 3 1 (intv (srt [r.a, r.b, r.c])))] ∧ y = .v (.agg [iC id', iC r.am, .row 0 3]) := by
  obtain ⟨⟨h1, _⟩, ⟨h2, _⟩, _⟩ := id hr
  have l0 := rteC_len h1 h2
  have t0 := rt_take h1 h2
  have e79 := idx_of (rt_79 h1 h2) (by omega)
  have d76 := rt_d76 h1 h2
  have hso := SortI_ok [r.a, r.b, r.c] rfl
  have hcl := cloneI_ok [r.a, r.b, r.c] (by simp)
  refine ecalls k_Vhold ?_
  simp [c_Vhold, RVv, I, l0, t0, e79, iC]
  refine call0 hcl (by simp [IL, l0, d76, frzAll, frz, iC, intv]) ?_
  rintro y H' ⟨rfl, rfl⟩
  refine ⟨.inr ⟨rfl, by simp [intv]⟩, by simp, ?_⟩
  simp
  refine callH [64] hso (by simp) (by simp) (by simp) (by simp) (by simp) ?_
  rintro y H' ⟨rfl, rfl⟩
  refine ⟨.inl (by simp), by simp, ?_⟩
  simp [e79, l0, iC]
  exact fin [64] (by decide) rfl rfl rfl ⟨rfl, rfl⟩

end Go.Proofs.YtejjhgdnmknejaaGreatDoor

namespace Go.Proofs.YtejjhgdnmknejaaGreatDoor
open Go Go.EW
set_option linter.unusedSimpArgs false
set_option linter.unusedVariables false

@[simp] def l_chas_1 (_ : Unit) : List EOp := [⟨0, (some 4), none, (.q (.mov (.k (.bool false)))), []⟩]
@[simp] def b_chas_2 (_ : Unit) : EB := reg0 (hid l_chas_1) 1
@[simp] def l_chas_3 (_ : Unit) : List EOp := [⟨0, (some 5), none, (.q (.mov (.k (.int .i64 0)))), []⟩]
@[simp] def b_chas_4 (_ : Unit) : EB := reg0 (hid l_chas_3) 1
@[simp] def l_chas_5 (_ : Unit) : List EOp := [⟨0, (some 6), none, (.q (.mov (.t 5))), []⟩, ⟨1, (some 7), none, (.q (.mov (.t 0))), []⟩, ⟨2, (some 8), none, (.q (.len (.t 7))), []⟩, ⟨3, (some 9), none, (.q (.bin .lss (.t 6) (.t 8))), []⟩]
@[simp] def b_chas_6 (_ : Unit) : EB := reg0 (hid l_chas_5) 4
@[simp] def b_chas_7 (_ : Unit) : EB := .cond (.t 9) .skip (.exit 0)
@[simp] def b_chas_8 (_ : Unit) : EB := .seq (hid b_chas_6) (hid b_chas_7)
@[simp] def l_chas_9 (_ : Unit) : List EOp := [⟨0, (some 12), none, (.q (.mov (.t 0))), []⟩, ⟨1, (some 13), none, (.q (.mov (.t 5))), []⟩, ⟨2, (some 14), none, (.q (.isl 1 (.t 12) (.t 13))), []⟩, ⟨3, (some 15), none, (.q (.ldc (.t 14))), []⟩, ⟨4, (some 16), none, (.q (.mov (.t 1))), []⟩, ⟨5, (some 17), none, (.q (.bin .eql (.t 15) (.t 16))), []⟩]
@[simp] def b_chas_10 (_ : Unit) : EB := reg0 (hid l_chas_9) 6
@[simp] def l_chas_11 (_ : Unit) : List EOp := [⟨0, (some 4), none, (.q (.mov (.k (.bool true)))), []⟩]
@[simp] def b_chas_12 (_ : Unit) : EB := reg0 (hid l_chas_11) 1
@[simp] def b_chas_13 (_ : Unit) : EB := .seq (hid b_chas_12) .ret
@[simp] def b_chas_14 (_ : Unit) : EB := .cond (.t 17) (hid b_chas_13) .skip
@[simp] def b_chas_15 (_ : Unit) : EB := .seq (hid b_chas_10) (hid b_chas_14)
@[simp] def b_chas_16 (_ : Unit) : EB := .block 1 (hid b_chas_15)
@[simp] def l_chas_17 (_ : Unit) : List EOp := [⟨0, (some 10), none, (.q (.mov (.t 5))), []⟩, ⟨1, (some 11), none, (.q (.bin .add (.t 10) (.k (.int .i64 1)))), []⟩, ⟨2, (some 5), none, (.q (.mov (.t 11))), []⟩]
@[simp] def b_chas_18 (_ : Unit) : EB := reg0 (hid l_chas_17) 3
@[simp] def b_chas_19 (_ : Unit) : EB := .seq (hid b_chas_16) (hid b_chas_18)
@[simp] def b_chas_20 (_ : Unit) : EB := .seq (hid b_chas_8) (hid b_chas_19)
@[simp] def b_chas_21 (_ : Unit) : EB := .loop (hid b_chas_20)
@[simp] def b_chas_22 (_ : Unit) : EB := .block 0 (hid b_chas_21)
@[simp] def b_chas_23 (_ : Unit) : EB := .seq (hid b_chas_4) (hid b_chas_22)
@[simp] def l_chas_24 (_ : Unit) : List EOp := [⟨0, (some 4), none, (.q (.mov (.k (.bool false)))), []⟩]
@[simp] def b_chas_25 (_ : Unit) : EB := reg0 (hid l_chas_24) 1
@[simp] def b_chas_26 (_ : Unit) : EB := .seq (hid b_chas_25) .ret
@[simp] def b_chas_27 (_ : Unit) : EB := .seq (hid b_chas_23) (hid b_chas_26)
@[simp] def b_chas_28 (_ : Unit) : EB := .seq (hid b_chas_2) (hid b_chas_27)
def c_chas : EB × List QOp × Nat := ((hid b_chas_28), [(.mov (.t 4))], 18)
theorem k_chas : cfun Tryz.prog 119 = some c_chas := by kernel_rfl

@[simp] def l_cAll_1 (_ : Unit) : List EOp := [⟨0, (some 2), none, (.q (.alloc 152 [(.slice none 0 0)])), []⟩]
@[simp] def b_cAll_2 (_ : Unit) : EB := reg0 (hid l_cAll_1) 1
@[simp] def l_cAll_3 (_ : Unit) : List EOp := [⟨0, (some 3), none, (.q (.mov (.k (.slice none 0 0)))), []⟩]
@[simp] def b_cAll_4 (_ : Unit) : EB := reg0 (hid l_cAll_3) 1
@[simp] def l_cAll_5 (_ : Unit) : List EOp := [⟨0, (some 4), none, (.q (.mov (.k (.int .i64 0)))), []⟩]
@[simp] def b_cAll_6 (_ : Unit) : EB := reg0 (hid l_cAll_5) 1
@[simp] def l_cAll_7 (_ : Unit) : List EOp := [⟨0, (some 7), none, (.q (.mov (.t 4))), []⟩, ⟨1, (some 8), none, (.q (.mov (.t 0))), []⟩, ⟨2, (some 9), none, (.q (.len (.t 8))), []⟩, ⟨3, (some 10), none, (.q (.bin .lss (.t 7) (.t 9))), []⟩]
@[simp] def b_cAll_8 (_ : Unit) : EB := reg0 (hid l_cAll_7) 4
@[simp] def b_cAll_9 (_ : Unit) : EB := .cond (.t 10) .skip (.exit 0)
@[simp] def b_cAll_10 (_ : Unit) : EB := .seq (hid b_cAll_8) (hid b_cAll_9)
@[simp] def l_cAll_11 (_ : Unit) : List EOp := [⟨0, (some 13), none, (.q (.mov (.t 3))), []⟩, ⟨1, (some 14), none, (.q (.mov (.t 0))), []⟩, ⟨2, (some 15), none, (.q (.mov (.t 4))), []⟩, ⟨3, (some 16), none, (.q (.isl 1 (.t 14) (.t 15))), []⟩, ⟨4, (some 17), none, (.q (.ldc (.t 16))), []⟩, ⟨5, (some 18), none, (.call 119 [(.t 13), (.t 17)]), []⟩]
@[simp] def b_cAll_12 (_ : Unit) : EB := reg0 (hid l_cAll_11) 6
@[simp] def b_cAll_13 (_ : Unit) : EB := .cond (.t 18) (.exit 1) .skip
@[simp] def b_cAll_14 (_ : Unit) : EB := .seq (hid b_cAll_12) (hid b_cAll_13)
@[simp] def l_cAll_15 (_ : Unit) : List EOp := [⟨0, (some 5), none, (.q (.mov (.k (.int .i64 0)))), []⟩]
@[simp] def b_cAll_16 (_ : Unit) : EB := reg0 (hid l_cAll_15) 1
@[simp] def l_cAll_19 (_ : Unit) : List EOp := [⟨12, (some 31), (some (23, true)), (.q (.ldc (.t 30))), []⟩, ⟨13, (some 32), (some (23, true)), (.q (.bin .lss (.t 27) (.t 31))), []⟩, ⟨14, (some 33), none, (.q (.pick (.t 23) (.t 32) (.k (.bool false)))), []⟩]
@[simp] def l_cAll_18 (_ : Unit) : List EOp := ⟨6, (some 25), (some (23, true)), (.q (.mov (.t 5))), []⟩ :: ⟨7, (some 26), (some (23, true)), (.q (.isl 1 (.t 24) (.t 25))), []⟩ :: ⟨8, (some 27), (some (23, true)), (.q (.ldc (.t 26))), []⟩ :: ⟨9, (some 28), (some (23, true)), (.q (.mov (.t 0))), []⟩ :: ⟨10, (some 29), (some (23, true)), (.q (.mov (.t 4))), []⟩ :: ⟨11, (some 30), (some (23, true)), (.q (.isl 1 (.t 28) (.t 29))), []⟩ :: hid l_cAll_19
@[simp] def l_cAll_17 (_ : Unit) : List EOp := ⟨0, (some 19), none, (.q (.mov (.t 5))), []⟩ :: ⟨1, (some 20), none, (.q (.mov (.t 3))), []⟩ :: ⟨2, (some 21), none, (.q (.len (.t 20))), []⟩ :: ⟨3, (some 22), none, (.q (.bin .lss (.t 19) (.t 21))), []⟩ :: ⟨4, (some 23), none, (.q (.mov (.t 22))), []⟩ :: ⟨5, (some 24), (some (23, true)), (.q (.mov (.t 3))), []⟩ :: hid l_cAll_18
@[simp] def b_cAll_20 (_ : Unit) : EB := reg0 (hid l_cAll_17) 15
@[simp] def b_cAll_21 (_ : Unit) : EB := .cond (.t 33) .skip (.exit 2)
@[simp] def b_cAll_22 (_ : Unit) : EB := .seq (hid b_cAll_20) (hid b_cAll_21)
@[simp] def l_cAll_23 (_ : Unit) : List EOp := [⟨0, (some 34), none, (.q (.mov (.t 5))), []⟩, ⟨1, (some 35), none, (.q (.bin .add (.t 34) (.k (.int .i64 1)))), []⟩, ⟨2, (some 5), none, (.q (.mov (.t 35))), []⟩]
@[simp] def b_cAll_24 (_ : Unit) : EB := reg0 (hid l_cAll_23) 3
@[simp] def b_cAll_25 (_ : Unit) : EB := .block 3 (hid b_cAll_24)
@[simp] def b_cAll_26 (_ : Unit) : EB := .seq (hid b_cAll_22) (hid b_cAll_25)
@[simp] def b_cAll_27 (_ : Unit) : EB := .loop (hid b_cAll_26)
@[simp] def b_cAll_28 (_ : Unit) : EB := .block 2 (hid b_cAll_27)
@[simp] def l_cAll_29 (_ : Unit) : List EOp := [⟨0, (some 6), none, (.q (.mov (.k (.slice none 0 0)))), []⟩]
@[simp] def b_cAll_30 (_ : Unit) : EB := reg0 (hid l_cAll_29) 1
@[simp] def l_cAll_33 (_ : Unit) : List EOp := [⟨4, (some 40), none, (.app 3 1 8 (.t 36) (.t 39)), [5, 6, 7, 8, 9, 11, 12, 13]⟩, ⟨10, (some 46), none, (.app 3 1 8 (.t 40) (.t 45)), [11, 12, 13]⟩, ⟨14, (some 50), none, (.app 3 1 8 (.t 46) (.t 49)), []⟩, ⟨15, (some 3), none, (.q (.mov (.t 50))), []⟩]
@[simp] def l_cAll_32 (_ : Unit) : List EOp := ⟨7, (some 43), none, (.q (.isl 1 (.t 41) (.t 42))), []⟩ :: ⟨8, (some 44), none, (.q (.ldc (.t 43))), []⟩ :: ⟨9, (some 45), none, (.q (.bsl 1 [(.int .i64 0)] 1 [(0, (.t 44))])), []⟩ :: ⟨11, (some 47), none, (.q (.mov (.t 3))), []⟩ :: ⟨12, (some 48), none, (.q (.mov (.t 5))), []⟩ :: ⟨13, (some 49), none, (.q (.ssl 1 (.t 47) (some (.t 48)) none)), []⟩ :: hid l_cAll_33
@[simp] def l_cAll_31 (_ : Unit) : List EOp := ⟨0, (some 36), none, (.q (.mov (.t 6))), []⟩ :: ⟨1, (some 37), none, (.q (.mov (.t 3))), []⟩ :: ⟨2, (some 38), none, (.q (.mov (.t 5))), []⟩ :: ⟨3, (some 39), none, (.q (.ssl 1 (.t 37) none (some (.t 38)))), []⟩ :: ⟨5, (some 41), none, (.q (.mov (.t 0))), []⟩ :: ⟨6, (some 42), none, (.q (.mov (.t 4))), []⟩ :: hid l_cAll_32
@[simp] def b_cAll_34 (_ : Unit) : EB := reg1 (hid l_cAll_31) 16
@[simp] def b_cAll_35 (_ : Unit) : EB := .seq (hid b_cAll_30) (hid b_cAll_34)
@[simp] def b_cAll_36 (_ : Unit) : EB := .seq (hid b_cAll_28) (hid b_cAll_35)
@[simp] def b_cAll_37 (_ : Unit) : EB := .seq (hid b_cAll_16) (hid b_cAll_36)
@[simp] def b_cAll_38 (_ : Unit) : EB := .seq (hid b_cAll_14) (hid b_cAll_37)
@[simp] def b_cAll_39 (_ : Unit) : EB := .block 1 (hid b_cAll_38)
@[simp] def l_cAll_40 (_ : Unit) : List EOp := [⟨0, (some 11), none, (.q (.mov (.t 4))), []⟩, ⟨1, (some 12), none, (.q (.bin .add (.t 11) (.k (.int .i64 1)))), []⟩, ⟨2, (some 4), none, (.q (.mov (.t 12))), []⟩]
@[simp] def b_cAll_41 (_ : Unit) : EB := reg0 (hid l_cAll_40) 3
@[simp] def b_cAll_42 (_ : Unit) : EB := .seq (hid b_cAll_39) (hid b_cAll_41)
@[simp] def b_cAll_43 (_ : Unit) : EB := .seq (hid b_cAll_10) (hid b_cAll_42)
@[simp] def b_cAll_44 (_ : Unit) : EB := .loop (hid b_cAll_43)
@[simp] def b_cAll_45 (_ : Unit) : EB := .block 0 (hid b_cAll_44)
@[simp] def b_cAll_46 (_ : Unit) : EB := .seq (hid b_cAll_6) (hid b_cAll_45)
@[simp] def l_cAll_47 (_ : Unit) : List EOp := [⟨0, (some 51), none, (.q (.mov (.t 3))), []⟩, ⟨1, (some 52), none, (.q (.build (([(.slice none 0 0)] : List Value) ++ zU8 ++ [(.int .i64 0), (.int .i64 0)]) [(0, 1, (.t 51))])), []⟩, ⟨2, (some 53), none, (.fz (.q (.bsl 35 (([(.slice none 0 0)] : List Value) ++ zU8 ++ [(.int .i64 0), (.int .i64 0)]) 1 [(0, (.t 52))]))), []⟩, ⟨3, (some 54), none, (.q (.build [(.slice none 0 0)] [(0, 1, (.t 53))])), []⟩, ⟨4, none, none, (.fz (.sto 1 (.t 2) (.t 54))), []⟩]
@[simp] def b_cAll_48 (_ : Unit) : EB := reg0 (hid l_cAll_47) 5
@[simp] def b_cAll_49 (_ : Unit) : EB := .seq (hid b_cAll_48) .ret
@[simp] def b_cAll_50 (_ : Unit) : EB := .seq (hid b_cAll_46) (hid b_cAll_49)
@[simp] def b_cAll_51 (_ : Unit) : EB := .seq (hid b_cAll_4) (hid b_cAll_50)
@[simp] def b_cAll_52 (_ : Unit) : EB := .seq (hid b_cAll_2) (hid b_cAll_51)
def c_cAll : EB × List QOp × Nat := ((hid b_cAll_52), [(.lda 1 (.t 2))], 55)
theorem k_cAll : cfun Tryz.prog 58 = some c_cAll := by kernel_rfl


set_option maxHeartbeats 2000000 in
theorem chas_ok (l : List Int) (x : Int) (hx : ∀ y ∈ l, y ≠ x) (hn : l.length ≤ 1000) : ECalls Tryz.prog 119 [IL l, I .i64 x] [] fun y H' => H' = [] ∧ y = .lit (.bool false) := by
  refine ecalls k_chas ?_
  simp [c_chas, I, IL]
  refine eloop (α := Nat) (fun i => i ≤ l.length) (fun i => l.length - i)
    (fun i => [IL l, I .i64 x, .any, .any, EV.lit (.bool false), I .i64 i, .any, .any, .any, .any, .any, .any, .any, .any, .any, .any, .any, .any]) (fun _ => []) 0 []
    (Nat.zero_le _) (by simp [I, IL]) (by simp) (by simp) (by simp) (by simp) ?_
  intro i hi
  simp [I, IL]
  refine alt (fun hlt => ?_) (fun hlt => ?_)
  · have hln : i < l.length := by omega
    obtain ⟨p, hc⟩ : ∃ p, l[i]? = some p := ⟨l[i], by simp [hln]⟩
    have hge : (intv l)[i]'(by simp [intv, hln]) = [.lit (.int .i64 p)] := by
      have e := intv_get hc
      rw [List.getElem?_eq_getElem (by simp [intv, hln])] at e
      exact Option.some.inj e
    have hpo := hx p (List.mem_of_getElem? hc)
    have w4 : IntKind.i64.wrap ((i : Int) + 1) = ((i + 1 : Nat) : Int) := wrap_i64 (by omega) (by omega)
    simp [hln, hge, hpo, w4, -Int.natCast_add]
    exact round (i + 1) [] (by omega) (by omega) (by simp) (by simp) (by simp) (by simp) (by simp)
  · simp
    exact fin [] (by decide) rfl rfl rfl ⟨rfl, rfl⟩

/-- A number laid into its place. -/
def insI (K : List Int) (x : Int) : List Int := K.take (posI K x) ++ x :: K.drop (posI K x)
theorem insI_srt {a b c : Int} (h1 : a ≠ b) (h2 : b ≠ c) (h3 : a ≠ c) : insI (insI (insI [] a) b) c = srt [a, b, c] := by
  rcases (by omega : a < b ∨ b < a) with h | h <;> rcases (by omega : b < c ∨ c < b) with k | k <;> rcases (by omega : a < c ∨ c < a) with m | m
  all_goals first
    | omega
    | (have h' := Int.not_lt.2 (Int.le_of_lt h)
       have k' := Int.not_lt.2 (Int.le_of_lt k)
       have m' := Int.not_lt.2 (Int.le_of_lt m)
       simp [insI, posI, srt, restS, sinkS, swS, h, k, m, h', k', m', Int.not_le.2 h, Int.not_le.2 k, Int.not_le.2 m, Int.le_of_lt h, Int.le_of_lt k, Int.le_of_lt m])

theorem ins_row {K : List Int} {p : Int} {j : Nat} (h : posI K p = j) : List.take j (intv K) ++ [FV.lit (.int .i64 p)] :: List.drop j (List.take K.length (intv K)) = intv (insI K p) := by
  have e : List.take K.length (intv K) = intv K := List.take_of_length_le (by simp [intv])
  rw [e]
  unfold insI
  rw [h]
  simp [intv]
theorem ins_len (K : List Int) (p : Int) : (insI K p).length = K.length + 1 := by
  have h : posI K p ≤ K.length := posI_le K p
  unfold insI
  simp
  omega
theorem ins_mem (K : List Int) (x y : Int) : y ∈ insI K x ↔ y ∈ K ∨ y = x := by
  unfold insI
  rw [List.mem_append, List.mem_cons]
  conv => rhs; rw [← List.take_append_drop (posI K x) K, List.mem_append]
  constructor
  · rintro (h | h | h)
    · exact .inl (.inl h)
    · exact .inr h
    · exact .inl (.inr h)
  · rintro ((h | h) | h)
    · exact .inl h
    · exact .inr (.inr h)
    · exact .inr (.inl h)
theorem fold_len : ∀ (l K : List Int), (l.foldl insI K).length = K.length + l.length
  | [], K => by simp
  | a :: r, K => by rw [List.foldl_cons, fold_len r, ins_len]; simp; omega
theorem fold_mem : ∀ (l K : List Int) (y : Int), y ∈ l.foldl insI K ↔ y ∈ K ∨ y ∈ l
  | [], K, y => by simp
  | a :: r, K, y => by rw [List.foldl_cons, fold_mem r, ins_mem]; simp [or_assoc]
set_option maxHeartbeats 2000000 in
theorem cAll_ok (ks : List Int) (hd : ks.Pairwise (· ≠ ·)) (hn : ks.length ≤ 100) : ECalls Tryz.prog 58 [IL ks] [] fun y H' => H' = [] ∧ y = .v (.agg [.fz (.sl 35 [.sl 1 (intv (ks.foldl insI [])) :: (hf hz ++ [.lit (.int .i64 0), .lit (.int .i64 0)])])]) := by
  refine ecalls k_cAll ?_
  simp [c_cAll, I, IL]
  refine loopW _ (weak_nilF 3 1 rfl) ?_
  simp
  refine eloop (α := Nat) (fun i => i ≤ ks.length) (fun i => ks.length - i)
    (fun i => [IL ks, .any, Ptr 0, IL ((ks.take i).foldl insI []), I .i64 i, .any, .any, .any, .any, .any, .any, .any, .any, .any, .any, .any, .any, .any, .any, .any, .any, .any, .any, .any, .any, .any, .any, .any, .any, .any, .any, .any, .any, .any, .any, .any, .any, .any, .any, .any, .any, .any, .any, .any, .any, .any, .any, .any, .any, .any, .any, .any, .any, .any, .any]) (fun _ => [some (.box 152 [.fz (.lit (.slice none 0 0))])]) 0 [0]
    (Nat.zero_le _) (by simp [I, IL, Ptr, intv]) (by simp) (by simp) (by simp) (by simp) ?_
  intro i hi
  obtain ⟨K, hK⟩ : ∃ K, (ks.take i).foldl insI [] = K := ⟨_, rfl⟩
  have hKl : K.length = i := by rw [← hK, fold_len]; simp; omega
  have hKm : ∀ y, y ∈ K → y ∈ ks.take i := fun y hy => by rw [← hK, fold_mem] at hy; simpa using hy
  simp [I, IL, Ptr, hK]
  refine alt (fun hlt => ?_) (fun hlt => ?_)
  · have hln : i < ks.length := by omega
    obtain ⟨p, hc⟩ : ∃ p, ks[i]? = some p := ⟨ks[i], by simp [hln]⟩
    have hge : (intv ks)[i]'(by simp [intv, hln]) = [.lit (.int .i64 p)] := by
      have e := intv_get hc
      rw [List.getElem?_eq_getElem (by simp [intv, hln])] at e
      exact Option.some.inj e
    have hno : ∀ y ∈ K, y ≠ p := fun y hy => by
      have hp : (ks.take (i + 1)).Pairwise (· ≠ ·) := hd.sublist (List.take_sublist _ _)
      rw [List.take_add_one, hc] at hp
      exact (List.pairwise_append.1 hp).2.2 y (hKm y hy) p (by simp)
    have w4 : IntKind.i64.wrap ((i : Int) + 1) = ((i + 1 : Nat) : Int) := wrap_i64 (by omega) (by omega)
    have ht1 : (ks.take (i + 1)).foldl insI [] = insI K p := by rw [List.take_add_one, hc]; simp [hK]
    simp [hln, hge]
    refine call0 (chas_ok K p hno (by omega)) (by simp [IL, I]) ?_
    rintro y H' ⟨rfl, rfl⟩
    refine ⟨.inl (by simp), le_ok rfl, ?_⟩
    simp
    refine eloop (α := Nat) (fun j => j ≤ K.length ∧ ∀ (k : Nat) (y : Int), k < j → K[k]? = some y → y < p) (fun j => K.length - j)
      (fun j => [IL ks, .any, Ptr 0, IL K, I .i64 i, I .i64 j, .any, .any, .any, .any, .any, .any, .any, .any, .any, .any, .any, .any, .any, .any, .any, .any, .any, .any, .any, .any, .any, .any, .any, .any, .any, .any, .any, .any, .any, .any, .any, .any, .any, .any, .any, .any, .any, .any, .any, .any, .any, .any, .any, .any, .any, .any, .any, .any, .any]) (fun _ => [some (.box 152 [.fz (.lit (.slice none 0 0))])]) 0 [0]
      ⟨Nat.zero_le _, fun k y hk => absurd hk (Nat.not_lt_zero k)⟩ (by simp [I, IL, Ptr]) (by simp) (by simp) (by simp) (by simp) ?_
    rintro j ⟨hj, hlo⟩
    simp [I, IL, Ptr]
    refine alt (fun hjl => ?_) (fun hjl => ?_)
    · have hjn : j < K.length := by omega
      obtain ⟨q, hq⟩ : ∃ q, K[j]? = some q := ⟨K[j], by simp [hjn]⟩
      have hqe : (intv K)[j]'(by simp [intv, hjn]) = [.lit (.int .i64 q)] := by
        have e := intv_get hq
        rw [List.getElem?_eq_getElem (by simp [intv, hjn])] at e
        exact Option.some.inj e
      have w5 : IntKind.i64.wrap ((j : Int) + 1) = ((j + 1 : Nat) : Int) := wrap_i64 (by omega) (by omega)
      simp [hjn, hqe, hln, hge]
      by_cases hqp : q < p
      · simp [hqp, w5, -Int.natCast_add]
        refine round (j + 1) [0] ⟨by omega, ?_⟩ (by omega) (by simp) (by simp) (by simp) (by simp) (by simp)
        intro k y hk hy
        rcases Nat.lt_or_ge k j with h1 | h1
        · exact hlo k y h1 hy
        · obtain rfl : k = j := by omega
          rw [hq] at hy
          have := Option.some.inj hy
          omega
      · have hqn := hno q (List.mem_of_getElem? hq)
        have hpo : posI K p = j := posI_eq hj hlo (fun y hy => by rw [hq] at hy; have := Option.some.inj hy; omega)
        have hge' := intv_get hc
        simp [hj, hge', hln, hge, hqp, w4, -Int.natCast_add]
        refine ⟨by omega, by omega, by omega, ?_⟩
        rw [ins_row hpo, show j + 1 + (K.length - j) = K.length + 1 by omega]
        refine ⟨i + 1, by omega, by show ks.length - (i + 1) < ks.length - i; omega, (weak_frz (o := 481) (ty := 3) (es := 1) (xs := intv (insI K p)) rfl).trans (weak_norm [0] _ _ ?_ ?_ (by simp) (by simp) (by simp))⟩
        · simp [fzEV, ht1]
          exact List.take_of_length_le (by simp [intv, ins_len])
        · simp
    · have hjl' : ¬ j < K.length := by omega
      have hjl2 : K.length ≤ j := by omega
      simp [hjl', hjl2]
      have hpo : posI K p = j := posI_eq hj hlo (fun y hy => by have := lt_len hy; omega)
      have hge' := intv_get hc
      simp [hj, hjl', hge', hln, hge, w4, -Int.natCast_add]
      refine ⟨by omega, by omega, by omega, ?_⟩
      rw [ins_row hpo, show j + 1 + (K.length - j) = K.length + 1 by omega]
      refine ⟨i + 1, by omega, by show ks.length - (i + 1) < ks.length - i; omega, (weak_frz (o := 481) (ty := 3) (es := 1) (xs := intv (insI K p)) rfl).trans (weak_norm [0] _ _ ?_ ?_ (by simp) (by simp) (by simp))⟩
      · simp [fzEV, ht1]
        exact List.take_of_length_le (by simp [intv, ins_len])
      · simp
  · obtain rfl : i = ks.length := by omega
    rw [List.take_length] at hK
    have hr0 : (hc hz).flatMap rowsE = [] := rfl
    have hfz : frzAll (hc hz ++ [.fz (.lit (.int .i64 0)), .fz (.lit (.int .i64 0))]) = some (hf hz ++ [.lit (.int .i64 0), .lit (.int .i64 0)]) := rfl
    have hfl : (hf hz).length = 32 := rfl
    simp [hr0, hK, hfz, hfl]
    exact fin [] (by decide) rfl rfl rfl ⟨rfl, rfl⟩

end Go.Proofs.YtejjhgdnmknejaaGreatDoor

set_option linter.unusedVariables false
set_option linter.unusedSimpArgs false
namespace Go.Proofs.YtejjhgdnmknejaaGreatDoor
open Go.RowKit Go.Lib Go.EW
namespace InsH

theorem elem : ∃ ti z, ElemT Tryz.prog 47 124 3 40 ti z := elemT_of (by kernel_rfl) (by kernel_rfl) (by kernel_rfl) (by kernel_rfl) (by decide)
theorem fov (w : World) (a b : Value) : (callFunc 154 #[a, b]).run Tryz.prog w = ((Extern.SlicesOverlaps.overlaps #[47, 47] #[4] #[a, b]).run Tryz.prog w).andThen fun v w' => .ok (.value v) w' := by
  rw [run_callFunc_extern Tryz.func154 (by kernel_rfl) (by kernel_rfl) (by kernel_rfl) (e := Extern.SlicesOverlaps.overlaps #[47, 47] #[4]) (by kernel_rfl)]

set_option maxHeartbeats 4000000 in
set_option maxRecDepth 100000 in
theorem shift : InsShift Tryz.prog 92 154 47 3 := by
  intro g n c i vb mc W1 W2 w hi hroom hc63 hov hc1 hc2
  have hz2 : ¬ ((i : Int) = (n : Int)) := by omega
  have hw1 : IntKind.i64.wrap ((i : Int) + 1) = (i : Int) + 1 := by rw [IntKind.wrap_i64]; omega
  have hw2 : IntKind.i64.wrap ((n : Int) + 1) = (n : Int) + 1 := by rw [IntKind.wrap_i64]; omega
  have hb1 : (0 : Int) ≤ (i : Int) + 1 := by omega
  have hin : i ≤ n := by omega
  have htn : ((i : Int) + 1).toNat = i + 1 := by omega
  have hb2 : ¬ (c = i + 1) := by omega
  have hb3 : (i : Int) ≤ (n : Int) + 1 := by omega
  have hb4 : ¬ (c = i) := by omega
  go_enter Tryz.func92, Tryz.ntmps92
  go_wp2_with (simp only [hov])
  go_region_law (refine step_copy_runI rfl _ _ 47 47 rfl _ _ (by simp [Act.eval, Act.put]) (by simp [Act.eval, Act.put]) (hc1 _) ?_)
  go_wp2_with (at_builtin; refine wpList_copy_runI _ rfl _ _ 47 47 rfl _ _ rfl rfl (hc2 _) ?_)
  go_ret
  exact ⟨rfl, rfl⟩

set_option maxHeartbeats 4000000 in
set_option maxRecDepth 100000 in
theorem atEnd : InsEnd Tryz.prog 92 47 := by
  intro base n c vb m mc v' w W1 hnc hm hap
  have hz1 : ¬ ((m : Int) = 0) := by omega
  go_enter Tryz.func92, Tryz.ntmps92
  cases base with
  | none =>
    go_wp2_with (at_builtin; refine Lib.wpList_append_run _ rfl _ _ _ _ rfl _ _ rfl rfl _ _ hap ?_)
    go_ret
    exact ⟨rfl, rfl⟩
  | some a =>
    obtain ⟨ab, ao, asp⟩ := a
    go_wp2_with (at_builtin; refine Lib.wpList_append_run _ rfl _ _ _ _ rfl _ _ rfl rfl _ _ hap ?_)
    all_goals (go_ret; exact ⟨rfl, rfl⟩)

set_option maxHeartbeats 4000000 in
set_option maxRecDepth 100000 in
theorem grow : InsGrow Tryz.prog 92 47 3 3 := by
  intro g n c i vb mc g2 C W1 W2 W3 w hi hnc hroom hc63 hC hC63 hap hc1 hc2
  have hz2 : ¬ ((i : Int) = (n : Int)) := by omega
  have hz3 : (c : Int) < (n : Int) + 1 := by omega
  have hw1 : IntKind.i64.wrap ((i : Int) + 1) = (i : Int) + 1 := by rw [IntKind.wrap_i64]; omega
  have hw2 : IntKind.i64.wrap ((n : Int) + 1) = (n : Int) + 1 := by rw [IntKind.wrap_i64]; omega
  have hw3 : IntKind.i64.wrap ((n : Int) + 1 - (i : Int)) = (n : Int) + 1 - (i : Int) := by rw [IntKind.wrap_i64]; omega
  have hb1 : (0 : Int) ≤ (i : Int) + 1 := by omega
  have hin : i ≤ n := by omega
  have htn : ((i : Int) + 1).toNat = i + 1 := by omega
  have hb2 : ¬ (C = i + 1) := by omega
  have hb3 : (i : Int) ≤ (n : Int) := by omega
  have hb4 : ¬ (C = i) := by omega
  have hb5 : ¬ (c = i) := by omega
  have hb6 : (i : Int) ≤ (n : Int) + 1 := by omega
  go_enter Tryz.func92, Tryz.ntmps92
  go_wp2_with (first
    | (at_builtin; refine Lib.wpList_append_run _ rfl _ _ _ _ rfl _ _ rfl rfl _ _ (hap _) ?_)
    | (at_builtin; refine wpList_copy_runI _ rfl _ _ 47 47 rfl _ _ rfl rfl (hc1 _) ?_))
  go_region_law (refine step_copy_runI rfl _ _ 47 47 rfl _ _ (by simp [Act.eval, Act.put]) (by simp [Act.eval, Act.put]) (hc2 _) ?_)
  go_wp2
  go_ret
  exact ⟨rfl, rfl⟩

/-- slices.Insert of one element. -/
theorem ins_ok (xs : List (List FV)) (x : List FV) (i : Nat) (hin : i ≤ xs.length) (hn : xs.length + 1 ≤ 10000000) :
    ECalls Tryz.prog 92 [.v (.c (.row 0 xs.length)), .lit (.int .i64 i), .v (.c (.row 1 1))] [.row 124 3 xs, .row 124 3 [x]] fun y H' =>
      H' = [none, some (.row 124 3 [x]), some (.row 124 3 (xs.take i ++ x :: xs.drop i))] ∧ y = .v (.c (.row 2 (xs.length + 1))) := by
  obtain ⟨ti, z, E⟩ := elem
  exact ins_ecalls E (by kernel_rfl) shift atEnd grow fov xs x i hin (by omega) (by omega)

set_option maxHeartbeats 4000000 in
set_option maxRecDepth 100000 in
theorem del1 : DelOne Tryz.prog 167 47 3 := by
  intro g n c i j k A W1 W2 w hj hk hi hnc hc63 hA hap hcl
  have hz2 : ¬ ((i : Int) = (j : Int)) := by omega
  have hb1 : (i : Int) ≤ (j : Int) := by omega
  have hb2 : (j : Int) ≤ (n : Int) := by omega
  have hin : i ≤ n := by omega
  have hic : i ≤ c := by omega
  have hjc : j ≤ c := by omega
  have hb3 : (k : Int) ≤ (n : Int) := by omega
  have hb4 : ¬ (c = k) := by omega
  have hb5 : (n : Int) ≤ (c : Int) := by omega
  clear hj hk
  go_enter Tryz.func167, Tryz.ntmps167
  go_wp2_with fail
  go_region_law (refine step_append_runI rfl _ _ 47 47 rfl _ _ (by simp [Act.eval, Act.put]) (by simp [Act.eval, Act.put, hA]) (hap _) ?_)
  go_wp2
  go_ret
  exact ⟨rfl, rfl⟩

/-- slices.Delete of one element. -/
theorem del_ok (xs : List (List FV)) (i : Nat) (hin : i < xs.length) :
    ECalls Tryz.prog 167 [.v (.c (.row 0 xs.length)), .lit (.int .i64 i), .lit (.int .i64 ((i : Int) + 1))] [.row 124 3 xs] fun y H' =>
      H' = [none, some (.row 124 3 (xs.take i ++ xs.drop (i + 1)))] ∧ y = .v (.c (.row 1 (xs.length - 1))) := by
  obtain ⟨ti, z, E⟩ := elem
  exact del_ecalls E del1 xs i hin

end InsH
end Go.Proofs.YtejjhgdnmknejaaGreatDoor
