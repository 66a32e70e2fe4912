import Derived.Test.YtejjhgdnmknejaaGreatDoorAll7
import Derived.Test.YtejjhgdnmknejaaGreatDoorAll5
import Derived.Test.YtejjhgdnmknejaaGreatDoorProg
import Derived.Test.YtejjhgdnmknejaaGreatDoorAll4
import Derived.WalkKit
import Derived.LaidEql
import Derived.RowKitTokens
import Derived.Lib.AppendZeros
namespace Go.Proofs.YtejjhgdnmknejaaGreatDoor
open Go Go.EW
set_option linter.unusedSimpArgs false
set_option linter.unusedVariables false

@[simp] def l_LessI_1 (_ : Unit) : List EOp := [⟨0, (some 4), none, (.q (.mov (.k (.bool false)))), []⟩]
@[simp] def b_LessI_2 (_ : Unit) : EB := reg0 (hid l_LessI_1) 1
@[simp] def l_LessI_5 (_ : Unit) : List EOp := [⟨12, (some 4), none, (.q (.mov (.t 16))), []⟩]
@[simp] def l_LessI_4 (_ : Unit) : List EOp := ⟨6, (some 11), none, (.q (.pick (.t 7) (.t 10) (.k (.bool false)))), []⟩ :: ⟨7, (some 12), none, (.q (.mov (.t 11))), []⟩ :: ⟨8, (some 13), (some (12, false)), (.q (.mov (.t 0))), []⟩ :: ⟨9, (some 14), (some (12, false)), (.q (.mov (.t 1))), []⟩ :: ⟨10, (some 15), (some (12, false)), (.q (.bin .lss (.t 13) (.t 14))), []⟩ :: ⟨11, (some 16), none, (.q (.pick (.t 12) (.k (.bool true)) (.t 15))), []⟩ :: hid l_LessI_5
@[simp] def l_LessI_3 (_ : Unit) : List EOp := ⟨0, (some 5), none, (.q (.mov (.t 0))), []⟩ :: ⟨1, (some 6), none, (.call 190 [(.t 5)]), []⟩ :: ⟨2, (some 7), none, (.q (.mov (.t 6))), []⟩ :: ⟨3, (some 8), (some (7, true)), (.q (.mov (.t 1))), []⟩ :: ⟨4, (some 9), (some (7, true)), (.call 190 [(.t 8)]), []⟩ :: ⟨5, (some 10), (some (7, true)), (.q (.un .not (.t 9))), []⟩ :: hid l_LessI_4
@[simp] def b_LessI_6 (_ : Unit) : EB := reg0 (hid l_LessI_3) 13
@[simp] def b_LessI_7 (_ : Unit) : EB := .seq (hid b_LessI_6) .ret
@[simp] def b_LessI_8 (_ : Unit) : EB := .seq (hid b_LessI_2) (hid b_LessI_7)
def c_LessI : EB × List QOp × Nat := ((hid b_LessI_8), [(.mov (.t 4))], 17)
theorem k_LessI : cfun Tryz.prog 144 = some c_LessI := by kernel_rfl

@[simp] def l_InsI_1 (_ : Unit) : List EOp := [⟨0, (some 8), none, (.q (.mov (.t 1))), []⟩, ⟨1, (some 9), none, (.q (.bin .add (.t 8) (.k (.int .i64 1)))), []⟩, ⟨2, (some 6), none, (.q (.mov (.t 9))), []⟩]
@[simp] def b_InsI_2 (_ : Unit) : EB := reg0 (hid l_InsI_1) 3
@[simp] def l_InsI_3 (_ : Unit) : List EOp := [⟨0, (some 10), none, (.q (.mov (.t 6))), []⟩, ⟨1, (some 11), none, (.q (.mov (.t 2))), []⟩, ⟨2, (some 12), none, (.q (.bin .lss (.t 10) (.t 11))), []⟩]
@[simp] def b_InsI_4 (_ : Unit) : EB := reg0 (hid l_InsI_3) 3
@[simp] def b_InsI_5 (_ : Unit) : EB := .cond (.t 12) .skip (.exit 0)
@[simp] def b_InsI_6 (_ : Unit) : EB := .seq (hid b_InsI_4) (hid b_InsI_5)
@[simp] def l_InsI_7 (_ : Unit) : List EOp := [⟨0, (some 15), none, (.q (.mov (.t 6))), []⟩, ⟨1, (some 7), none, (.q (.mov (.t 15))), []⟩]
@[simp] def b_InsI_8 (_ : Unit) : EB := reg0 (hid l_InsI_7) 2
@[simp] def l_InsI_11 (_ : Unit) : List EOp := [⟨12, (some 28), (some (19, true)), (.q (.ldc (.t 27))), []⟩, ⟨13, (some 29), (some (19, true)), (.call 144 [(.t 23), (.t 28)]), []⟩, ⟨14, (some 30), none, (.q (.pick (.t 19) (.t 29) (.k (.bool false)))), []⟩]
@[simp] def l_InsI_10 (_ : Unit) : List EOp := ⟨6, (some 22), (some (19, true)), (.q (.isl 1 (.t 20) (.t 21))), []⟩ :: ⟨7, (some 23), (some (19, true)), (.q (.ldc (.t 22))), []⟩ :: ⟨8, (some 24), (some (19, true)), (.q (.mov (.t 0))), []⟩ :: ⟨9, (some 25), (some (19, true)), (.q (.mov (.t 7))), []⟩ :: ⟨10, (some 26), (some (19, true)), (.q (.bin .sub (.t 25) (.k (.int .i64 1)))), []⟩ :: ⟨11, (some 27), (some (19, true)), (.q (.isl 1 (.t 24) (.t 26))), []⟩ :: hid l_InsI_11
@[simp] def l_InsI_9 (_ : Unit) : List EOp := ⟨0, (some 16), none, (.q (.mov (.t 7))), []⟩ :: ⟨1, (some 17), none, (.q (.mov (.t 1))), []⟩ :: ⟨2, (some 18), none, (.q (.bin .gtr (.t 16) (.t 17))), []⟩ :: ⟨3, (some 19), none, (.q (.mov (.t 18))), []⟩ :: ⟨4, (some 20), (some (19, true)), (.q (.mov (.t 0))), []⟩ :: ⟨5, (some 21), (some (19, true)), (.q (.mov (.t 7))), []⟩ :: hid l_InsI_10
@[simp] def b_InsI_12 (_ : Unit) : EB := reg0 (hid l_InsI_9) 15
@[simp] def b_InsI_13 (_ : Unit) : EB := .cond (.t 30) .skip (.exit 2)
@[simp] def b_InsI_14 (_ : Unit) : EB := .seq (hid b_InsI_12) (hid b_InsI_13)
@[simp] def l_InsI_17 (_ : Unit) : List EOp := [⟨12, (some 45), none, (.q (.isl 1 (.t 43) (.t 44))), []⟩, ⟨13, (some 46), none, (.q (.ldc (.t 45))), []⟩, ⟨14, (some 47), none, (.q (.isl 1 (.t 33) (.t 34))), []⟩, ⟨15, none, none, (.sto 1 (.t 47) (.t 42)), [2, 3, 4]⟩, ⟨16, (some 48), none, (.q (.isl 1 (.t 35) (.t 37))), []⟩, ⟨17, none, none, (.sto 1 (.t 48) (.t 46)), []⟩]
@[simp] def l_InsI_16 (_ : Unit) : List EOp := ⟨6, (some 39), none, (.q (.mov (.t 7))), []⟩ :: ⟨7, (some 40), none, (.q (.bin .sub (.t 39) (.k (.int .i64 1)))), []⟩ :: ⟨8, (some 41), none, (.q (.isl 1 (.t 38) (.t 40))), []⟩ :: ⟨9, (some 42), none, (.q (.ldc (.t 41))), []⟩ :: ⟨10, (some 43), none, (.q (.mov (.t 0))), []⟩ :: ⟨11, (some 44), none, (.q (.mov (.t 7))), []⟩ :: hid l_InsI_17
@[simp] def l_InsI_15 (_ : Unit) : List EOp := ⟨0, (some 33), none, (.q (.mov (.t 0))), []⟩ :: ⟨1, (some 34), none, (.q (.mov (.t 7))), []⟩ :: ⟨2, (some 35), none, (.q (.mov (.t 0))), []⟩ :: ⟨3, (some 36), none, (.q (.mov (.t 7))), []⟩ :: ⟨4, (some 37), none, (.q (.bin .sub (.t 36) (.k (.int .i64 1)))), []⟩ :: ⟨5, (some 38), none, (.q (.mov (.t 0))), []⟩ :: hid l_InsI_16
@[simp] def b_InsI_18 (_ : Unit) : EB := reg1 (hid l_InsI_15) 18
@[simp] def b_InsI_19 (_ : Unit) : EB := .block 3 (hid b_InsI_18)
@[simp] def l_InsI_20 (_ : Unit) : List EOp := [⟨0, (some 31), none, (.q (.mov (.t 7))), []⟩, ⟨1, (some 32), none, (.q (.bin .sub (.t 31) (.k (.int .i64 1)))), []⟩, ⟨2, (some 7), none, (.q (.mov (.t 32))), []⟩]
@[simp] def b_InsI_21 (_ : Unit) : EB := reg0 (hid l_InsI_20) 3
@[simp] def b_InsI_22 (_ : Unit) : EB := .seq (hid b_InsI_19) (hid b_InsI_21)
@[simp] def b_InsI_23 (_ : Unit) : EB := .seq (hid b_InsI_14) (hid b_InsI_22)
@[simp] def b_InsI_24 (_ : Unit) : EB := .loop (hid b_InsI_23)
@[simp] def b_InsI_25 (_ : Unit) : EB := .block 2 (hid b_InsI_24)
@[simp] def b_InsI_26 (_ : Unit) : EB := .seq (hid b_InsI_8) (hid b_InsI_25)
@[simp] def b_InsI_27 (_ : Unit) : EB := .block 1 (hid b_InsI_26)
@[simp] def l_InsI_28 (_ : Unit) : List EOp := [⟨0, (some 13), none, (.q (.mov (.t 6))), []⟩, ⟨1, (some 14), none, (.q (.bin .add (.t 13) (.k (.int .i64 1)))), []⟩, ⟨2, (some 6), none, (.q (.mov (.t 14))), []⟩]
@[simp] def b_InsI_29 (_ : Unit) : EB := reg0 (hid l_InsI_28) 3
@[simp] def b_InsI_30 (_ : Unit) : EB := .seq (hid b_InsI_27) (hid b_InsI_29)
@[simp] def b_InsI_31 (_ : Unit) : EB := .seq (hid b_InsI_6) (hid b_InsI_30)
@[simp] def b_InsI_32 (_ : Unit) : EB := .loop (hid b_InsI_31)
@[simp] def b_InsI_33 (_ : Unit) : EB := .block 0 (hid b_InsI_32)
@[simp] def b_InsI_34 (_ : Unit) : EB := .seq (hid b_InsI_2) (hid b_InsI_33)
def c_InsI : EB × List QOp × Nat := ((hid b_InsI_34), [], 49)
theorem k_InsI : cfun Tryz.prog 180 = some c_InsI := by kernel_rfl

@[simp] def l_PdqI_1 (_ : Unit) : List EOp := [⟨0, (some 8), none, (.q (.mov (.k (.bool true)))), []⟩]
@[simp] def b_PdqI_2 (_ : Unit) : EB := reg0 (hid l_PdqI_1) 1
@[simp] def l_PdqI_3 (_ : Unit) : List EOp := [⟨0, (some 9), none, (.q (.mov (.k (.bool true)))), []⟩]
@[simp] def b_PdqI_4 (_ : Unit) : EB := reg0 (hid l_PdqI_3) 1
@[simp] def l_PdqI_5 (_ : Unit) : List EOp := [⟨0, (some 19), none, (.q (.mov (.t 2))), []⟩, ⟨1, (some 20), none, (.q (.mov (.t 1))), []⟩, ⟨2, (some 21), none, (.q (.bin .sub (.t 19) (.t 20))), []⟩, ⟨3, (some 10), none, (.q (.mov (.t 21))), []⟩]
@[simp] def b_PdqI_6 (_ : Unit) : EB := reg0 (hid l_PdqI_5) 4
@[simp] def l_PdqI_7 (_ : Unit) : List EOp := [⟨0, (some 22), none, (.q (.mov (.t 10))), []⟩, ⟨1, (some 23), none, (.q (.bin .leq (.t 22) (.k (.int .i64 12)))), []⟩]
@[simp] def b_PdqI_8 (_ : Unit) : EB := reg0 (hid l_PdqI_7) 2
@[simp] def l_PdqI_9 (_ : Unit) : List EOp := [⟨0, (some 24), none, (.q (.mov (.t 0))), []⟩, ⟨1, (some 25), none, (.q (.mov (.t 1))), []⟩, ⟨2, (some 26), none, (.q (.mov (.t 2))), []⟩, ⟨3, (some 27), none, (.call 180 [(.t 24), (.t 25), (.t 26)]), []⟩]
@[simp] def b_PdqI_10 (_ : Unit) : EB := reg0 (hid l_PdqI_9) 4
@[simp] def b_PdqI_11 (_ : Unit) : EB := .seq (hid b_PdqI_10) .ret
@[simp] def b_PdqI_12 (_ : Unit) : EB := .cond (.t 23) (hid b_PdqI_11) .skip
@[simp] def b_PdqI_13 (_ : Unit) : EB := .seq (hid b_PdqI_8) (hid b_PdqI_12)
@[simp] def l_PdqI_14 (_ : Unit) : List EOp := [⟨0, (some 28), none, (.q (.mov (.t 3))), []⟩, ⟨1, (some 29), none, (.q (.bin .eql (.t 28) (.k (.int .i64 0)))), []⟩]
@[simp] def b_PdqI_15 (_ : Unit) : EB := reg0 (hid l_PdqI_14) 2
@[simp] def l_PdqI_16 (_ : Unit) : List EOp := [⟨0, (some 30), none, (.q (.mov (.t 0))), []⟩, ⟨1, (some 31), none, (.q (.mov (.t 1))), []⟩, ⟨2, (some 32), none, (.q (.mov (.t 2))), []⟩, ⟨3, (some 33), none, (.call 181 [(.t 30), (.t 31), (.t 32)]), []⟩]
@[simp] def b_PdqI_17 (_ : Unit) : EB := reg0 (hid l_PdqI_16) 4
@[simp] def b_PdqI_18 (_ : Unit) : EB := .seq (hid b_PdqI_17) .ret
@[simp] def b_PdqI_19 (_ : Unit) : EB := .cond (.t 29) (hid b_PdqI_18) .skip
@[simp] def b_PdqI_20 (_ : Unit) : EB := .seq (hid b_PdqI_15) (hid b_PdqI_19)
@[simp] def l_PdqI_21 (_ : Unit) : List EOp := [⟨0, (some 34), none, (.q (.mov (.t 8))), []⟩, ⟨1, (some 35), none, (.q (.un .not (.t 34))), []⟩]
@[simp] def b_PdqI_22 (_ : Unit) : EB := reg0 (hid l_PdqI_21) 2
@[simp] def l_PdqI_23 (_ : Unit) : List EOp := [⟨0, (some 36), none, (.q (.mov (.t 0))), []⟩, ⟨1, (some 37), none, (.q (.mov (.t 1))), []⟩, ⟨2, (some 38), none, (.q (.mov (.t 2))), []⟩, ⟨3, (some 39), none, (.call 182 [(.t 36), (.t 37), (.t 38)]), []⟩]
@[simp] def b_PdqI_24 (_ : Unit) : EB := reg0 (hid l_PdqI_23) 4
@[simp] def l_PdqI_25 (_ : Unit) : List EOp := [⟨0, (some 40), none, (.q (.mov (.t 3))), []⟩, ⟨1, (some 41), none, (.q (.bin .sub (.t 40) (.k (.int .i64 1)))), []⟩, ⟨2, (some 3), none, (.q (.mov (.t 41))), []⟩]
@[simp] def b_PdqI_26 (_ : Unit) : EB := reg0 (hid l_PdqI_25) 3
@[simp] def b_PdqI_27 (_ : Unit) : EB := .seq (hid b_PdqI_24) (hid b_PdqI_26)
@[simp] def b_PdqI_28 (_ : Unit) : EB := .cond (.t 35) (hid b_PdqI_27) .skip
@[simp] def b_PdqI_29 (_ : Unit) : EB := .seq (hid b_PdqI_22) (hid b_PdqI_28)
@[simp] def l_PdqI_31 (_ : Unit) : List EOp := [⟨6, (some 48), none, (.q (.ext 1 (.t 42))), []⟩, ⟨7, (some 11), none, (.q (.mov (.t 47))), []⟩, ⟨8, (some 12), none, (.q (.mov (.t 48))), []⟩]
@[simp] def l_PdqI_30 (_ : Unit) : List EOp := ⟨0, (some 43), none, (.q (.mov (.t 0))), []⟩ :: ⟨1, (some 44), none, (.q (.mov (.t 1))), []⟩ :: ⟨2, (some 45), none, (.q (.mov (.t 2))), []⟩ :: ⟨3, (some 46), none, (.call 183 [(.t 43), (.t 44), (.t 45)]), []⟩ :: ⟨4, (some 42), none, (.q (.mov (.t 46))), []⟩ :: ⟨5, (some 47), none, (.q (.ext 0 (.t 42))), []⟩ :: hid l_PdqI_31
@[simp] def b_PdqI_32 (_ : Unit) : EB := reg0 (hid l_PdqI_30) 9
@[simp] def l_PdqI_33 (_ : Unit) : List EOp := [⟨0, (some 49), none, (.q (.mov (.t 12))), []⟩, ⟨1, (some 50), none, (.q (.bin .eql (.t 49) (.k (.int .i64 2)))), []⟩]
@[simp] def b_PdqI_34 (_ : Unit) : EB := reg0 (hid l_PdqI_33) 2
@[simp] def l_PdqI_35 (_ : Unit) : List EOp := [⟨0, (some 51), none, (.q (.mov (.t 0))), []⟩, ⟨1, (some 52), none, (.q (.mov (.t 1))), []⟩, ⟨2, (some 53), none, (.q (.mov (.t 2))), []⟩, ⟨3, (some 54), none, (.call 184 [(.t 51), (.t 52), (.t 53)]), []⟩]
@[simp] def b_PdqI_36 (_ : Unit) : EB := reg0 (hid l_PdqI_35) 4
@[simp] def l_PdqI_38 (_ : Unit) : List EOp := [⟨6, (some 11), none, (.q (.mov (.t 60))), []⟩]
@[simp] def l_PdqI_37 (_ : Unit) : List EOp := ⟨0, (some 55), none, (.q (.mov (.t 2))), []⟩ :: ⟨1, (some 56), none, (.q (.bin .sub (.t 55) (.k (.int .i64 1)))), []⟩ :: ⟨2, (some 57), none, (.q (.mov (.t 11))), []⟩ :: ⟨3, (some 58), none, (.q (.mov (.t 1))), []⟩ :: ⟨4, (some 59), none, (.q (.bin .sub (.t 57) (.t 58))), []⟩ :: ⟨5, (some 60), none, (.q (.bin .sub (.t 56) (.t 59))), []⟩ :: hid l_PdqI_38
@[simp] def b_PdqI_39 (_ : Unit) : EB := reg0 (hid l_PdqI_37) 7
@[simp] def l_PdqI_40 (_ : Unit) : List EOp := [⟨0, (some 12), none, (.q (.mov (.k (.int .i64 1)))), []⟩]
@[simp] def b_PdqI_41 (_ : Unit) : EB := reg0 (hid l_PdqI_40) 1
@[simp] def b_PdqI_42 (_ : Unit) : EB := .seq (hid b_PdqI_39) (hid b_PdqI_41)
@[simp] def b_PdqI_43 (_ : Unit) : EB := .seq (hid b_PdqI_36) (hid b_PdqI_42)
@[simp] def b_PdqI_44 (_ : Unit) : EB := .cond (.t 50) (hid b_PdqI_43) .skip
@[simp] def b_PdqI_45 (_ : Unit) : EB := .seq (hid b_PdqI_34) (hid b_PdqI_44)
@[simp] def l_PdqI_47 (_ : Unit) : List EOp := [⟨6, (some 67), (some (65, true)), (.q (.bin .eql (.t 66) (.k (.int .i64 1)))), []⟩, ⟨7, (some 68), none, (.q (.pick (.t 65) (.t 67) (.k (.bool false)))), []⟩]
@[simp] def l_PdqI_46 (_ : Unit) : List EOp := ⟨0, (some 61), none, (.q (.mov (.t 8))), []⟩ :: ⟨1, (some 62), none, (.q (.mov (.t 61))), []⟩ :: ⟨2, (some 63), (some (62, true)), (.q (.mov (.t 9))), []⟩ :: ⟨3, (some 64), none, (.q (.pick (.t 62) (.t 63) (.k (.bool false)))), []⟩ :: ⟨4, (some 65), none, (.q (.mov (.t 64))), []⟩ :: ⟨5, (some 66), (some (65, true)), (.q (.mov (.t 12))), []⟩ :: hid l_PdqI_47
@[simp] def b_PdqI_48 (_ : Unit) : EB := reg0 (hid l_PdqI_46) 8
@[simp] def l_PdqI_49 (_ : Unit) : List EOp := [⟨0, (some 69), none, (.q (.mov (.t 0))), []⟩, ⟨1, (some 70), none, (.q (.mov (.t 1))), []⟩, ⟨2, (some 71), none, (.q (.mov (.t 2))), []⟩, ⟨3, (some 72), none, (.call 185 [(.t 69), (.t 70), (.t 71)]), []⟩]
@[simp] def b_PdqI_50 (_ : Unit) : EB := reg0 (hid l_PdqI_49) 4
@[simp] def b_PdqI_51 (_ : Unit) : EB := .cond (.t 72) .ret .skip
@[simp] def b_PdqI_52 (_ : Unit) : EB := .seq (hid b_PdqI_50) (hid b_PdqI_51)
@[simp] def b_PdqI_53 (_ : Unit) : EB := .cond (.t 68) (hid b_PdqI_52) .skip
@[simp] def b_PdqI_54 (_ : Unit) : EB := .seq (hid b_PdqI_48) (hid b_PdqI_53)
@[simp] def l_PdqI_57 (_ : Unit) : List EOp := [⟨12, (some 85), (some (75, true)), (.call 144 [(.t 80), (.t 84)]), []⟩, ⟨13, (some 86), (some (75, true)), (.q (.un .not (.t 85))), []⟩, ⟨14, (some 87), none, (.q (.pick (.t 75) (.t 86) (.k (.bool false)))), []⟩]
@[simp] def l_PdqI_56 (_ : Unit) : List EOp := ⟨6, (some 79), (some (75, true)), (.q (.isl 1 (.t 76) (.t 78))), []⟩ :: ⟨7, (some 80), (some (75, true)), (.q (.ldc (.t 79))), []⟩ :: ⟨8, (some 81), (some (75, true)), (.q (.mov (.t 0))), []⟩ :: ⟨9, (some 82), (some (75, true)), (.q (.mov (.t 11))), []⟩ :: ⟨10, (some 83), (some (75, true)), (.q (.isl 1 (.t 81) (.t 82))), []⟩ :: ⟨11, (some 84), (some (75, true)), (.q (.ldc (.t 83))), []⟩ :: hid l_PdqI_57
@[simp] def l_PdqI_55 (_ : Unit) : List EOp := ⟨0, (some 73), none, (.q (.mov (.t 1))), []⟩ :: ⟨1, (some 74), none, (.q (.bin .gtr (.t 73) (.k (.int .i64 0)))), []⟩ :: ⟨2, (some 75), none, (.q (.mov (.t 74))), []⟩ :: ⟨3, (some 76), (some (75, true)), (.q (.mov (.t 0))), []⟩ :: ⟨4, (some 77), (some (75, true)), (.q (.mov (.t 1))), []⟩ :: ⟨5, (some 78), (some (75, true)), (.q (.bin .sub (.t 77) (.k (.int .i64 1)))), []⟩ :: hid l_PdqI_56
@[simp] def b_PdqI_58 (_ : Unit) : EB := reg0 (hid l_PdqI_55) 15
@[simp] def l_PdqI_59 (_ : Unit) : List EOp := [⟨0, (some 88), none, (.q (.mov (.t 0))), []⟩, ⟨1, (some 89), none, (.q (.mov (.t 1))), []⟩, ⟨2, (some 90), none, (.q (.mov (.t 2))), []⟩, ⟨3, (some 91), none, (.q (.mov (.t 11))), []⟩, ⟨4, (some 92), none, (.call 186 [(.t 88), (.t 89), (.t 90), (.t 91)]), []⟩, ⟨5, (some 13), none, (.q (.mov (.t 92))), []⟩]
@[simp] def b_PdqI_60 (_ : Unit) : EB := reg0 (hid l_PdqI_59) 6
@[simp] def l_PdqI_61 (_ : Unit) : List EOp := [⟨0, (some 93), none, (.q (.mov (.t 13))), []⟩, ⟨1, (some 1), none, (.q (.mov (.t 93))), []⟩]
@[simp] def b_PdqI_62 (_ : Unit) : EB := reg0 (hid l_PdqI_61) 2
@[simp] def b_PdqI_63 (_ : Unit) : EB := .seq (hid b_PdqI_62) (.exit 1)
@[simp] def b_PdqI_64 (_ : Unit) : EB := .seq (hid b_PdqI_60) (hid b_PdqI_63)
@[simp] def b_PdqI_65 (_ : Unit) : EB := .cond (.t 87) (hid b_PdqI_64) .skip
@[simp] def b_PdqI_66 (_ : Unit) : EB := .seq (hid b_PdqI_58) (hid b_PdqI_65)
@[simp] def l_PdqI_68 (_ : Unit) : List EOp := [⟨6, (some 100), none, (.q (.ext 0 (.t 94))), []⟩, ⟨7, (some 101), none, (.q (.ext 1 (.t 94))), []⟩, ⟨8, (some 14), none, (.q (.mov (.t 100))), []⟩, ⟨9, (some 15), none, (.q (.mov (.t 101))), []⟩]
@[simp] def l_PdqI_67 (_ : Unit) : List EOp := ⟨0, (some 95), none, (.q (.mov (.t 0))), []⟩ :: ⟨1, (some 96), none, (.q (.mov (.t 1))), []⟩ :: ⟨2, (some 97), none, (.q (.mov (.t 2))), []⟩ :: ⟨3, (some 98), none, (.q (.mov (.t 11))), []⟩ :: ⟨4, (some 99), none, (.call 187 [(.t 95), (.t 96), (.t 97), (.t 98)]), []⟩ :: ⟨5, (some 94), none, (.q (.mov (.t 99))), []⟩ :: hid l_PdqI_68
@[simp] def b_PdqI_69 (_ : Unit) : EB := reg0 (hid l_PdqI_67) 10
@[simp] def l_PdqI_70 (_ : Unit) : List EOp := [⟨0, (some 102), none, (.q (.mov (.t 15))), []⟩, ⟨1, (some 9), none, (.q (.mov (.t 102))), []⟩]
@[simp] def b_PdqI_71 (_ : Unit) : EB := reg0 (hid l_PdqI_70) 2
@[simp] def l_PdqI_73 (_ : Unit) : List EOp := [⟨6, (some 16), none, (.q (.mov (.t 105))), []⟩, ⟨7, (some 17), none, (.q (.mov (.t 108))), []⟩]
@[simp] def l_PdqI_72 (_ : Unit) : List EOp := ⟨0, (some 103), none, (.q (.mov (.t 14))), []⟩ :: ⟨1, (some 104), none, (.q (.mov (.t 1))), []⟩ :: ⟨2, (some 105), none, (.q (.bin .sub (.t 103) (.t 104))), []⟩ :: ⟨3, (some 106), none, (.q (.mov (.t 2))), []⟩ :: ⟨4, (some 107), none, (.q (.mov (.t 14))), []⟩ :: ⟨5, (some 108), none, (.q (.bin .sub (.t 106) (.t 107))), []⟩ :: hid l_PdqI_73
@[simp] def b_PdqI_74 (_ : Unit) : EB := reg0 (hid l_PdqI_72) 8
@[simp] def l_PdqI_75 (_ : Unit) : List EOp := [⟨0, (some 109), none, (.q (.mov (.t 10))), []⟩, ⟨1, (some 110), none, (.q (.bin .quo (.t 109) (.k (.int .i64 8)))), []⟩, ⟨2, (some 18), none, (.q (.mov (.t 110))), []⟩]
@[simp] def b_PdqI_76 (_ : Unit) : EB := reg0 (hid l_PdqI_75) 3
@[simp] def l_PdqI_77 (_ : Unit) : List EOp := [⟨0, (some 111), none, (.q (.mov (.t 16))), []⟩, ⟨1, (some 112), none, (.q (.mov (.t 17))), []⟩, ⟨2, (some 113), none, (.q (.bin .lss (.t 111) (.t 112))), []⟩]
@[simp] def b_PdqI_78 (_ : Unit) : EB := reg0 (hid l_PdqI_77) 3
@[simp] def l_PdqI_79 (_ : Unit) : List EOp := [⟨0, (some 114), none, (.q (.mov (.t 16))), []⟩, ⟨1, (some 115), none, (.q (.mov (.t 18))), []⟩, ⟨2, (some 116), none, (.q (.bin .geq (.t 114) (.t 115))), []⟩, ⟨3, (some 8), none, (.q (.mov (.t 116))), []⟩]
@[simp] def b_PdqI_80 (_ : Unit) : EB := reg0 (hid l_PdqI_79) 4
@[simp] def l_PdqI_81 (_ : Unit) : List EOp := [⟨0, (some 117), none, (.q (.mov (.t 0))), []⟩, ⟨1, (some 118), none, (.q (.mov (.t 1))), []⟩, ⟨2, (some 119), none, (.q (.mov (.t 14))), []⟩, ⟨3, (some 120), none, (.q (.mov (.t 3))), []⟩, ⟨4, (some 121), none, (.call 142 [(.t 117), (.t 118), (.t 119), (.t 120)]), []⟩]
@[simp] def b_PdqI_82 (_ : Unit) : EB := reg0 (hid l_PdqI_81) 5
@[simp] def l_PdqI_83 (_ : Unit) : List EOp := [⟨0, (some 122), none, (.q (.mov (.t 14))), []⟩, ⟨1, (some 123), none, (.q (.bin .add (.t 122) (.k (.int .i64 1)))), []⟩, ⟨2, (some 1), none, (.q (.mov (.t 123))), []⟩]
@[simp] def b_PdqI_84 (_ : Unit) : EB := reg0 (hid l_PdqI_83) 3
@[simp] def b_PdqI_85 (_ : Unit) : EB := .seq (hid b_PdqI_82) (hid b_PdqI_84)
@[simp] def b_PdqI_86 (_ : Unit) : EB := .seq (hid b_PdqI_80) (hid b_PdqI_85)
@[simp] def l_PdqI_87 (_ : Unit) : List EOp := [⟨0, (some 124), none, (.q (.mov (.t 17))), []⟩, ⟨1, (some 125), none, (.q (.mov (.t 18))), []⟩, ⟨2, (some 126), none, (.q (.bin .geq (.t 124) (.t 125))), []⟩, ⟨3, (some 8), none, (.q (.mov (.t 126))), []⟩]
@[simp] def b_PdqI_88 (_ : Unit) : EB := reg0 (hid l_PdqI_87) 4
@[simp] def l_PdqI_89 (_ : Unit) : List EOp := [⟨0, (some 127), none, (.q (.mov (.t 0))), []⟩, ⟨1, (some 128), none, (.q (.mov (.t 14))), []⟩, ⟨2, (some 129), none, (.q (.bin .add (.t 128) (.k (.int .i64 1)))), []⟩, ⟨3, (some 130), none, (.q (.mov (.t 2))), []⟩, ⟨4, (some 131), none, (.q (.mov (.t 3))), []⟩, ⟨5, (some 132), none, (.call 142 [(.t 127), (.t 129), (.t 130), (.t 131)]), []⟩]
@[simp] def b_PdqI_90 (_ : Unit) : EB := reg0 (hid l_PdqI_89) 6
@[simp] def l_PdqI_91 (_ : Unit) : List EOp := [⟨0, (some 133), none, (.q (.mov (.t 14))), []⟩, ⟨1, (some 2), none, (.q (.mov (.t 133))), []⟩]
@[simp] def b_PdqI_92 (_ : Unit) : EB := reg0 (hid l_PdqI_91) 2
@[simp] def b_PdqI_93 (_ : Unit) : EB := .seq (hid b_PdqI_90) (hid b_PdqI_92)
@[simp] def b_PdqI_94 (_ : Unit) : EB := .seq (hid b_PdqI_88) (hid b_PdqI_93)
@[simp] def b_PdqI_95 (_ : Unit) : EB := .cond (.t 113) (hid b_PdqI_86) (hid b_PdqI_94)
@[simp] def b_PdqI_96 (_ : Unit) : EB := .seq (hid b_PdqI_78) (hid b_PdqI_95)
@[simp] def b_PdqI_97 (_ : Unit) : EB := .seq (hid b_PdqI_76) (hid b_PdqI_96)
@[simp] def b_PdqI_98 (_ : Unit) : EB := .seq (hid b_PdqI_74) (hid b_PdqI_97)
@[simp] def b_PdqI_99 (_ : Unit) : EB := .seq (hid b_PdqI_71) (hid b_PdqI_98)
@[simp] def b_PdqI_100 (_ : Unit) : EB := .seq (hid b_PdqI_69) (hid b_PdqI_99)
@[simp] def b_PdqI_101 (_ : Unit) : EB := .seq (hid b_PdqI_66) (hid b_PdqI_100)
@[simp] def b_PdqI_102 (_ : Unit) : EB := .seq (hid b_PdqI_54) (hid b_PdqI_101)
@[simp] def b_PdqI_103 (_ : Unit) : EB := .seq (hid b_PdqI_45) (hid b_PdqI_102)
@[simp] def b_PdqI_104 (_ : Unit) : EB := .seq (hid b_PdqI_32) (hid b_PdqI_103)
@[simp] def b_PdqI_105 (_ : Unit) : EB := .seq (hid b_PdqI_29) (hid b_PdqI_104)
@[simp] def b_PdqI_106 (_ : Unit) : EB := .seq (hid b_PdqI_20) (hid b_PdqI_105)
@[simp] def b_PdqI_107 (_ : Unit) : EB := .seq (hid b_PdqI_13) (hid b_PdqI_106)
@[simp] def b_PdqI_108 (_ : Unit) : EB := .seq (hid b_PdqI_6) (hid b_PdqI_107)
@[simp] def b_PdqI_109 (_ : Unit) : EB := .block 1 (hid b_PdqI_108)
@[simp] def b_PdqI_110 (_ : Unit) : EB := .loop (hid b_PdqI_109)
@[simp] def b_PdqI_111 (_ : Unit) : EB := .block 0 (hid b_PdqI_110)
@[simp] def b_PdqI_112 (_ : Unit) : EB := .seq (hid b_PdqI_4) (hid b_PdqI_111)
@[simp] def b_PdqI_113 (_ : Unit) : EB := .seq (hid b_PdqI_2) (hid b_PdqI_112)
def c_PdqI : EB × List QOp × Nat := ((hid b_PdqI_113), [], 134)
theorem k_PdqI : cfun Tryz.prog 142 = some c_PdqI := by kernel_rfl

@[simp] def l_LenB_1 (_ : Unit) : List EOp := [⟨0, (some 2), none, (.q (.mov (.k (.int .i64 0)))), []⟩]
@[simp] def b_LenB_2 (_ : Unit) : EB := reg0 (hid l_LenB_1) 1
@[simp] def l_LenB_3 (_ : Unit) : List EOp := [⟨0, (some 3), none, (.q (.mov (.t 0))), []⟩, ⟨1, (some 4), none, (.q (.cnv .u32 (.t 3))), []⟩, ⟨2, (some 5), none, (.call 188 [(.t 4)]), []⟩, ⟨3, (some 2), none, (.q (.mov (.t 5))), []⟩]
@[simp] def b_LenB_4 (_ : Unit) : EB := reg0 (hid l_LenB_3) 4
@[simp] def b_LenB_5 (_ : Unit) : EB := .seq (hid b_LenB_4) .ret
@[simp] def b_LenB_6 (_ : Unit) : EB := .cond (.k (.bool false)) (hid b_LenB_5) .skip
@[simp] def l_LenB_7 (_ : Unit) : List EOp := [⟨0, (some 6), none, (.q (.mov (.t 0))), []⟩, ⟨1, (some 7), none, (.call 189 [(.t 6)]), []⟩, ⟨2, (some 2), none, (.q (.mov (.t 7))), []⟩]
@[simp] def b_LenB_8 (_ : Unit) : EB := reg0 (hid l_LenB_7) 3
@[simp] def b_LenB_9 (_ : Unit) : EB := .seq (hid b_LenB_8) .ret
@[simp] def b_LenB_10 (_ : Unit) : EB := .seq (hid b_LenB_6) (hid b_LenB_9)
@[simp] def b_LenB_11 (_ : Unit) : EB := .seq (hid b_LenB_2) (hid b_LenB_10)
def c_LenB : EB × List QOp × Nat := ((hid b_LenB_11), [(.mov (.t 2))], 8)
theorem k_LenB : cfun Tryz.prog 143 = some c_LenB := by kernel_rfl

def s_LenB64_0 : ByteArray := ⟨#[0, 1, 2, 2, 3, 3, 3, 3, 4, 4, 4, 4, 4, 4, 4, 4, 5, 5, 5, 5, 5, 5, 5, 5, 5, 5, 5, 5, 5, 5, 5, 5, 6, 6, 6, 6, 6, 6, 6, 6, 6, 6, 6, 6, 6, 6, 6, 6, 6, 6, 6, 6, 6, 6, 6, 6, 6, 6, 6, 6, 6, 6, 6, 6, 7, 7, 7, 7, 7, 7, 7, 7, 7, 7, 7, 7, 7, 7, 7, 7, 7, 7, 7, 7, 7, 7, 7, 7, 7, 7, 7, 7, 7, 7, 7, 7, 7, 7, 7, 7, 7, 7, 7, 7, 7, 7, 7, 7, 7, 7, 7, 7, 7, 7, 7, 7, 7, 7, 7, 7, 7, 7, 7, 7, 7, 7, 7, 7, 8, 8, 8, 8, 8, 8, 8, 8, 8, 8, 8, 8, 8, 8, 8, 8, 8, 8, 8, 8, 8, 8, 8, 8, 8, 8, 8, 8, 8, 8, 8, 8, 8, 8, 8, 8, 8, 8, 8, 8, 8, 8, 8, 8, 8, 8, 8, 8, 8, 8, 8, 8, 8, 8, 8, 8, 8, 8, 8, 8, 8, 8, 8, 8, 8, 8, 8, 8, 8, 8, 8, 8, 8, 8, 8, 8, 8, 8, 8, 8, 8, 8, 8, 8, 8, 8, 8, 8, 8, 8, 8, 8, 8, 8, 8, 8, 8, 8, 8, 8, 8, 8, 8, 8, 8, 8, 8, 8, 8, 8, 8, 8, 8, 8, 8, 8, 8, 8, 8, 8, 8, 8, 8, 8, 8, 8, 8, 8]⟩
@[simp] def l_LenB64_1 (_ : Unit) : List EOp := [⟨0, (some 2), none, (.q (.mov (.k (.int .i64 0)))), []⟩]
@[simp] def b_LenB64_2 (_ : Unit) : EB := reg0 (hid l_LenB64_1) 1
@[simp] def l_LenB64_3 (_ : Unit) : List EOp := [⟨0, (some 3), none, (.q (.mov (.t 0))), []⟩, ⟨1, (some 4), none, (.q (.bin .geq (.t 3) (.k (.int .u64 4294967296)))), []⟩]
@[simp] def b_LenB64_4 (_ : Unit) : EB := reg0 (hid l_LenB64_3) 2
@[simp] def l_LenB64_5 (_ : Unit) : List EOp := [⟨0, (some 5), none, (.q (.mov (.t 0))), []⟩, ⟨1, (some 6), none, (.q (.bin .shr (.t 5) (.k (.int .u64 32)))), []⟩, ⟨2, (some 0), none, (.q (.mov (.t 6))), []⟩]
@[simp] def b_LenB64_6 (_ : Unit) : EB := reg0 (hid l_LenB64_5) 3
@[simp] def l_LenB64_7 (_ : Unit) : List EOp := [⟨0, (some 2), none, (.q (.mov (.k (.int .i64 32)))), []⟩]
@[simp] def b_LenB64_8 (_ : Unit) : EB := reg0 (hid l_LenB64_7) 1
@[simp] def b_LenB64_9 (_ : Unit) : EB := .seq (hid b_LenB64_6) (hid b_LenB64_8)
@[simp] def b_LenB64_10 (_ : Unit) : EB := .cond (.t 4) (hid b_LenB64_9) .skip
@[simp] def b_LenB64_11 (_ : Unit) : EB := .seq (hid b_LenB64_4) (hid b_LenB64_10)
@[simp] def l_LenB64_12 (_ : Unit) : List EOp := [⟨0, (some 7), none, (.q (.mov (.t 0))), []⟩, ⟨1, (some 8), none, (.q (.bin .geq (.t 7) (.k (.int .u64 65536)))), []⟩]
@[simp] def b_LenB64_13 (_ : Unit) : EB := reg0 (hid l_LenB64_12) 2
@[simp] def l_LenB64_14 (_ : Unit) : List EOp := [⟨0, (some 9), none, (.q (.mov (.t 0))), []⟩, ⟨1, (some 10), none, (.q (.bin .shr (.t 9) (.k (.int .u64 16)))), []⟩, ⟨2, (some 0), none, (.q (.mov (.t 10))), []⟩]
@[simp] def b_LenB64_15 (_ : Unit) : EB := reg0 (hid l_LenB64_14) 3
@[simp] def l_LenB64_16 (_ : Unit) : List EOp := [⟨0, (some 11), none, (.q (.mov (.t 2))), []⟩, ⟨1, (some 12), none, (.q (.bin .add (.t 11) (.k (.int .i64 16)))), []⟩, ⟨2, (some 2), none, (.q (.mov (.t 12))), []⟩]
@[simp] def b_LenB64_17 (_ : Unit) : EB := reg0 (hid l_LenB64_16) 3
@[simp] def b_LenB64_18 (_ : Unit) : EB := .seq (hid b_LenB64_15) (hid b_LenB64_17)
@[simp] def b_LenB64_19 (_ : Unit) : EB := .cond (.t 8) (hid b_LenB64_18) .skip
@[simp] def b_LenB64_20 (_ : Unit) : EB := .seq (hid b_LenB64_13) (hid b_LenB64_19)
@[simp] def l_LenB64_21 (_ : Unit) : List EOp := [⟨0, (some 13), none, (.q (.mov (.t 0))), []⟩, ⟨1, (some 14), none, (.q (.bin .geq (.t 13) (.k (.int .u64 256)))), []⟩]
@[simp] def b_LenB64_22 (_ : Unit) : EB := reg0 (hid l_LenB64_21) 2
@[simp] def l_LenB64_23 (_ : Unit) : List EOp := [⟨0, (some 15), none, (.q (.mov (.t 0))), []⟩, ⟨1, (some 16), none, (.q (.bin .shr (.t 15) (.k (.int .u64 8)))), []⟩, ⟨2, (some 0), none, (.q (.mov (.t 16))), []⟩]
@[simp] def b_LenB64_24 (_ : Unit) : EB := reg0 (hid l_LenB64_23) 3
@[simp] def l_LenB64_25 (_ : Unit) : List EOp := [⟨0, (some 17), none, (.q (.mov (.t 2))), []⟩, ⟨1, (some 18), none, (.q (.bin .add (.t 17) (.k (.int .i64 8)))), []⟩, ⟨2, (some 2), none, (.q (.mov (.t 18))), []⟩]
@[simp] def b_LenB64_26 (_ : Unit) : EB := reg0 (hid l_LenB64_25) 3
@[simp] def b_LenB64_27 (_ : Unit) : EB := .seq (hid b_LenB64_24) (hid b_LenB64_26)
@[simp] def b_LenB64_28 (_ : Unit) : EB := .cond (.t 14) (hid b_LenB64_27) .skip
@[simp] def b_LenB64_29 (_ : Unit) : EB := .seq (hid b_LenB64_22) (hid b_LenB64_28)
@[simp] def l_LenB64_31 (_ : Unit) : List EOp := [⟨6, (some 2), none, (.q (.mov (.t 24))), []⟩]
@[simp] def l_LenB64_30 (_ : Unit) : List EOp := ⟨0, (some 19), none, (.q (.mov (.t 2))), []⟩ :: ⟨1, (some 20), none, (.q (.mov (.t 0))), []⟩ :: ⟨2, (some 21), none, (.q (.cnv .u8 (.t 20))), []⟩ :: ⟨3, (some 22), none, (.q (.ixs (.k (.string s_LenB64_0)) (.t 21))), []⟩ :: ⟨4, (some 23), none, (.q (.cnv .i64 (.t 22))), []⟩ :: ⟨5, (some 24), none, (.q (.bin .add (.t 19) (.t 23))), []⟩ :: hid l_LenB64_31
@[simp] def b_LenB64_32 (_ : Unit) : EB := reg0 (hid l_LenB64_30) 7
@[simp] def b_LenB64_33 (_ : Unit) : EB := .seq (hid b_LenB64_32) .ret
@[simp] def b_LenB64_34 (_ : Unit) : EB := .seq (hid b_LenB64_29) (hid b_LenB64_33)
@[simp] def b_LenB64_35 (_ : Unit) : EB := .seq (hid b_LenB64_20) (hid b_LenB64_34)
@[simp] def b_LenB64_36 (_ : Unit) : EB := .seq (hid b_LenB64_11) (hid b_LenB64_35)
@[simp] def b_LenB64_37 (_ : Unit) : EB := .seq (hid b_LenB64_2) (hid b_LenB64_36)
def c_LenB64 : EB × List QOp × Nat := ((hid b_LenB64_37), [(.mov (.t 2))], 25)
theorem k_LenB64 : cfun Tryz.prog 189 = some c_LenB64 := by kernel_rfl

@[simp] def l_SortI_1 (_ : Unit) : List EOp := [⟨0, (some 3), none, (.q (.mov (.t 0))), []⟩, ⟨1, (some 4), none, (.q (.len (.t 3))), []⟩, ⟨2, (some 2), none, (.q (.mov (.t 4))), []⟩]
@[simp] def b_SortI_2 (_ : Unit) : EB := reg0 (hid l_SortI_1) 3
@[simp] def l_SortI_3 (_ : Unit) : List EOp := [⟨0, (some 5), none, (.q (.mov (.t 0))), []⟩, ⟨1, (some 6), none, (.q (.mov (.t 2))), []⟩, ⟨2, (some 7), none, (.q (.mov (.t 2))), []⟩, ⟨3, (some 8), none, (.q (.cnv .u64 (.t 7))), []⟩, ⟨4, (some 9), none, (.call 143 [(.t 8)]), []⟩, ⟨5, (some 10), none, (.call 142 [(.t 5), (.k (.int .i64 0)), (.t 6), (.t 9)]), []⟩]
@[simp] def b_SortI_4 (_ : Unit) : EB := reg0 (hid l_SortI_3) 6
@[simp] def b_SortI_5 (_ : Unit) : EB := .seq (hid b_SortI_2) (hid b_SortI_4)
def c_SortI : EB × List QOp × Nat := ((hid b_SortI_5), [], 11)
theorem k_SortI : cfun Tryz.prog 77 = some c_SortI := by kernel_rfl


/-! ### three numbers, sorted -/
theorem LessI_ok (a b : Int) : ECalls Tryz.prog 144 [I .i64 a, I .i64 b] [] fun y H' => H' = [] ∧ y = .lit (.bool (decide (a < b))) := by
  refine ecalls k_LessI ?_
  simp [c_LessI, I]
  refine call0 (NaNI_ok a) (by simp [I]) ?_
  rintro y H' ⟨rfl, rfl⟩
  refine ⟨.inl (by simp), le_ok rfl, ?_⟩
  simp
  exact fin [] (by decide) rfl rfl rfl ⟨rfl, rfl⟩
def swS (l : List Int) (j : Nat) : List Int := (l.set (j + 1) ((l[j]?).getD 0)).set j ((l[j + 1]?).getD 0)
theorem swS_len (l : List Int) (j : Nat) : (swS l j).length = l.length := by simp [swS]
/-- A number let sink to its place. -/
def sinkS : Nat → List Int → List Int
  | 0, l => l
  | j + 1, l => if (l[j + 1]?).getD 0 < (l[j]?).getD 0 then sinkS j (swS l j) else l
theorem sinkS_len : ∀ (j : Nat) (l : List Int), (sinkS j l).length = l.length
  | 0, _ => rfl
  | j + 1, l => by
    unfold sinkS
    split
    · rw [sinkS_len j, swS_len]
    · rfl
def restS : Nat → List Int → List Int
  | 1, l => sinkS 2 (sinkS 1 l)
  | 2, l => sinkS 2 l
  | _, l => l
/-- Three numbers by their order. -/
def srt (l : List Int) : List Int := restS 1 l
theorem srt_len (l : List Int) : (srt l).length = l.length := by show (sinkS 2 (sinkS 1 l)).length = l.length; rw [sinkS_len, sinkS_len]
theorem intv_at {l : List Int} {i : Nat} (h : i < l.length) (h2 : i < (intv l).length) : (intv l)[i]'h2 = [.lit (.int .i64 ((l[i]?).getD 0))] := by
  simp [intv, h]
theorem intv_set (l : List Int) (i : Nat) (x : Int) : (intv l).set i [.lit (.int .i64 x)] = intv (l.set i x) := by simp [intv, List.map_set]

set_option maxHeartbeats 4000000 in
theorem InsI_ok (l : List Int) (h3 : l.length = 3) : ECalls Tryz.prog 180 [.v (.c (.row 0 3)), I .i64 0, I .i64 3] [.row 3 1 (intv l)] fun y H' => H' = [some (.row 3 1 (intv (srt l)))] ∧ y = .tup [] := by
  obtain ⟨F, hF⟩ : ∃ F, srt l = F := ⟨_, rfl⟩
  rw [hF]
  have w0 : IntKind.i64.wrap 1 = 1 := by decide +kernel
  refine ecalls k_InsI ?_
  simp [c_InsI, I, w0]
  refine eloop (α := Nat × List Int) (fun a => 1 ≤ a.1 ∧ a.1 ≤ 3 ∧ a.2.length = 3 ∧ restS a.1 a.2 = F) (fun a => 3 - a.1)
    (fun a => [.v (.c (.row 0 3)), I .i64 0, I .i64 3, .any, .any, .any, I .i64 a.1, .any, .any, .any, .any, .any, .any, .any, .any, .any, .any, .any, .any, .any, .any, .any, .any, .any, .any, .any, .any, .any, .any, .any, .any, .any, .any, .any, .any, .any, .any, .any, .any, .any, .any, .any, .any, .any, .any, .any, .any, .any, .any]) (fun a => [some (.row 3 1 (intv a.2))]) (1, l) [0]
    ⟨by simp, by simp, h3, hF⟩ (by simp [I]) (by simp) (by simp) (by simp) (by simp) ?_
  rintro ⟨i, m⟩ ⟨hi1, hi3, hm, hr⟩
  dsimp only at hi1 hi3 hm hr
  by_cases hlt : i < 3
  · have hli : (i : Int) < 3 := by omega
    have w1 : IntKind.i64.wrap ((i : Int) + 1) = ((i + 1 : Nat) : Int) := wrap_i64 (by omega) (by omega)
    have hnext : restS (i + 1) (sinkS i m) = F := by
      rw [← hr]
      rcases (by omega : i = 1 ∨ i = 2) with rfl | rfl
      · rfl
      · rfl
    obtain ⟨G, hG⟩ : ∃ G, sinkS i m = G := ⟨_, rfl⟩
    have hGl : G.length = 3 := by rw [← hG, sinkS_len]; exact hm
    rw [hG] at hnext
    simp [I, hli, hlt]
    refine eloop (α := Nat × List Int) (fun a => a.1 ≤ i ∧ a.2.length = 3 ∧ sinkS a.1 a.2 = G) (fun a => a.1)
      (fun a => [.v (.c (.row 0 3)), I .i64 0, I .i64 3, .any, .any, .any, I .i64 i, I .i64 a.1, .any, .any, .any, .any, .any, .any, .any, .any, .any, .any, .any, .any, .any, .any, .any, .any, .any, .any, .any, .any, .any, .any, .any, .any, .any, .any, .any, .any, .any, .any, .any, .any, .any, .any, .any, .any, .any, .any, .any, .any, .any]) (fun a => [some (.row 3 1 (intv a.2))]) (i, m) [0]
      ⟨Nat.le_refl _, hm, hG⟩ (by simp [I]) (by simp) (by simp) (by simp) (by simp) ?_
    rintro ⟨j, k⟩ ⟨hj, hk, hs⟩
    dsimp only at hj hk hs
    rcases Nat.eq_zero_or_pos j with hj0 | hj0
    · subst hj0
      have hkG : k = G := hs
      subst hkG
      simp [I, w1, -Int.natCast_add]
      exact round (i + 1, k) [0] ⟨by dsimp only; omega, by dsimp only; omega, hk, hnext⟩ (by dsimp only; omega) (by simp [I]) (by simp) (by simp) (by simp) (by simp)
    · obtain ⟨p, rfl⟩ : ∃ p, j = p + 1 := ⟨j - 1, by omega⟩
      have hjp : (0 : Int) < ((p + 1 : Nat) : Int) := by omega
      have wj : IntKind.i64.wrap (((p + 1 : Nat) : Int) - 1) = (p : Int) := by rw [wrap_i64 (by omega) (by omega)]; omega
      obtain ⟨j, hje⟩ : ∃ j, p + 1 = j := ⟨_, rfl⟩
      have hp3 : p < 3 := by omega
      have hj3 : j < 3 := by omega
      obtain ⟨A, hA⟩ : ∃ A, (k[p]?).getD 0 = A := ⟨_, rfl⟩
      obtain ⟨B, hB⟩ : ∃ B, (k[j]?).getD 0 = B := ⟨_, rfl⟩
      have ga : ∀ h2, (intv k)[p]'h2 = [.lit (.int .i64 A)] := fun h2 => by rw [intv_at (by omega), hA]
      have gb : ∀ h2, (intv k)[j]'h2 = [.lit (.int .i64 B)] := fun h2 => by rw [intv_at (by omega), hB]
      have hs' : (if B < A then sinkS p (swS k p) else k) = G := by
        rw [← hs, ← hB, ← hA, ← hje]
        rfl
      rw [hje] at hjp wj
      have ip : (p : Int) < 3 := by omega
      have ij : (j : Int) < 3 := by omega
      have n0 : ¬ ((j : Int) < 0) := by omega
      have n1 : ¬ ((p : Int) < 0) := by omega
      rw [hje]
      have hjn : 0 < j := by omega
      simp [I, hjp, hjn, wj, ga, gb, hk, hp3, hj3, ip, ij, n0, n1]
      refine call0 (LessI_ok B A) (by simp [I]) ?_
      rintro y H' ⟨rfl, rfl⟩
      refine ⟨.inl (by simp), le_ok rfl, ?_⟩
      have hsw : (k.set j A).set p B = swS k p := by unfold swS; rw [hje, hA, hB]
      by_cases hBA : B < A
      · rw [if_pos hBA] at hs'
        rw [decide_eq_true hBA]
        have gp : ∀ h2, (intv (k.set j A))[p]'h2 = [.lit (.int .i64 (((k.set j A)[p]?).getD 0))] := fun h2 => intv_at (by simp; omega) h2
        simp [I, wj, ga, gb, gp, hk, hp3, hj3, ip, ij, n0, n1, intv_set, hsw]
        exact round (p, swS k p) [0] ⟨by dsimp only; omega, by rw [swS_len]; exact hk, hs'⟩ (by dsimp only; omega) (by simp [I]) (by simp) (by simp) (by simp) (by simp)
      · rw [if_neg hBA] at hs'
        subst hs'
        rw [decide_eq_false hBA]
        simp [I, w1, -Int.natCast_add]
        exact round (i + 1, k) [0] ⟨by dsimp only; omega, by dsimp only; omega, hk, hnext⟩ (by dsimp only; omega) (by simp [I]) (by simp) (by simp) (by simp) (by simp)
  · have h3' : i = 3 := by omega
    subst h3'
    have hmF : m = F := hr
    subst hmF
    simp [I]
    exact fin [] (by decide) rfl rfl (by simp [objsOut, show List.range 1 = [0] from rfl]) ⟨rfl, rfl⟩

theorem LenB64_ok : ECalls Tryz.prog 189 [.lit (.int .u64 3)] [] fun y H' => H' = [] ∧ y = I .i64 2 := by
  refine ecalls k_LenB64 ?_
  have w1 : IntKind.u8.wrap 3 = 3 := by decide +kernel
  have w2 : IntKind.i64.wrap 2 = 2 := by decide +kernel
  have hs : s_LenB64_0.data[3]? = some 2 := by decide +kernel
  simp [c_LenB64, I, w1, hs, w2]
  exact fin [] (by decide) rfl rfl rfl ⟨rfl, rfl⟩
theorem LenB_ok : ECalls Tryz.prog 143 [.lit (.int .u64 3)] [] fun y H' => H' = [] ∧ y = I .i64 2 := by
  refine ecalls k_LenB ?_
  simp [c_LenB, I]
  refine call0 LenB64_ok (by simp) ?_
  rintro y H' ⟨rfl, rfl⟩
  refine ⟨.inl (by simp [I]), le_ok rfl, ?_⟩
  simp [I]
  exact fin [] (by decide) rfl rfl rfl ⟨rfl, rfl⟩
theorem PdqI_ok (l : List Int) (k : Int) (h3 : l.length = 3) : ECalls Tryz.prog 142 [.v (.c (.row 0 3)), I .i64 0, I .i64 3, I .i64 k] [.row 3 1 (intv l)] fun y H' => H' = [some (.row 3 1 (intv (srt l)))] ∧ y = .tup [] := by
  have w0 : IntKind.i64.wrap 3 = 3 := by decide +kernel
  refine ecalls k_PdqI ?_
  simp [c_PdqI, I]
  refine eloop (α := Nat) (fun i => i = 0) (fun i => i) (fun i => [.v (.c (.row 0 3)), I .i64 0, I .i64 3, I .i64 k, .any, .any, .any, .any, .lit (.bool true), .lit (.bool true), .any, .any, .any, .any, .any, .any, .any, .any, .any, .any, .any, .any, .any, .any, .any, .any, .any, .any, .any, .any, .any, .any, .any, .any, .any, .any, .any, .any, .any, .any, .any, .any, .any, .any, .any, .any, .any, .any, .any, .any, .any, .any, .any, .any, .any, .any, .any, .any, .any, .any, .any, .any, .any, .any, .any, .any, .any, .any, .any, .any, .any, .any, .any, .any, .any, .any, .any, .any, .any, .any, .any, .any, .any, .any, .any, .any, .any, .any, .any, .any, .any, .any, .any, .any, .any, .any, .any, .any, .any, .any, .any, .any, .any, .any, .any, .any, .any, .any, .any, .any, .any, .any, .any, .any, .any, .any, .any, .any, .any, .any, .any, .any, .any, .any, .any, .any, .any, .any, .any, .any, .any, .any, .any, .any]) (fun _ => [some (.row 3 1 (intv l))]) 0 [0]
    rfl (by simp [I]) (by simp) (by simp) (by simp) (by simp) ?_
  rintro i rfl
  simp [I, w0]
  refine callH [0] (InsI_ok l h3) (by simp [I]) (by simp) (by simp) (by simp) (by simp) ?_
  rintro y H' ⟨rfl, rfl⟩
  refine ⟨.inl (by simp), by simp, ?_⟩
  simp
  exact fin [] (by decide) rfl rfl (by simp [objsOut, show List.range 1 = [0] from rfl]) ⟨rfl, rfl⟩
theorem SortI_ok (l : List Int) (h3 : l.length = 3) : ECalls Tryz.prog 77 [.v (.c (.row 0 3))] [.row 3 1 (intv l)] fun y H' => H' = [some (.row 3 1 (intv (srt l)))] ∧ y = .tup [] := by
  have w0 : IntKind.u64.wrap 3 = 3 := by decide +kernel
  refine ecalls k_SortI ?_
  simp [c_SortI, I, w0]
  refine call0 LenB_ok (by simp) ?_
  rintro y H' ⟨rfl, rfl⟩
  refine ⟨.inl (by simp [I]), le_ok rfl, ?_⟩
  simp [I]
  refine callH [0] (PdqI_ok l 2 h3) (by simp [I]) (by simp) (by simp) (by simp) (by simp) ?_
  rintro y H' ⟨rfl, rfl⟩
  refine ⟨.inl (by simp), by simp, ?_⟩
  simp
  exact fin [] (by decide) rfl rfl (by simp [objsOut, show List.range 1 = [0] from rfl]) ⟨rfl, rfl⟩

end Go.Proofs.YtejjhgdnmknejaaGreatDoor

namespace Go.Proofs.YtejjhgdnmknejaaGreatDoor
open Go Go.EW
set_option linter.unusedSimpArgs false
set_option linter.unusedVariables false

@[simp] def l_Vparty_1 (_ : Unit) : List EOp := [⟨0, (some 2), none, (.q (.mov (.k (.bool false)))), []⟩]
@[simp] def b_Vparty_2 (_ : Unit) : EB := reg0 (hid l_Vparty_1) 1
@[simp] def l_Vparty_4 (_ : Unit) : List EOp := [⟨6, (some 2), none, (.q (.mov (.t 8))), []⟩]
@[simp] def l_Vparty_3 (_ : Unit) : List EOp := ⟨0, (some 3), none, (.q (.mov (.t 0))), []⟩ :: ⟨1, (some 4), none, (.q (.bin .geq (.t 3) (.k (.int .i64 0)))), []⟩ :: ⟨2, (some 5), none, (.q (.mov (.t 4))), []⟩ :: ⟨3, (some 6), (some (5, true)), (.q (.mov (.t 0))), []⟩ :: ⟨4, (some 7), (some (5, true)), (.q (.bin .lss (.t 6) (.k (.int .i64 16)))), []⟩ :: ⟨5, (some 8), none, (.q (.pick (.t 5) (.t 7) (.k (.bool false)))), []⟩ :: hid l_Vparty_4
@[simp] def b_Vparty_5 (_ : Unit) : EB := reg0 (hid l_Vparty_3) 7
@[simp] def b_Vparty_6 (_ : Unit) : EB := .seq (hid b_Vparty_5) .ret
@[simp] def b_Vparty_7 (_ : Unit) : EB := .seq (hid b_Vparty_2) (hid b_Vparty_6)
def c_Vparty : EB × List QOp × Nat := ((hid b_Vparty_7), [(.mov (.t 2))], 9)
theorem k_Vparty : cfun Tryz.prog 49 = some c_Vparty := by kernel_rfl

@[simp] def l_Vof_1 (_ : Unit) : List EOp := [⟨0, (some 3), none, (.q (.box 42 (.t 0))), []⟩, ⟨1, (some 6), none, (.q (.mov (.k (.bool false)))), []⟩]
@[simp] def b_Vof_2 (_ : Unit) : EB := reg0 (hid l_Vof_1) 2
@[simp] def l_Vof_5 (_ : Unit) : List EOp := [⟨12, (some 19), (some (13, false)), (.q (.eqa false 2 .i64 (.t 15) (.t 18))), []⟩, ⟨13, (some 20), none, (.q (.pick (.t 13) (.k (.bool true)) (.t 19))), []⟩, ⟨14, (some 6), none, (.q (.mov (.t 20))), []⟩]
@[simp] def l_Vof_4 (_ : Unit) : List EOp := ⟨6, (some 13), none, (.q (.mov (.t 12))), []⟩ :: ⟨7, (some 14), (some (13, false)), (.q (.fad 34 (.t 3))), []⟩ :: ⟨8, (some 15), (some (13, false)), (.q (.lda 2 (.t 14))), []⟩ :: ⟨9, (some 16), (some (13, false)), (.q (.mov (.t 2))), []⟩ :: ⟨10, (some 17), (some (13, false)), (.q (.mov (.t 1))), []⟩ :: ⟨11, (some 18), (some (13, false)), (.q (.build [(.int .i64 0), (.int .i64 0)] [(0, 1, (.t 16)), (1, 1, (.t 17))])), []⟩ :: hid l_Vof_5
@[simp] def l_Vof_3 (_ : Unit) : List EOp := ⟨0, (some 7), none, (.q (.fad 34 (.t 3))), []⟩ :: ⟨1, (some 8), none, (.q (.lda 2 (.t 7))), []⟩ :: ⟨2, (some 9), none, (.q (.mov (.t 1))), []⟩ :: ⟨3, (some 10), none, (.q (.mov (.t 2))), []⟩ :: ⟨4, (some 11), none, (.q (.build [(.int .i64 0), (.int .i64 0)] [(0, 1, (.t 9)), (1, 1, (.t 10))])), []⟩ :: ⟨5, (some 12), none, (.q (.eqa false 2 .i64 (.t 8) (.t 11))), []⟩ :: hid l_Vof_4
@[simp] def b_Vof_6 (_ : Unit) : EB := reg0 (hid l_Vof_3) 15
@[simp] def b_Vof_7 (_ : Unit) : EB := .seq (hid b_Vof_6) .ret
@[simp] def b_Vof_8 (_ : Unit) : EB := .seq (hid b_Vof_2) (hid b_Vof_7)
def c_Vof : EB × List QOp × Nat := ((hid b_Vof_8), [(.mov (.t 6))], 21)
theorem k_Vof : cfun Tryz.prog 50 = some c_Vof := by kernel_rfl


/-! ### routes -/
structure Prm where
  tx : List UInt8
  n : Int
  am : Int
  k0 : Int
  k1 : Int
  dl : Int
  fe : Int
structure Rte where
  f : Prm
  s : Prm
  a : Int
  b : Int
  c : Int
  am : Int
  fe : Int
def iC (n : Int) : EC := .fz (.lit (.int .i64 n))
def prmC (p : Prm) : List EC := hc p.tx ++ [iC p.n, iC p.am, iC p.k0, iC p.k1, iC p.dl, iC p.fe]
def rteC (r : Rte) : List EC := prmC r.f ++ (prmC r.s ++ [iC r.a, iC r.b, iC r.c, iC r.am, iC r.fe])
def PVv (p : Prm) : EV := .v (.agg (prmC p))
def RVv (r : Rte) : EV := .v (.agg (rteC r))
def Prm.ok (p : Prm) : Prop := p.tx.length = 32 ∧ i64 p.n ∧ i64 p.am ∧ i64 p.k0 ∧ i64 p.k1 ∧ i64 p.dl ∧ i64 p.fe
def Rte.ok (r : Rte) : Prop := r.f.ok ∧ r.s.ok ∧ i64 r.a ∧ i64 r.b ∧ i64 r.c ∧ i64 r.am ∧ i64 r.fe
section
variable {p : Prm} (h : p.tx.length = 32)
include h
theorem prmC_len : (prmC p).length = 38 := by simp [prmC, hc_len, h]
theorem pm_take : (prmC p).take 38 = prmC p := List.take_of_length_le (by rw [prmC_len h]; omega)
theorem pm_d34 : ((prmC p).drop 34).take 2 = [iC p.k0, iC p.k1] := by
  have e : (hc p.tx).length = 32 := by rw [hc_len, h]
  unfold prmC
  rw [List.drop_append, List.drop_of_length_le (by omega), e]
  rfl
theorem pm_34 : (prmC p)[34]? = some (iC p.k0) := by
  have e : (hc p.tx).length = 32 := by rw [hc_len, h]
  unfold prmC
  rw [List.getElem?_append_right (by omega), e]; rfl
theorem pm_35 : (prmC p)[35]? = some (iC p.k1) := by
  have e : (hc p.tx).length = 32 := by rw [hc_len, h]
  unfold prmC
  rw [List.getElem?_append_right (by omega), e]; rfl
end
theorem rt_t38 {r : Rte} (hf : r.f.tx.length = 32) : (rteC r).take 38 = prmC r.f := by unfold rteC; rw [← prmC_len hf, List.take_left]
theorem rt_d38 {r : Rte} (hf : r.f.tx.length = 32) : (rteC r).drop 38 = prmC r.s ++ [iC r.a, iC r.b, iC r.c, iC r.am, iC r.fe] := by unfold rteC; rw [← prmC_len hf, List.drop_left]
theorem rt_k1 {r : Rte} (hf : r.f.tx.length = 32) : ((rteC r).drop 34).take 2 = [iC r.f.k0, iC r.f.k1] := by
  unfold rteC
  rw [List.drop_append_of_le_length (by rw [prmC_len hf]; omega), List.take_append_of_le_length (by rw [List.length_drop, prmC_len hf]; omega), pm_d34 hf]
section
variable {r : Rte} (hf : r.f.tx.length = 32) (hs : r.s.tx.length = 32)
include hf hs
theorem rteC_len : (rteC r).length = 81 := by simp [rteC, prmC_len hf, prmC_len hs]
theorem rt_take : (rteC r).take 81 = rteC r := List.take_of_length_le (by rw [rteC_len hf hs]; omega)
theorem rt_s38 : ((rteC r).drop 38).take 38 = prmC r.s := by rw [rt_d38 hf, ← prmC_len hs, List.take_left]
theorem rt_d76 : (rteC r).drop 76 = [iC r.a, iC r.b, iC r.c, iC r.am, iC r.fe] := by
  rw [show 76 = 38 + 38 from rfl, ← List.drop_drop, rt_d38 hf, ← prmC_len hs, List.drop_left]
theorem rt_k2 : ((rteC r).drop 72).take 2 = [iC r.s.k0, iC r.s.k1] := by
  rw [show 72 = 38 + 34 from rfl, ← List.drop_drop, rt_d38 hf, List.drop_append_of_le_length (by rw [prmC_len hs]; omega), List.take_append_of_le_length (by rw [List.length_drop, prmC_len hs]; omega), pm_d34 hs]
theorem rt_at (i : Nat) : (rteC r)[76 + i]? = [iC r.a, iC r.b, iC r.c, iC r.am, iC r.fe][i]? := by
  rw [← List.getElem?_drop, rt_d76 hf hs]
theorem rt_76 : (rteC r)[76]? = some (iC r.a) := rt_at hf hs 0
theorem rt_77 : (rteC r)[77]? = some (iC r.b) := rt_at hf hs 1
theorem rt_78 : (rteC r)[78]? = some (iC r.c) := rt_at hf hs 2
theorem rt_79 : (rteC r)[79]? = some (iC r.am) := rt_at hf hs 3
theorem rt_80 : (rteC r)[80]? = some (iC r.fe) := rt_at hf hs 4
end
theorem conAll_mp (H : Nat → Option EO) (ids : List Nat) : ∀ l : List FV, conAll H ids (l.map EC.fz) = some (l.map EC.fz)
  | [] => rfl
  | a :: r => by simp only [List.map_cons, conAll, conC, conAll_mp H ids r]; rfl
theorem strAll_mp (ids : List Nat) : ∀ l : List FV, strAll ids (l.map EC.fz) = some (l.map EC.fz)
  | [] => rfl
  | a :: r => by simp only [List.map_cons, strAll, strC, strAll_mp ids r]; rfl
theorem frzAll_mp : ∀ l : List FV, frzAll (l.map EC.fz) = some l
  | [] => rfl
  | a :: r => by simp only [List.map_cons, frzAll, frz, frzAll_mp r]; rfl
theorem refs_mp : ∀ l : List FV, (l.map EC.fz).flatMap refsC = []
  | [] => rfl
  | a :: r => by simp only [List.map_cons, List.flatMap_cons, refs_mp r]; rfl
theorem fz_mp (ids : List Nat) : ∀ l : List FV, (l.map EC.fz).flatMap (fzC ids) = []
  | [] => rfl
  | a :: r => by simp only [List.map_cons, List.flatMap_cons, fz_mp ids r]; rfl
theorem ren_mp (g : Nat → Nat) : ∀ l : List FV, (l.map EC.fz).map (renC g) = l.map EC.fz
  | [] => rfl
  | a :: r => by simp only [List.map_cons, ren_mp g r]; rfl
def iF (n : Int) : FV := .lit (.int .i64 n)
def prmF (p : Prm) : List FV := hf p.tx ++ [iF p.n, iF p.am, iF p.k0, iF p.k1, iF p.dl, iF p.fe]
def rteF (r : Rte) : List FV := prmF r.f ++ (prmF r.s ++ [iF r.a, iF r.b, iF r.c, iF r.am, iF r.fe])
theorem prmF_fz (p : Prm) : (prmF p).map EC.fz = prmC p := by simp [prmF, prmC, iF, iC]
theorem rteF_fz (r : Rte) : (rteF r).map EC.fz = rteC r := by simp [rteF, rteC, prmF_fz, iF, iC]
@[simp] theorem conAll_prmC (H : Nat → Option EO) (ids : List Nat) (p : Prm) : conAll H ids (prmC p) = some (prmC p) := by rw [← prmF_fz]; exact conAll_mp H ids _
@[simp] theorem strAll_prmC (ids : List Nat) (p : Prm) : strAll ids (prmC p) = some (prmC p) := by rw [← prmF_fz]; exact strAll_mp ids _
@[simp] theorem frzAll_prmC (p : Prm) : frzAll (prmC p) = some (prmF p) := by rw [← prmF_fz]; exact frzAll_mp _
@[simp] theorem refs_prmC (p : Prm) : (prmC p).flatMap refsC = [] := by rw [← prmF_fz]; exact refs_mp _
@[simp] theorem fz_prmC (ids : List Nat) (p : Prm) : (prmC p).flatMap (fzC ids) = [] := by rw [← prmF_fz]; exact fz_mp ids _
@[simp] theorem ren_prmC (g : Nat → Nat) (p : Prm) : (prmC p).map (renC g) = prmC p := by rw [← prmF_fz]; exact ren_mp g _
@[simp] theorem conAll_rteC (H : Nat → Option EO) (ids : List Nat) (p : Rte) : conAll H ids (rteC p) = some (rteC p) := by rw [← rteF_fz]; exact conAll_mp H ids _
@[simp] theorem strAll_rteC (ids : List Nat) (p : Rte) : strAll ids (rteC p) = some (rteC p) := by rw [← rteF_fz]; exact strAll_mp ids _
@[simp] theorem frzAll_rteC (p : Rte) : frzAll (rteC p) = some (rteF p) := by rw [← rteF_fz]; exact frzAll_mp _
@[simp] theorem refs_rteC (p : Rte) : (rteC p).flatMap refsC = [] := by rw [← rteF_fz]; exact refs_mp _
@[simp] theorem fz_rteC (ids : List Nat) (p : Rte) : (rteC p).flatMap (fzC ids) = [] := by rw [← rteF_fz]; exact fz_mp ids _
@[simp] theorem ren_rteC (g : Nat → Nat) (p : Rte) : (rteC p).map (renC g) = rteC p := by rw [← rteF_fz]; exact ren_mp g _
theorem idx_of {l : List EC} {k : Nat} {c : EC} (e : l[k]? = some c) (h : k < l.length) : l[k]'h = c := by
  rw [List.getElem?_eq_getElem h] at e
  exact Option.some.inj e

theorem Vparty_ok (n : Int) : ECalls Tryz.prog 49 [I .i64 n] [] fun y H' => H' = [] ∧ y = .lit (.bool (decide (0 ≤ n ∧ n < 16))) := by
  refine ecalls k_Vparty ?_
  simp [c_Vparty, I]
  by_cases h : 0 ≤ n
  · simp [h]
    exact fin [] (by decide) rfl rfl rfl ⟨rfl, rfl⟩
  · simp [h]
    exact fin [] (by decide) rfl rfl rfl ⟨rfl, rfl⟩
def ofV (p : Prm) (a b : Int) : Bool := decide ((p.k0 = a ∧ p.k1 = b) ∨ (p.k0 = b ∧ p.k1 = a))

set_option maxHeartbeats 2000000 in
theorem Vof_ok (p : Prm) (a b : Int) (hp : p.tx.length = 32) : ECalls Tryz.prog 50 [PVv p, I .i64 a, I .i64 b] [] fun y H' => H' = [] ∧ y = .lit (.bool (ofV p a b)) := by
  have h1 := prmC_len hp
  have h2 := pm_take hp
  have h3 := pm_d34 hp
  refine ecalls k_Vof ?_
  simp [c_Vof, I, PVv, h1, h2, h3, iC]
  by_cases c1 : p.k0 = a ∧ p.k1 = b
  · have hv : ofV p a b = true := decide_eq_true (.inl c1)
    rw [hv]
    simp [c1.1, c1.2]
    exact fin [] (by decide) rfl rfl rfl ⟨rfl, rfl⟩
  · have c1' : ¬ p.k0 = a ∨ ¬ p.k1 = b := by omega
    have hv : ofV p a b = (decide (p.k0 = b) && decide (p.k1 = a)) := by
      unfold ofV
      by_cases c2 : p.k0 = b ∧ p.k1 = a
      · rw [decide_eq_true (.inr c2), decide_eq_true c2.1, decide_eq_true c2.2]; rfl
      · rw [decide_eq_false (by omega)]
        by_cases c3 : p.k0 = b
        · rw [decide_eq_true c3, decide_eq_false (fun h => c2 ⟨c3, h⟩)]; rfl
        · rw [decide_eq_false c3]; rfl
    rw [hv]
    simp [c1', h1, h2, h3, iC]
    refine alt (fun h => absurd h c1) (fun _ => ?_)
    simp
    exact fin [] (by decide) rfl rfl rfl ⟨rfl, by simp⟩

end Go.Proofs.YtejjhgdnmknejaaGreatDoor

namespace Go.Proofs.YtejjhgdnmknejaaGreatDoor
open Go Go.EW
set_option linter.unusedSimpArgs false
set_option linter.unusedVariables false

theorem opn_twoV : Opn BB Tryz.prog 26 (fun p : Int × Int => [FV.lit (.int .i64 p.1), .lit (.int .i64 p.2)]) (fun p => i64 p.1 ∧ i64 p.2) (fun _ => 1) :=
  (opn_array bok (e := 3) (es := 1) (n := 2) (by kernel_rfl) (by kernel_rfl) (by kernel_rfl) opn_i64).map (fun l => (l[0]?.getD 0, l[1]?.getD 0)) (by
    rintro l ⟨_, h⟩
    match l, h with
    | [a, b], _ => simp) (by
    rintro l ⟨h1, h⟩
    match l, h, h1 with
    | [a, b], _, h1 => exact ⟨h1 a (by simp), h1 b (by simp)⟩) (fun _ _ => by omega)

theorem opn_threeV : Opn BB Tryz.prog 29 (fun p : Int × Int × Int => [FV.lit (.int .i64 p.1), .lit (.int .i64 p.2.1), .lit (.int .i64 p.2.2)]) (fun p => i64 p.1 ∧ i64 p.2.1 ∧ i64 p.2.2) (fun _ => 1) :=
  (opn_array bok (e := 3) (es := 1) (n := 3) (by kernel_rfl) (by kernel_rfl) (by kernel_rfl) opn_i64).map (fun l => (l[0]?.getD 0, l[1]?.getD 0, l[2]?.getD 0)) (by
    rintro l ⟨_, h⟩
    match l, h with
    | [a, b, c], _ => simp) (by
    rintro l ⟨h1, h⟩
    match l, h, h1 with
    | [a, b, c], _, h1 => exact ⟨h1 a (by simp), h1 b (by simp), h1 c (by simp)⟩) (fun _ _ => by omega)

theorem opn_outV : Opn BB Tryz.prog 25 (fun p : List UInt8 × Int => hf p.1 ++ [FV.lit (.int .i64 p.2)]) (fun p => p.1.length = 32 ∧ i64 p.2) (fun _ => 1) :=
  (opn_struct (tot := 33) bok Tryz.underlying25 (by kernel_rfl)
    (opnFs_cons bok (n := 32) (tot := 1) opn_hash rfl (by kernel_rfl) (opnFs_cons bok (n := 1) (tot := 0) opn_i64 rfl (by kernel_rfl) opnFs_nil))).map
    (fun p => (p.1, p.2.1)) (by rintro ⟨a, b, u⟩ _; simp) (by rintro ⟨a, b, u⟩ h; exact ⟨h.1, h.2.1⟩) (by rintro ⟨a, b, u⟩ _; simp)

theorem opn_prm : Opn BB Tryz.prog 28 prmF Prm.ok (fun _ => 1) :=
  (opn_struct (tot := 38) bok Tryz.underlying28 (by kernel_rfl)
    (opnFs_cons bok (n := 33) (tot := 5) opn_outV rfl (by kernel_rfl) (opnFs_cons bok (n := 1) (tot := 4) opn_i64 rfl (by kernel_rfl)
      (opnFs_cons bok (n := 2) (tot := 2) opn_twoV rfl (by kernel_rfl) (opnFs_cons bok (n := 1) (tot := 1) opn_i64 rfl (by kernel_rfl)
      (opnFs_cons bok (n := 1) (tot := 0) opn_i64 rfl (by kernel_rfl) opnFs_nil)))))).map
    (fun p => (⟨p.1.1, p.1.2, p.2.1, p.2.2.1.1, p.2.2.1.2, p.2.2.2.1, p.2.2.2.2.1⟩ : Prm)) (by rintro ⟨⟨a, a'⟩, b, ⟨c, c'⟩, d, e, u⟩ _; simp [prmF, iF]) (by rintro ⟨⟨a, a'⟩, b, ⟨c, c'⟩, d, e, u⟩ h; exact ⟨h.1.1, h.1.2, h.2.1, h.2.2.1.1, h.2.2.1.2, h.2.2.2.1, h.2.2.2.2.1⟩) (by rintro ⟨⟨a, a'⟩, b, ⟨c, c'⟩, d, e, u⟩ _; simp)

theorem opn_rte : Opn BB Tryz.prog 31 rteF Rte.ok (fun _ => 1) :=
  (opn_struct (tot := 81) bok Tryz.underlying31 (by kernel_rfl)
    (opnFs_cons bok (n := 38) (tot := 43) opn_prm rfl (by kernel_rfl) (opnFs_cons bok (n := 38) (tot := 5) opn_prm rfl (by kernel_rfl)
      (opnFs_cons bok (n := 3) (tot := 2) opn_threeV rfl (by kernel_rfl) (opnFs_cons bok (n := 1) (tot := 1) opn_i64 rfl (by kernel_rfl)
      (opnFs_cons bok (n := 1) (tot := 0) opn_i64 rfl (by kernel_rfl) opnFs_nil)))))).map
    (fun p => (⟨p.1, p.2.1, p.2.2.1.1, p.2.2.1.2.1, p.2.2.1.2.2, p.2.2.2.1, p.2.2.2.2.1⟩ : Rte)) (by rintro ⟨a, b, ⟨c, c', c''⟩, d, e, u⟩ _; simp [rteF, iF]) (by rintro ⟨a, b, ⟨c, c', c''⟩, d, e, u⟩ h; exact ⟨h.1, h.2.1, h.2.2.1.1, h.2.2.1.2.1, h.2.2.1.2.2, h.2.2.2.1, h.2.2.2.2.1⟩) (by rintro ⟨a, b, ⟨c, c', c''⟩, d, e, u⟩ _; simp)

def zRteV : Value := .agg (Array.replicate 32 (.int .u8 0) ++ #[.int .i64 0, .int .i64 0, .int .i64 0, .int .i64 0, .int .i64 0, .int .i64 0] ++ Array.replicate 32 (.int .u8 0) ++ #[.int .i64 0, .int .i64 0, .int .i64 0, .int .i64 0, .int .i64 0, .int .i64 0, .int .i64 0, .int .i64 0, .int .i64 0, .int .i64 0, .int .i64 0])

def zPrmD {H : Type} : DataW H := .agg [.agg [.agg (List.replicate 32 (.lit (.int .u8 0))), .lit (.int .i64 0)], .lit (.int .i64 0), .agg [.lit (.int .i64 0), .lit (.int .i64 0)], .lit (.int .i64 0), .lit (.int .i64 0)]

end Go.Proofs.YtejjhgdnmknejaaGreatDoor

namespace Go.Proofs.YtejjhgdnmknejaaGreatDoor
open Go Go.EW
set_option linter.unusedSimpArgs false
set_option linter.unusedVariables false

@[simp] def l_InRight_1 (_ : Unit) : List EOp := [⟨0, (some 1), none, (.q (.box 146 (.t 0))), []⟩, ⟨1, (some 2), none, (.q (.mov (.k (.bool false)))), []⟩]
@[simp] def b_InRight_2 (_ : Unit) : EB := reg0 (hid l_InRight_1) 2
@[simp] def l_InRight_7 (_ : Unit) : List EOp := [⟨24, (some 27), (some (23, true)), (.q (.bin .leq (.t 26) (.k (.int .i64 64)))), []⟩, ⟨25, (some 28), none, (.q (.pick (.t 23) (.t 27) (.k (.bool false)))), []⟩, ⟨26, (some 2), none, (.q (.mov (.t 28))), []⟩]
@[simp] def l_InRight_6 (_ : Unit) : List EOp := ⟨18, (some 21), (some (18, true)), (.q (.bin .lss (.t 20) (.k (.int .i64 8)))), []⟩ :: ⟨19, (some 22), none, (.q (.pick (.t 18) (.t 21) (.k (.bool false)))), []⟩ :: ⟨20, (some 23), none, (.q (.mov (.t 22))), []⟩ :: ⟨21, (some 24), (some (23, true)), (.q (.fad 34 (.t 1))), []⟩ :: ⟨22, (some 25), (some (23, true)), (.q (.ldc (.t 24))), []⟩ :: ⟨23, (some 26), (some (23, true)), (.q (.len (.t 25))), []⟩ :: hid l_InRight_7
@[simp] def l_InRight_5 (_ : Unit) : List EOp := ⟨12, (some 15), (some (13, true)), (.q (.ldc (.t 14))), []⟩ :: ⟨13, (some 16), (some (13, true)), (.q (.bin .geq (.t 15) (.k (.int .i64 0)))), []⟩ :: ⟨14, (some 17), none, (.q (.pick (.t 13) (.t 16) (.k (.bool false)))), []⟩ :: ⟨15, (some 18), none, (.q (.mov (.t 17))), []⟩ :: ⟨16, (some 19), (some (18, true)), (.q (.fad 33 (.t 1))), []⟩ :: ⟨17, (some 20), (some (18, true)), (.q (.ldc (.t 19))), []⟩ :: hid l_InRight_6
@[simp] def l_InRight_4 (_ : Unit) : List EOp := ⟨6, (some 9), (some (7, true)), (.q (.fad 32 (.t 8))), []⟩ :: ⟨7, (some 10), (some (7, true)), (.q (.ldc (.t 9))), []⟩ :: ⟨8, (some 11), (some (7, true)), (.q (.bin .lss (.t 10) (.k (.int .i64 64)))), []⟩ :: ⟨9, (some 12), none, (.q (.pick (.t 7) (.t 11) (.k (.bool false)))), []⟩ :: ⟨10, (some 13), none, (.q (.mov (.t 12))), []⟩ :: ⟨11, (some 14), (some (13, true)), (.q (.fad 33 (.t 1))), []⟩ :: hid l_InRight_5
@[simp] def l_InRight_3 (_ : Unit) : List EOp := ⟨0, (some 3), none, (.q (.fad 0 (.t 1))), []⟩ :: ⟨1, (some 4), none, (.q (.fad 32 (.t 3))), []⟩ :: ⟨2, (some 5), none, (.q (.ldc (.t 4))), []⟩ :: ⟨3, (some 6), none, (.q (.bin .geq (.t 5) (.k (.int .i64 0)))), []⟩ :: ⟨4, (some 7), none, (.q (.mov (.t 6))), []⟩ :: ⟨5, (some 8), (some (7, true)), (.q (.fad 0 (.t 1))), []⟩ :: hid l_InRight_4
@[simp] def b_InRight_8 (_ : Unit) : EB := reg0 (hid l_InRight_3) 27
@[simp] def b_InRight_9 (_ : Unit) : EB := .seq (hid b_InRight_8) .ret
@[simp] def b_InRight_10 (_ : Unit) : EB := .seq (hid b_InRight_2) (hid b_InRight_9)
def c_InRight : EB × List QOp × Nat := ((hid b_InRight_10), [(.mov (.t 2))], 29)
theorem k_InRight : cfun Tryz.prog 114 = some c_InRight := by kernel_rfl

@[simp] def l_TxC1_1 (_ : Unit) : List EOp := [⟨0, (some 1), none, (.q (.box 146 (.t 0))), []⟩, ⟨1, (some 2), none, (.q (.mov (.k (.bool false)))), []⟩]
@[simp] def b_TxC1_2 (_ : Unit) : EB := reg0 (hid l_TxC1_1) 2
@[simp] def l_TxC1_3 (_ : Unit) : List EOp := [⟨0, (some 3), none, (.q (.lda 35 (.t 1))), []⟩, ⟨1, (some 4), none, (.call 114 [(.t 3)]), []⟩, ⟨2, (some 5), none, (.q (.un .not (.t 4))), []⟩, ⟨3, (some 2), none, (.q (.mov (.t 5))), []⟩]
@[simp] def b_TxC1_4 (_ : Unit) : EB := reg0 (hid l_TxC1_3) 4
@[simp] def b_TxC1_5 (_ : Unit) : EB := .seq (hid b_TxC1_4) .ret
@[simp] def b_TxC1_6 (_ : Unit) : EB := .seq (hid b_TxC1_2) (hid b_TxC1_5)
def c_TxC1 : EB × List QOp × Nat := ((hid b_TxC1_6), [(.mov (.t 2))], 6)
theorem k_TxC1 : cfun Tryz.prog 113 = some c_TxC1 := by kernel_rfl

@[simp] def l_IdxIn_1 (_ : Unit) : List EOp := [⟨0, (some 4), none, (.q (.mov (.k (.int .i64 0)))), []⟩]
@[simp] def b_IdxIn_2 (_ : Unit) : EB := reg0 (hid l_IdxIn_1) 1
@[simp] def l_IdxIn_3 (_ : Unit) : List EOp := [⟨0, (some 6), none, (.q (.mov (.t 0))), []⟩, ⟨1, (some 7), none, (.q (.len (.t 6))), []⟩, ⟨2, (some 8), none, (.q (.mov (.k (.int .i64 0)))), []⟩]
@[simp] def b_IdxIn_4 (_ : Unit) : EB := reg0 (hid l_IdxIn_3) 3
@[simp] def l_IdxIn_5 (_ : Unit) : List EOp := [⟨0, (some 9), none, (.q (.bin .lss (.t 8) (.t 7))), []⟩]
@[simp] def b_IdxIn_6 (_ : Unit) : EB := reg0 (hid l_IdxIn_5) 1
@[simp] def b_IdxIn_7 (_ : Unit) : EB := .cond (.t 9) .skip (.exit 0)
@[simp] def l_IdxIn_8 (_ : Unit) : List EOp := [⟨0, (some 10), none, (.q (.mov (.t 8))), []⟩, ⟨1, (some 5), none, (.q (.mov (.t 10))), []⟩]
@[simp] def b_IdxIn_9 (_ : Unit) : EB := reg0 (hid l_IdxIn_8) 2
@[simp] def l_IdxIn_10 (_ : Unit) : List EOp := [⟨0, (some 11), none, (.q (.mov (.t 1))), []⟩, ⟨1, (some 12), none, (.q (.mov (.t 0))), []⟩, ⟨2, (some 13), none, (.q (.mov (.t 5))), []⟩, ⟨3, (some 14), none, (.q (.isl 35 (.t 12) (.t 13))), []⟩, ⟨4, (some 15), none, (.q (.lda 35 (.t 14))), []⟩, ⟨5, (some 16), none, (.clo (.t 11) [(.t 15)]), []⟩]
@[simp] def b_IdxIn_11 (_ : Unit) : EB := reg0 (hid l_IdxIn_10) 6
@[simp] def l_IdxIn_12 (_ : Unit) : List EOp := [⟨0, (some 17), none, (.q (.mov (.t 5))), []⟩, ⟨1, (some 4), none, (.q (.mov (.t 17))), []⟩]
@[simp] def b_IdxIn_13 (_ : Unit) : EB := reg0 (hid l_IdxIn_12) 2
@[simp] def b_IdxIn_14 (_ : Unit) : EB := .seq (hid b_IdxIn_13) .ret
@[simp] def b_IdxIn_15 (_ : Unit) : EB := .cond (.t 16) (hid b_IdxIn_14) .skip
@[simp] def b_IdxIn_16 (_ : Unit) : EB := .seq (hid b_IdxIn_11) (hid b_IdxIn_15)
@[simp] def b_IdxIn_17 (_ : Unit) : EB := .seq (hid b_IdxIn_9) (hid b_IdxIn_16)
@[simp] def b_IdxIn_18 (_ : Unit) : EB := .block 1 (hid b_IdxIn_17)
@[simp] def l_IdxIn_19 (_ : Unit) : List EOp := [⟨0, (some 18), none, (.q (.bin .add (.t 8) (.k (.int .i64 1)))), []⟩, ⟨1, (some 8), none, (.q (.mov (.t 18))), []⟩]
@[simp] def b_IdxIn_20 (_ : Unit) : EB := reg0 (hid l_IdxIn_19) 2
@[simp] def b_IdxIn_21 (_ : Unit) : EB := .seq (hid b_IdxIn_18) (hid b_IdxIn_20)
@[simp] def b_IdxIn_22 (_ : Unit) : EB := .seq (hid b_IdxIn_7) (hid b_IdxIn_21)
@[simp] def b_IdxIn_23 (_ : Unit) : EB := .seq (hid b_IdxIn_6) (hid b_IdxIn_22)
@[simp] def b_IdxIn_24 (_ : Unit) : EB := .loop (hid b_IdxIn_23)
@[simp] def b_IdxIn_25 (_ : Unit) : EB := .block 0 (hid b_IdxIn_24)
@[simp] def b_IdxIn_26 (_ : Unit) : EB := .seq (hid b_IdxIn_4) (hid b_IdxIn_25)
@[simp] def l_IdxIn_27 (_ : Unit) : List EOp := [⟨0, (some 4), none, (.q (.mov (.k (.int .i64 (-1))))), []⟩]
@[simp] def b_IdxIn_28 (_ : Unit) : EB := reg0 (hid l_IdxIn_27) 1
@[simp] def b_IdxIn_29 (_ : Unit) : EB := .seq (hid b_IdxIn_28) .ret
@[simp] def b_IdxIn_30 (_ : Unit) : EB := .seq (hid b_IdxIn_26) (hid b_IdxIn_29)
@[simp] def b_IdxIn_31 (_ : Unit) : EB := .seq (hid b_IdxIn_2) (hid b_IdxIn_30)
def c_IdxIn : EB × List QOp × Nat := ((hid b_IdxIn_31), [(.mov (.t 4))], 19)
theorem k_IdxIn : cfun Tryz.prog 168 = some c_IdxIn := by kernel_rfl

@[simp] def l_ConIn_1 (_ : Unit) : List EOp := [⟨0, (some 4), none, (.q (.mov (.k (.bool false)))), []⟩]
@[simp] def b_ConIn_2 (_ : Unit) : EB := reg0 (hid l_ConIn_1) 1
@[simp] def l_ConIn_3 (_ : Unit) : List EOp := [⟨0, (some 5), none, (.q (.mov (.t 0))), []⟩, ⟨1, (some 6), none, (.q (.mov (.t 1))), []⟩, ⟨2, (some 7), none, (.call 168 [(.t 5), (.t 6)]), []⟩, ⟨3, (some 8), none, (.q (.bin .geq (.t 7) (.k (.int .i64 0)))), []⟩, ⟨4, (some 4), none, (.q (.mov (.t 8))), []⟩]
@[simp] def b_ConIn_4 (_ : Unit) : EB := reg0 (hid l_ConIn_3) 5
@[simp] def b_ConIn_5 (_ : Unit) : EB := .seq (hid b_ConIn_4) .ret
@[simp] def b_ConIn_6 (_ : Unit) : EB := .seq (hid b_ConIn_2) (hid b_ConIn_5)
def c_ConIn : EB × List QOp × Nat := ((hid b_ConIn_6), [(.mov (.t 4))], 9)
theorem k_ConIn : cfun Tryz.prog 116 = some c_ConIn := by kernel_rfl

@[simp] def l_Bmay_1 (_ : Unit) : List EOp := [⟨0, (some 1), none, (.q (.box 196 (.t 0))), []⟩, ⟨1, (some 2), none, (.q (.mov (.k (.bool false)))), []⟩]
@[simp] def b_Bmay_2 (_ : Unit) : EB := reg0 (hid l_Bmay_1) 2
@[simp] def l_Bmay_3 (_ : Unit) : List EOp := [⟨0, (some 5), none, (.q (.fad 0 (.t 1))), []⟩, ⟨1, (some 6), none, (.q (.ldc (.t 5))), []⟩, ⟨2, (some 7), none, (.q (.len (.t 6))), []⟩, ⟨3, (some 8), none, (.q (.mov (.k (.int .i64 0)))), []⟩]
@[simp] def b_Bmay_4 (_ : Unit) : EB := reg0 (hid l_Bmay_3) 4
@[simp] def l_Bmay_5 (_ : Unit) : List EOp := [⟨0, (some 9), none, (.q (.bin .lss (.t 8) (.t 7))), []⟩]
@[simp] def b_Bmay_6 (_ : Unit) : EB := reg0 (hid l_Bmay_5) 1
@[simp] def b_Bmay_7 (_ : Unit) : EB := .cond (.t 9) .skip (.exit 0)
@[simp] def l_Bmay_8 (_ : Unit) : List EOp := [⟨0, (some 10), none, (.q (.mov (.t 8))), []⟩, ⟨1, (some 11), none, (.q (.isl 1 (.t 6) (.t 8))), []⟩, ⟨2, (some 12), none, (.q (.ldc (.t 11))), []⟩, ⟨3, (some 3), none, (.q (.mov (.t 10))), []⟩, ⟨4, (some 4), none, (.q (.mov (.t 12))), []⟩]
@[simp] def b_Bmay_9 (_ : Unit) : EB := reg0 (hid l_Bmay_8) 5
@[simp] def l_Bmay_13 (_ : Unit) : List EOp := [⟨18, (some 31), (some (19, false)), (.q (.pick (.t 22) (.t 30) (.k (.bool false)))), []⟩, ⟨19, (some 32), none, (.q (.pick (.t 19) (.k (.bool true)) (.t 31))), []⟩]
@[simp] def l_Bmay_12 (_ : Unit) : List EOp := ⟨12, (some 25), (some (22, true)), (.q (.mov (.t 3))), []⟩ :: ⟨13, (some 26), (some (22, true)), (.q (.bin .sub (.t 25) (.k (.int .i64 1)))), []⟩ :: ⟨14, (some 27), (some (22, true)), (.q (.isl 1 (.t 24) (.t 26))), []⟩ :: ⟨15, (some 28), (some (22, true)), (.q (.ldc (.t 27))), []⟩ :: ⟨16, (some 29), (some (22, true)), (.q (.mov (.t 4))), []⟩ :: ⟨17, (some 30), (some (22, true)), (.q (.bin .geq (.t 28) (.t 29))), []⟩ :: hid l_Bmay_13
@[simp] def l_Bmay_11 (_ : Unit) : List EOp := ⟨6, (some 19), none, (.q (.mov (.t 18))), []⟩ :: ⟨7, (some 20), (some (19, false)), (.q (.mov (.t 3))), []⟩ :: ⟨8, (some 21), (some (19, false)), (.q (.bin .gtr (.t 20) (.k (.int .i64 0)))), []⟩ :: ⟨9, (some 22), (some (19, false)), (.q (.mov (.t 21))), []⟩ :: ⟨10, (some 23), (some (22, true)), (.q (.fad 0 (.t 1))), []⟩ :: ⟨11, (some 24), (some (22, true)), (.q (.ldc (.t 23))), []⟩ :: hid l_Bmay_12
@[simp] def l_Bmay_10 (_ : Unit) : List EOp := ⟨0, (some 13), none, (.q (.mov (.t 4))), []⟩ :: ⟨1, (some 14), none, (.q (.bin .lss (.t 13) (.k (.int .i64 0)))), []⟩ :: ⟨2, (some 15), none, (.q (.mov (.t 14))), []⟩ :: ⟨3, (some 16), (some (15, false)), (.q (.mov (.t 4))), []⟩ :: ⟨4, (some 17), (some (15, false)), (.q (.bin .geq (.t 16) (.k (.int .i64 16)))), []⟩ :: ⟨5, (some 18), none, (.q (.pick (.t 15) (.k (.bool true)) (.t 17))), []⟩ :: hid l_Bmay_11
@[simp] def b_Bmay_14 (_ : Unit) : EB := reg0 (hid l_Bmay_10) 20
@[simp] def l_Bmay_15 (_ : Unit) : List EOp := [⟨0, (some 2), none, (.q (.mov (.k (.bool false)))), []⟩]
@[simp] def b_Bmay_16 (_ : Unit) : EB := reg0 (hid l_Bmay_15) 1
@[simp] def b_Bmay_17 (_ : Unit) : EB := .seq (hid b_Bmay_16) .ret
@[simp] def b_Bmay_18 (_ : Unit) : EB := .cond (.t 32) (hid b_Bmay_17) .skip
@[simp] def b_Bmay_19 (_ : Unit) : EB := .seq (hid b_Bmay_14) (hid b_Bmay_18)
@[simp] def b_Bmay_20 (_ : Unit) : EB := .seq (hid b_Bmay_9) (hid b_Bmay_19)
@[simp] def b_Bmay_21 (_ : Unit) : EB := .block 1 (hid b_Bmay_20)
@[simp] def l_Bmay_22 (_ : Unit) : List EOp := [⟨0, (some 33), none, (.q (.bin .add (.t 8) (.k (.int .i64 1)))), []⟩, ⟨1, (some 8), none, (.q (.mov (.t 33))), []⟩]
@[simp] def b_Bmay_23 (_ : Unit) : EB := reg0 (hid l_Bmay_22) 2
@[simp] def b_Bmay_24 (_ : Unit) : EB := .seq (hid b_Bmay_21) (hid b_Bmay_23)
@[simp] def b_Bmay_25 (_ : Unit) : EB := .seq (hid b_Bmay_7) (hid b_Bmay_24)
@[simp] def b_Bmay_26 (_ : Unit) : EB := .seq (hid b_Bmay_6) (hid b_Bmay_25)
@[simp] def b_Bmay_27 (_ : Unit) : EB := .loop (hid b_Bmay_26)
@[simp] def b_Bmay_28 (_ : Unit) : EB := .block 0 (hid b_Bmay_27)
@[simp] def b_Bmay_29 (_ : Unit) : EB := .seq (hid b_Bmay_4) (hid b_Bmay_28)
@[simp] def l_Bmay_34 (_ : Unit) : List EOp := [⟨24, (some 2), none, (.q (.mov (.t 57))), []⟩]
@[simp] def l_Bmay_33 (_ : Unit) : List EOp := ⟨18, (some 52), none, (.q (.pick (.t 48) (.t 51) (.k (.bool false)))), []⟩ :: ⟨19, (some 53), none, (.q (.mov (.t 52))), []⟩ :: ⟨20, (some 54), (some (53, true)), (.q (.fad 34 (.t 1))), []⟩ :: ⟨21, (some 55), (some (53, true)), (.q (.ldc (.t 54))), []⟩ :: ⟨22, (some 56), (some (53, true)), (.q (.bin .leq (.t 55) (.k (.int .i64 65536)))), []⟩ :: ⟨23, (some 57), none, (.q (.pick (.t 53) (.t 56) (.k (.bool false)))), []⟩ :: hid l_Bmay_34
@[simp] def l_Bmay_32 (_ : Unit) : List EOp := ⟨12, (some 46), (some (43, true)), (.q (.bin .leq (.t 45) (.k (.int .i64 1099511627776)))), []⟩ :: ⟨13, (some 47), none, (.q (.pick (.t 43) (.t 46) (.k (.bool false)))), []⟩ :: ⟨14, (some 48), none, (.q (.mov (.t 47))), []⟩ :: ⟨15, (some 49), (some (48, true)), (.q (.fad 34 (.t 1))), []⟩ :: ⟨16, (some 50), (some (48, true)), (.q (.ldc (.t 49))), []⟩ :: ⟨17, (some 51), (some (48, true)), (.q (.bin .geq (.t 50) (.k (.int .i64 0)))), []⟩ :: hid l_Bmay_33
@[simp] def l_Bmay_31 (_ : Unit) : List EOp := ⟨6, (some 40), (some (38, true)), (.q (.ldc (.t 39))), []⟩ :: ⟨7, (some 41), (some (38, true)), (.q (.bin .geq (.t 40) (.k (.int .i64 0)))), []⟩ :: ⟨8, (some 42), none, (.q (.pick (.t 38) (.t 41) (.k (.bool false)))), []⟩ :: ⟨9, (some 43), none, (.q (.mov (.t 42))), []⟩ :: ⟨10, (some 44), (some (43, true)), (.q (.fad 33 (.t 1))), []⟩ :: ⟨11, (some 45), (some (43, true)), (.q (.ldc (.t 44))), []⟩ :: hid l_Bmay_32
@[simp] def l_Bmay_30 (_ : Unit) : List EOp := ⟨0, (some 34), none, (.q (.fad 0 (.t 1))), []⟩ :: ⟨1, (some 35), none, (.q (.ldc (.t 34))), []⟩ :: ⟨2, (some 36), none, (.q (.len (.t 35))), []⟩ :: ⟨3, (some 37), none, (.q (.bin .geq (.t 36) (.k (.int .i64 1)))), []⟩ :: ⟨4, (some 38), none, (.q (.mov (.t 37))), []⟩ :: ⟨5, (some 39), (some (38, true)), (.q (.fad 33 (.t 1))), []⟩ :: hid l_Bmay_31
@[simp] def b_Bmay_35 (_ : Unit) : EB := reg0 (hid l_Bmay_30) 25
@[simp] def b_Bmay_36 (_ : Unit) : EB := .seq (hid b_Bmay_35) .ret
@[simp] def b_Bmay_37 (_ : Unit) : EB := .seq (hid b_Bmay_29) (hid b_Bmay_36)
@[simp] def b_Bmay_38 (_ : Unit) : EB := .seq (hid b_Bmay_2) (hid b_Bmay_37)
def c_Bmay : EB × List QOp × Nat := ((hid b_Bmay_38), [(.mov (.t 2))], 58)
theorem k_Bmay : cfun Tryz.prog 198 = some c_Bmay := by kernel_rfl

@[simp] def l_CndC1_1 (_ : Unit) : List EOp := [⟨0, (some 1), none, (.q (.box 196 (.t 0))), []⟩, ⟨1, (some 2), none, (.q (.mov (.k (.bool false)))), []⟩]
@[simp] def b_CndC1_2 (_ : Unit) : EB := reg0 (hid l_CndC1_1) 2
@[simp] def l_CndC1_3 (_ : Unit) : List EOp := [⟨0, (some 3), none, (.q (.lda 35 (.t 1))), []⟩, ⟨1, (some 4), none, (.call 198 [(.t 3)]), []⟩, ⟨2, (some 5), none, (.q (.un .not (.t 4))), []⟩, ⟨3, (some 2), none, (.q (.mov (.t 5))), []⟩]
@[simp] def b_CndC1_4 (_ : Unit) : EB := reg0 (hid l_CndC1_3) 4
@[simp] def b_CndC1_5 (_ : Unit) : EB := .seq (hid b_CndC1_4) .ret
@[simp] def b_CndC1_6 (_ : Unit) : EB := .seq (hid b_CndC1_2) (hid b_CndC1_5)
def c_CndC1 : EB × List QOp × Nat := ((hid b_CndC1_6), [(.mov (.t 2))], 6)
theorem k_CndC1 : cfun Tryz.prog 197 = some c_CndC1 := by kernel_rfl

@[simp] def l_IdxBr_1 (_ : Unit) : List EOp := [⟨0, (some 4), none, (.q (.mov (.k (.int .i64 0)))), []⟩]
@[simp] def b_IdxBr_2 (_ : Unit) : EB := reg0 (hid l_IdxBr_1) 1
@[simp] def l_IdxBr_3 (_ : Unit) : List EOp := [⟨0, (some 6), none, (.q (.mov (.t 0))), []⟩, ⟨1, (some 7), none, (.q (.len (.t 6))), []⟩, ⟨2, (some 8), none, (.q (.mov (.k (.int .i64 0)))), []⟩]
@[simp] def b_IdxBr_4 (_ : Unit) : EB := reg0 (hid l_IdxBr_3) 3
@[simp] def l_IdxBr_5 (_ : Unit) : List EOp := [⟨0, (some 9), none, (.q (.bin .lss (.t 8) (.t 7))), []⟩]
@[simp] def b_IdxBr_6 (_ : Unit) : EB := reg0 (hid l_IdxBr_5) 1
@[simp] def b_IdxBr_7 (_ : Unit) : EB := .cond (.t 9) .skip (.exit 0)
@[simp] def l_IdxBr_8 (_ : Unit) : List EOp := [⟨0, (some 10), none, (.q (.mov (.t 8))), []⟩, ⟨1, (some 5), none, (.q (.mov (.t 10))), []⟩]
@[simp] def b_IdxBr_9 (_ : Unit) : EB := reg0 (hid l_IdxBr_8) 2
@[simp] def l_IdxBr_10 (_ : Unit) : List EOp := [⟨0, (some 11), none, (.q (.mov (.t 1))), []⟩, ⟨1, (some 12), none, (.q (.mov (.t 0))), []⟩, ⟨2, (some 13), none, (.q (.mov (.t 5))), []⟩, ⟨3, (some 14), none, (.q (.isl 35 (.t 12) (.t 13))), []⟩, ⟨4, (some 15), none, (.q (.lda 35 (.t 14))), []⟩, ⟨5, (some 16), none, (.clo (.t 11) [(.t 15)]), []⟩]
@[simp] def b_IdxBr_11 (_ : Unit) : EB := reg0 (hid l_IdxBr_10) 6
@[simp] def l_IdxBr_12 (_ : Unit) : List EOp := [⟨0, (some 17), none, (.q (.mov (.t 5))), []⟩, ⟨1, (some 4), none, (.q (.mov (.t 17))), []⟩]
@[simp] def b_IdxBr_13 (_ : Unit) : EB := reg0 (hid l_IdxBr_12) 2
@[simp] def b_IdxBr_14 (_ : Unit) : EB := .seq (hid b_IdxBr_13) .ret
@[simp] def b_IdxBr_15 (_ : Unit) : EB := .cond (.t 16) (hid b_IdxBr_14) .skip
@[simp] def b_IdxBr_16 (_ : Unit) : EB := .seq (hid b_IdxBr_11) (hid b_IdxBr_15)
@[simp] def b_IdxBr_17 (_ : Unit) : EB := .seq (hid b_IdxBr_9) (hid b_IdxBr_16)
@[simp] def b_IdxBr_18 (_ : Unit) : EB := .block 1 (hid b_IdxBr_17)
@[simp] def l_IdxBr_19 (_ : Unit) : List EOp := [⟨0, (some 18), none, (.q (.bin .add (.t 8) (.k (.int .i64 1)))), []⟩, ⟨1, (some 8), none, (.q (.mov (.t 18))), []⟩]
@[simp] def b_IdxBr_20 (_ : Unit) : EB := reg0 (hid l_IdxBr_19) 2
@[simp] def b_IdxBr_21 (_ : Unit) : EB := .seq (hid b_IdxBr_18) (hid b_IdxBr_20)
@[simp] def b_IdxBr_22 (_ : Unit) : EB := .seq (hid b_IdxBr_7) (hid b_IdxBr_21)
@[simp] def b_IdxBr_23 (_ : Unit) : EB := .seq (hid b_IdxBr_6) (hid b_IdxBr_22)
@[simp] def b_IdxBr_24 (_ : Unit) : EB := .loop (hid b_IdxBr_23)
@[simp] def b_IdxBr_25 (_ : Unit) : EB := .block 0 (hid b_IdxBr_24)
@[simp] def b_IdxBr_26 (_ : Unit) : EB := .seq (hid b_IdxBr_4) (hid b_IdxBr_25)
@[simp] def l_IdxBr_27 (_ : Unit) : List EOp := [⟨0, (some 4), none, (.q (.mov (.k (.int .i64 (-1))))), []⟩]
@[simp] def b_IdxBr_28 (_ : Unit) : EB := reg0 (hid l_IdxBr_27) 1
@[simp] def b_IdxBr_29 (_ : Unit) : EB := .seq (hid b_IdxBr_28) .ret
@[simp] def b_IdxBr_30 (_ : Unit) : EB := .seq (hid b_IdxBr_26) (hid b_IdxBr_29)
@[simp] def b_IdxBr_31 (_ : Unit) : EB := .seq (hid b_IdxBr_2) (hid b_IdxBr_30)
def c_IdxBr : EB × List QOp × Nat := ((hid b_IdxBr_31), [(.mov (.t 4))], 19)
theorem k_IdxBr : cfun Tryz.prog 149 = some c_IdxBr := by kernel_rfl

@[simp] def l_ConBr_1 (_ : Unit) : List EOp := [⟨0, (some 4), none, (.q (.mov (.k (.bool false)))), []⟩]
@[simp] def b_ConBr_2 (_ : Unit) : EB := reg0 (hid l_ConBr_1) 1
@[simp] def l_ConBr_3 (_ : Unit) : List EOp := [⟨0, (some 5), none, (.q (.mov (.t 0))), []⟩, ⟨1, (some 6), none, (.q (.mov (.t 1))), []⟩, ⟨2, (some 7), none, (.call 149 [(.t 5), (.t 6)]), []⟩, ⟨3, (some 8), none, (.q (.bin .geq (.t 7) (.k (.int .i64 0)))), []⟩, ⟨4, (some 4), none, (.q (.mov (.t 8))), []⟩]
@[simp] def b_ConBr_4 (_ : Unit) : EB := reg0 (hid l_ConBr_3) 5
@[simp] def b_ConBr_5 (_ : Unit) : EB := .seq (hid b_ConBr_4) .ret
@[simp] def b_ConBr_6 (_ : Unit) : EB := .seq (hid b_ConBr_2) (hid b_ConBr_5)
def c_ConBr : EB × List QOp × Nat := ((hid b_ConBr_6), [(.mov (.t 4))], 9)
theorem k_ConBr : cfun Tryz.prog 83 = some c_ConBr := by kernel_rfl

@[simp] def l_CCheck_1 (_ : Unit) : List EOp := [⟨0, (some 1), none, (.q (.box 109 (.t 0))), []⟩, ⟨1, (some 2), none, (.q (.mov (.k .nilIface))), []⟩]
@[simp] def b_CCheck_2 (_ : Unit) : EB := reg0 (hid l_CCheck_1) 2
@[simp] def l_CCheck_3 (_ : Unit) : List EOp := [⟨0, (some 3), none, (.q (.mov (.k (.func (.func 197) #[] #[])))), []⟩]
@[simp] def b_CCheck_4 (_ : Unit) : EB := reg0 (hid l_CCheck_3) 1
@[simp] def l_CCheck_7 (_ : Unit) : List EOp := [⟨12, (some 16), (some (14, false)), (.q (.ldc (.t 15))), []⟩, ⟨13, (some 17), (some (14, false)), (.q (.mov (.t 3))), []⟩, ⟨14, (some 18), (some (14, false)), (.call 83 [(.t 16), (.t 17)]), []⟩, ⟨15, (some 19), none, (.q (.pick (.t 14) (.k (.bool true)) (.t 18))), []⟩]
@[simp] def l_CCheck_6 (_ : Unit) : List EOp := ⟨6, (some 10), (some (8, false)), (.q (.ldc (.t 9))), []⟩ :: ⟨7, (some 11), (some (8, false)), (.q (.len (.t 10))), []⟩ :: ⟨8, (some 12), (some (8, false)), (.q (.bin .gtr (.t 11) (.k (.int .i64 8)))), []⟩ :: ⟨9, (some 13), none, (.q (.pick (.t 8) (.k (.bool true)) (.t 12))), []⟩ :: ⟨10, (some 14), none, (.q (.mov (.t 13))), []⟩ :: ⟨11, (some 15), (some (14, false)), (.q (.fad 0 (.t 1))), []⟩ :: hid l_CCheck_7
@[simp] def l_CCheck_5 (_ : Unit) : List EOp := ⟨0, (some 4), none, (.q (.fad 0 (.t 1))), []⟩ :: ⟨1, (some 5), none, (.q (.ldc (.t 4))), []⟩ :: ⟨2, (some 6), none, (.q (.len (.t 5))), []⟩ :: ⟨3, (some 7), none, (.q (.bin .lss (.t 6) (.k (.int .i64 1)))), []⟩ :: ⟨4, (some 8), none, (.q (.mov (.t 7))), []⟩ :: ⟨5, (some 9), (some (8, false)), (.q (.fad 0 (.t 1))), []⟩ :: hid l_CCheck_6
@[simp] def b_CCheck_8 (_ : Unit) : EB := reg0 (hid l_CCheck_5) 16
@[simp] def l_CCheck_9 (_ : Unit) : List EOp := [⟨0, (some 20), none, (.q (.mki 132 (.k (.int .i64 1)))), []⟩, ⟨1, (some 2), none, (.q (.mov (.t 20))), []⟩]
@[simp] def b_CCheck_10 (_ : Unit) : EB := reg0 (hid l_CCheck_9) 2
@[simp] def b_CCheck_11 (_ : Unit) : EB := .seq (hid b_CCheck_10) .ret
@[simp] def b_CCheck_12 (_ : Unit) : EB := .cond (.t 19) (hid b_CCheck_11) .skip
@[simp] def b_CCheck_13 (_ : Unit) : EB := .seq (hid b_CCheck_8) (hid b_CCheck_12)
@[simp] def l_CCheck_14 (_ : Unit) : List EOp := [⟨0, (some 2), none, (.q (.mov (.k .nilIface))), []⟩]
@[simp] def b_CCheck_15 (_ : Unit) : EB := reg0 (hid l_CCheck_14) 1
@[simp] def b_CCheck_16 (_ : Unit) : EB := .seq (hid b_CCheck_15) .ret
@[simp] def b_CCheck_17 (_ : Unit) : EB := .seq (hid b_CCheck_13) (hid b_CCheck_16)
@[simp] def b_CCheck_18 (_ : Unit) : EB := .seq (hid b_CCheck_4) (hid b_CCheck_17)
@[simp] def b_CCheck_19 (_ : Unit) : EB := .seq (hid b_CCheck_2) (hid b_CCheck_18)
def c_CCheck : EB × List QOp × Nat := ((hid b_CCheck_19), [(.mov (.t 2))], 21)
theorem k_CCheck : cfun Tryz.prog 169 = some c_CCheck := by kernel_rfl

@[simp] def l_OutChk_1 (_ : Unit) : List EOp := [⟨0, (some 1), none, (.q (.box 112 (.t 0))), []⟩, ⟨1, (some 2), none, (.q (.mov (.k .nilIface))), []⟩]
@[simp] def b_OutChk_2 (_ : Unit) : EB := reg0 (hid l_OutChk_1) 2
@[simp] def l_OutChk_3 (_ : Unit) : List EOp := [⟨0, (some 4), none, (.q (.fad 0 (.t 1))), []⟩, ⟨1, (some 5), none, (.q (.ldc (.t 4))), []⟩, ⟨2, (some 6), none, (.q (.bin .lss (.t 5) (.k (.int .i64 10)))), []⟩, ⟨3, (some 3), none, (.q (.mov (.t 6))), []⟩]
@[simp] def b_OutChk_4 (_ : Unit) : EB := reg0 (hid l_OutChk_3) 4
@[simp] def l_OutChk_5 (_ : Unit) : List EOp := [⟨0, (some 7), none, (.q (.mki 132 (.k (.int .i64 27)))), []⟩, ⟨1, (some 2), none, (.q (.mov (.t 7))), []⟩]
@[simp] def b_OutChk_6 (_ : Unit) : EB := reg0 (hid l_OutChk_5) 2
@[simp] def b_OutChk_7 (_ : Unit) : EB := .seq (hid b_OutChk_6) .ret
@[simp] def l_OutChk_8 (_ : Unit) : List EOp := [⟨0, (some 9), none, (.q (.fad 0 (.t 1))), []⟩, ⟨1, (some 10), none, (.q (.ldc (.t 9))), []⟩, ⟨2, (some 11), none, (.q (.bin .gtr (.t 10) (.k (.int .i64 1125899906842624)))), []⟩, ⟨3, (some 8), none, (.q (.mov (.t 11))), []⟩]
@[simp] def b_OutChk_9 (_ : Unit) : EB := reg0 (hid l_OutChk_8) 4
@[simp] def l_OutChk_10 (_ : Unit) : List EOp := [⟨0, (some 12), none, (.q (.mki 132 (.k (.int .i64 5)))), []⟩, ⟨1, (some 2), none, (.q (.mov (.t 12))), []⟩]
@[simp] def b_OutChk_11 (_ : Unit) : EB := reg0 (hid l_OutChk_10) 2
@[simp] def b_OutChk_12 (_ : Unit) : EB := .seq (hid b_OutChk_11) .ret
@[simp] def b_OutChk_13 (_ : Unit) : EB := .cond (.t 8) (hid b_OutChk_12) .skip
@[simp] def b_OutChk_14 (_ : Unit) : EB := .seq (hid b_OutChk_9) (hid b_OutChk_13)
@[simp] def b_OutChk_15 (_ : Unit) : EB := .cond (.t 3) (hid b_OutChk_7) (hid b_OutChk_14)
@[simp] def b_OutChk_16 (_ : Unit) : EB := .seq (hid b_OutChk_4) (hid b_OutChk_15)
@[simp] def b_OutChk_17 (_ : Unit) : EB := .block 0 (hid b_OutChk_16)
@[simp] def l_OutChk_18 (_ : Unit) : List EOp := [⟨0, (some 13), none, (.q (.fad 1 (.t 1))), []⟩, ⟨1, (some 14), none, (.q (.lda 1 (.t 13))), []⟩, ⟨2, (some 15), none, (.call 169 [(.t 14)]), []⟩, ⟨3, (some 2), none, (.q (.mov (.t 15))), []⟩]
@[simp] def b_OutChk_19 (_ : Unit) : EB := reg0 (hid l_OutChk_18) 4
@[simp] def b_OutChk_20 (_ : Unit) : EB := .seq (hid b_OutChk_19) .ret
@[simp] def b_OutChk_21 (_ : Unit) : EB := .seq (hid b_OutChk_17) (hid b_OutChk_20)
@[simp] def b_OutChk_22 (_ : Unit) : EB := .seq (hid b_OutChk_2) (hid b_OutChk_21)
def c_OutChk : EB × List QOp × Nat := ((hid b_OutChk_22), [(.mov (.t 2))], 16)
theorem k_OutChk : cfun Tryz.prog 117 = some c_OutChk := by kernel_rfl

@[simp] def l_TxSome_1 (_ : Unit) : List EOp := [⟨0, (some 2), none, (.q (.mov (.k (.bool false)))), []⟩]
@[simp] def b_TxSome_2 (_ : Unit) : EB := reg0 (hid l_TxSome_1) 1
@[simp] def l_TxSome_4 (_ : Unit) : List EOp := [⟨6, (some 2), none, (.q (.mov (.t 8))), []⟩]
@[simp] def l_TxSome_3 (_ : Unit) : List EOp := ⟨0, (some 3), none, (.q (.mov (.t 0))), []⟩ :: ⟨1, (some 4), none, (.q (.bin .geq (.t 3) (.k (.int .i64 1)))), []⟩ :: ⟨2, (some 5), none, (.q (.mov (.t 4))), []⟩ :: ⟨3, (some 6), (some (5, true)), (.q (.mov (.t 0))), []⟩ :: ⟨4, (some 7), (some (5, true)), (.q (.bin .leq (.t 6) (.k (.int .i64 64)))), []⟩ :: ⟨5, (some 8), none, (.q (.pick (.t 5) (.t 7) (.k (.bool false)))), []⟩ :: hid l_TxSome_4
@[simp] def b_TxSome_5 (_ : Unit) : EB := reg0 (hid l_TxSome_3) 7
@[simp] def b_TxSome_6 (_ : Unit) : EB := .seq (hid b_TxSome_5) .ret
@[simp] def b_TxSome_7 (_ : Unit) : EB := .seq (hid b_TxSome_2) (hid b_TxSome_6)
def c_TxSome : EB × List QOp × Nat := ((hid b_TxSome_7), [(.mov (.t 2))], 9)
theorem k_TxSome : cfun Tryz.prog 115 = some c_TxSome := by kernel_rfl


/-! ### transactions -/
structure Bra where
  keys : List Int
  lock : List UInt8
  af : Int
  ol : Int
structure Inp where
  tx : List UInt8
  n : Int
  br : Int
  sec : List UInt8
structure Outp where
  am : Int
  cs : List Bra
structure Txn where
  lk : Int
  ins : List Inp
  outs : List Outp
def braF (b : Bra) : List FV := .sl 1 (intv b.keys) :: (hf b.lock ++ [iF b.af, iF b.ol])
def inpF (x : Inp) : List FV := hf x.tx ++ [iF x.n, iF x.br, .sl 1 (bsv x.sec)]
def brav (l : List Bra) : List (List FV) := l.map braF
def outF (o : Outp) : List FV := [iF o.am, .sl 35 (brav o.cs)]
def inpv (l : List Inp) : List (List FV) := l.map inpF
def outv (l : List Outp) : List (List FV) := l.map outF
def braC (b : Bra) : List EC := .fz (.sl 1 (intv b.keys)) :: (hc b.lock ++ [iC b.af, iC b.ol])
def inpC (x : Inp) : List EC := hc x.tx ++ [iC x.n, iC x.br, .fz (.sl 1 (bsv x.sec))]
def outC (o : Outp) : List EC := [iC o.am, .fz (.sl 35 (brav o.cs))]
def txC (t : Txn) : List EC := [iC t.lk, .fz (.sl 35 (inpv t.ins)), .fz (.sl 2 (outv t.outs))]
def TXv (t : Txn) : EV := .v (.agg (txC t))
def CNv (l : List Bra) : EV := .v (.agg [.fz (.sl 35 (brav l))])
def Bra.ok (b : Bra) : Prop := (∀ k ∈ b.keys, i64 k) ∧ b.lock.length = 32 ∧ i64 b.af ∧ i64 b.ol ∧ b.keys.length ≤ 100000000
def Inp.ok (x : Inp) : Prop := x.tx.length = 32 ∧ i64 x.n ∧ i64 x.br ∧ x.sec.length ≤ 100000000
def Outp.ok (o : Outp) : Prop := i64 o.am ∧ (∀ b ∈ o.cs, b.ok) ∧ o.cs.length ≤ 100000000
def Txn.ok (t : Txn) : Prop := i64 t.lk ∧ (∀ x ∈ t.ins, x.ok) ∧ (∀ o ∈ t.outs, o.ok) ∧ t.ins.length ≤ 100000000 ∧ t.outs.length ≤ 100000000
theorem braF_fz (b : Bra) : (braF b).map EC.fz = braC b := by simp [braF, braC, iF, iC]
theorem inpF_fz (x : Inp) : (inpF x).map EC.fz = inpC x := by simp [inpF, inpC, iF, iC]
@[simp] theorem brav_len (l : List Bra) : (brav l).length = l.length := by simp [brav]
@[simp] theorem inpv_len (l : List Inp) : (inpv l).length = l.length := by simp [inpv]
@[simp] theorem outv_len (l : List Outp) : (outv l).length = l.length := by simp [outv]
theorem brav_get {l : List Bra} {i : Nat} {p : Bra} (h : l[i]? = some p) : (brav l)[i]? = some (braF p) := by simp [brav, h]
theorem inpv_get {l : List Inp} {i : Nat} {p : Inp} (h : l[i]? = some p) : (inpv l)[i]? = some (inpF p) := by simp [inpv, h]
theorem outv_get {l : List Outp} {i : Nat} {p : Outp} (h : l[i]? = some p) : (outv l)[i]? = some (outF p) := by simp [outv, h]
@[simp] theorem conAll_braC (H : Nat → Option EO) (ids : List Nat) (p : Bra) : conAll H ids (braC p) = some (braC p) := by rw [← braF_fz]; exact conAll_mp H ids _
@[simp] theorem strAll_braC (ids : List Nat) (p : Bra) : strAll ids (braC p) = some (braC p) := by rw [← braF_fz]; exact strAll_mp ids _
@[simp] theorem frzAll_braC (p : Bra) : frzAll (braC p) = some (braF p) := by rw [← braF_fz]; exact frzAll_mp _
@[simp] theorem refs_braC (p : Bra) : (braC p).flatMap refsC = [] := by rw [← braF_fz]; exact refs_mp _
@[simp] theorem fz_braC (ids : List Nat) (p : Bra) : (braC p).flatMap (fzC ids) = [] := by rw [← braF_fz]; exact fz_mp ids _
@[simp] theorem ren_braC (g : Nat → Nat) (p : Bra) : (braC p).map (renC g) = braC p := by rw [← braF_fz]; exact ren_mp g _
@[simp] theorem conAll_inpC (H : Nat → Option EO) (ids : List Nat) (p : Inp) : conAll H ids (inpC p) = some (inpC p) := by rw [← inpF_fz]; exact conAll_mp H ids _
@[simp] theorem strAll_inpC (ids : List Nat) (p : Inp) : strAll ids (inpC p) = some (inpC p) := by rw [← inpF_fz]; exact strAll_mp ids _
@[simp] theorem frzAll_inpC (p : Inp) : frzAll (inpC p) = some (inpF p) := by rw [← inpF_fz]; exact frzAll_mp _
@[simp] theorem refs_inpC (p : Inp) : (inpC p).flatMap refsC = [] := by rw [← inpF_fz]; exact refs_mp _
@[simp] theorem fz_inpC (ids : List Nat) (p : Inp) : (inpC p).flatMap (fzC ids) = [] := by rw [← inpF_fz]; exact fz_mp ids _
@[simp] theorem ren_inpC (g : Nat → Nat) (p : Inp) : (inpC p).map (renC g) = inpC p := by rw [← inpF_fz]; exact ren_mp g _
section
variable {b : Bra} (h : b.lock.length = 32)
include h
theorem bc_len : (braC b).length = 35 := by simp [braC, hc_len, h]
theorem bf_len : (braF b).length = 35 := by simp [braF, h]
theorem bc_take : (braC b).take 35 = braC b := List.take_of_length_le (by rw [bc_len h]; omega)
theorem bc_lock : ((braC b).drop 1).take 32 = hc b.lock := by
  have e : (hc b.lock).length = 32 := by rw [hc_len, h]
  unfold braC
  rw [List.drop_succ_cons, List.drop_zero, ← e, List.take_left]
theorem bc_33 : (braC b)[33]? = some (iC b.af) := by
  have e : (hc b.lock).length = 32 := by rw [hc_len, h]
  unfold braC
  rw [List.getElem?_cons_succ, List.getElem?_append_right (by omega), e]; rfl
theorem bc_34 : (braC b)[34]? = some (iC b.ol) := by
  have e : (hc b.lock).length = 32 := by rw [hc_len, h]
  unfold braC
  rw [List.getElem?_cons_succ, List.getElem?_append_right (by omega), e]; rfl
end
theorem bc_0 (b : Bra) : (braC b)[0]? = some (.fz (.sl 1 (intv b.keys))) := rfl
section
variable {x : Inp} (h : x.tx.length = 32)
include h
theorem ic_len : (inpC x).length = 35 := by simp [inpC, hc_len, h]
theorem if_len : (inpF x).length = 35 := by simp [inpF, h]
theorem ic_take : (inpC x).take 35 = inpC x := List.take_of_length_le (by rw [ic_len h]; omega)
theorem ic_hash : (inpC x).take 32 = hc x.tx := by
  have e : (hc x.tx).length = 32 := by rw [hc_len, h]
  unfold inpC
  rw [← e, List.take_left]
theorem ic_pt : (inpC x).take 33 = hc x.tx ++ [iC x.n] := by
  have e : (hc x.tx).length = 32 := by rw [hc_len, h]
  unfold inpC
  rw [List.take_append, List.take_of_length_le (by omega), e]; rfl
theorem ic_at (i : Nat) : (inpC x)[32 + i]? = [iC x.n, iC x.br, .fz (.sl 1 (bsv x.sec))][i]? := by
  have e : (hc x.tx).length = 32 := by rw [hc_len, h]
  unfold inpC
  rw [List.getElem?_append_right (by omega), e, Nat.add_sub_cancel_left]
theorem ic_32 : (inpC x)[32]? = some (iC x.n) := ic_at h 0
theorem ic_33 : (inpC x)[33]? = some (iC x.br) := ic_at h 1
theorem ic_34 : (inpC x)[34]? = some (.fz (.sl 1 (bsv x.sec))) := ic_at h 2
end

/-! ### what may be -/
def inM (x : Inp) : Bool := decide (0 ≤ x.n ∧ x.n < 64 ∧ 0 ≤ x.br ∧ x.br < 8 ∧ x.sec.length ≤ 64)
def brM (b : Bra) : Bool := keysS (-1) b.keys && decide (1 ≤ b.keys.length ∧ 0 ≤ b.af ∧ b.af ≤ 1099511627776 ∧ 0 ≤ b.ol ∧ b.ol ≤ 65536)
/-- A condition's error. -/
def cnE (l : List Bra) : Nat := if (1 ≤ l.length ∧ l.length ≤ 8) ∧ l.all brM = true then 0 else 1
/-- An output's error. -/
def ouE (o : Outp) : Nat := if o.am < 10 then 27 else if 1125899906842624 < o.am then 5 else cnE o.cs

set_option maxHeartbeats 2000000 in
theorem InRight_ok (x : Inp) (h : x.ok) : ECalls Tryz.prog 114 [.v (.agg (inpC x))] [] fun y H' => H' = [] ∧ y = .lit (.bool (inM x)) := by
  obtain ⟨h1, _, _, h4⟩ := h
  have l0 := ic_len h1
  have e32 := idx_of (ic_32 h1) (by omega)
  have e33 := idx_of (ic_33 h1) (by omega)
  have e34 := idx_of (ic_34 h1) (by omega)
  refine ecalls k_InRight ?_
  simp [c_InRight, I, l0, e32, e33, e34, iC]
  by_cases c1 : 0 ≤ x.n
  rotate_left
  · rw [show inM x = false from decide_eq_false (by omega)]
    simp [c1]
    exact fin [] (by decide) rfl rfl rfl ⟨rfl, rfl⟩
  by_cases c2 : x.n < 64
  rotate_left
  · rw [show inM x = false from decide_eq_false (by omega)]
    simp [c1, c2, l0, e32, e33, e34, iC]
    exact fin [] (by decide) rfl rfl rfl ⟨rfl, rfl⟩
  by_cases c3 : 0 ≤ x.br
  rotate_left
  · rw [show inM x = false from decide_eq_false (by omega)]
    simp [c1, c2, c3, l0, e32, e33, e34, iC]
    exact fin [] (by decide) rfl rfl rfl ⟨rfl, rfl⟩
  by_cases c4 : x.br < 8
  rotate_left
  · rw [show inM x = false from decide_eq_false (by omega)]
    simp [c1, c2, c3, c4, l0, e32, e33, e34, iC]
    exact fin [] (by decide) rfl rfl rfl ⟨rfl, rfl⟩
  have hb : (bsv x.sec).length = x.sec.length := by simp
  have hm : inM x = decide ((x.sec.length : Int) ≤ 64) := by
    unfold inM
    by_cases q : x.sec.length ≤ 64
    · rw [decide_eq_true ⟨c1, c2, c3, c4, q⟩, decide_eq_true (by omega)]
    · rw [decide_eq_false (by omega), decide_eq_false (by omega)]
  rw [hm]
  simp [c1, c2, c3, c4, l0, e32, e33, e34, iC]
  exact fin [] (by decide) rfl rfl rfl ⟨rfl, by simp⟩

theorem TxC1_ok (x : Inp) (h : x.ok) : ECalls Tryz.prog 113 [.v (.agg (inpC x))] [] fun y H' => H' = [] ∧ y = .lit (.bool (!inM x)) := by
  have l0 := ic_len h.1
  have t0 := ic_take h.1
  refine ecalls k_TxC1 ?_
  simp [c_TxC1, I, l0, t0]
  refine call0 (InRight_ok x h) (by simp) ?_
  rintro y H' ⟨rfl, rfl⟩
  refine ⟨.inl (by simp), le_ok rfl, ?_⟩
  simp
  exact fin [] (by decide) rfl rfl rfl ⟨rfl, rfl⟩
theorem TxC1_body : bodyOK Tryz.prog 113 = true := by kernel_rfl

set_option maxHeartbeats 4000000 in
theorem IdxIn_ok (l : List Inp) (hl : ∀ h ∈ l, h.ok) (hn : l.length ≤ 100000000) : ECalls Tryz.prog 168 [.v (.c (.fz (.sl 35 (inpv l)))), .v (.c (.clo 113 []))] [] fun y H' => H' = [] ∧ ((l.all inM = true ∧ y = I .i64 (-1)) ∨ (l.all inM = false ∧ ∃ i : Nat, y = I .i64 i)) := by
  obtain ⟨B, hB⟩ : ∃ B, l.all inM = B := ⟨_, rfl⟩
  rw [hB]
  refine ecalls k_IdxIn ?_
  simp [c_IdxIn, I]
  refine eloop (α := Nat) (fun i => i ≤ l.length ∧ ∀ (k : Nat) (x : Inp), k < i → l[k]? = some x → inM x = true) (fun i => l.length - i)
    (fun i => [.v (.c (.fz (.sl 35 (inpv l)))), .v (.c (.clo 113 [])), .any, .any, .any, .any, .any, I .i64 l.length, I .i64 i, .any, .any, .any, .any, .any, .any, .any, .any, .any, .any]) (fun _ => []) 0 []
    ⟨Nat.zero_le _, fun k x h => by omega⟩ (by simp [I]) (by simp) (by simp) (by simp) (by simp) ?_
  rintro i ⟨hi, hlo⟩
  simp [I]
  refine alt (fun hlt => ?_) (fun hlt => ?_)
  · have hln : i < l.length := by omega
    obtain ⟨p, hc⟩ : ∃ p, l[i]? = some p := ⟨l[i], by simp [hln]⟩
    have hge : (inpv l)[i]'(by simp [hln]) = inpF p := by
      have e := inpv_get hc
      rw [List.getElem?_eq_getElem (by simp [hln])] at e
      exact Option.some.inj e
    have w4 : IntKind.i64.wrap ((i : Int) + 1) = ((i + 1 : Nat) : Int) := wrap_i64 (by omega) (by omega)
    have hpo := hl p (List.mem_of_getElem? hc)
    have l0 := ic_len hpo.1
    have l1 := if_len hpo.1
    have t0 := ic_take hpo.1
    simp [hln, hge, inpF_fz, l0, l1, t0]
    refine ⟨TxC1_body, ?_⟩
    refine call0 (TxC1_ok p hpo) (by simp) ?_
    rintro y H' ⟨rfl, rfl⟩
    refine ⟨.inl (by simp), le_ok rfl, ?_⟩
    cases hP : inM p
    · simp
      exact fin [] (by decide) rfl rfl rfl ⟨rfl, .inr ⟨by rw [← hB, List.all_eq_false]; exact ⟨p, List.mem_of_getElem? hc, by simp [hP]⟩, i, rfl⟩⟩
    · simp [w4, -Int.natCast_add]
      refine round (i + 1) [] ⟨by omega, ?_⟩ (by omega) (by simp [I]) (by simp) (by simp) (by simp) (by simp)
      intro k q hk hq
      rcases Nat.lt_or_ge k i with h1 | h1
      · exact hlo k q h1 hq
      · obtain rfl : k = i := by omega
        rw [hc] at hq
        obtain rfl := Option.some.inj hq
        exact hP
  · simp
    refine fin [] (by decide) rfl rfl rfl ⟨rfl, .inl ⟨?_, rfl⟩⟩
    rw [← hB, List.all_eq_true]
    intro x hx
    obtain ⟨k, hk⟩ := List.getElem?_of_mem hx
    exact hlo k x (by have := lt_len hk; omega) hk
theorem ConIn_ok (l : List Inp) (hl : ∀ h ∈ l, h.ok) (hn : l.length ≤ 100000000) : ECalls Tryz.prog 116 [.v (.c (.fz (.sl 35 (inpv l)))), .v (.c (.clo 113 []))] [] fun y H' => H' = [] ∧ y = .lit (.bool (!l.all inM)) := by
  refine ecalls k_ConIn ?_
  simp [c_ConIn]
  refine call0 (IdxIn_ok l hl hn) (by simp) ?_
  rintro y H' ⟨rfl, h⟩
  rcases h with ⟨h, rfl⟩ | ⟨h, i, rfl⟩
  · refine ⟨.inl (by simp [I]), le_ok rfl, ?_⟩
    rw [h]
    simp [I]
    exact fin [] (by decide) rfl rfl rfl ⟨rfl, rfl⟩
  · refine ⟨.inl (by simp [I]), le_ok rfl, ?_⟩
    have n0 : (0 : Int) ≤ (i : Int) := by omega
    rw [h]
    simp [I, n0]
    exact fin [] (by decide) rfl rfl rfl ⟨rfl, rfl⟩

set_option maxHeartbeats 4000000 in
theorem Bmay_ok (b : Bra) (h : b.ok) : ECalls Tryz.prog 198 [.v (.agg (braC b))] [] fun y H' => H' = [] ∧ y = .lit (.bool (brM b)) := by
  obtain ⟨hk, h1, ha, ho, h4⟩ := h
  have l0 := bc_len h1
  have e0 := idx_of (bc_0 b) (by omega)
  have e33 := idx_of (bc_33 h1) (by omega)
  have e34 := idx_of (bc_34 h1) (by omega)
  refine ecalls k_Bmay ?_
  simp [c_Bmay, I, l0, e0, iC]
  refine eloop (α := Nat × Int) (fun a => a.1 ≤ b.keys.length ∧ keysS (-1) b.keys = keysS a.2 (b.keys.drop a.1) ∧ (a.1 = 0 → a.2 = -1) ∧ (0 < a.1 → b.keys[a.1 - 1]? = some a.2)) (fun a => b.keys.length - a.1)
    (fun a => [.any, Ptr 0, .any, .any, .any, .any, IL b.keys, I .i64 b.keys.length, I .i64 a.1, .any, .any, .any, .any, .any, .any, .any, .any, .any, .any, .any, .any, .any, .any, .any, .any, .any, .any, .any, .any, .any, .any, .any, .any, .any, .any, .any, .any, .any, .any, .any, .any, .any, .any, .any, .any, .any, .any, .any, .any, .any, .any, .any, .any, .any, .any, .any, .any, .any]) (fun _ => [some (.box 196 (braC b))]) (0, -1) [0]
    ⟨by simp, by simp, by simp, by simp⟩ (by simp [Ptr, I, IL]) (by simp) (by simp) (by simp) (by simp) ?_
  rintro ⟨i, last⟩ ⟨hi1, hi2, hi3, hi4⟩
  dsimp only at hi1 hi2 hi3 hi4
  simp [Ptr, I, IL]
  refine alt (fun hlt => ?_) (fun hlt => ?_)
  · have hln : i < b.keys.length := by omega
    obtain ⟨k, hc⟩ : ∃ k, b.keys[i]? = some k := ⟨b.keys[i], by simp [hln]⟩
    have ga : ∀ h2, (intv b.keys)[i]'h2 = [.lit (.int .i64 k)] := fun h2 => by rw [intv_at hln, hc]; rfl
    rw [drop_cons hc] at hi2
    have w1 : IntKind.i64.wrap ((i : Int) + 1) = ((i + 1 : Nat) : Int) := wrap_i64 (by omega) (by omega)
    have hbad : ¬ (last < k ∧ k < 16) → brM b = false := fun q => by simp only [brM, hi2, keysS, decide_eq_false q, Bool.false_and]
    have hgood : last < k → k < 16 → keysS (-1) b.keys = keysS k (b.keys.drop (i + 1)) := fun q1 q2 => by rw [hi2, keysS, decide_eq_true ⟨q1, q2⟩, Bool.true_and]
    have hm : -1 ≤ last ∨ brM b = false ∨ True := by right; right; trivial
    simp [hln, ga]
    by_cases c1 : k < 0
    · have hv : brM b = false := by
        by_cases q : last < k
        · rcases Nat.eq_zero_or_pos i with e | e
          · have := hi3 e; omega
          · exact by
              have hneg : last < 0 := by omega
              have key : ∀ (l : List Int) (o : Int) (j : Nat) (z : Int), keysS o l = true → l[j]? = some z → o < z := by
                intro l
                induction l with
                | nil => intro o j z _ h; simp at h
                | cons a r ih =>
                  intro o j z hh hz
                  simp only [keysS, Bool.and_eq_true, decide_eq_true_eq] at hh
                  cases j with
                  | zero => simp at hz; omega
                  | succ j => have := ih a j z hh.2 (by simpa using hz); omega
              by_cases hks : keysS (-1) b.keys = true
              · have := key b.keys (-1) (i - 1) last hks (hi4 e); omega
              · simp only [brM, Bool.not_eq_true] at hks ⊢
                rw [hks]; rfl
        · exact hbad (by omega)
      have c1' : ¬ 0 ≤ k := by omega
      rw [hv]
      simp [c1, c1']
      exact fin [] (by decide) rfl rfl rfl ⟨rfl, rfl⟩
    have c1' : 0 ≤ k := by omega
    by_cases c2 : 16 ≤ k
    · have c2' : ¬ k < 16 := by omega
      rw [hbad (by omega)]
      simp [c1, c1', c2, c2']
      exact fin [] (by decide) rfl rfl rfl ⟨rfl, rfl⟩
    have c2' : k < 16 := by omega
    rcases Nat.eq_zero_or_pos i with e | e
    · subst e
      have hl := hi3 rfl
      simp [c1, c1', c2, c2']
      have w1' : IntKind.i64.wrap 1 = 1 := by decide +kernel
      try simp [w1']
      exact round (1, k) [0] ⟨by dsimp only; omega, hgood (by omega) (by omega), by simp, by simpa using hc⟩ (by dsimp only; omega) (by simp [Ptr, I, IL]) (by simp) (by simp) (by simp) (by simp)
    · have e' : (0 : Int) < (i : Int) := by omega
      have hq := hi4 e
      have hti : i - 1 < b.keys.length := by omega
      have gb : ∀ h2, (intv b.keys)[i - 1]'h2 = [.lit (.int .i64 last)] := fun h2 => by rw [intv_at hti, hq]; rfl
      have w3 : IntKind.i64.wrap ((i : Int) - 1) = ((i - 1 : Nat) : Int) := by rw [wrap_i64 (by omega) (by omega)]; omega
      have n1 : ¬ (((i - 1 : Nat) : Int) < 0) := by omega
      obtain ⟨p, hp⟩ : ∃ p, i - 1 = p := ⟨_, rfl⟩
      rw [hp] at hti gb w3 n1
      simp [c1, c1', c2, c2', e, e', w3, gb, hti, n1, hln, l0, e0]
      by_cases c3 : k ≤ last
      · have c3' : ¬ last < k := by omega
        rw [hbad (by omega)]
        simp [c3, c3']
        exact fin [] (by decide) rfl rfl rfl ⟨rfl, rfl⟩
      · have c3' : last < k := by omega
        simp [c3, c3', w1, -Int.natCast_add]
        exact round (i + 1, k) [0] ⟨by dsimp only; omega, hgood (by omega) (by omega), by simp, by simpa using hc⟩ (by dsimp only; omega) (by simp [Ptr, I, IL]) (by simp) (by simp) (by simp) (by simp)
  · have hd : b.keys.drop i = [] := by rw [List.drop_eq_nil_iff]; omega
    have hks : keysS (-1) b.keys = true := by rw [hi2, hd]; rfl
    have hm : brM b = decide (1 ≤ b.keys.length ∧ 0 ≤ b.af ∧ b.af ≤ 1099511627776 ∧ 0 ≤ b.ol ∧ b.ol ≤ 65536) := by simp only [brM, hks, Bool.true_and]
    rw [hm]
    by_cases c1 : 1 ≤ b.keys.length
    rotate_left
    · have c1' : ¬ (1 : Int) ≤ (b.keys.length : Int) := by omega
      rw [decide_eq_false (by omega)]
      simp [Ptr, I, l0, e0, e33, e34, iC, c1, c1']
      exact fin [] (by decide) rfl rfl rfl ⟨rfl, rfl⟩
    have c1' : (1 : Int) ≤ (b.keys.length : Int) := by omega
    by_cases c2 : 0 ≤ b.af
    rotate_left
    · have d2 : b.af < 0 := by omega
      rw [decide_eq_false (by omega)]
      simp [Ptr, I, l0, e0, e33, e34, iC, c1, c1', c2, d2]
      exact fin [] (by decide) rfl rfl rfl ⟨rfl, rfl⟩
    have d2 : ¬ b.af < 0 := by omega
    by_cases c3 : b.af ≤ 1099511627776
    rotate_left
    · have d3 : 1099511627776 < b.af := by omega
      rw [decide_eq_false (by omega)]
      simp [Ptr, I, l0, e0, e33, e34, iC, c1, c1', c2, d2, c3, d3]
      exact fin [] (by decide) rfl rfl rfl ⟨rfl, rfl⟩
    have d3 : ¬ 1099511627776 < b.af := by omega
    by_cases c4 : 0 ≤ b.ol
    rotate_left
    · have d4 : b.ol < 0 := by omega
      rw [decide_eq_false (by omega)]
      simp [Ptr, I, l0, e0, e33, e34, iC, c1, c1', c2, d2, c3, d3, c4, d4]
      exact fin [] (by decide) rfl rfl rfl ⟨rfl, rfl⟩
    have d4 : ¬ b.ol < 0 := by omega
    by_cases c5 : b.ol ≤ 65536
    rotate_left
    · have d5 : 65536 < b.ol := by omega
      rw [decide_eq_false (by omega)]
      simp [Ptr, I, l0, e0, e33, e34, iC, c1, c1', c2, d2, c3, d3, c4, d4, c5, d5]
      exact fin [] (by decide) rfl rfl rfl ⟨rfl, rfl⟩
    have d5 : ¬ 65536 < b.ol := by omega
    rw [decide_eq_true (by omega)]
    simp [Ptr, I, l0, e0, e33, e34, iC, c1, c1', c2, d2, c3, d3, c4, d4, c5, d5]
    exact fin [] (by decide) rfl rfl rfl ⟨rfl, rfl⟩

theorem CndC1_ok (x : Bra) (h : x.ok) : ECalls Tryz.prog 197 [.v (.agg (braC x))] [] fun y H' => H' = [] ∧ y = .lit (.bool (!brM x)) := by
  have l0 := bc_len h.2.1
  have t0 := bc_take h.2.1
  refine ecalls k_CndC1 ?_
  simp [c_CndC1, I, l0, t0]
  refine call0 (Bmay_ok x h) (by simp) ?_
  rintro y H' ⟨rfl, rfl⟩
  refine ⟨.inl (by simp), le_ok rfl, ?_⟩
  simp
  exact fin [] (by decide) rfl rfl rfl ⟨rfl, rfl⟩
theorem CndC1_body : bodyOK Tryz.prog 197 = true := by kernel_rfl

set_option maxHeartbeats 4000000 in
theorem IdxBr_ok (l : List Bra) (hl : ∀ h ∈ l, h.ok) (hn : l.length ≤ 100000000) : ECalls Tryz.prog 149 [.v (.c (.fz (.sl 35 (brav l)))), .v (.c (.clo 197 []))] [] fun y H' => H' = [] ∧ ((l.all brM = true ∧ y = I .i64 (-1)) ∨ (l.all brM = false ∧ ∃ i : Nat, y = I .i64 i)) := by
  obtain ⟨B, hB⟩ : ∃ B, l.all brM = B := ⟨_, rfl⟩
  rw [hB]
  refine ecalls k_IdxBr ?_
  simp [c_IdxBr, I]
  refine eloop (α := Nat) (fun i => i ≤ l.length ∧ ∀ (k : Nat) (x : Bra), k < i → l[k]? = some x → brM x = true) (fun i => l.length - i)
    (fun i => [.v (.c (.fz (.sl 35 (brav l)))), .v (.c (.clo 197 [])), .any, .any, .any, .any, .any, I .i64 l.length, I .i64 i, .any, .any, .any, .any, .any, .any, .any, .any, .any, .any]) (fun _ => []) 0 []
    ⟨Nat.zero_le _, fun k x h => by omega⟩ (by simp [I]) (by simp) (by simp) (by simp) (by simp) ?_
  rintro i ⟨hi, hlo⟩
  simp [I]
  refine alt (fun hlt => ?_) (fun hlt => ?_)
  · have hln : i < l.length := by omega
    obtain ⟨p, hc⟩ : ∃ p, l[i]? = some p := ⟨l[i], by simp [hln]⟩
    have hge : (brav l)[i]'(by simp [hln]) = braF p := by
      have e := brav_get hc
      rw [List.getElem?_eq_getElem (by simp [hln])] at e
      exact Option.some.inj e
    have w4 : IntKind.i64.wrap ((i : Int) + 1) = ((i + 1 : Nat) : Int) := wrap_i64 (by omega) (by omega)
    have hpo := hl p (List.mem_of_getElem? hc)
    have l0 := bc_len hpo.2.1
    have l1 := bf_len hpo.2.1
    have t0 := bc_take hpo.2.1
    simp [hln, hge, braF_fz, l0, l1, t0]
    refine ⟨CndC1_body, ?_⟩
    refine call0 (CndC1_ok p hpo) (by simp) ?_
    rintro y H' ⟨rfl, rfl⟩
    refine ⟨.inl (by simp), le_ok rfl, ?_⟩
    cases hP : brM p
    · simp
      exact fin [] (by decide) rfl rfl rfl ⟨rfl, .inr ⟨by rw [← hB, List.all_eq_false]; exact ⟨p, List.mem_of_getElem? hc, by simp [hP]⟩, i, rfl⟩⟩
    · simp [w4, -Int.natCast_add]
      refine round (i + 1) [] ⟨by omega, ?_⟩ (by omega) (by simp [I]) (by simp) (by simp) (by simp) (by simp)
      intro k q hk hq
      rcases Nat.lt_or_ge k i with h1 | h1
      · exact hlo k q h1 hq
      · obtain rfl : k = i := by omega
        rw [hc] at hq
        obtain rfl := Option.some.inj hq
        exact hP
  · simp
    refine fin [] (by decide) rfl rfl rfl ⟨rfl, .inl ⟨?_, rfl⟩⟩
    rw [← hB, List.all_eq_true]
    intro x hx
    obtain ⟨k, hk⟩ := List.getElem?_of_mem hx
    exact hlo k x (by have := lt_len hk; omega) hk
theorem ConBr_ok (l : List Bra) (hl : ∀ h ∈ l, h.ok) (hn : l.length ≤ 100000000) : ECalls Tryz.prog 83 [.v (.c (.fz (.sl 35 (brav l)))), .v (.c (.clo 197 []))] [] fun y H' => H' = [] ∧ y = .lit (.bool (!l.all brM)) := by
  refine ecalls k_ConBr ?_
  simp [c_ConBr]
  refine call0 (IdxBr_ok l hl hn) (by simp) ?_
  rintro y H' ⟨rfl, h⟩
  rcases h with ⟨h, rfl⟩ | ⟨h, i, rfl⟩
  · refine ⟨.inl (by simp [I]), le_ok rfl, ?_⟩
    rw [h]
    simp [I]
    exact fin [] (by decide) rfl rfl rfl ⟨rfl, rfl⟩
  · refine ⟨.inl (by simp [I]), le_ok rfl, ?_⟩
    have n0 : (0 : Int) ≤ (i : Int) := by omega
    rw [h]
    simp [I, n0]
    exact fin [] (by decide) rfl rfl rfl ⟨rfl, rfl⟩

set_option maxHeartbeats 2000000 in
theorem CCheck_ok (l : List Bra) (hl : ∀ h ∈ l, h.ok) (hn : l.length ≤ 100000000) : ECalls Tryz.prog 169 [CNv l] [] fun y H' => H' = [] ∧ y = .lit (errV (cnE l)) := by
  refine ecalls k_CCheck ?_
  simp [c_CCheck, CNv, I]
  by_cases c1 : l.length < 1
  · have c1' : (l.length : Int) < 1 := by omega
    have d1 : ¬ 1 ≤ l.length := by omega
    have d1' : ¬ (1 : Int) ≤ (l.length : Int) := by omega
    have hv : cnE l = 1 := if_neg (by omega)
    rw [hv]
    simp [c1, c1', d1, d1']
    exact fin [] (by decide) rfl rfl rfl ⟨rfl, rfl⟩
  have c1' : ¬ (l.length : Int) < 1 := by omega
  have d1 : 1 ≤ l.length := by omega
  have d1' : (1 : Int) ≤ (l.length : Int) := by omega
  by_cases c2 : 8 < l.length
  · have c2' : (8 : Int) < (l.length : Int) := by omega
    have d2 : ¬ l.length ≤ 8 := by omega
    have d2' : ¬ (l.length : Int) ≤ 8 := by omega
    have hv : cnE l = 1 := if_neg (by omega)
    rw [hv]
    simp [c1, c1', d1, d1', c2, c2', d2, d2']
    exact fin [] (by decide) rfl rfl rfl ⟨rfl, rfl⟩
  have c2' : ¬ (8 : Int) < (l.length : Int) := by omega
  have d2 : l.length ≤ 8 := by omega
  have d2' : (l.length : Int) ≤ 8 := by omega
  simp [c1, c1', d1, d1', c2, c2', d2, d2']
  refine call0 (ConBr_ok l hl hn) (by simp) ?_
  rintro y H' ⟨rfl, rfl⟩
  refine ⟨.inl (by simp), le_ok rfl, ?_⟩
  cases hP : l.all brM
  · have hv : cnE l = 1 := if_neg (by rw [hP]; simp)
    rw [hv]
    simp
    exact fin [] (by decide) rfl rfl rfl ⟨rfl, rfl⟩
  · have hv : cnE l = 0 := if_pos ⟨by omega, hP⟩
    rw [hv]
    simp
    exact fin [] (by decide) rfl rfl rfl ⟨rfl, rfl⟩
set_option maxHeartbeats 2000000 in
theorem OutChk_ok (o : Outp) (h : o.ok) : ECalls Tryz.prog 117 [.v (.agg (outC o))] [] fun y H' => H' = [] ∧ y = .lit (errV (ouE o)) := by
  obtain ⟨h1, h2, h3⟩ := h
  refine ecalls k_OutChk ?_
  simp [c_OutChk, outC, I, iC]
  by_cases c1 : o.am < 10
  · rw [show ouE o = 27 from if_pos c1]
    simp [c1]
    exact fin [] (by decide) rfl rfl rfl ⟨rfl, rfl⟩
  by_cases c2 : 1125899906842624 < o.am
  · rw [show ouE o = 5 by unfold ouE; rw [if_neg c1, if_pos c2]]
    simp [c1, c2]
    exact fin [] (by decide) rfl rfl rfl ⟨rfl, rfl⟩
  rw [show ouE o = cnE o.cs by unfold ouE; rw [if_neg c1, if_neg c2]]
  simp [c1, c2]
  refine call0 (CCheck_ok o.cs h2 h3) (by simp [CNv]) ?_
  rintro y H' ⟨rfl, rfl⟩
  refine ⟨.inl (by simp), le_ok rfl, ?_⟩
  simp [-errV_0]
  exact fin [] (by decide) rfl rfl rfl ⟨rfl, rfl⟩
theorem TxSome_ok (n : Int) : ECalls Tryz.prog 115 [I .i64 n] [] fun y H' => H' = [] ∧ y = .lit (.bool (decide (1 ≤ n ∧ n ≤ 64))) := by
  refine ecalls k_TxSome ?_
  simp [c_TxSome, I]
  by_cases c1 : 1 ≤ n
  · by_cases c2 : n ≤ 64
    · simp [c1, c2]
      exact fin [] (by decide) rfl rfl rfl ⟨rfl, rfl⟩
    · simp [c1, c2]
      exact fin [] (by decide) rfl rfl rfl ⟨rfl, rfl⟩
  · simp [c1]
    exact fin [] (by decide) rfl rfl rfl ⟨rfl, rfl⟩

end Go.Proofs.YtejjhgdnmknejaaGreatDoor

/- slices.Grow of no bytes: a row of one's own with room. After the kit's own walk of slices.Grow. -/
namespace Go.Proofs.YtejjhgdnmknejaaGreatDoor
open Go.RowKit Go.Extern.Stop Go.Stop Go.Extern

set_option maxHeartbeats 4000000 in
theorem grow_w (n : Nat) (hn : n ≤ 1000000000) (h1 : 0 < n) (w : World) : Calls Tryz.prog 199 #[.slice none 0 0, .int .i64 n] w fun e w' =>
    e = .returned (.slice (some ⟨w.heap.size, 0, none⟩) 0 (grownCap w n 0 5)) ∧ w' = w.drew.alloc (.cells (Builtin.zeroCells #[.int .u8 0] n ++ Builtin.zeroCells #[.int .u8 0] (grownCap w n 0 5 - n)) 5) := by
  have key : (Tryz.prog.info? 5).map (fun i => (i.zero, i.size, i.bytes)) = some (some (.int .u8 0), 1, 1) := by kernel_rfl
  obtain ⟨i, hi, hz, hs, hb⟩ : ∃ i, Tryz.prog.info? 5 = some i ∧ i.zero = some (.int .u8 0) ∧ i.size = 1 ∧ i.bytes = 1 := by
    cases h : Tryz.prog.info? 5 with
    | none => rw [h] at key; simp at key
    | some i => rw [h] at key; simp at key; exact ⟨i, rfl, key.1, key.2.1, key.2.2⟩
  have hr : ∀ ty, (Builtin.append_ #[80, 3] ty #[.slice none 0 0, .int .i64 n]).run Tryz.prog w = .ok (.slice (some ⟨w.heap.size, 0, none⟩) n (grownCap w n 0 5)) (w.drew.alloc (.cells (Builtin.zeroCells #[.int .u8 0] n ++ Builtin.zeroCells #[.int .u8 0] (grownCap w n 0 5 - n)) 5)) := fun ty =>
    Lib.run_append_nil_zeros w 80 3 ty 5 _ (.int .u8 0) .i64 .i64 Tryz.underlying80 Tryz.underlying3 hi hz n h1 (by omega) (by omega) (by rw [hb]; omega)
  have h2 : ¬ ((n : Int) < 0) := by omega
  have h4 : (n : Int) > 0 := by omega
  have h3 : wrap64 (n : Int) = (n : Int) := by unfold wrap64; omega
  have hGn : n ≤ grownCap w n 0 5 := grownCap_ge w _ _ _
  obtain ⟨G, hG⟩ : ∃ G, G = grownCap w n 0 5 := ⟨_, rfl⟩
  rw [← hG] at hr hGn ⊢
  go_enter Tryz.func199, Tryz.ntmps199
  go_wp2_with (at_builtin; refine Lib.wpList_append_run _ rfl _ _ _ _ rfl _ _ rfl rfl _ _ (hr _) ?_)
  all_goals (go_ret; exact ⟨rfl, rfl⟩)

open Go.EW in
theorem Grow_ok (n : Nat) (hn : n ≤ 1000000000) (h1 : 0 < n) : ECalls Tryz.prog 199 [.v (.c (.fz (.lit (.slice none 0 0)))), .v (.c (.fz (.lit (.int .i64 n))))] [] fun y H' => H' = [some (.row 5 1 [])] ∧ y = .v (.c (.row 0 0)) := by
  intro ρ Φ w vals r ha
  obtain ⟨v, vs, rfl, hv, h2⟩ := ha.cons_left
  obtain ⟨v2, vs2, rfl, hv2, h3⟩ := h2.cons_left
  obtain rfl := h3.nil_left
  have hv' : FR Φ w (.lit (.slice none 0 0)) v := hv
  have hv2' : FR Φ w (.lit (.int .i64 n)) v2 := hv2
  cases hv'
  cases hv2'
  refine (grow_w n hn h1 w).mono fun e w' ⟨he, hw⟩ => ?_
  subst hw
  obtain ⟨G, hG⟩ : ∃ G, G = grownCap w n 0 5 := ⟨_, rfl⟩
  have hGn : n ≤ G := by rw [hG]; exact grownCap_ge w _ _ _
  have hGm : G ≤ maxLen := by rw [hG]; exact grownCap_le_maxLen w _ _ _ (by simp [maxLen]; omega)
  rw [← hG] at he ⊢
  have hu : (fun o : Nat => o < ([] : List EO).length ∨ o = 0) = fun o => o < [some (EO.row 5 1 [])].length := by funext o; simp
  have hh : upd (ofL ([] : List EO)) 0 (some (EO.row 5 1 [])) = ofO [some (EO.row 5 1 [])] := by
    funext o
    rcases o with _ | o
    · rfl
    · simp [upd, ofL, ofO]
  have key := r.new (w' := w.drew.alloc (.cells (Builtin.zeroCells #[.int .u8 0] n ++ Builtin.zeroCells #[.int .u8 0] (G - n)) 5)) rfl rfl rfl (by simp) (fun b hb => by
      have hb' : b < w.heap.size := hb
      show (w.drew.heap.push _)[b]? = w.heap[b]?
      rw [Array.getElem?_push_lt (by simpa using hb')]
      simp [hb', heap_drew]) 0 (by simp) (by simp) (.row 5 1 []) (.slice (some ⟨w.heap.size, 0, none⟩) 0 G) (by intro b hb; simp [EW.hb] at hb; subst hb; exact Nat.le_refl _) ?_
  · have k1 := key.1
    rw [hh, hu] at k1
    exact ⟨_, _, _, _, _, he, ⟨rfl, rfl⟩, by simp, ⟨by simp, some ⟨w.heap.size, 0, none⟩, 0, G, by simp [upd], Nat.le_refl _, Nat.zero_le _, rfl⟩, k1⟩
  · refine ⟨by decide, by simp, [], ⟨rfl, .inr ⟨w.heap.size, G, (Builtin.zeroCells #[.int .u8 0] n ++ Builtin.zeroCells #[.int .u8 0] (G - n)), rfl, Nat.zero_le _, ?_, Nat.zero_le _, hGm, ?_, by simp⟩⟩, All2.nil⟩
    · show (w.drew.heap.push _)[w.heap.size]? = _
      rw [show w.heap.size = w.drew.heap.size from rfl, Array.getElem?_push_size]
    · simp [Builtin.zeroCells]; omega
end Go.Proofs.YtejjhgdnmknejaaGreatDoor
