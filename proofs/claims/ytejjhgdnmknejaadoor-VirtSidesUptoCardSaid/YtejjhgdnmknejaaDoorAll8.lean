import Derived.Test.YtejjhgdnmknejaaDoorAll7
import Derived.Test.YtejjhgdnmknejaaDoorAll5
namespace Go.Proofs.YtejjhgdnmknejaaDoor
open Go Go.EW
set_option linter.unusedSimpArgs false
set_option linter.unusedVariables false

@[simp] def l_LessI_1 (_ : Unit) : List EOp := [⟨0, (some 4), none, (.q (.mov (.k (.bool false)))), []⟩]
@[simp] def b_LessI_2 (_ : Unit) : EB := reg0 (hid l_LessI_1) 1
@[simp] def l_LessI_5 (_ : Unit) : List EOp := [⟨12, (some 4), none, (.q (.mov (.t 16))), []⟩]
@[simp] def l_LessI_4 (_ : Unit) : List EOp := ⟨6, (some 11), none, (.q (.pick (.t 7) (.t 10) (.k (.bool false)))), []⟩ :: ⟨7, (some 12), none, (.q (.mov (.t 11))), []⟩ :: ⟨8, (some 13), (some (12, false)), (.q (.mov (.t 0))), []⟩ :: ⟨9, (some 14), (some (12, false)), (.q (.mov (.t 1))), []⟩ :: ⟨10, (some 15), (some (12, false)), (.q (.bin .lss (.t 13) (.t 14))), []⟩ :: ⟨11, (some 16), none, (.q (.pick (.t 12) (.k (.bool true)) (.t 15))), []⟩ :: hid l_LessI_5
@[simp] def l_LessI_3 (_ : Unit) : List EOp := ⟨0, (some 5), none, (.q (.mov (.t 0))), []⟩ :: ⟨1, (some 6), none, (.call 56 [(.t 5)]), []⟩ :: ⟨2, (some 7), none, (.q (.mov (.t 6))), []⟩ :: ⟨3, (some 8), (some (7, true)), (.q (.mov (.t 1))), []⟩ :: ⟨4, (some 9), (some (7, true)), (.call 56 [(.t 8)]), []⟩ :: ⟨5, (some 10), (some (7, true)), (.q (.un .not (.t 9))), []⟩ :: hid l_LessI_4
@[simp] def b_LessI_6 (_ : Unit) : EB := reg0 (hid l_LessI_3) 13
@[simp] def b_LessI_7 (_ : Unit) : EB := .seq (hid b_LessI_6) .ret
@[simp] def b_LessI_8 (_ : Unit) : EB := .seq (hid b_LessI_2) (hid b_LessI_7)
def c_LessI : EB × List QOp × Nat := ((hid b_LessI_8), [(.mov (.t 4))], 17)
theorem k_LessI : cfun Tryd.prog 64 = some c_LessI := by kernel_rfl

@[simp] def l_InsI_1 (_ : Unit) : List EOp := [⟨0, (some 8), none, (.q (.mov (.t 1))), []⟩, ⟨1, (some 9), none, (.q (.bin .add (.t 8) (.k (.int .i64 1)))), []⟩, ⟨2, (some 6), none, (.q (.mov (.t 9))), []⟩]
@[simp] def b_InsI_2 (_ : Unit) : EB := reg0 (hid l_InsI_1) 3
@[simp] def l_InsI_3 (_ : Unit) : List EOp := [⟨0, (some 10), none, (.q (.mov (.t 6))), []⟩, ⟨1, (some 11), none, (.q (.mov (.t 2))), []⟩, ⟨2, (some 12), none, (.q (.bin .lss (.t 10) (.t 11))), []⟩]
@[simp] def b_InsI_4 (_ : Unit) : EB := reg0 (hid l_InsI_3) 3
@[simp] def b_InsI_5 (_ : Unit) : EB := .cond (.t 12) .skip (.exit 0)
@[simp] def b_InsI_6 (_ : Unit) : EB := .seq (hid b_InsI_4) (hid b_InsI_5)
@[simp] def l_InsI_7 (_ : Unit) : List EOp := [⟨0, (some 15), none, (.q (.mov (.t 6))), []⟩, ⟨1, (some 7), none, (.q (.mov (.t 15))), []⟩]
@[simp] def b_InsI_8 (_ : Unit) : EB := reg0 (hid l_InsI_7) 2
@[simp] def l_InsI_11 (_ : Unit) : List EOp := [⟨12, (some 28), (some (19, true)), (.q (.ldc (.t 27))), []⟩, ⟨13, (some 29), (some (19, true)), (.call 64 [(.t 23), (.t 28)]), []⟩, ⟨14, (some 30), none, (.q (.pick (.t 19) (.t 29) (.k (.bool false)))), []⟩]
@[simp] def l_InsI_10 (_ : Unit) : List EOp := ⟨6, (some 22), (some (19, true)), (.q (.isl 1 (.t 20) (.t 21))), []⟩ :: ⟨7, (some 23), (some (19, true)), (.q (.ldc (.t 22))), []⟩ :: ⟨8, (some 24), (some (19, true)), (.q (.mov (.t 0))), []⟩ :: ⟨9, (some 25), (some (19, true)), (.q (.mov (.t 7))), []⟩ :: ⟨10, (some 26), (some (19, true)), (.q (.bin .sub (.t 25) (.k (.int .i64 1)))), []⟩ :: ⟨11, (some 27), (some (19, true)), (.q (.isl 1 (.t 24) (.t 26))), []⟩ :: hid l_InsI_11
@[simp] def l_InsI_9 (_ : Unit) : List EOp := ⟨0, (some 16), none, (.q (.mov (.t 7))), []⟩ :: ⟨1, (some 17), none, (.q (.mov (.t 1))), []⟩ :: ⟨2, (some 18), none, (.q (.bin .gtr (.t 16) (.t 17))), []⟩ :: ⟨3, (some 19), none, (.q (.mov (.t 18))), []⟩ :: ⟨4, (some 20), (some (19, true)), (.q (.mov (.t 0))), []⟩ :: ⟨5, (some 21), (some (19, true)), (.q (.mov (.t 7))), []⟩ :: hid l_InsI_10
@[simp] def b_InsI_12 (_ : Unit) : EB := reg0 (hid l_InsI_9) 15
@[simp] def b_InsI_13 (_ : Unit) : EB := .cond (.t 30) .skip (.exit 2)
@[simp] def b_InsI_14 (_ : Unit) : EB := .seq (hid b_InsI_12) (hid b_InsI_13)
@[simp] def l_InsI_17 (_ : Unit) : List EOp := [⟨12, (some 45), none, (.q (.isl 1 (.t 43) (.t 44))), []⟩, ⟨13, (some 46), none, (.q (.ldc (.t 45))), []⟩, ⟨14, (some 47), none, (.q (.isl 1 (.t 33) (.t 34))), []⟩, ⟨15, none, none, (.sto 1 (.t 47) (.t 42)), [2, 3, 4]⟩, ⟨16, (some 48), none, (.q (.isl 1 (.t 35) (.t 37))), []⟩, ⟨17, none, none, (.sto 1 (.t 48) (.t 46)), []⟩]
@[simp] def l_InsI_16 (_ : Unit) : List EOp := ⟨6, (some 39), none, (.q (.mov (.t 7))), []⟩ :: ⟨7, (some 40), none, (.q (.bin .sub (.t 39) (.k (.int .i64 1)))), []⟩ :: ⟨8, (some 41), none, (.q (.isl 1 (.t 38) (.t 40))), []⟩ :: ⟨9, (some 42), none, (.q (.ldc (.t 41))), []⟩ :: ⟨10, (some 43), none, (.q (.mov (.t 0))), []⟩ :: ⟨11, (some 44), none, (.q (.mov (.t 7))), []⟩ :: hid l_InsI_17
@[simp] def l_InsI_15 (_ : Unit) : List EOp := ⟨0, (some 33), none, (.q (.mov (.t 0))), []⟩ :: ⟨1, (some 34), none, (.q (.mov (.t 7))), []⟩ :: ⟨2, (some 35), none, (.q (.mov (.t 0))), []⟩ :: ⟨3, (some 36), none, (.q (.mov (.t 7))), []⟩ :: ⟨4, (some 37), none, (.q (.bin .sub (.t 36) (.k (.int .i64 1)))), []⟩ :: ⟨5, (some 38), none, (.q (.mov (.t 0))), []⟩ :: hid l_InsI_16
@[simp] def b_InsI_18 (_ : Unit) : EB := reg1 (hid l_InsI_15) 18
@[simp] def b_InsI_19 (_ : Unit) : EB := .block 3 (hid b_InsI_18)
@[simp] def l_InsI_20 (_ : Unit) : List EOp := [⟨0, (some 31), none, (.q (.mov (.t 7))), []⟩, ⟨1, (some 32), none, (.q (.bin .sub (.t 31) (.k (.int .i64 1)))), []⟩, ⟨2, (some 7), none, (.q (.mov (.t 32))), []⟩]
@[simp] def b_InsI_21 (_ : Unit) : EB := reg0 (hid l_InsI_20) 3
@[simp] def b_InsI_22 (_ : Unit) : EB := .seq (hid b_InsI_19) (hid b_InsI_21)
@[simp] def b_InsI_23 (_ : Unit) : EB := .seq (hid b_InsI_14) (hid b_InsI_22)
@[simp] def b_InsI_24 (_ : Unit) : EB := .loop (hid b_InsI_23)
@[simp] def b_InsI_25 (_ : Unit) : EB := .block 2 (hid b_InsI_24)
@[simp] def b_InsI_26 (_ : Unit) : EB := .seq (hid b_InsI_8) (hid b_InsI_25)
@[simp] def b_InsI_27 (_ : Unit) : EB := .block 1 (hid b_InsI_26)
@[simp] def l_InsI_28 (_ : Unit) : List EOp := [⟨0, (some 13), none, (.q (.mov (.t 6))), []⟩, ⟨1, (some 14), none, (.q (.bin .add (.t 13) (.k (.int .i64 1)))), []⟩, ⟨2, (some 6), none, (.q (.mov (.t 14))), []⟩]
@[simp] def b_InsI_29 (_ : Unit) : EB := reg0 (hid l_InsI_28) 3
@[simp] def b_InsI_30 (_ : Unit) : EB := .seq (hid b_InsI_27) (hid b_InsI_29)
@[simp] def b_InsI_31 (_ : Unit) : EB := .seq (hid b_InsI_6) (hid b_InsI_30)
@[simp] def b_InsI_32 (_ : Unit) : EB := .loop (hid b_InsI_31)
@[simp] def b_InsI_33 (_ : Unit) : EB := .block 0 (hid b_InsI_32)
@[simp] def b_InsI_34 (_ : Unit) : EB := .seq (hid b_InsI_2) (hid b_InsI_33)
def c_InsI : EB × List QOp × Nat := ((hid b_InsI_34), [], 49)
theorem k_InsI : cfun Tryd.prog 58 = some c_InsI := by kernel_rfl

@[simp] def l_PdqI_1 (_ : Unit) : List EOp := [⟨0, (some 8), none, (.q (.mov (.k (.bool true)))), []⟩]
@[simp] def b_PdqI_2 (_ : Unit) : EB := reg0 (hid l_PdqI_1) 1
@[simp] def l_PdqI_3 (_ : Unit) : List EOp := [⟨0, (some 9), none, (.q (.mov (.k (.bool true)))), []⟩]
@[simp] def b_PdqI_4 (_ : Unit) : EB := reg0 (hid l_PdqI_3) 1
@[simp] def l_PdqI_5 (_ : Unit) : List EOp := [⟨0, (some 19), none, (.q (.mov (.t 2))), []⟩, ⟨1, (some 20), none, (.q (.mov (.t 1))), []⟩, ⟨2, (some 21), none, (.q (.bin .sub (.t 19) (.t 20))), []⟩, ⟨3, (some 10), none, (.q (.mov (.t 21))), []⟩]
@[simp] def b_PdqI_6 (_ : Unit) : EB := reg0 (hid l_PdqI_5) 4
@[simp] def l_PdqI_7 (_ : Unit) : List EOp := [⟨0, (some 22), none, (.q (.mov (.t 10))), []⟩, ⟨1, (some 23), none, (.q (.bin .leq (.t 22) (.k (.int .i64 12)))), []⟩]
@[simp] def b_PdqI_8 (_ : Unit) : EB := reg0 (hid l_PdqI_7) 2
@[simp] def l_PdqI_9 (_ : Unit) : List EOp := [⟨0, (some 24), none, (.q (.mov (.t 0))), []⟩, ⟨1, (some 25), none, (.q (.mov (.t 1))), []⟩, ⟨2, (some 26), none, (.q (.mov (.t 2))), []⟩, ⟨3, (some 27), none, (.call 58 [(.t 24), (.t 25), (.t 26)]), []⟩]
@[simp] def b_PdqI_10 (_ : Unit) : EB := reg0 (hid l_PdqI_9) 4
@[simp] def b_PdqI_11 (_ : Unit) : EB := .seq (hid b_PdqI_10) .ret
@[simp] def b_PdqI_12 (_ : Unit) : EB := .cond (.t 23) (hid b_PdqI_11) .skip
@[simp] def b_PdqI_13 (_ : Unit) : EB := .seq (hid b_PdqI_8) (hid b_PdqI_12)
@[simp] def l_PdqI_14 (_ : Unit) : List EOp := [⟨0, (some 28), none, (.q (.mov (.t 3))), []⟩, ⟨1, (some 29), none, (.q (.bin .eql (.t 28) (.k (.int .i64 0)))), []⟩]
@[simp] def b_PdqI_15 (_ : Unit) : EB := reg0 (hid l_PdqI_14) 2
@[simp] def l_PdqI_16 (_ : Unit) : List EOp := [⟨0, (some 30), none, (.q (.mov (.t 0))), []⟩, ⟨1, (some 31), none, (.q (.mov (.t 1))), []⟩, ⟨2, (some 32), none, (.q (.mov (.t 2))), []⟩, ⟨3, (some 33), none, (.call 59 [(.t 30), (.t 31), (.t 32)]), []⟩]
@[simp] def b_PdqI_17 (_ : Unit) : EB := reg0 (hid l_PdqI_16) 4
@[simp] def b_PdqI_18 (_ : Unit) : EB := .seq (hid b_PdqI_17) .ret
@[simp] def b_PdqI_19 (_ : Unit) : EB := .cond (.t 29) (hid b_PdqI_18) .skip
@[simp] def b_PdqI_20 (_ : Unit) : EB := .seq (hid b_PdqI_15) (hid b_PdqI_19)
@[simp] def l_PdqI_21 (_ : Unit) : List EOp := [⟨0, (some 34), none, (.q (.mov (.t 8))), []⟩, ⟨1, (some 35), none, (.q (.un .not (.t 34))), []⟩]
@[simp] def b_PdqI_22 (_ : Unit) : EB := reg0 (hid l_PdqI_21) 2
@[simp] def l_PdqI_23 (_ : Unit) : List EOp := [⟨0, (some 36), none, (.q (.mov (.t 0))), []⟩, ⟨1, (some 37), none, (.q (.mov (.t 1))), []⟩, ⟨2, (some 38), none, (.q (.mov (.t 2))), []⟩, ⟨3, (some 39), none, (.call 60 [(.t 36), (.t 37), (.t 38)]), []⟩]
@[simp] def b_PdqI_24 (_ : Unit) : EB := reg0 (hid l_PdqI_23) 4
@[simp] def l_PdqI_25 (_ : Unit) : List EOp := [⟨0, (some 40), none, (.q (.mov (.t 3))), []⟩, ⟨1, (some 41), none, (.q (.bin .sub (.t 40) (.k (.int .i64 1)))), []⟩, ⟨2, (some 3), none, (.q (.mov (.t 41))), []⟩]
@[simp] def b_PdqI_26 (_ : Unit) : EB := reg0 (hid l_PdqI_25) 3
@[simp] def b_PdqI_27 (_ : Unit) : EB := .seq (hid b_PdqI_24) (hid b_PdqI_26)
@[simp] def b_PdqI_28 (_ : Unit) : EB := .cond (.t 35) (hid b_PdqI_27) .skip
@[simp] def b_PdqI_29 (_ : Unit) : EB := .seq (hid b_PdqI_22) (hid b_PdqI_28)
@[simp] def l_PdqI_31 (_ : Unit) : List EOp := [⟨6, (some 48), none, (.q (.ext 1 (.t 42))), []⟩, ⟨7, (some 11), none, (.q (.mov (.t 47))), []⟩, ⟨8, (some 12), none, (.q (.mov (.t 48))), []⟩]
@[simp] def l_PdqI_30 (_ : Unit) : List EOp := ⟨0, (some 43), none, (.q (.mov (.t 0))), []⟩ :: ⟨1, (some 44), none, (.q (.mov (.t 1))), []⟩ :: ⟨2, (some 45), none, (.q (.mov (.t 2))), []⟩ :: ⟨3, (some 46), none, (.call 61 [(.t 43), (.t 44), (.t 45)]), []⟩ :: ⟨4, (some 42), none, (.q (.mov (.t 46))), []⟩ :: ⟨5, (some 47), none, (.q (.ext 0 (.t 42))), []⟩ :: hid l_PdqI_31
@[simp] def b_PdqI_32 (_ : Unit) : EB := reg0 (hid l_PdqI_30) 9
@[simp] def l_PdqI_33 (_ : Unit) : List EOp := [⟨0, (some 49), none, (.q (.mov (.t 12))), []⟩, ⟨1, (some 50), none, (.q (.bin .eql (.t 49) (.k (.int .i64 2)))), []⟩]
@[simp] def b_PdqI_34 (_ : Unit) : EB := reg0 (hid l_PdqI_33) 2
@[simp] def l_PdqI_35 (_ : Unit) : List EOp := [⟨0, (some 51), none, (.q (.mov (.t 0))), []⟩, ⟨1, (some 52), none, (.q (.mov (.t 1))), []⟩, ⟨2, (some 53), none, (.q (.mov (.t 2))), []⟩, ⟨3, (some 54), none, (.call 62 [(.t 51), (.t 52), (.t 53)]), []⟩]
@[simp] def b_PdqI_36 (_ : Unit) : EB := reg0 (hid l_PdqI_35) 4
@[simp] def l_PdqI_38 (_ : Unit) : List EOp := [⟨6, (some 11), none, (.q (.mov (.t 60))), []⟩]
@[simp] def l_PdqI_37 (_ : Unit) : List EOp := ⟨0, (some 55), none, (.q (.mov (.t 2))), []⟩ :: ⟨1, (some 56), none, (.q (.bin .sub (.t 55) (.k (.int .i64 1)))), []⟩ :: ⟨2, (some 57), none, (.q (.mov (.t 11))), []⟩ :: ⟨3, (some 58), none, (.q (.mov (.t 1))), []⟩ :: ⟨4, (some 59), none, (.q (.bin .sub (.t 57) (.t 58))), []⟩ :: ⟨5, (some 60), none, (.q (.bin .sub (.t 56) (.t 59))), []⟩ :: hid l_PdqI_38
@[simp] def b_PdqI_39 (_ : Unit) : EB := reg0 (hid l_PdqI_37) 7
@[simp] def l_PdqI_40 (_ : Unit) : List EOp := [⟨0, (some 12), none, (.q (.mov (.k (.int .i64 1)))), []⟩]
@[simp] def b_PdqI_41 (_ : Unit) : EB := reg0 (hid l_PdqI_40) 1
@[simp] def b_PdqI_42 (_ : Unit) : EB := .seq (hid b_PdqI_39) (hid b_PdqI_41)
@[simp] def b_PdqI_43 (_ : Unit) : EB := .seq (hid b_PdqI_36) (hid b_PdqI_42)
@[simp] def b_PdqI_44 (_ : Unit) : EB := .cond (.t 50) (hid b_PdqI_43) .skip
@[simp] def b_PdqI_45 (_ : Unit) : EB := .seq (hid b_PdqI_34) (hid b_PdqI_44)
@[simp] def l_PdqI_47 (_ : Unit) : List EOp := [⟨6, (some 67), (some (65, true)), (.q (.bin .eql (.t 66) (.k (.int .i64 1)))), []⟩, ⟨7, (some 68), none, (.q (.pick (.t 65) (.t 67) (.k (.bool false)))), []⟩]
@[simp] def l_PdqI_46 (_ : Unit) : List EOp := ⟨0, (some 61), none, (.q (.mov (.t 8))), []⟩ :: ⟨1, (some 62), none, (.q (.mov (.t 61))), []⟩ :: ⟨2, (some 63), (some (62, true)), (.q (.mov (.t 9))), []⟩ :: ⟨3, (some 64), none, (.q (.pick (.t 62) (.t 63) (.k (.bool false)))), []⟩ :: ⟨4, (some 65), none, (.q (.mov (.t 64))), []⟩ :: ⟨5, (some 66), (some (65, true)), (.q (.mov (.t 12))), []⟩ :: hid l_PdqI_47
@[simp] def b_PdqI_48 (_ : Unit) : EB := reg0 (hid l_PdqI_46) 8
@[simp] def l_PdqI_49 (_ : Unit) : List EOp := [⟨0, (some 69), none, (.q (.mov (.t 0))), []⟩, ⟨1, (some 70), none, (.q (.mov (.t 1))), []⟩, ⟨2, (some 71), none, (.q (.mov (.t 2))), []⟩, ⟨3, (some 72), none, (.call 63 [(.t 69), (.t 70), (.t 71)]), []⟩]
@[simp] def b_PdqI_50 (_ : Unit) : EB := reg0 (hid l_PdqI_49) 4
@[simp] def b_PdqI_51 (_ : Unit) : EB := .cond (.t 72) .ret .skip
@[simp] def b_PdqI_52 (_ : Unit) : EB := .seq (hid b_PdqI_50) (hid b_PdqI_51)
@[simp] def b_PdqI_53 (_ : Unit) : EB := .cond (.t 68) (hid b_PdqI_52) .skip
@[simp] def b_PdqI_54 (_ : Unit) : EB := .seq (hid b_PdqI_48) (hid b_PdqI_53)
@[simp] def l_PdqI_57 (_ : Unit) : List EOp := [⟨12, (some 85), (some (75, true)), (.call 64 [(.t 80), (.t 84)]), []⟩, ⟨13, (some 86), (some (75, true)), (.q (.un .not (.t 85))), []⟩, ⟨14, (some 87), none, (.q (.pick (.t 75) (.t 86) (.k (.bool false)))), []⟩]
@[simp] def l_PdqI_56 (_ : Unit) : List EOp := ⟨6, (some 79), (some (75, true)), (.q (.isl 1 (.t 76) (.t 78))), []⟩ :: ⟨7, (some 80), (some (75, true)), (.q (.ldc (.t 79))), []⟩ :: ⟨8, (some 81), (some (75, true)), (.q (.mov (.t 0))), []⟩ :: ⟨9, (some 82), (some (75, true)), (.q (.mov (.t 11))), []⟩ :: ⟨10, (some 83), (some (75, true)), (.q (.isl 1 (.t 81) (.t 82))), []⟩ :: ⟨11, (some 84), (some (75, true)), (.q (.ldc (.t 83))), []⟩ :: hid l_PdqI_57
@[simp] def l_PdqI_55 (_ : Unit) : List EOp := ⟨0, (some 73), none, (.q (.mov (.t 1))), []⟩ :: ⟨1, (some 74), none, (.q (.bin .gtr (.t 73) (.k (.int .i64 0)))), []⟩ :: ⟨2, (some 75), none, (.q (.mov (.t 74))), []⟩ :: ⟨3, (some 76), (some (75, true)), (.q (.mov (.t 0))), []⟩ :: ⟨4, (some 77), (some (75, true)), (.q (.mov (.t 1))), []⟩ :: ⟨5, (some 78), (some (75, true)), (.q (.bin .sub (.t 77) (.k (.int .i64 1)))), []⟩ :: hid l_PdqI_56
@[simp] def b_PdqI_58 (_ : Unit) : EB := reg0 (hid l_PdqI_55) 15
@[simp] def l_PdqI_59 (_ : Unit) : List EOp := [⟨0, (some 88), none, (.q (.mov (.t 0))), []⟩, ⟨1, (some 89), none, (.q (.mov (.t 1))), []⟩, ⟨2, (some 90), none, (.q (.mov (.t 2))), []⟩, ⟨3, (some 91), none, (.q (.mov (.t 11))), []⟩, ⟨4, (some 92), none, (.call 65 [(.t 88), (.t 89), (.t 90), (.t 91)]), []⟩, ⟨5, (some 13), none, (.q (.mov (.t 92))), []⟩]
@[simp] def b_PdqI_60 (_ : Unit) : EB := reg0 (hid l_PdqI_59) 6
@[simp] def l_PdqI_61 (_ : Unit) : List EOp := [⟨0, (some 93), none, (.q (.mov (.t 13))), []⟩, ⟨1, (some 1), none, (.q (.mov (.t 93))), []⟩]
@[simp] def b_PdqI_62 (_ : Unit) : EB := reg0 (hid l_PdqI_61) 2
@[simp] def b_PdqI_63 (_ : Unit) : EB := .seq (hid b_PdqI_62) (.exit 1)
@[simp] def b_PdqI_64 (_ : Unit) : EB := .seq (hid b_PdqI_60) (hid b_PdqI_63)
@[simp] def b_PdqI_65 (_ : Unit) : EB := .cond (.t 87) (hid b_PdqI_64) .skip
@[simp] def b_PdqI_66 (_ : Unit) : EB := .seq (hid b_PdqI_58) (hid b_PdqI_65)
@[simp] def l_PdqI_68 (_ : Unit) : List EOp := [⟨6, (some 100), none, (.q (.ext 0 (.t 94))), []⟩, ⟨7, (some 101), none, (.q (.ext 1 (.t 94))), []⟩, ⟨8, (some 14), none, (.q (.mov (.t 100))), []⟩, ⟨9, (some 15), none, (.q (.mov (.t 101))), []⟩]
@[simp] def l_PdqI_67 (_ : Unit) : List EOp := ⟨0, (some 95), none, (.q (.mov (.t 0))), []⟩ :: ⟨1, (some 96), none, (.q (.mov (.t 1))), []⟩ :: ⟨2, (some 97), none, (.q (.mov (.t 2))), []⟩ :: ⟨3, (some 98), none, (.q (.mov (.t 11))), []⟩ :: ⟨4, (some 99), none, (.call 66 [(.t 95), (.t 96), (.t 97), (.t 98)]), []⟩ :: ⟨5, (some 94), none, (.q (.mov (.t 99))), []⟩ :: hid l_PdqI_68
@[simp] def b_PdqI_69 (_ : Unit) : EB := reg0 (hid l_PdqI_67) 10
@[simp] def l_PdqI_70 (_ : Unit) : List EOp := [⟨0, (some 102), none, (.q (.mov (.t 15))), []⟩, ⟨1, (some 9), none, (.q (.mov (.t 102))), []⟩]
@[simp] def b_PdqI_71 (_ : Unit) : EB := reg0 (hid l_PdqI_70) 2
@[simp] def l_PdqI_73 (_ : Unit) : List EOp := [⟨6, (some 16), none, (.q (.mov (.t 105))), []⟩, ⟨7, (some 17), none, (.q (.mov (.t 108))), []⟩]
@[simp] def l_PdqI_72 (_ : Unit) : List EOp := ⟨0, (some 103), none, (.q (.mov (.t 14))), []⟩ :: ⟨1, (some 104), none, (.q (.mov (.t 1))), []⟩ :: ⟨2, (some 105), none, (.q (.bin .sub (.t 103) (.t 104))), []⟩ :: ⟨3, (some 106), none, (.q (.mov (.t 2))), []⟩ :: ⟨4, (some 107), none, (.q (.mov (.t 14))), []⟩ :: ⟨5, (some 108), none, (.q (.bin .sub (.t 106) (.t 107))), []⟩ :: hid l_PdqI_73
@[simp] def b_PdqI_74 (_ : Unit) : EB := reg0 (hid l_PdqI_72) 8
@[simp] def l_PdqI_75 (_ : Unit) : List EOp := [⟨0, (some 109), none, (.q (.mov (.t 10))), []⟩, ⟨1, (some 110), none, (.q (.bin .quo (.t 109) (.k (.int .i64 8)))), []⟩, ⟨2, (some 18), none, (.q (.mov (.t 110))), []⟩]
@[simp] def b_PdqI_76 (_ : Unit) : EB := reg0 (hid l_PdqI_75) 3
@[simp] def l_PdqI_77 (_ : Unit) : List EOp := [⟨0, (some 111), none, (.q (.mov (.t 16))), []⟩, ⟨1, (some 112), none, (.q (.mov (.t 17))), []⟩, ⟨2, (some 113), none, (.q (.bin .lss (.t 111) (.t 112))), []⟩]
@[simp] def b_PdqI_78 (_ : Unit) : EB := reg0 (hid l_PdqI_77) 3
@[simp] def l_PdqI_79 (_ : Unit) : List EOp := [⟨0, (some 114), none, (.q (.mov (.t 16))), []⟩, ⟨1, (some 115), none, (.q (.mov (.t 18))), []⟩, ⟨2, (some 116), none, (.q (.bin .geq (.t 114) (.t 115))), []⟩, ⟨3, (some 8), none, (.q (.mov (.t 116))), []⟩]
@[simp] def b_PdqI_80 (_ : Unit) : EB := reg0 (hid l_PdqI_79) 4
@[simp] def l_PdqI_81 (_ : Unit) : List EOp := [⟨0, (some 117), none, (.q (.mov (.t 0))), []⟩, ⟨1, (some 118), none, (.q (.mov (.t 1))), []⟩, ⟨2, (some 119), none, (.q (.mov (.t 14))), []⟩, ⟨3, (some 120), none, (.q (.mov (.t 3))), []⟩, ⟨4, (some 121), none, (.call 51 [(.t 117), (.t 118), (.t 119), (.t 120)]), []⟩]
@[simp] def b_PdqI_82 (_ : Unit) : EB := reg0 (hid l_PdqI_81) 5
@[simp] def l_PdqI_83 (_ : Unit) : List EOp := [⟨0, (some 122), none, (.q (.mov (.t 14))), []⟩, ⟨1, (some 123), none, (.q (.bin .add (.t 122) (.k (.int .i64 1)))), []⟩, ⟨2, (some 1), none, (.q (.mov (.t 123))), []⟩]
@[simp] def b_PdqI_84 (_ : Unit) : EB := reg0 (hid l_PdqI_83) 3
@[simp] def b_PdqI_85 (_ : Unit) : EB := .seq (hid b_PdqI_82) (hid b_PdqI_84)
@[simp] def b_PdqI_86 (_ : Unit) : EB := .seq (hid b_PdqI_80) (hid b_PdqI_85)
@[simp] def l_PdqI_87 (_ : Unit) : List EOp := [⟨0, (some 124), none, (.q (.mov (.t 17))), []⟩, ⟨1, (some 125), none, (.q (.mov (.t 18))), []⟩, ⟨2, (some 126), none, (.q (.bin .geq (.t 124) (.t 125))), []⟩, ⟨3, (some 8), none, (.q (.mov (.t 126))), []⟩]
@[simp] def b_PdqI_88 (_ : Unit) : EB := reg0 (hid l_PdqI_87) 4
@[simp] def l_PdqI_89 (_ : Unit) : List EOp := [⟨0, (some 127), none, (.q (.mov (.t 0))), []⟩, ⟨1, (some 128), none, (.q (.mov (.t 14))), []⟩, ⟨2, (some 129), none, (.q (.bin .add (.t 128) (.k (.int .i64 1)))), []⟩, ⟨3, (some 130), none, (.q (.mov (.t 2))), []⟩, ⟨4, (some 131), none, (.q (.mov (.t 3))), []⟩, ⟨5, (some 132), none, (.call 51 [(.t 127), (.t 129), (.t 130), (.t 131)]), []⟩]
@[simp] def b_PdqI_90 (_ : Unit) : EB := reg0 (hid l_PdqI_89) 6
@[simp] def l_PdqI_91 (_ : Unit) : List EOp := [⟨0, (some 133), none, (.q (.mov (.t 14))), []⟩, ⟨1, (some 2), none, (.q (.mov (.t 133))), []⟩]
@[simp] def b_PdqI_92 (_ : Unit) : EB := reg0 (hid l_PdqI_91) 2
@[simp] def b_PdqI_93 (_ : Unit) : EB := .seq (hid b_PdqI_90) (hid b_PdqI_92)
@[simp] def b_PdqI_94 (_ : Unit) : EB := .seq (hid b_PdqI_88) (hid b_PdqI_93)
@[simp] def b_PdqI_95 (_ : Unit) : EB := .cond (.t 113) (hid b_PdqI_86) (hid b_PdqI_94)
@[simp] def b_PdqI_96 (_ : Unit) : EB := .seq (hid b_PdqI_78) (hid b_PdqI_95)
@[simp] def b_PdqI_97 (_ : Unit) : EB := .seq (hid b_PdqI_76) (hid b_PdqI_96)
@[simp] def b_PdqI_98 (_ : Unit) : EB := .seq (hid b_PdqI_74) (hid b_PdqI_97)
@[simp] def b_PdqI_99 (_ : Unit) : EB := .seq (hid b_PdqI_71) (hid b_PdqI_98)
@[simp] def b_PdqI_100 (_ : Unit) : EB := .seq (hid b_PdqI_69) (hid b_PdqI_99)
@[simp] def b_PdqI_101 (_ : Unit) : EB := .seq (hid b_PdqI_66) (hid b_PdqI_100)
@[simp] def b_PdqI_102 (_ : Unit) : EB := .seq (hid b_PdqI_54) (hid b_PdqI_101)
@[simp] def b_PdqI_103 (_ : Unit) : EB := .seq (hid b_PdqI_45) (hid b_PdqI_102)
@[simp] def b_PdqI_104 (_ : Unit) : EB := .seq (hid b_PdqI_32) (hid b_PdqI_103)
@[simp] def b_PdqI_105 (_ : Unit) : EB := .seq (hid b_PdqI_29) (hid b_PdqI_104)
@[simp] def b_PdqI_106 (_ : Unit) : EB := .seq (hid b_PdqI_20) (hid b_PdqI_105)
@[simp] def b_PdqI_107 (_ : Unit) : EB := .seq (hid b_PdqI_13) (hid b_PdqI_106)
@[simp] def b_PdqI_108 (_ : Unit) : EB := .seq (hid b_PdqI_6) (hid b_PdqI_107)
@[simp] def b_PdqI_109 (_ : Unit) : EB := .block 1 (hid b_PdqI_108)
@[simp] def b_PdqI_110 (_ : Unit) : EB := .loop (hid b_PdqI_109)
@[simp] def b_PdqI_111 (_ : Unit) : EB := .block 0 (hid b_PdqI_110)
@[simp] def b_PdqI_112 (_ : Unit) : EB := .seq (hid b_PdqI_4) (hid b_PdqI_111)
@[simp] def b_PdqI_113 (_ : Unit) : EB := .seq (hid b_PdqI_2) (hid b_PdqI_112)
def c_PdqI : EB × List QOp × Nat := ((hid b_PdqI_113), [], 134)
theorem k_PdqI : cfun Tryd.prog 51 = some c_PdqI := by kernel_rfl

@[simp] def l_LenB_1 (_ : Unit) : List EOp := [⟨0, (some 2), none, (.q (.mov (.k (.int .i64 0)))), []⟩]
@[simp] def b_LenB_2 (_ : Unit) : EB := reg0 (hid l_LenB_1) 1
@[simp] def l_LenB_3 (_ : Unit) : List EOp := [⟨0, (some 3), none, (.q (.mov (.t 0))), []⟩, ⟨1, (some 4), none, (.q (.cnv .u32 (.t 3))), []⟩, ⟨2, (some 5), none, (.call 67 [(.t 4)]), []⟩, ⟨3, (some 2), none, (.q (.mov (.t 5))), []⟩]
@[simp] def b_LenB_4 (_ : Unit) : EB := reg0 (hid l_LenB_3) 4
@[simp] def b_LenB_5 (_ : Unit) : EB := .seq (hid b_LenB_4) .ret
@[simp] def b_LenB_6 (_ : Unit) : EB := .cond (.k (.bool false)) (hid b_LenB_5) .skip
@[simp] def l_LenB_7 (_ : Unit) : List EOp := [⟨0, (some 6), none, (.q (.mov (.t 0))), []⟩, ⟨1, (some 7), none, (.call 68 [(.t 6)]), []⟩, ⟨2, (some 2), none, (.q (.mov (.t 7))), []⟩]
@[simp] def b_LenB_8 (_ : Unit) : EB := reg0 (hid l_LenB_7) 3
@[simp] def b_LenB_9 (_ : Unit) : EB := .seq (hid b_LenB_8) .ret
@[simp] def b_LenB_10 (_ : Unit) : EB := .seq (hid b_LenB_6) (hid b_LenB_9)
@[simp] def b_LenB_11 (_ : Unit) : EB := .seq (hid b_LenB_2) (hid b_LenB_10)
def c_LenB : EB × List QOp × Nat := ((hid b_LenB_11), [(.mov (.t 2))], 8)
theorem k_LenB : cfun Tryd.prog 52 = some c_LenB := by kernel_rfl

def s_LenB64_0 : ByteArray := ⟨#[0, 1, 2, 2, 3, 3, 3, 3, 4, 4, 4, 4, 4, 4, 4, 4, 5, 5, 5, 5, 5, 5, 5, 5, 5, 5, 5, 5, 5, 5, 5, 5, 6, 6, 6, 6, 6, 6, 6, 6, 6, 6, 6, 6, 6, 6, 6, 6, 6, 6, 6, 6, 6, 6, 6, 6, 6, 6, 6, 6, 6, 6, 6, 6, 7, 7, 7, 7, 7, 7, 7, 7, 7, 7, 7, 7, 7, 7, 7, 7, 7, 7, 7, 7, 7, 7, 7, 7, 7, 7, 7, 7, 7, 7, 7, 7, 7, 7, 7, 7, 7, 7, 7, 7, 7, 7, 7, 7, 7, 7, 7, 7, 7, 7, 7, 7, 7, 7, 7, 7, 7, 7, 7, 7, 7, 7, 7, 7, 8, 8, 8, 8, 8, 8, 8, 8, 8, 8, 8, 8, 8, 8, 8, 8, 8, 8, 8, 8, 8, 8, 8, 8, 8, 8, 8, 8, 8, 8, 8, 8, 8, 8, 8, 8, 8, 8, 8, 8, 8, 8, 8, 8, 8, 8, 8, 8, 8, 8, 8, 8, 8, 8, 8, 8, 8, 8, 8, 8, 8, 8, 8, 8, 8, 8, 8, 8, 8, 8, 8, 8, 8, 8, 8, 8, 8, 8, 8, 8, 8, 8, 8, 8, 8, 8, 8, 8, 8, 8, 8, 8, 8, 8, 8, 8, 8, 8, 8, 8, 8, 8, 8, 8, 8, 8, 8, 8, 8, 8, 8, 8, 8, 8, 8, 8, 8, 8, 8, 8, 8, 8, 8, 8, 8, 8, 8, 8]⟩
@[simp] def l_LenB64_1 (_ : Unit) : List EOp := [⟨0, (some 2), none, (.q (.mov (.k (.int .i64 0)))), []⟩]
@[simp] def b_LenB64_2 (_ : Unit) : EB := reg0 (hid l_LenB64_1) 1
@[simp] def l_LenB64_3 (_ : Unit) : List EOp := [⟨0, (some 3), none, (.q (.mov (.t 0))), []⟩, ⟨1, (some 4), none, (.q (.bin .geq (.t 3) (.k (.int .u64 4294967296)))), []⟩]
@[simp] def b_LenB64_4 (_ : Unit) : EB := reg0 (hid l_LenB64_3) 2
@[simp] def l_LenB64_5 (_ : Unit) : List EOp := [⟨0, (some 5), none, (.q (.mov (.t 0))), []⟩, ⟨1, (some 6), none, (.q (.bin .shr (.t 5) (.k (.int .u64 32)))), []⟩, ⟨2, (some 0), none, (.q (.mov (.t 6))), []⟩]
@[simp] def b_LenB64_6 (_ : Unit) : EB := reg0 (hid l_LenB64_5) 3
@[simp] def l_LenB64_7 (_ : Unit) : List EOp := [⟨0, (some 2), none, (.q (.mov (.k (.int .i64 32)))), []⟩]
@[simp] def b_LenB64_8 (_ : Unit) : EB := reg0 (hid l_LenB64_7) 1
@[simp] def b_LenB64_9 (_ : Unit) : EB := .seq (hid b_LenB64_6) (hid b_LenB64_8)
@[simp] def b_LenB64_10 (_ : Unit) : EB := .cond (.t 4) (hid b_LenB64_9) .skip
@[simp] def b_LenB64_11 (_ : Unit) : EB := .seq (hid b_LenB64_4) (hid b_LenB64_10)
@[simp] def l_LenB64_12 (_ : Unit) : List EOp := [⟨0, (some 7), none, (.q (.mov (.t 0))), []⟩, ⟨1, (some 8), none, (.q (.bin .geq (.t 7) (.k (.int .u64 65536)))), []⟩]
@[simp] def b_LenB64_13 (_ : Unit) : EB := reg0 (hid l_LenB64_12) 2
@[simp] def l_LenB64_14 (_ : Unit) : List EOp := [⟨0, (some 9), none, (.q (.mov (.t 0))), []⟩, ⟨1, (some 10), none, (.q (.bin .shr (.t 9) (.k (.int .u64 16)))), []⟩, ⟨2, (some 0), none, (.q (.mov (.t 10))), []⟩]
@[simp] def b_LenB64_15 (_ : Unit) : EB := reg0 (hid l_LenB64_14) 3
@[simp] def l_LenB64_16 (_ : Unit) : List EOp := [⟨0, (some 11), none, (.q (.mov (.t 2))), []⟩, ⟨1, (some 12), none, (.q (.bin .add (.t 11) (.k (.int .i64 16)))), []⟩, ⟨2, (some 2), none, (.q (.mov (.t 12))), []⟩]
@[simp] def b_LenB64_17 (_ : Unit) : EB := reg0 (hid l_LenB64_16) 3
@[simp] def b_LenB64_18 (_ : Unit) : EB := .seq (hid b_LenB64_15) (hid b_LenB64_17)
@[simp] def b_LenB64_19 (_ : Unit) : EB := .cond (.t 8) (hid b_LenB64_18) .skip
@[simp] def b_LenB64_20 (_ : Unit) : EB := .seq (hid b_LenB64_13) (hid b_LenB64_19)
@[simp] def l_LenB64_21 (_ : Unit) : List EOp := [⟨0, (some 13), none, (.q (.mov (.t 0))), []⟩, ⟨1, (some 14), none, (.q (.bin .geq (.t 13) (.k (.int .u64 256)))), []⟩]
@[simp] def b_LenB64_22 (_ : Unit) : EB := reg0 (hid l_LenB64_21) 2
@[simp] def l_LenB64_23 (_ : Unit) : List EOp := [⟨0, (some 15), none, (.q (.mov (.t 0))), []⟩, ⟨1, (some 16), none, (.q (.bin .shr (.t 15) (.k (.int .u64 8)))), []⟩, ⟨2, (some 0), none, (.q (.mov (.t 16))), []⟩]
@[simp] def b_LenB64_24 (_ : Unit) : EB := reg0 (hid l_LenB64_23) 3
@[simp] def l_LenB64_25 (_ : Unit) : List EOp := [⟨0, (some 17), none, (.q (.mov (.t 2))), []⟩, ⟨1, (some 18), none, (.q (.bin .add (.t 17) (.k (.int .i64 8)))), []⟩, ⟨2, (some 2), none, (.q (.mov (.t 18))), []⟩]
@[simp] def b_LenB64_26 (_ : Unit) : EB := reg0 (hid l_LenB64_25) 3
@[simp] def b_LenB64_27 (_ : Unit) : EB := .seq (hid b_LenB64_24) (hid b_LenB64_26)
@[simp] def b_LenB64_28 (_ : Unit) : EB := .cond (.t 14) (hid b_LenB64_27) .skip
@[simp] def b_LenB64_29 (_ : Unit) : EB := .seq (hid b_LenB64_22) (hid b_LenB64_28)
@[simp] def l_LenB64_31 (_ : Unit) : List EOp := [⟨6, (some 2), none, (.q (.mov (.t 24))), []⟩]
@[simp] def l_LenB64_30 (_ : Unit) : List EOp := ⟨0, (some 19), none, (.q (.mov (.t 2))), []⟩ :: ⟨1, (some 20), none, (.q (.mov (.t 0))), []⟩ :: ⟨2, (some 21), none, (.q (.cnv .u8 (.t 20))), []⟩ :: ⟨3, (some 22), none, (.q (.ixs (.k (.string s_LenB64_0)) (.t 21))), []⟩ :: ⟨4, (some 23), none, (.q (.cnv .i64 (.t 22))), []⟩ :: ⟨5, (some 24), none, (.q (.bin .add (.t 19) (.t 23))), []⟩ :: hid l_LenB64_31
@[simp] def b_LenB64_32 (_ : Unit) : EB := reg0 (hid l_LenB64_30) 7
@[simp] def b_LenB64_33 (_ : Unit) : EB := .seq (hid b_LenB64_32) .ret
@[simp] def b_LenB64_34 (_ : Unit) : EB := .seq (hid b_LenB64_29) (hid b_LenB64_33)
@[simp] def b_LenB64_35 (_ : Unit) : EB := .seq (hid b_LenB64_20) (hid b_LenB64_34)
@[simp] def b_LenB64_36 (_ : Unit) : EB := .seq (hid b_LenB64_11) (hid b_LenB64_35)
@[simp] def b_LenB64_37 (_ : Unit) : EB := .seq (hid b_LenB64_2) (hid b_LenB64_36)
def c_LenB64 : EB × List QOp × Nat := ((hid b_LenB64_37), [(.mov (.t 2))], 25)
theorem k_LenB64 : cfun Tryd.prog 68 = some c_LenB64 := by kernel_rfl

@[simp] def l_SortI_1 (_ : Unit) : List EOp := [⟨0, (some 3), none, (.q (.mov (.t 0))), []⟩, ⟨1, (some 4), none, (.q (.len (.t 3))), []⟩, ⟨2, (some 2), none, (.q (.mov (.t 4))), []⟩]
@[simp] def b_SortI_2 (_ : Unit) : EB := reg0 (hid l_SortI_1) 3
@[simp] def l_SortI_3 (_ : Unit) : List EOp := [⟨0, (some 5), none, (.q (.mov (.t 0))), []⟩, ⟨1, (some 6), none, (.q (.mov (.t 2))), []⟩, ⟨2, (some 7), none, (.q (.mov (.t 2))), []⟩, ⟨3, (some 8), none, (.q (.cnv .u64 (.t 7))), []⟩, ⟨4, (some 9), none, (.call 52 [(.t 8)]), []⟩, ⟨5, (some 10), none, (.call 51 [(.t 5), (.k (.int .i64 0)), (.t 6), (.t 9)]), []⟩]
@[simp] def b_SortI_4 (_ : Unit) : EB := reg0 (hid l_SortI_3) 6
@[simp] def b_SortI_5 (_ : Unit) : EB := .seq (hid b_SortI_2) (hid b_SortI_4)
def c_SortI : EB × List QOp × Nat := ((hid b_SortI_5), [], 11)
theorem k_SortI : cfun Tryd.prog 39 = some c_SortI := by kernel_rfl


/-! ### three numbers, sorted -/
theorem LessI_ok (a b : Int) : ECalls Tryd.prog 64 [I .i64 a, I .i64 b] [] fun y H' => H' = [] ∧ y = .lit (.bool (decide (a < b))) := by
  refine ecalls k_LessI ?_
  simp [c_LessI, I]
  refine call0 (NaNI_ok a) (by simp [I]) ?_
  rintro y H' ⟨rfl, rfl⟩
  refine ⟨.inl (by simp), le_ok rfl, ?_⟩
  simp
  exact fin [] (by decide) rfl rfl rfl ⟨rfl, rfl⟩
def swS (l : List Int) (j : Nat) : List Int := (l.set (j + 1) ((l[j]?).getD 0)).set j ((l[j + 1]?).getD 0)
theorem swS_len (l : List Int) (j : Nat) : (swS l j).length = l.length := by simp [swS]
/-- A number let sink to its place. -/
def sinkS : Nat → List Int → List Int
  | 0, l => l
  | j + 1, l => if (l[j + 1]?).getD 0 < (l[j]?).getD 0 then sinkS j (swS l j) else l
theorem sinkS_len : ∀ (j : Nat) (l : List Int), (sinkS j l).length = l.length
  | 0, _ => rfl
  | j + 1, l => by
    unfold sinkS
    split
    · rw [sinkS_len j, swS_len]
    · rfl
def restS : Nat → List Int → List Int
  | 1, l => sinkS 2 (sinkS 1 l)
  | 2, l => sinkS 2 l
  | _, l => l
/-- Three numbers by their order. -/
def srt (l : List Int) : List Int := restS 1 l
theorem srt_len (l : List Int) : (srt l).length = l.length := by show (sinkS 2 (sinkS 1 l)).length = l.length; rw [sinkS_len, sinkS_len]
def inF (n : Int) : List FV := [.lit (.int .i64 n)]
theorem intv_at {l : List Int} {i : Nat} (h : i < l.length) (h2 : i < (intv l).length) : (intv l)[i]'h2 = [.lit (.int .i64 ((l[i]?).getD 0))] := by
  simp [intv, h]
theorem intv_set (l : List Int) (i : Nat) (x : Int) : (intv l).set i [.lit (.int .i64 x)] = intv (l.set i x) := by simp [intv, List.map_set]

set_option maxHeartbeats 4000000 in
theorem InsI_ok (l : List Int) (h3 : l.length = 3) : ECalls Tryd.prog 58 [.v (.c (.row 0 3)), I .i64 0, I .i64 3] [.row 3 1 (intv l)] fun y H' => H' = [some (.row 3 1 (intv (srt l)))] ∧ y = .tup [] := by
  obtain ⟨F, hF⟩ : ∃ F, srt l = F := ⟨_, rfl⟩
  rw [hF]
  have w0 : IntKind.i64.wrap 1 = 1 := by decide +kernel
  refine ecalls k_InsI ?_
  simp [c_InsI, I, w0]
  refine eloop (α := Nat × List Int) (fun a => 1 ≤ a.1 ∧ a.1 ≤ 3 ∧ a.2.length = 3 ∧ restS a.1 a.2 = F) (fun a => 3 - a.1)
    (fun a => [.v (.c (.row 0 3)), I .i64 0, I .i64 3, .any, .any, .any, I .i64 a.1, .any, .any, .any, .any, .any, .any, .any, .any, .any, .any, .any, .any, .any, .any, .any, .any, .any, .any, .any, .any, .any, .any, .any, .any, .any, .any, .any, .any, .any, .any, .any, .any, .any, .any, .any, .any, .any, .any, .any, .any, .any, .any]) (fun a => [some (.row 3 1 (intv a.2))]) (1, l) [0]
    ⟨by simp, by simp, h3, hF⟩ (by simp [I]) (by simp) (by simp) (by simp) (by simp) ?_
  rintro ⟨i, m⟩ ⟨hi1, hi3, hm, hr⟩
  dsimp only at hi1 hi3 hm hr
  by_cases hlt : i < 3
  · have hli : (i : Int) < 3 := by omega
    have w1 : IntKind.i64.wrap ((i : Int) + 1) = ((i + 1 : Nat) : Int) := wrap_i64 (by omega) (by omega)
    have hnext : restS (i + 1) (sinkS i m) = F := by
      rw [← hr]
      rcases (by omega : i = 1 ∨ i = 2) with rfl | rfl
      · rfl
      · rfl
    obtain ⟨G, hG⟩ : ∃ G, sinkS i m = G := ⟨_, rfl⟩
    have hGl : G.length = 3 := by rw [← hG, sinkS_len]; exact hm
    rw [hG] at hnext
    simp [I, hli, hlt]
    refine eloop (α := Nat × List Int) (fun a => a.1 ≤ i ∧ a.2.length = 3 ∧ sinkS a.1 a.2 = G) (fun a => a.1)
      (fun a => [.v (.c (.row 0 3)), I .i64 0, I .i64 3, .any, .any, .any, I .i64 i, I .i64 a.1, .any, .any, .any, .any, .any, .any, .any, .any, .any, .any, .any, .any, .any, .any, .any, .any, .any, .any, .any, .any, .any, .any, .any, .any, .any, .any, .any, .any, .any, .any, .any, .any, .any, .any, .any, .any, .any, .any, .any, .any, .any]) (fun a => [some (.row 3 1 (intv a.2))]) (i, m) [0]
      ⟨Nat.le_refl _, hm, hG⟩ (by simp [I]) (by simp) (by simp) (by simp) (by simp) ?_
    rintro ⟨j, k⟩ ⟨hj, hk, hs⟩
    dsimp only at hj hk hs
    rcases Nat.eq_zero_or_pos j with hj0 | hj0
    · subst hj0
      have hkG : k = G := hs
      subst hkG
      simp [I, w1, -Int.natCast_add]
      exact round (i + 1, k) [0] ⟨by dsimp only; omega, by dsimp only; omega, hk, hnext⟩ (by dsimp only; omega) (by simp [I]) (by simp) (by simp) (by simp) (by simp)
    · obtain ⟨p, rfl⟩ : ∃ p, j = p + 1 := ⟨j - 1, by omega⟩
      have hjp : (0 : Int) < ((p + 1 : Nat) : Int) := by omega
      have wj : IntKind.i64.wrap (((p + 1 : Nat) : Int) - 1) = (p : Int) := by rw [wrap_i64 (by omega) (by omega)]; omega
      obtain ⟨j, hje⟩ : ∃ j, p + 1 = j := ⟨_, rfl⟩
      have hp3 : p < 3 := by omega
      have hj3 : j < 3 := by omega
      obtain ⟨A, hA⟩ : ∃ A, (k[p]?).getD 0 = A := ⟨_, rfl⟩
      obtain ⟨B, hB⟩ : ∃ B, (k[j]?).getD 0 = B := ⟨_, rfl⟩
      have ga : ∀ h2, (intv k)[p]'h2 = [.lit (.int .i64 A)] := fun h2 => by rw [intv_at (by omega), hA]
      have gb : ∀ h2, (intv k)[j]'h2 = [.lit (.int .i64 B)] := fun h2 => by rw [intv_at (by omega), hB]
      have hs' : (if B < A then sinkS p (swS k p) else k) = G := by
        rw [← hs, ← hB, ← hA, ← hje]
        rfl
      rw [hje] at hjp wj
      have ip : (p : Int) < 3 := by omega
      have ij : (j : Int) < 3 := by omega
      have n0 : ¬ ((j : Int) < 0) := by omega
      have n1 : ¬ ((p : Int) < 0) := by omega
      rw [hje]
      have hjn : 0 < j := by omega
      simp [I, hjp, hjn, wj, ga, gb, hk, hp3, hj3, ip, ij, n0, n1]
      refine call0 (LessI_ok B A) (by simp [I]) ?_
      rintro y H' ⟨rfl, rfl⟩
      refine ⟨.inl (by simp), le_ok rfl, ?_⟩
      have hsw : (k.set j A).set p B = swS k p := by unfold swS; rw [hje, hA, hB]
      by_cases hBA : B < A
      · rw [if_pos hBA] at hs'
        rw [decide_eq_true hBA]
        have gp : ∀ h2, (intv (k.set j A))[p]'h2 = [.lit (.int .i64 (((k.set j A)[p]?).getD 0))] := fun h2 => intv_at (by simp; omega) h2
        simp [I, wj, ga, gb, gp, hk, hp3, hj3, ip, ij, n0, n1, intv_set, hsw]
        exact round (p, swS k p) [0] ⟨by dsimp only; omega, by rw [swS_len]; exact hk, hs'⟩ (by dsimp only; omega) (by simp [I]) (by simp) (by simp) (by simp) (by simp)
      · rw [if_neg hBA] at hs'
        subst hs'
        rw [decide_eq_false hBA]
        simp [I, w1, -Int.natCast_add]
        exact round (i + 1, k) [0] ⟨by dsimp only; omega, by dsimp only; omega, hk, hnext⟩ (by dsimp only; omega) (by simp [I]) (by simp) (by simp) (by simp) (by simp)
  · have h3' : i = 3 := by omega
    subst h3'
    have hmF : m = F := hr
    subst hmF
    simp [I]
    exact fin [] (by decide) rfl rfl (by simp [objsOut, show List.range 1 = [0] from rfl]) ⟨rfl, rfl⟩

theorem LenB64_ok : ECalls Tryd.prog 68 [.lit (.int .u64 3)] [] fun y H' => H' = [] ∧ y = I .i64 2 := by
  refine ecalls k_LenB64 ?_
  have w1 : IntKind.u8.wrap 3 = 3 := by decide +kernel
  have w2 : IntKind.i64.wrap 2 = 2 := by decide +kernel
  have hs : s_LenB64_0.data[3]? = some 2 := by decide +kernel
  simp [c_LenB64, I, w1, hs, w2]
  exact fin [] (by decide) rfl rfl rfl ⟨rfl, rfl⟩
theorem LenB_ok : ECalls Tryd.prog 52 [.lit (.int .u64 3)] [] fun y H' => H' = [] ∧ y = I .i64 2 := by
  refine ecalls k_LenB ?_
  simp [c_LenB, I]
  refine call0 LenB64_ok (by simp) ?_
  rintro y H' ⟨rfl, rfl⟩
  refine ⟨.inl (by simp [I]), le_ok rfl, ?_⟩
  simp [I]
  exact fin [] (by decide) rfl rfl rfl ⟨rfl, rfl⟩
theorem PdqI_ok (l : List Int) (k : Int) (h3 : l.length = 3) : ECalls Tryd.prog 51 [.v (.c (.row 0 3)), I .i64 0, I .i64 3, I .i64 k] [.row 3 1 (intv l)] fun y H' => H' = [some (.row 3 1 (intv (srt l)))] ∧ y = .tup [] := by
  have w0 : IntKind.i64.wrap 3 = 3 := by decide +kernel
  refine ecalls k_PdqI ?_
  simp [c_PdqI, I]
  refine eloop (α := Nat) (fun i => i = 0) (fun i => i) (fun i => [.v (.c (.row 0 3)), I .i64 0, I .i64 3, I .i64 k, .any, .any, .any, .any, .lit (.bool true), .lit (.bool true), .any, .any, .any, .any, .any, .any, .any, .any, .any, .any, .any, .any, .any, .any, .any, .any, .any, .any, .any, .any, .any, .any, .any, .any, .any, .any, .any, .any, .any, .any, .any, .any, .any, .any, .any, .any, .any, .any, .any, .any, .any, .any, .any, .any, .any, .any, .any, .any, .any, .any, .any, .any, .any, .any, .any, .any, .any, .any, .any, .any, .any, .any, .any, .any, .any, .any, .any, .any, .any, .any, .any, .any, .any, .any, .any, .any, .any, .any, .any, .any, .any, .any, .any, .any, .any, .any, .any, .any, .any, .any, .any, .any, .any, .any, .any, .any, .any, .any, .any, .any, .any, .any, .any, .any, .any, .any, .any, .any, .any, .any, .any, .any, .any, .any, .any, .any, .any, .any, .any, .any, .any, .any, .any, .any]) (fun _ => [some (.row 3 1 (intv l))]) 0 [0]
    rfl (by simp [I]) (by simp) (by simp) (by simp) (by simp) ?_
  rintro i rfl
  simp [I, w0]
  refine callH [0] (InsI_ok l h3) (by simp [I]) (by simp) (by simp) (by simp) (by simp) ?_
  rintro y H' ⟨rfl, rfl⟩
  refine ⟨.inl (by simp), by simp, ?_⟩
  simp
  exact fin [] (by decide) rfl rfl (by simp [objsOut, show List.range 1 = [0] from rfl]) ⟨rfl, rfl⟩
theorem SortI_ok (l : List Int) (h3 : l.length = 3) : ECalls Tryd.prog 39 [.v (.c (.row 0 3))] [.row 3 1 (intv l)] fun y H' => H' = [some (.row 3 1 (intv (srt l)))] ∧ y = .tup [] := by
  have w0 : IntKind.u64.wrap 3 = 3 := by decide +kernel
  refine ecalls k_SortI ?_
  simp [c_SortI, I, w0]
  refine call0 LenB_ok (by simp) ?_
  rintro y H' ⟨rfl, rfl⟩
  refine ⟨.inl (by simp [I]), le_ok rfl, ?_⟩
  simp [I]
  refine callH [0] (PdqI_ok l 2 h3) (by simp [I]) (by simp) (by simp) (by simp) (by simp) ?_
  rintro y H' ⟨rfl, rfl⟩
  refine ⟨.inl (by simp), by simp, ?_⟩
  simp
  exact fin [] (by decide) rfl rfl (by simp [objsOut, show List.range 1 = [0] from rfl]) ⟨rfl, rfl⟩

end Go.Proofs.YtejjhgdnmknejaaDoor

namespace Go.Proofs.YtejjhgdnmknejaaDoor
open Go Go.EW
set_option linter.unusedSimpArgs false
set_option linter.unusedVariables false

@[simp] def l_Vparty_1 (_ : Unit) : List EOp := [⟨0, (some 2), none, (.q (.mov (.k (.bool false)))), []⟩]
@[simp] def b_Vparty_2 (_ : Unit) : EB := reg0 (hid l_Vparty_1) 1
@[simp] def l_Vparty_4 (_ : Unit) : List EOp := [⟨6, (some 2), none, (.q (.mov (.t 8))), []⟩]
@[simp] def l_Vparty_3 (_ : Unit) : List EOp := ⟨0, (some 3), none, (.q (.mov (.t 0))), []⟩ :: ⟨1, (some 4), none, (.q (.bin .geq (.t 3) (.k (.int .i64 0)))), []⟩ :: ⟨2, (some 5), none, (.q (.mov (.t 4))), []⟩ :: ⟨3, (some 6), (some (5, true)), (.q (.mov (.t 0))), []⟩ :: ⟨4, (some 7), (some (5, true)), (.q (.bin .lss (.t 6) (.k (.int .i64 16)))), []⟩ :: ⟨5, (some 8), none, (.q (.pick (.t 5) (.t 7) (.k (.bool false)))), []⟩ :: hid l_Vparty_4
@[simp] def b_Vparty_5 (_ : Unit) : EB := reg0 (hid l_Vparty_3) 7
@[simp] def b_Vparty_6 (_ : Unit) : EB := .seq (hid b_Vparty_5) .ret
@[simp] def b_Vparty_7 (_ : Unit) : EB := .seq (hid b_Vparty_2) (hid b_Vparty_6)
def c_Vparty : EB × List QOp × Nat := ((hid b_Vparty_7), [(.mov (.t 2))], 9)
theorem k_Vparty : cfun Tryd.prog 14 = some c_Vparty := by kernel_rfl

@[simp] def l_Vof_1 (_ : Unit) : List EOp := [⟨0, (some 3), none, (.q (.box 38 (.t 0))), []⟩, ⟨1, (some 6), none, (.q (.mov (.k (.bool false)))), []⟩]
@[simp] def b_Vof_2 (_ : Unit) : EB := reg0 (hid l_Vof_1) 2
@[simp] def l_Vof_5 (_ : Unit) : List EOp := [⟨12, (some 19), (some (13, false)), (.q (.eqa false 2 .i64 (.t 15) (.t 18))), []⟩, ⟨13, (some 20), none, (.q (.pick (.t 13) (.k (.bool true)) (.t 19))), []⟩, ⟨14, (some 6), none, (.q (.mov (.t 20))), []⟩]
@[simp] def l_Vof_4 (_ : Unit) : List EOp := ⟨6, (some 13), none, (.q (.mov (.t 12))), []⟩ :: ⟨7, (some 14), (some (13, false)), (.q (.fad 34 (.t 3))), []⟩ :: ⟨8, (some 15), (some (13, false)), (.q (.lda 2 (.t 14))), []⟩ :: ⟨9, (some 16), (some (13, false)), (.q (.mov (.t 2))), []⟩ :: ⟨10, (some 17), (some (13, false)), (.q (.mov (.t 1))), []⟩ :: ⟨11, (some 18), (some (13, false)), (.q (.build [(.int .i64 0), (.int .i64 0)] [(0, 1, (.t 16)), (1, 1, (.t 17))])), []⟩ :: hid l_Vof_5
@[simp] def l_Vof_3 (_ : Unit) : List EOp := ⟨0, (some 7), none, (.q (.fad 34 (.t 3))), []⟩ :: ⟨1, (some 8), none, (.q (.lda 2 (.t 7))), []⟩ :: ⟨2, (some 9), none, (.q (.mov (.t 1))), []⟩ :: ⟨3, (some 10), none, (.q (.mov (.t 2))), []⟩ :: ⟨4, (some 11), none, (.q (.build [(.int .i64 0), (.int .i64 0)] [(0, 1, (.t 9)), (1, 1, (.t 10))])), []⟩ :: ⟨5, (some 12), none, (.q (.eqa false 2 .i64 (.t 8) (.t 11))), []⟩ :: hid l_Vof_4
@[simp] def b_Vof_6 (_ : Unit) : EB := reg0 (hid l_Vof_3) 15
@[simp] def b_Vof_7 (_ : Unit) : EB := .seq (hid b_Vof_6) .ret
@[simp] def b_Vof_8 (_ : Unit) : EB := .seq (hid b_Vof_2) (hid b_Vof_7)
def c_Vof : EB × List QOp × Nat := ((hid b_Vof_8), [(.mov (.t 6))], 21)
theorem k_Vof : cfun Tryd.prog 15 = some c_Vof := by kernel_rfl


/-! ### routes -/
structure Prm where
  tx : List UInt8
  n : Int
  am : Int
  k0 : Int
  k1 : Int
  dl : Int
  fe : Int
structure Rte where
  f : Prm
  s : Prm
  a : Int
  b : Int
  c : Int
  am : Int
  fe : Int
def iC (n : Int) : EC := .fz (.lit (.int .i64 n))
def prmC (p : Prm) : List EC := hc p.tx ++ [iC p.n, iC p.am, iC p.k0, iC p.k1, iC p.dl, iC p.fe]
def rteC (r : Rte) : List EC := prmC r.f ++ (prmC r.s ++ [iC r.a, iC r.b, iC r.c, iC r.am, iC r.fe])
def PVv (p : Prm) : EV := .v (.agg (prmC p))
def RVv (r : Rte) : EV := .v (.agg (rteC r))
def Prm.ok (p : Prm) : Prop := p.tx.length = 32 ∧ i64 p.n ∧ i64 p.am ∧ i64 p.k0 ∧ i64 p.k1 ∧ i64 p.dl ∧ i64 p.fe
def Rte.ok (r : Rte) : Prop := r.f.ok ∧ r.s.ok ∧ i64 r.a ∧ i64 r.b ∧ i64 r.c ∧ i64 r.am ∧ i64 r.fe
section
variable {p : Prm} (h : p.tx.length = 32)
include h
theorem prmC_len : (prmC p).length = 38 := by simp [prmC, hc_len, h]
theorem pm_take : (prmC p).take 38 = prmC p := List.take_of_length_le (by rw [prmC_len h]; omega)
theorem pm_d34 : ((prmC p).drop 34).take 2 = [iC p.k0, iC p.k1] := by
  have e : (hc p.tx).length = 32 := by rw [hc_len, h]
  unfold prmC
  rw [List.drop_append, List.drop_of_length_le (by omega), e]
  rfl
theorem pm_34 : (prmC p)[34]? = some (iC p.k0) := by
  have e : (hc p.tx).length = 32 := by rw [hc_len, h]
  unfold prmC
  rw [List.getElem?_append_right (by omega), e]; rfl
theorem pm_35 : (prmC p)[35]? = some (iC p.k1) := by
  have e : (hc p.tx).length = 32 := by rw [hc_len, h]
  unfold prmC
  rw [List.getElem?_append_right (by omega), e]; rfl
end
theorem rt_t38 {r : Rte} (hf : r.f.tx.length = 32) : (rteC r).take 38 = prmC r.f := by unfold rteC; rw [← prmC_len hf, List.take_left]
theorem rt_d38 {r : Rte} (hf : r.f.tx.length = 32) : (rteC r).drop 38 = prmC r.s ++ [iC r.a, iC r.b, iC r.c, iC r.am, iC r.fe] := by unfold rteC; rw [← prmC_len hf, List.drop_left]
theorem rt_k1 {r : Rte} (hf : r.f.tx.length = 32) : ((rteC r).drop 34).take 2 = [iC r.f.k0, iC r.f.k1] := by
  unfold rteC
  rw [List.drop_append_of_le_length (by rw [prmC_len hf]; omega), List.take_append_of_le_length (by rw [List.length_drop, prmC_len hf]; omega), pm_d34 hf]
section
variable {r : Rte} (hf : r.f.tx.length = 32) (hs : r.s.tx.length = 32)
include hf hs
theorem rteC_len : (rteC r).length = 81 := by simp [rteC, prmC_len hf, prmC_len hs]
theorem rt_take : (rteC r).take 81 = rteC r := List.take_of_length_le (by rw [rteC_len hf hs]; omega)
theorem rt_s38 : ((rteC r).drop 38).take 38 = prmC r.s := by rw [rt_d38 hf, ← prmC_len hs, List.take_left]
theorem rt_d76 : (rteC r).drop 76 = [iC r.a, iC r.b, iC r.c, iC r.am, iC r.fe] := by
  rw [show 76 = 38 + 38 from rfl, ← List.drop_drop, rt_d38 hf, ← prmC_len hs, List.drop_left]
theorem rt_k2 : ((rteC r).drop 72).take 2 = [iC r.s.k0, iC r.s.k1] := by
  rw [show 72 = 38 + 34 from rfl, ← List.drop_drop, rt_d38 hf, List.drop_append_of_le_length (by rw [prmC_len hs]; omega), List.take_append_of_le_length (by rw [List.length_drop, prmC_len hs]; omega), pm_d34 hs]
theorem rt_at (i : Nat) : (rteC r)[76 + i]? = [iC r.a, iC r.b, iC r.c, iC r.am, iC r.fe][i]? := by
  rw [← List.getElem?_drop, rt_d76 hf hs]
theorem rt_76 : (rteC r)[76]? = some (iC r.a) := rt_at hf hs 0
theorem rt_77 : (rteC r)[77]? = some (iC r.b) := rt_at hf hs 1
theorem rt_78 : (rteC r)[78]? = some (iC r.c) := rt_at hf hs 2
theorem rt_79 : (rteC r)[79]? = some (iC r.am) := rt_at hf hs 3
theorem rt_80 : (rteC r)[80]? = some (iC r.fe) := rt_at hf hs 4
end
theorem conAll_mp (H : Nat → Option EO) (ids : List Nat) : ∀ l : List FV, conAll H ids (l.map EC.fz) = some (l.map EC.fz)
  | [] => rfl
  | a :: r => by simp only [List.map_cons, conAll, conC, conAll_mp H ids r]; rfl
theorem strAll_mp (ids : List Nat) : ∀ l : List FV, strAll ids (l.map EC.fz) = some (l.map EC.fz)
  | [] => rfl
  | a :: r => by simp only [List.map_cons, strAll, strC, strAll_mp ids r]; rfl
theorem frzAll_mp : ∀ l : List FV, frzAll (l.map EC.fz) = some l
  | [] => rfl
  | a :: r => by simp only [List.map_cons, frzAll, frz, frzAll_mp r]; rfl
theorem refs_mp : ∀ l : List FV, (l.map EC.fz).flatMap refsC = []
  | [] => rfl
  | a :: r => by simp only [List.map_cons, List.flatMap_cons, refs_mp r]; rfl
theorem fz_mp (ids : List Nat) : ∀ l : List FV, (l.map EC.fz).flatMap (fzC ids) = []
  | [] => rfl
  | a :: r => by simp only [List.map_cons, List.flatMap_cons, fz_mp ids r]; rfl
theorem ren_mp (g : Nat → Nat) : ∀ l : List FV, (l.map EC.fz).map (renC g) = l.map EC.fz
  | [] => rfl
  | a :: r => by simp only [List.map_cons, ren_mp g r]; rfl
def iF (n : Int) : FV := .lit (.int .i64 n)
def prmF (p : Prm) : List FV := hf p.tx ++ [iF p.n, iF p.am, iF p.k0, iF p.k1, iF p.dl, iF p.fe]
def rteF (r : Rte) : List FV := prmF r.f ++ (prmF r.s ++ [iF r.a, iF r.b, iF r.c, iF r.am, iF r.fe])
theorem prmF_fz (p : Prm) : (prmF p).map EC.fz = prmC p := by simp [prmF, prmC, iF, iC]
theorem rteF_fz (r : Rte) : (rteF r).map EC.fz = rteC r := by simp [rteF, rteC, prmF_fz, iF, iC]
@[simp] theorem conAll_prmC (H : Nat → Option EO) (ids : List Nat) (p : Prm) : conAll H ids (prmC p) = some (prmC p) := by rw [← prmF_fz]; exact conAll_mp H ids _
@[simp] theorem strAll_prmC (ids : List Nat) (p : Prm) : strAll ids (prmC p) = some (prmC p) := by rw [← prmF_fz]; exact strAll_mp ids _
@[simp] theorem frzAll_prmC (p : Prm) : frzAll (prmC p) = some (prmF p) := by rw [← prmF_fz]; exact frzAll_mp _
@[simp] theorem refs_prmC (p : Prm) : (prmC p).flatMap refsC = [] := by rw [← prmF_fz]; exact refs_mp _
@[simp] theorem fz_prmC (ids : List Nat) (p : Prm) : (prmC p).flatMap (fzC ids) = [] := by rw [← prmF_fz]; exact fz_mp ids _
@[simp] theorem ren_prmC (g : Nat → Nat) (p : Prm) : (prmC p).map (renC g) = prmC p := by rw [← prmF_fz]; exact ren_mp g _
@[simp] theorem conAll_rteC (H : Nat → Option EO) (ids : List Nat) (p : Rte) : conAll H ids (rteC p) = some (rteC p) := by rw [← rteF_fz]; exact conAll_mp H ids _
@[simp] theorem strAll_rteC (ids : List Nat) (p : Rte) : strAll ids (rteC p) = some (rteC p) := by rw [← rteF_fz]; exact strAll_mp ids _
@[simp] theorem frzAll_rteC (p : Rte) : frzAll (rteC p) = some (rteF p) := by rw [← rteF_fz]; exact frzAll_mp _
@[simp] theorem refs_rteC (p : Rte) : (rteC p).flatMap refsC = [] := by rw [← rteF_fz]; exact refs_mp _
@[simp] theorem fz_rteC (ids : List Nat) (p : Rte) : (rteC p).flatMap (fzC ids) = [] := by rw [← rteF_fz]; exact fz_mp ids _
@[simp] theorem ren_rteC (g : Nat → Nat) (p : Rte) : (rteC p).map (renC g) = rteC p := by rw [← rteF_fz]; exact ren_mp g _
theorem idx_of {l : List EC} {k : Nat} {c : EC} (e : l[k]? = some c) (h : k < l.length) : l[k]'h = c := by
  rw [List.getElem?_eq_getElem h] at e
  exact Option.some.inj e

theorem Vparty_ok (n : Int) : ECalls Tryd.prog 14 [I .i64 n] [] fun y H' => H' = [] ∧ y = .lit (.bool (decide (0 ≤ n ∧ n < 16))) := by
  refine ecalls k_Vparty ?_
  simp [c_Vparty, I]
  by_cases h : 0 ≤ n
  · simp [h]
    exact fin [] (by decide) rfl rfl rfl ⟨rfl, rfl⟩
  · simp [h]
    exact fin [] (by decide) rfl rfl rfl ⟨rfl, rfl⟩
def ofV (p : Prm) (a b : Int) : Bool := decide ((p.k0 = a ∧ p.k1 = b) ∨ (p.k0 = b ∧ p.k1 = a))

set_option maxHeartbeats 2000000 in
theorem Vof_ok (p : Prm) (a b : Int) (hp : p.tx.length = 32) : ECalls Tryd.prog 15 [PVv p, I .i64 a, I .i64 b] [] fun y H' => H' = [] ∧ y = .lit (.bool (ofV p a b)) := by
  have h1 := prmC_len hp
  have h2 := pm_take hp
  have h3 := pm_d34 hp
  refine ecalls k_Vof ?_
  simp [c_Vof, I, PVv, h1, h2, h3, iC]
  by_cases c1 : p.k0 = a ∧ p.k1 = b
  · have hv : ofV p a b = true := decide_eq_true (.inl c1)
    rw [hv]
    simp [c1.1, c1.2]
    exact fin [] (by decide) rfl rfl rfl ⟨rfl, rfl⟩
  · have c1' : ¬ p.k0 = a ∨ ¬ p.k1 = b := by omega
    have hv : ofV p a b = (decide (p.k0 = b) && decide (p.k1 = a)) := by
      unfold ofV
      by_cases c2 : p.k0 = b ∧ p.k1 = a
      · rw [decide_eq_true (.inr c2), decide_eq_true c2.1, decide_eq_true c2.2]; rfl
      · rw [decide_eq_false (by omega)]
        by_cases c3 : p.k0 = b
        · rw [decide_eq_true c3, decide_eq_false (fun h => c2 ⟨c3, h⟩)]; rfl
        · rw [decide_eq_false c3]; rfl
    rw [hv]
    simp [c1', h1, h2, h3, iC]
    refine alt (fun h => absurd h c1) (fun _ => ?_)
    simp
    exact fin [] (by decide) rfl rfl rfl ⟨rfl, by simp⟩

end Go.Proofs.YtejjhgdnmknejaaDoor

namespace Go.Proofs.YtejjhgdnmknejaaDoor
open Go Go.EW
set_option linter.unusedSimpArgs false
set_option linter.unusedVariables false

theorem opn_twoV : Opn BB Tryd.prog 26 (fun p : Int × Int => [FV.lit (.int .i64 p.1), .lit (.int .i64 p.2)]) (fun p => i64 p.1 ∧ i64 p.2) (fun _ => 1) :=
  (opn_array bok (e := 3) (es := 1) (n := 2) (by kernel_rfl) (by kernel_rfl) (by kernel_rfl) opn_i64).map (fun l => (l[0]?.getD 0, l[1]?.getD 0)) (by
    rintro l ⟨_, h⟩
    match l, h with
    | [a, b], _ => simp) (by
    rintro l ⟨h1, h⟩
    match l, h, h1 with
    | [a, b], _, h1 => exact ⟨h1 a (by simp), h1 b (by simp)⟩) (fun _ _ => by omega)
theorem opn_threeV : Opn BB Tryd.prog 29 (fun p : Int × Int × Int => [FV.lit (.int .i64 p.1), .lit (.int .i64 p.2.1), .lit (.int .i64 p.2.2)]) (fun p => i64 p.1 ∧ i64 p.2.1 ∧ i64 p.2.2) (fun _ => 1) :=
  (opn_array bok (e := 3) (es := 1) (n := 3) (by kernel_rfl) (by kernel_rfl) (by kernel_rfl) opn_i64).map (fun l => (l[0]?.getD 0, l[1]?.getD 0, l[2]?.getD 0)) (by
    rintro l ⟨_, h⟩
    match l, h with
    | [a, b, c], _ => simp) (by
    rintro l ⟨h1, h⟩
    match l, h, h1 with
    | [a, b, c], _, h1 => exact ⟨h1 a (by simp), h1 b (by simp), h1 c (by simp)⟩) (fun _ _ => by omega)
theorem opn_outV : Opn BB Tryd.prog 25 (fun p : List UInt8 × Int => hf p.1 ++ [FV.lit (.int .i64 p.2)]) (fun p => p.1.length = 32 ∧ i64 p.2) (fun _ => 1) :=
  (opn_struct (tot := 33) bok Tryd.underlying25 (by kernel_rfl)
    (opnFs_cons bok (n := 32) (tot := 1) opn_hash rfl (by kernel_rfl) (opnFs_cons bok (n := 1) (tot := 0) opn_i64 rfl (by kernel_rfl) opnFs_nil))).map
    (fun p => (p.1, p.2.1)) (by rintro ⟨a, b, u⟩ _; simp) (by rintro ⟨a, b, u⟩ h; exact ⟨h.1, h.2.1⟩) (by rintro ⟨a, b, u⟩ _; simp)
theorem opn_prm : Opn BB Tryd.prog 28 prmF Prm.ok (fun _ => 1) :=
  (opn_struct (tot := 38) bok Tryd.underlying28 (by kernel_rfl)
    (opnFs_cons bok (n := 33) (tot := 5) opn_outV rfl (by kernel_rfl) (opnFs_cons bok (n := 1) (tot := 4) opn_i64 rfl (by kernel_rfl)
      (opnFs_cons bok (n := 2) (tot := 2) opn_twoV rfl (by kernel_rfl) (opnFs_cons bok (n := 1) (tot := 1) opn_i64 rfl (by kernel_rfl)
      (opnFs_cons bok (n := 1) (tot := 0) opn_i64 rfl (by kernel_rfl) opnFs_nil)))))).map
    (fun p => (⟨p.1.1, p.1.2, p.2.1, p.2.2.1.1, p.2.2.1.2, p.2.2.2.1, p.2.2.2.2.1⟩ : Prm)) (by rintro ⟨⟨a, a'⟩, b, ⟨c, c'⟩, d, e, u⟩ _; simp [prmF, iF]) (by rintro ⟨⟨a, a'⟩, b, ⟨c, c'⟩, d, e, u⟩ h; exact ⟨h.1.1, h.1.2, h.2.1, h.2.2.1.1, h.2.2.1.2, h.2.2.2.1, h.2.2.2.2.1⟩) (by rintro ⟨⟨a, a'⟩, b, ⟨c, c'⟩, d, e, u⟩ _; simp)
theorem opn_rte : Opn BB Tryd.prog 31 rteF Rte.ok (fun _ => 1) :=
  (opn_struct (tot := 81) bok Tryd.underlying31 (by kernel_rfl)
    (opnFs_cons bok (n := 38) (tot := 43) opn_prm rfl (by kernel_rfl) (opnFs_cons bok (n := 38) (tot := 5) opn_prm rfl (by kernel_rfl)
      (opnFs_cons bok (n := 3) (tot := 2) opn_threeV rfl (by kernel_rfl) (opnFs_cons bok (n := 1) (tot := 1) opn_i64 rfl (by kernel_rfl)
      (opnFs_cons bok (n := 1) (tot := 0) opn_i64 rfl (by kernel_rfl) opnFs_nil)))))).map
    (fun p => (⟨p.1, p.2.1, p.2.2.1.1, p.2.2.1.2.1, p.2.2.1.2.2, p.2.2.2.1, p.2.2.2.2.1⟩ : Rte)) (by rintro ⟨a, b, ⟨c, c', c''⟩, d, e, u⟩ _; simp [rteF, iF]) (by rintro ⟨a, b, ⟨c, c', c''⟩, d, e, u⟩ h; exact ⟨h.1, h.2.1, h.2.2.1.1, h.2.2.1.2.1, h.2.2.1.2.2, h.2.2.2.1, h.2.2.2.2.1⟩) (by rintro ⟨a, b, ⟨c, c', c''⟩, d, e, u⟩ _; simp)
def zRteV : Value := .agg (Array.replicate 32 (.int .u8 0) ++ #[.int .i64 0, .int .i64 0, .int .i64 0, .int .i64 0, .int .i64 0, .int .i64 0] ++ Array.replicate 32 (.int .u8 0) ++ #[.int .i64 0, .int .i64 0, .int .i64 0, .int .i64 0, .int .i64 0, .int .i64 0, .int .i64 0, .int .i64 0, .int .i64 0, .int .i64 0, .int .i64 0])
def zPrmD {H : Type} : DataW H := .agg [.agg [.agg (List.replicate 32 (.lit (.int .u8 0))), .lit (.int .i64 0)], .lit (.int .i64 0), .agg [.lit (.int .i64 0), .lit (.int .i64 0)], .lit (.int .i64 0), .lit (.int .i64 0)]

end Go.Proofs.YtejjhgdnmknejaaDoor
