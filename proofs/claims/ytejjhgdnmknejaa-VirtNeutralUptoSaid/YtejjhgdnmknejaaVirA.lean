import Derived.Test.YtejjhgdnmknejaaStateOa
namespace Go.Proofs.Ytejjhgdnmknejaa
open Go Go.EW
set_option linter.unusedSimpArgs false
set_option linter.unusedVariables false

@[simp] def l_LessI_1 (_ : Unit) : List EOp := [⟨0, (some 4), none, (.q (.mov (.k (.bool false)))), []⟩]
@[simp] def b_LessI_2 (_ : Unit) : EB := reg0 (hid l_LessI_1) 1
@[simp] def l_LessI_5 (_ : Unit) : List EOp := [⟨12, (some 4), none, (.q (.mov (.t 16))), []⟩]
@[simp] def l_LessI_4 (_ : Unit) : List EOp := ⟨6, (some 11), none, (.q (.pick (.t 7) (.t 10) (.k (.bool false)))), []⟩ :: ⟨7, (some 12), none, (.q (.mov (.t 11))), []⟩ :: ⟨8, (some 13), (some (12, false)), (.q (.mov (.t 0))), []⟩ :: ⟨9, (some 14), (some (12, false)), (.q (.mov (.t 1))), []⟩ :: ⟨10, (some 15), (some (12, false)), (.q (.bin .lss (.t 13) (.t 14))), []⟩ :: ⟨11, (some 16), none, (.q (.pick (.t 12) (.k (.bool true)) (.t 15))), []⟩ :: hid l_LessI_5
@[simp] def l_LessI_3 (_ : Unit) : List EOp := ⟨0, (some 5), none, (.q (.mov (.t 0))), []⟩ :: ⟨1, (some 6), none, (.call 44 [(.t 5)]), []⟩ :: ⟨2, (some 7), none, (.q (.mov (.t 6))), []⟩ :: ⟨3, (some 8), (some (7, true)), (.q (.mov (.t 1))), []⟩ :: ⟨4, (some 9), (some (7, true)), (.call 44 [(.t 8)]), []⟩ :: ⟨5, (some 10), (some (7, true)), (.q (.un .not (.t 9))), []⟩ :: hid l_LessI_4
@[simp] def b_LessI_6 (_ : Unit) : EB := reg0 (hid l_LessI_3) 13
@[simp] def b_LessI_7 (_ : Unit) : EB := .seq (hid b_LessI_6) .ret
@[simp] def b_LessI_8 (_ : Unit) : EB := .seq (hid b_LessI_2) (hid b_LessI_7)
def c_LessI : EB × List QOp × Nat := ((hid b_LessI_8), [(.mov (.t 4))], 17)
theorem k_LessI : cfun Try.prog 52 = some c_LessI := by kernel_rfl

@[simp] def l_InsI_1 (_ : Unit) : List EOp := [⟨0, (some 8), none, (.q (.mov (.t 1))), []⟩, ⟨1, (some 9), none, (.q (.bin .add (.t 8) (.k (.int .i64 1)))), []⟩, ⟨2, (some 6), none, (.q (.mov (.t 9))), []⟩]
@[simp] def b_InsI_2 (_ : Unit) : EB := reg0 (hid l_InsI_1) 3
@[simp] def l_InsI_3 (_ : Unit) : List EOp := [⟨0, (some 10), none, (.q (.mov (.t 6))), []⟩, ⟨1, (some 11), none, (.q (.mov (.t 2))), []⟩, ⟨2, (some 12), none, (.q (.bin .lss (.t 10) (.t 11))), []⟩]
@[simp] def b_InsI_4 (_ : Unit) : EB := reg0 (hid l_InsI_3) 3
@[simp] def b_InsI_5 (_ : Unit) : EB := .cond (.t 12) .skip (.exit 0)
@[simp] def b_InsI_6 (_ : Unit) : EB := .seq (hid b_InsI_4) (hid b_InsI_5)
@[simp] def l_InsI_7 (_ : Unit) : List EOp := [⟨0, (some 15), none, (.q (.mov (.t 6))), []⟩, ⟨1, (some 7), none, (.q (.mov (.t 15))), []⟩]
@[simp] def b_InsI_8 (_ : Unit) : EB := reg0 (hid l_InsI_7) 2
@[simp] def l_InsI_11 (_ : Unit) : List EOp := [⟨12, (some 28), (some (19, true)), (.q (.ldc (.t 27))), []⟩, ⟨13, (some 29), (some (19, true)), (.call 52 [(.t 23), (.t 28)]), []⟩, ⟨14, (some 30), none, (.q (.pick (.t 19) (.t 29) (.k (.bool false)))), []⟩]
@[simp] def l_InsI_10 (_ : Unit) : List EOp := ⟨6, (some 22), (some (19, true)), (.q (.isl 1 (.t 20) (.t 21))), []⟩ :: ⟨7, (some 23), (some (19, true)), (.q (.ldc (.t 22))), []⟩ :: ⟨8, (some 24), (some (19, true)), (.q (.mov (.t 0))), []⟩ :: ⟨9, (some 25), (some (19, true)), (.q (.mov (.t 7))), []⟩ :: ⟨10, (some 26), (some (19, true)), (.q (.bin .sub (.t 25) (.k (.int .i64 1)))), []⟩ :: ⟨11, (some 27), (some (19, true)), (.q (.isl 1 (.t 24) (.t 26))), []⟩ :: hid l_InsI_11
@[simp] def l_InsI_9 (_ : Unit) : List EOp := ⟨0, (some 16), none, (.q (.mov (.t 7))), []⟩ :: ⟨1, (some 17), none, (.q (.mov (.t 1))), []⟩ :: ⟨2, (some 18), none, (.q (.bin .gtr (.t 16) (.t 17))), []⟩ :: ⟨3, (some 19), none, (.q (.mov (.t 18))), []⟩ :: ⟨4, (some 20), (some (19, true)), (.q (.mov (.t 0))), []⟩ :: ⟨5, (some 21), (some (19, true)), (.q (.mov (.t 7))), []⟩ :: hid l_InsI_10
@[simp] def b_InsI_12 (_ : Unit) : EB := reg0 (hid l_InsI_9) 15
@[simp] def b_InsI_13 (_ : Unit) : EB := .cond (.t 30) .skip (.exit 2)
@[simp] def b_InsI_14 (_ : Unit) : EB := .seq (hid b_InsI_12) (hid b_InsI_13)
@[simp] def l_InsI_17 (_ : Unit) : List EOp := [⟨12, (some 45), none, (.q (.isl 1 (.t 43) (.t 44))), []⟩, ⟨13, (some 46), none, (.q (.ldc (.t 45))), []⟩, ⟨14, (some 47), none, (.q (.isl 1 (.t 33) (.t 34))), []⟩, ⟨15, none, none, (.sto 1 (.t 47) (.t 42)), [2, 3, 4]⟩, ⟨16, (some 48), none, (.q (.isl 1 (.t 35) (.t 37))), []⟩, ⟨17, none, none, (.sto 1 (.t 48) (.t 46)), []⟩]
@[simp] def l_InsI_16 (_ : Unit) : List EOp := ⟨6, (some 39), none, (.q (.mov (.t 7))), []⟩ :: ⟨7, (some 40), none, (.q (.bin .sub (.t 39) (.k (.int .i64 1)))), []⟩ :: ⟨8, (some 41), none, (.q (.isl 1 (.t 38) (.t 40))), []⟩ :: ⟨9, (some 42), none, (.q (.ldc (.t 41))), []⟩ :: ⟨10, (some 43), none, (.q (.mov (.t 0))), []⟩ :: ⟨11, (some 44), none, (.q (.mov (.t 7))), []⟩ :: hid l_InsI_17
@[simp] def l_InsI_15 (_ : Unit) : List EOp := ⟨0, (some 33), none, (.q (.mov (.t 0))), []⟩ :: ⟨1, (some 34), none, (.q (.mov (.t 7))), []⟩ :: ⟨2, (some 35), none, (.q (.mov (.t 0))), []⟩ :: ⟨3, (some 36), none, (.q (.mov (.t 7))), []⟩ :: ⟨4, (some 37), none, (.q (.bin .sub (.t 36) (.k (.int .i64 1)))), []⟩ :: ⟨5, (some 38), none, (.q (.mov (.t 0))), []⟩ :: hid l_InsI_16
@[simp] def b_InsI_18 (_ : Unit) : EB := reg1 (hid l_InsI_15) 18
@[simp] def b_InsI_19 (_ : Unit) : EB := .block 3 (hid b_InsI_18)
@[simp] def l_InsI_20 (_ : Unit) : List EOp := [⟨0, (some 31), none, (.q (.mov (.t 7))), []⟩, ⟨1, (some 32), none, (.q (.bin .sub (.t 31) (.k (.int .i64 1)))), []⟩, ⟨2, (some 7), none, (.q (.mov (.t 32))), []⟩]
@[simp] def b_InsI_21 (_ : Unit) : EB := reg0 (hid l_InsI_20) 3
@[simp] def b_InsI_22 (_ : Unit) : EB := .seq (hid b_InsI_19) (hid b_InsI_21)
@[simp] def b_InsI_23 (_ : Unit) : EB := .seq (hid b_InsI_14) (hid b_InsI_22)
@[simp] def b_InsI_24 (_ : Unit) : EB := .loop (hid b_InsI_23)
@[simp] def b_InsI_25 (_ : Unit) : EB := .block 2 (hid b_InsI_24)
@[simp] def b_InsI_26 (_ : Unit) : EB := .seq (hid b_InsI_8) (hid b_InsI_25)
@[simp] def b_InsI_27 (_ : Unit) : EB := .block 1 (hid b_InsI_26)
@[simp] def l_InsI_28 (_ : Unit) : List EOp := [⟨0, (some 13), none, (.q (.mov (.t 6))), []⟩, ⟨1, (some 14), none, (.q (.bin .add (.t 13) (.k (.int .i64 1)))), []⟩, ⟨2, (some 6), none, (.q (.mov (.t 14))), []⟩]
@[simp] def b_InsI_29 (_ : Unit) : EB := reg0 (hid l_InsI_28) 3
@[simp] def b_InsI_30 (_ : Unit) : EB := .seq (hid b_InsI_27) (hid b_InsI_29)
@[simp] def b_InsI_31 (_ : Unit) : EB := .seq (hid b_InsI_6) (hid b_InsI_30)
@[simp] def b_InsI_32 (_ : Unit) : EB := .loop (hid b_InsI_31)
@[simp] def b_InsI_33 (_ : Unit) : EB := .block 0 (hid b_InsI_32)
@[simp] def b_InsI_34 (_ : Unit) : EB := .seq (hid b_InsI_2) (hid b_InsI_33)
def c_InsI : EB × List QOp × Nat := ((hid b_InsI_34), [], 49)
theorem k_InsI : cfun Try.prog 46 = some c_InsI := by kernel_rfl

@[simp] def l_PdqI_1 (_ : Unit) : List EOp := [⟨0, (some 8), none, (.q (.mov (.k (.bool true)))), []⟩]
@[simp] def b_PdqI_2 (_ : Unit) : EB := reg0 (hid l_PdqI_1) 1
@[simp] def l_PdqI_3 (_ : Unit) : List EOp := [⟨0, (some 9), none, (.q (.mov (.k (.bool true)))), []⟩]
@[simp] def b_PdqI_4 (_ : Unit) : EB := reg0 (hid l_PdqI_3) 1
@[simp] def l_PdqI_5 (_ : Unit) : List EOp := [⟨0, (some 19), none, (.q (.mov (.t 2))), []⟩, ⟨1, (some 20), none, (.q (.mov (.t 1))), []⟩, ⟨2, (some 21), none, (.q (.bin .sub (.t 19) (.t 20))), []⟩, ⟨3, (some 10), none, (.q (.mov (.t 21))), []⟩]
@[simp] def b_PdqI_6 (_ : Unit) : EB := reg0 (hid l_PdqI_5) 4
@[simp] def l_PdqI_7 (_ : Unit) : List EOp := [⟨0, (some 22), none, (.q (.mov (.t 10))), []⟩, ⟨1, (some 23), none, (.q (.bin .leq (.t 22) (.k (.int .i64 12)))), []⟩]
@[simp] def b_PdqI_8 (_ : Unit) : EB := reg0 (hid l_PdqI_7) 2
@[simp] def l_PdqI_9 (_ : Unit) : List EOp := [⟨0, (some 24), none, (.q (.mov (.t 0))), []⟩, ⟨1, (some 25), none, (.q (.mov (.t 1))), []⟩, ⟨2, (some 26), none, (.q (.mov (.t 2))), []⟩, ⟨3, (some 27), none, (.call 46 [(.t 24), (.t 25), (.t 26)]), []⟩]
@[simp] def b_PdqI_10 (_ : Unit) : EB := reg0 (hid l_PdqI_9) 4
@[simp] def b_PdqI_11 (_ : Unit) : EB := .seq (hid b_PdqI_10) .ret
@[simp] def b_PdqI_12 (_ : Unit) : EB := .cond (.t 23) (hid b_PdqI_11) .skip
@[simp] def b_PdqI_13 (_ : Unit) : EB := .seq (hid b_PdqI_8) (hid b_PdqI_12)
@[simp] def l_PdqI_14 (_ : Unit) : List EOp := [⟨0, (some 28), none, (.q (.mov (.t 3))), []⟩, ⟨1, (some 29), none, (.q (.bin .eql (.t 28) (.k (.int .i64 0)))), []⟩]
@[simp] def b_PdqI_15 (_ : Unit) : EB := reg0 (hid l_PdqI_14) 2
@[simp] def l_PdqI_16 (_ : Unit) : List EOp := [⟨0, (some 30), none, (.q (.mov (.t 0))), []⟩, ⟨1, (some 31), none, (.q (.mov (.t 1))), []⟩, ⟨2, (some 32), none, (.q (.mov (.t 2))), []⟩, ⟨3, (some 33), none, (.call 47 [(.t 30), (.t 31), (.t 32)]), []⟩]
@[simp] def b_PdqI_17 (_ : Unit) : EB := reg0 (hid l_PdqI_16) 4
@[simp] def b_PdqI_18 (_ : Unit) : EB := .seq (hid b_PdqI_17) .ret
@[simp] def b_PdqI_19 (_ : Unit) : EB := .cond (.t 29) (hid b_PdqI_18) .skip
@[simp] def b_PdqI_20 (_ : Unit) : EB := .seq (hid b_PdqI_15) (hid b_PdqI_19)
@[simp] def l_PdqI_21 (_ : Unit) : List EOp := [⟨0, (some 34), none, (.q (.mov (.t 8))), []⟩, ⟨1, (some 35), none, (.q (.un .not (.t 34))), []⟩]
@[simp] def b_PdqI_22 (_ : Unit) : EB := reg0 (hid l_PdqI_21) 2
@[simp] def l_PdqI_23 (_ : Unit) : List EOp := [⟨0, (some 36), none, (.q (.mov (.t 0))), []⟩, ⟨1, (some 37), none, (.q (.mov (.t 1))), []⟩, ⟨2, (some 38), none, (.q (.mov (.t 2))), []⟩, ⟨3, (some 39), none, (.call 48 [(.t 36), (.t 37), (.t 38)]), []⟩]
@[simp] def b_PdqI_24 (_ : Unit) : EB := reg0 (hid l_PdqI_23) 4
@[simp] def l_PdqI_25 (_ : Unit) : List EOp := [⟨0, (some 40), none, (.q (.mov (.t 3))), []⟩, ⟨1, (some 41), none, (.q (.bin .sub (.t 40) (.k (.int .i64 1)))), []⟩, ⟨2, (some 3), none, (.q (.mov (.t 41))), []⟩]
@[simp] def b_PdqI_26 (_ : Unit) : EB := reg0 (hid l_PdqI_25) 3
@[simp] def b_PdqI_27 (_ : Unit) : EB := .seq (hid b_PdqI_24) (hid b_PdqI_26)
@[simp] def b_PdqI_28 (_ : Unit) : EB := .cond (.t 35) (hid b_PdqI_27) .skip
@[simp] def b_PdqI_29 (_ : Unit) : EB := .seq (hid b_PdqI_22) (hid b_PdqI_28)
@[simp] def l_PdqI_31 (_ : Unit) : List EOp := [⟨6, (some 48), none, (.q (.ext 1 (.t 42))), []⟩, ⟨7, (some 11), none, (.q (.mov (.t 47))), []⟩, ⟨8, (some 12), none, (.q (.mov (.t 48))), []⟩]
@[simp] def l_PdqI_30 (_ : Unit) : List EOp := ⟨0, (some 43), none, (.q (.mov (.t 0))), []⟩ :: ⟨1, (some 44), none, (.q (.mov (.t 1))), []⟩ :: ⟨2, (some 45), none, (.q (.mov (.t 2))), []⟩ :: ⟨3, (some 46), none, (.call 49 [(.t 43), (.t 44), (.t 45)]), []⟩ :: ⟨4, (some 42), none, (.q (.mov (.t 46))), []⟩ :: ⟨5, (some 47), none, (.q (.ext 0 (.t 42))), []⟩ :: hid l_PdqI_31
@[simp] def b_PdqI_32 (_ : Unit) : EB := reg0 (hid l_PdqI_30) 9
@[simp] def l_PdqI_33 (_ : Unit) : List EOp := [⟨0, (some 49), none, (.q (.mov (.t 12))), []⟩, ⟨1, (some 50), none, (.q (.bin .eql (.t 49) (.k (.int .i64 2)))), []⟩]
@[simp] def b_PdqI_34 (_ : Unit) : EB := reg0 (hid l_PdqI_33) 2
@[simp] def l_PdqI_35 (_ : Unit) : List EOp := [⟨0, (some 51), none, (.q (.mov (.t 0))), []⟩, ⟨1, (some 52), none, (.q (.mov (.t 1))), []⟩, ⟨2, (some 53), none, (.q (.mov (.t 2))), []⟩, ⟨3, (some 54), none, (.call 50 [(.t 51), (.t 52), (.t 53)]), []⟩]
@[simp] def b_PdqI_36 (_ : Unit) : EB := reg0 (hid l_PdqI_35) 4
@[simp] def l_PdqI_38 (_ : Unit) : List EOp := [⟨6, (some 11), none, (.q (.mov (.t 60))), []⟩]
@[simp] def l_PdqI_37 (_ : Unit) : List EOp := ⟨0, (some 55), none, (.q (.mov (.t 2))), []⟩ :: ⟨1, (some 56), none, (.q (.bin .sub (.t 55) (.k (.int .i64 1)))), []⟩ :: ⟨2, (some 57), none, (.q (.mov (.t 11))), []⟩ :: ⟨3, (some 58), none, (.q (.mov (.t 1))), []⟩ :: ⟨4, (some 59), none, (.q (.bin .sub (.t 57) (.t 58))), []⟩ :: ⟨5, (some 60), none, (.q (.bin .sub (.t 56) (.t 59))), []⟩ :: hid l_PdqI_38
@[simp] def b_PdqI_39 (_ : Unit) : EB := reg0 (hid l_PdqI_37) 7
@[simp] def l_PdqI_40 (_ : Unit) : List EOp := [⟨0, (some 12), none, (.q (.mov (.k (.int .i64 1)))), []⟩]
@[simp] def b_PdqI_41 (_ : Unit) : EB := reg0 (hid l_PdqI_40) 1
@[simp] def b_PdqI_42 (_ : Unit) : EB := .seq (hid b_PdqI_39) (hid b_PdqI_41)
@[simp] def b_PdqI_43 (_ : Unit) : EB := .seq (hid b_PdqI_36) (hid b_PdqI_42)
@[simp] def b_PdqI_44 (_ : Unit) : EB := .cond (.t 50) (hid b_PdqI_43) .skip
@[simp] def b_PdqI_45 (_ : Unit) : EB := .seq (hid b_PdqI_34) (hid b_PdqI_44)
@[simp] def l_PdqI_47 (_ : Unit) : List EOp := [⟨6, (some 67), (some (65, true)), (.q (.bin .eql (.t 66) (.k (.int .i64 1)))), []⟩, ⟨7, (some 68), none, (.q (.pick (.t 65) (.t 67) (.k (.bool false)))), []⟩]
@[simp] def l_PdqI_46 (_ : Unit) : List EOp := ⟨0, (some 61), none, (.q (.mov (.t 8))), []⟩ :: ⟨1, (some 62), none, (.q (.mov (.t 61))), []⟩ :: ⟨2, (some 63), (some (62, true)), (.q (.mov (.t 9))), []⟩ :: ⟨3, (some 64), none, (.q (.pick (.t 62) (.t 63) (.k (.bool false)))), []⟩ :: ⟨4, (some 65), none, (.q (.mov (.t 64))), []⟩ :: ⟨5, (some 66), (some (65, true)), (.q (.mov (.t 12))), []⟩ :: hid l_PdqI_47
@[simp] def b_PdqI_48 (_ : Unit) : EB := reg0 (hid l_PdqI_46) 8
@[simp] def l_PdqI_49 (_ : Unit) : List EOp := [⟨0, (some 69), none, (.q (.mov (.t 0))), []⟩, ⟨1, (some 70), none, (.q (.mov (.t 1))), []⟩, ⟨2, (some 71), none, (.q (.mov (.t 2))), []⟩, ⟨3, (some 72), none, (.call 51 [(.t 69), (.t 70), (.t 71)]), []⟩]
@[simp] def b_PdqI_50 (_ : Unit) : EB := reg0 (hid l_PdqI_49) 4
@[simp] def b_PdqI_51 (_ : Unit) : EB := .cond (.t 72) .ret .skip
@[simp] def b_PdqI_52 (_ : Unit) : EB := .seq (hid b_PdqI_50) (hid b_PdqI_51)
@[simp] def b_PdqI_53 (_ : Unit) : EB := .cond (.t 68) (hid b_PdqI_52) .skip
@[simp] def b_PdqI_54 (_ : Unit) : EB := .seq (hid b_PdqI_48) (hid b_PdqI_53)
@[simp] def l_PdqI_57 (_ : Unit) : List EOp := [⟨12, (some 85), (some (75, true)), (.call 52 [(.t 80), (.t 84)]), []⟩, ⟨13, (some 86), (some (75, true)), (.q (.un .not (.t 85))), []⟩, ⟨14, (some 87), none, (.q (.pick (.t 75) (.t 86) (.k (.bool false)))), []⟩]
@[simp] def l_PdqI_56 (_ : Unit) : List EOp := ⟨6, (some 79), (some (75, true)), (.q (.isl 1 (.t 76) (.t 78))), []⟩ :: ⟨7, (some 80), (some (75, true)), (.q (.ldc (.t 79))), []⟩ :: ⟨8, (some 81), (some (75, true)), (.q (.mov (.t 0))), []⟩ :: ⟨9, (some 82), (some (75, true)), (.q (.mov (.t 11))), []⟩ :: ⟨10, (some 83), (some (75, true)), (.q (.isl 1 (.t 81) (.t 82))), []⟩ :: ⟨11, (some 84), (some (75, true)), (.q (.ldc (.t 83))), []⟩ :: hid l_PdqI_57
@[simp] def l_PdqI_55 (_ : Unit) : List EOp := ⟨0, (some 73), none, (.q (.mov (.t 1))), []⟩ :: ⟨1, (some 74), none, (.q (.bin .gtr (.t 73) (.k (.int .i64 0)))), []⟩ :: ⟨2, (some 75), none, (.q (.mov (.t 74))), []⟩ :: ⟨3, (some 76), (some (75, true)), (.q (.mov (.t 0))), []⟩ :: ⟨4, (some 77), (some (75, true)), (.q (.mov (.t 1))), []⟩ :: ⟨5, (some 78), (some (75, true)), (.q (.bin .sub (.t 77) (.k (.int .i64 1)))), []⟩ :: hid l_PdqI_56
@[simp] def b_PdqI_58 (_ : Unit) : EB := reg0 (hid l_PdqI_55) 15
@[simp] def l_PdqI_59 (_ : Unit) : List EOp := [⟨0, (some 88), none, (.q (.mov (.t 0))), []⟩, ⟨1, (some 89), none, (.q (.mov (.t 1))), []⟩, ⟨2, (some 90), none, (.q (.mov (.t 2))), []⟩, ⟨3, (some 91), none, (.q (.mov (.t 11))), []⟩, ⟨4, (some 92), none, (.call 53 [(.t 88), (.t 89), (.t 90), (.t 91)]), []⟩, ⟨5, (some 13), none, (.q (.mov (.t 92))), []⟩]
@[simp] def b_PdqI_60 (_ : Unit) : EB := reg0 (hid l_PdqI_59) 6
@[simp] def l_PdqI_61 (_ : Unit) : List EOp := [⟨0, (some 93), none, (.q (.mov (.t 13))), []⟩, ⟨1, (some 1), none, (.q (.mov (.t 93))), []⟩]
@[simp] def b_PdqI_62 (_ : Unit) : EB := reg0 (hid l_PdqI_61) 2
@[simp] def b_PdqI_63 (_ : Unit) : EB := .seq (hid b_PdqI_62) (.exit 1)
@[simp] def b_PdqI_64 (_ : Unit) : EB := .seq (hid b_PdqI_60) (hid b_PdqI_63)
@[simp] def b_PdqI_65 (_ : Unit) : EB := .cond (.t 87) (hid b_PdqI_64) .skip
@[simp] def b_PdqI_66 (_ : Unit) : EB := .seq (hid b_PdqI_58) (hid b_PdqI_65)
@[simp] def l_PdqI_68 (_ : Unit) : List EOp := [⟨6, (some 100), none, (.q (.ext 0 (.t 94))), []⟩, ⟨7, (some 101), none, (.q (.ext 1 (.t 94))), []⟩, ⟨8, (some 14), none, (.q (.mov (.t 100))), []⟩, ⟨9, (some 15), none, (.q (.mov (.t 101))), []⟩]
@[simp] def l_PdqI_67 (_ : Unit) : List EOp := ⟨0, (some 95), none, (.q (.mov (.t 0))), []⟩ :: ⟨1, (some 96), none, (.q (.mov (.t 1))), []⟩ :: ⟨2, (some 97), none, (.q (.mov (.t 2))), []⟩ :: ⟨3, (some 98), none, (.q (.mov (.t 11))), []⟩ :: ⟨4, (some 99), none, (.call 54 [(.t 95), (.t 96), (.t 97), (.t 98)]), []⟩ :: ⟨5, (some 94), none, (.q (.mov (.t 99))), []⟩ :: hid l_PdqI_68
@[simp] def b_PdqI_69 (_ : Unit) : EB := reg0 (hid l_PdqI_67) 10
@[simp] def l_PdqI_70 (_ : Unit) : List EOp := [⟨0, (some 102), none, (.q (.mov (.t 15))), []⟩, ⟨1, (some 9), none, (.q (.mov (.t 102))), []⟩]
@[simp] def b_PdqI_71 (_ : Unit) : EB := reg0 (hid l_PdqI_70) 2
@[simp] def l_PdqI_73 (_ : Unit) : List EOp := [⟨6, (some 16), none, (.q (.mov (.t 105))), []⟩, ⟨7, (some 17), none, (.q (.mov (.t 108))), []⟩]
@[simp] def l_PdqI_72 (_ : Unit) : List EOp := ⟨0, (some 103), none, (.q (.mov (.t 14))), []⟩ :: ⟨1, (some 104), none, (.q (.mov (.t 1))), []⟩ :: ⟨2, (some 105), none, (.q (.bin .sub (.t 103) (.t 104))), []⟩ :: ⟨3, (some 106), none, (.q (.mov (.t 2))), []⟩ :: ⟨4, (some 107), none, (.q (.mov (.t 14))), []⟩ :: ⟨5, (some 108), none, (.q (.bin .sub (.t 106) (.t 107))), []⟩ :: hid l_PdqI_73
@[simp] def b_PdqI_74 (_ : Unit) : EB := reg0 (hid l_PdqI_72) 8
@[simp] def l_PdqI_75 (_ : Unit) : List EOp := [⟨0, (some 109), none, (.q (.mov (.t 10))), []⟩, ⟨1, (some 110), none, (.q (.bin .quo (.t 109) (.k (.int .i64 8)))), []⟩, ⟨2, (some 18), none, (.q (.mov (.t 110))), []⟩]
@[simp] def b_PdqI_76 (_ : Unit) : EB := reg0 (hid l_PdqI_75) 3
@[simp] def l_PdqI_77 (_ : Unit) : List EOp := [⟨0, (some 111), none, (.q (.mov (.t 16))), []⟩, ⟨1, (some 112), none, (.q (.mov (.t 17))), []⟩, ⟨2, (some 113), none, (.q (.bin .lss (.t 111) (.t 112))), []⟩]
@[simp] def b_PdqI_78 (_ : Unit) : EB := reg0 (hid l_PdqI_77) 3
@[simp] def l_PdqI_79 (_ : Unit) : List EOp := [⟨0, (some 114), none, (.q (.mov (.t 16))), []⟩, ⟨1, (some 115), none, (.q (.mov (.t 18))), []⟩, ⟨2, (some 116), none, (.q (.bin .geq (.t 114) (.t 115))), []⟩, ⟨3, (some 8), none, (.q (.mov (.t 116))), []⟩]
@[simp] def b_PdqI_80 (_ : Unit) : EB := reg0 (hid l_PdqI_79) 4
@[simp] def l_PdqI_81 (_ : Unit) : List EOp := [⟨0, (some 117), none, (.q (.mov (.t 0))), []⟩, ⟨1, (some 118), none, (.q (.mov (.t 1))), []⟩, ⟨2, (some 119), none, (.q (.mov (.t 14))), []⟩, ⟨3, (some 120), none, (.q (.mov (.t 3))), []⟩, ⟨4, (some 121), none, (.call 40 [(.t 117), (.t 118), (.t 119), (.t 120)]), []⟩]
@[simp] def b_PdqI_82 (_ : Unit) : EB := reg0 (hid l_PdqI_81) 5
@[simp] def l_PdqI_83 (_ : Unit) : List EOp := [⟨0, (some 122), none, (.q (.mov (.t 14))), []⟩, ⟨1, (some 123), none, (.q (.bin .add (.t 122) (.k (.int .i64 1)))), []⟩, ⟨2, (some 1), none, (.q (.mov (.t 123))), []⟩]
@[simp] def b_PdqI_84 (_ : Unit) : EB := reg0 (hid l_PdqI_83) 3
@[simp] def b_PdqI_85 (_ : Unit) : EB := .seq (hid b_PdqI_82) (hid b_PdqI_84)
@[simp] def b_PdqI_86 (_ : Unit) : EB := .seq (hid b_PdqI_80) (hid b_PdqI_85)
@[simp] def l_PdqI_87 (_ : Unit) : List EOp := [⟨0, (some 124), none, (.q (.mov (.t 17))), []⟩, ⟨1, (some 125), none, (.q (.mov (.t 18))), []⟩, ⟨2, (some 126), none, (.q (.bin .geq (.t 124) (.t 125))), []⟩, ⟨3, (some 8), none, (.q (.mov (.t 126))), []⟩]
@[simp] def b_PdqI_88 (_ : Unit) : EB := reg0 (hid l_PdqI_87) 4
@[simp] def l_PdqI_89 (_ : Unit) : List EOp := [⟨0, (some 127), none, (.q (.mov (.t 0))), []⟩, ⟨1, (some 128), none, (.q (.mov (.t 14))), []⟩, ⟨2, (some 129), none, (.q (.bin .add (.t 128) (.k (.int .i64 1)))), []⟩, ⟨3, (some 130), none, (.q (.mov (.t 2))), []⟩, ⟨4, (some 131), none, (.q (.mov (.t 3))), []⟩, ⟨5, (some 132), none, (.call 40 [(.t 127), (.t 129), (.t 130), (.t 131)]), []⟩]
@[simp] def b_PdqI_90 (_ : Unit) : EB := reg0 (hid l_PdqI_89) 6
@[simp] def l_PdqI_91 (_ : Unit) : List EOp := [⟨0, (some 133), none, (.q (.mov (.t 14))), []⟩, ⟨1, (some 2), none, (.q (.mov (.t 133))), []⟩]
@[simp] def b_PdqI_92 (_ : Unit) : EB := reg0 (hid l_PdqI_91) 2
@[simp] def b_PdqI_93 (_ : Unit) : EB := .seq (hid b_PdqI_90) (hid b_PdqI_92)
@[simp] def b_PdqI_94 (_ : Unit) : EB := .seq (hid b_PdqI_88) (hid b_PdqI_93)
@[simp] def b_PdqI_95 (_ : Unit) : EB := .cond (.t 113) (hid b_PdqI_86) (hid b_PdqI_94)
@[simp] def b_PdqI_96 (_ : Unit) : EB := .seq (hid b_PdqI_78) (hid b_PdqI_95)
@[simp] def b_PdqI_97 (_ : Unit) : EB := .seq (hid b_PdqI_76) (hid b_PdqI_96)
@[simp] def b_PdqI_98 (_ : Unit) : EB := .seq (hid b_PdqI_74) (hid b_PdqI_97)
@[simp] def b_PdqI_99 (_ : Unit) : EB := .seq (hid b_PdqI_71) (hid b_PdqI_98)
@[simp] def b_PdqI_100 (_ : Unit) : EB := .seq (hid b_PdqI_69) (hid b_PdqI_99)
@[simp] def b_PdqI_101 (_ : Unit) : EB := .seq (hid b_PdqI_66) (hid b_PdqI_100)
@[simp] def b_PdqI_102 (_ : Unit) : EB := .seq (hid b_PdqI_54) (hid b_PdqI_101)
@[simp] def b_PdqI_103 (_ : Unit) : EB := .seq (hid b_PdqI_45) (hid b_PdqI_102)
@[simp] def b_PdqI_104 (_ : Unit) : EB := .seq (hid b_PdqI_32) (hid b_PdqI_103)
@[simp] def b_PdqI_105 (_ : Unit) : EB := .seq (hid b_PdqI_29) (hid b_PdqI_104)
@[simp] def b_PdqI_106 (_ : Unit) : EB := .seq (hid b_PdqI_20) (hid b_PdqI_105)
@[simp] def b_PdqI_107 (_ : Unit) : EB := .seq (hid b_PdqI_13) (hid b_PdqI_106)
@[simp] def b_PdqI_108 (_ : Unit) : EB := .seq (hid b_PdqI_6) (hid b_PdqI_107)
@[simp] def b_PdqI_109 (_ : Unit) : EB := .block 1 (hid b_PdqI_108)
@[simp] def b_PdqI_110 (_ : Unit) : EB := .loop (hid b_PdqI_109)
@[simp] def b_PdqI_111 (_ : Unit) : EB := .block 0 (hid b_PdqI_110)
@[simp] def b_PdqI_112 (_ : Unit) : EB := .seq (hid b_PdqI_4) (hid b_PdqI_111)
@[simp] def b_PdqI_113 (_ : Unit) : EB := .seq (hid b_PdqI_2) (hid b_PdqI_112)
def c_PdqI : EB × List QOp × Nat := ((hid b_PdqI_113), [], 134)
theorem k_PdqI : cfun Try.prog 40 = some c_PdqI := by kernel_rfl

@[simp] def l_LenB_1 (_ : Unit) : List EOp := [⟨0, (some 2), none, (.q (.mov (.k (.int .i64 0)))), []⟩]
@[simp] def b_LenB_2 (_ : Unit) : EB := reg0 (hid l_LenB_1) 1
@[simp] def l_LenB_3 (_ : Unit) : List EOp := [⟨0, (some 3), none, (.q (.mov (.t 0))), []⟩, ⟨1, (some 4), none, (.q (.cnv .u32 (.t 3))), []⟩, ⟨2, (some 5), none, (.call 55 [(.t 4)]), []⟩, ⟨3, (some 2), none, (.q (.mov (.t 5))), []⟩]
@[simp] def b_LenB_4 (_ : Unit) : EB := reg0 (hid l_LenB_3) 4
@[simp] def b_LenB_5 (_ : Unit) : EB := .seq (hid b_LenB_4) .ret
@[simp] def b_LenB_6 (_ : Unit) : EB := .cond (.k (.bool false)) (hid b_LenB_5) .skip
@[simp] def l_LenB_7 (_ : Unit) : List EOp := [⟨0, (some 6), none, (.q (.mov (.t 0))), []⟩, ⟨1, (some 7), none, (.call 56 [(.t 6)]), []⟩, ⟨2, (some 2), none, (.q (.mov (.t 7))), []⟩]
@[simp] def b_LenB_8 (_ : Unit) : EB := reg0 (hid l_LenB_7) 3
@[simp] def b_LenB_9 (_ : Unit) : EB := .seq (hid b_LenB_8) .ret
@[simp] def b_LenB_10 (_ : Unit) : EB := .seq (hid b_LenB_6) (hid b_LenB_9)
@[simp] def b_LenB_11 (_ : Unit) : EB := .seq (hid b_LenB_2) (hid b_LenB_10)
def c_LenB : EB × List QOp × Nat := ((hid b_LenB_11), [(.mov (.t 2))], 8)
theorem k_LenB : cfun Try.prog 41 = some c_LenB := by kernel_rfl

def s_LenB64_0 : ByteArray := ⟨#[0, 1, 2, 2, 3, 3, 3, 3, 4, 4, 4, 4, 4, 4, 4, 4, 5, 5, 5, 5, 5, 5, 5, 5, 5, 5, 5, 5, 5, 5, 5, 5, 6, 6, 6, 6, 6, 6, 6, 6, 6, 6, 6, 6, 6, 6, 6, 6, 6, 6, 6, 6, 6, 6, 6, 6, 6, 6, 6, 6, 6, 6, 6, 6, 7, 7, 7, 7, 7, 7, 7, 7, 7, 7, 7, 7, 7, 7, 7, 7, 7, 7, 7, 7, 7, 7, 7, 7, 7, 7, 7, 7, 7, 7, 7, 7, 7, 7, 7, 7, 7, 7, 7, 7, 7, 7, 7, 7, 7, 7, 7, 7, 7, 7, 7, 7, 7, 7, 7, 7, 7, 7, 7, 7, 7, 7, 7, 7, 8, 8, 8, 8, 8, 8, 8, 8, 8, 8, 8, 8, 8, 8, 8, 8, 8, 8, 8, 8, 8, 8, 8, 8, 8, 8, 8, 8, 8, 8, 8, 8, 8, 8, 8, 8, 8, 8, 8, 8, 8, 8, 8, 8, 8, 8, 8, 8, 8, 8, 8, 8, 8, 8, 8, 8, 8, 8, 8, 8, 8, 8, 8, 8, 8, 8, 8, 8, 8, 8, 8, 8, 8, 8, 8, 8, 8, 8, 8, 8, 8, 8, 8, 8, 8, 8, 8, 8, 8, 8, 8, 8, 8, 8, 8, 8, 8, 8, 8, 8, 8, 8, 8, 8, 8, 8, 8, 8, 8, 8, 8, 8, 8, 8, 8, 8, 8, 8, 8, 8, 8, 8, 8, 8, 8, 8, 8, 8]⟩
@[simp] def l_LenB64_1 (_ : Unit) : List EOp := [⟨0, (some 2), none, (.q (.mov (.k (.int .i64 0)))), []⟩]
@[simp] def b_LenB64_2 (_ : Unit) : EB := reg0 (hid l_LenB64_1) 1
@[simp] def l_LenB64_3 (_ : Unit) : List EOp := [⟨0, (some 3), none, (.q (.mov (.t 0))), []⟩, ⟨1, (some 4), none, (.q (.bin .geq (.t 3) (.k (.int .u64 4294967296)))), []⟩]
@[simp] def b_LenB64_4 (_ : Unit) : EB := reg0 (hid l_LenB64_3) 2
@[simp] def l_LenB64_5 (_ : Unit) : List EOp := [⟨0, (some 5), none, (.q (.mov (.t 0))), []⟩, ⟨1, (some 6), none, (.q (.bin .shr (.t 5) (.k (.int .u64 32)))), []⟩, ⟨2, (some 0), none, (.q (.mov (.t 6))), []⟩]
@[simp] def b_LenB64_6 (_ : Unit) : EB := reg0 (hid l_LenB64_5) 3
@[simp] def l_LenB64_7 (_ : Unit) : List EOp := [⟨0, (some 2), none, (.q (.mov (.k (.int .i64 32)))), []⟩]
@[simp] def b_LenB64_8 (_ : Unit) : EB := reg0 (hid l_LenB64_7) 1
@[simp] def b_LenB64_9 (_ : Unit) : EB := .seq (hid b_LenB64_6) (hid b_LenB64_8)
@[simp] def b_LenB64_10 (_ : Unit) : EB := .cond (.t 4) (hid b_LenB64_9) .skip
@[simp] def b_LenB64_11 (_ : Unit) : EB := .seq (hid b_LenB64_4) (hid b_LenB64_10)
@[simp] def l_LenB64_12 (_ : Unit) : List EOp := [⟨0, (some 7), none, (.q (.mov (.t 0))), []⟩, ⟨1, (some 8), none, (.q (.bin .geq (.t 7) (.k (.int .u64 65536)))), []⟩]
@[simp] def b_LenB64_13 (_ : Unit) : EB := reg0 (hid l_LenB64_12) 2
@[simp] def l_LenB64_14 (_ : Unit) : List EOp := [⟨0, (some 9), none, (.q (.mov (.t 0))), []⟩, ⟨1, (some 10), none, (.q (.bin .shr (.t 9) (.k (.int .u64 16)))), []⟩, ⟨2, (some 0), none, (.q (.mov (.t 10))), []⟩]
@[simp] def b_LenB64_15 (_ : Unit) : EB := reg0 (hid l_LenB64_14) 3
@[simp] def l_LenB64_16 (_ : Unit) : List EOp := [⟨0, (some 11), none, (.q (.mov (.t 2))), []⟩, ⟨1, (some 12), none, (.q (.bin .add (.t 11) (.k (.int .i64 16)))), []⟩, ⟨2, (some 2), none, (.q (.mov (.t 12))), []⟩]
@[simp] def b_LenB64_17 (_ : Unit) : EB := reg0 (hid l_LenB64_16) 3
@[simp] def b_LenB64_18 (_ : Unit) : EB := .seq (hid b_LenB64_15) (hid b_LenB64_17)
@[simp] def b_LenB64_19 (_ : Unit) : EB := .cond (.t 8) (hid b_LenB64_18) .skip
@[simp] def b_LenB64_20 (_ : Unit) : EB := .seq (hid b_LenB64_13) (hid b_LenB64_19)
@[simp] def l_LenB64_21 (_ : Unit) : List EOp := [⟨0, (some 13), none, (.q (.mov (.t 0))), []⟩, ⟨1, (some 14), none, (.q (.bin .geq (.t 13) (.k (.int .u64 256)))), []⟩]
@[simp] def b_LenB64_22 (_ : Unit) : EB := reg0 (hid l_LenB64_21) 2
@[simp] def l_LenB64_23 (_ : Unit) : List EOp := [⟨0, (some 15), none, (.q (.mov (.t 0))), []⟩, ⟨1, (some 16), none, (.q (.bin .shr (.t 15) (.k (.int .u64 8)))), []⟩, ⟨2, (some 0), none, (.q (.mov (.t 16))), []⟩]
@[simp] def b_LenB64_24 (_ : Unit) : EB := reg0 (hid l_LenB64_23) 3
@[simp] def l_LenB64_25 (_ : Unit) : List EOp := [⟨0, (some 17), none, (.q (.mov (.t 2))), []⟩, ⟨1, (some 18), none, (.q (.bin .add (.t 17) (.k (.int .i64 8)))), []⟩, ⟨2, (some 2), none, (.q (.mov (.t 18))), []⟩]
@[simp] def b_LenB64_26 (_ : Unit) : EB := reg0 (hid l_LenB64_25) 3
@[simp] def b_LenB64_27 (_ : Unit) : EB := .seq (hid b_LenB64_24) (hid b_LenB64_26)
@[simp] def b_LenB64_28 (_ : Unit) : EB := .cond (.t 14) (hid b_LenB64_27) .skip
@[simp] def b_LenB64_29 (_ : Unit) : EB := .seq (hid b_LenB64_22) (hid b_LenB64_28)
@[simp] def l_LenB64_31 (_ : Unit) : List EOp := [⟨6, (some 2), none, (.q (.mov (.t 24))), []⟩]
@[simp] def l_LenB64_30 (_ : Unit) : List EOp := ⟨0, (some 19), none, (.q (.mov (.t 2))), []⟩ :: ⟨1, (some 20), none, (.q (.mov (.t 0))), []⟩ :: ⟨2, (some 21), none, (.q (.cnv .u8 (.t 20))), []⟩ :: ⟨3, (some 22), none, (.q (.ixs (.k (.string s_LenB64_0)) (.t 21))), []⟩ :: ⟨4, (some 23), none, (.q (.cnv .i64 (.t 22))), []⟩ :: ⟨5, (some 24), none, (.q (.bin .add (.t 19) (.t 23))), []⟩ :: hid l_LenB64_31
@[simp] def b_LenB64_32 (_ : Unit) : EB := reg0 (hid l_LenB64_30) 7
@[simp] def b_LenB64_33 (_ : Unit) : EB := .seq (hid b_LenB64_32) .ret
@[simp] def b_LenB64_34 (_ : Unit) : EB := .seq (hid b_LenB64_29) (hid b_LenB64_33)
@[simp] def b_LenB64_35 (_ : Unit) : EB := .seq (hid b_LenB64_20) (hid b_LenB64_34)
@[simp] def b_LenB64_36 (_ : Unit) : EB := .seq (hid b_LenB64_11) (hid b_LenB64_35)
@[simp] def b_LenB64_37 (_ : Unit) : EB := .seq (hid b_LenB64_2) (hid b_LenB64_36)
def c_LenB64 : EB × List QOp × Nat := ((hid b_LenB64_37), [(.mov (.t 2))], 25)
theorem k_LenB64 : cfun Try.prog 56 = some c_LenB64 := by kernel_rfl

@[simp] def l_SortI_1 (_ : Unit) : List EOp := [⟨0, (some 3), none, (.q (.mov (.t 0))), []⟩, ⟨1, (some 4), none, (.q (.len (.t 3))), []⟩, ⟨2, (some 2), none, (.q (.mov (.t 4))), []⟩]
@[simp] def b_SortI_2 (_ : Unit) : EB := reg0 (hid l_SortI_1) 3
@[simp] def l_SortI_3 (_ : Unit) : List EOp := [⟨0, (some 5), none, (.q (.mov (.t 0))), []⟩, ⟨1, (some 6), none, (.q (.mov (.t 2))), []⟩, ⟨2, (some 7), none, (.q (.mov (.t 2))), []⟩, ⟨3, (some 8), none, (.q (.cnv .u64 (.t 7))), []⟩, ⟨4, (some 9), none, (.call 41 [(.t 8)]), []⟩, ⟨5, (some 10), none, (.call 40 [(.t 5), (.k (.int .i64 0)), (.t 6), (.t 9)]), []⟩]
@[simp] def b_SortI_4 (_ : Unit) : EB := reg0 (hid l_SortI_3) 6
@[simp] def b_SortI_5 (_ : Unit) : EB := .seq (hid b_SortI_2) (hid b_SortI_4)
def c_SortI : EB × List QOp × Nat := ((hid b_SortI_5), [], 11)
theorem k_SortI : cfun Try.prog 28 = some c_SortI := by kernel_rfl


/-! ### three numbers, sorted -/
theorem LessI_ok (a b : Int) : ECalls Try.prog 52 [I .i64 a, I .i64 b] [] fun y H' => H' = [] ∧ y = .lit (.bool (decide (a < b))) := by
  refine ecalls k_LessI ?_
  simp [c_LessI, I]
  refine call0 (NaNI_ok a) (by simp [I]) ?_
  rintro y H' ⟨rfl, rfl⟩
  refine ⟨.inl (by simp), le_ok rfl, ?_⟩
  simp
  exact fin [] (by decide) rfl rfl rfl ⟨rfl, rfl⟩
def swS (l : List Int) (j : Nat) : List Int := (l.set (j + 1) ((l[j]?).getD 0)).set j ((l[j + 1]?).getD 0)
theorem swS_len (l : List Int) (j : Nat) : (swS l j).length = l.length := by simp [swS]
/-- A number let sink to its place. -/
def sinkS : Nat → List Int → List Int
  | 0, l => l
  | j + 1, l => if (l[j + 1]?).getD 0 < (l[j]?).getD 0 then sinkS j (swS l j) else l
theorem sinkS_len : ∀ (j : Nat) (l : List Int), (sinkS j l).length = l.length
  | 0, _ => rfl
  | j + 1, l => by
    unfold sinkS
    split
    · rw [sinkS_len j, swS_len]
    · rfl
def restS : Nat → List Int → List Int
  | 1, l => sinkS 2 (sinkS 1 l)
  | 2, l => sinkS 2 l
  | _, l => l
/-- Three numbers by their order. -/
def srt (l : List Int) : List Int := restS 1 l
theorem srt_len (l : List Int) : (srt l).length = l.length := by show (sinkS 2 (sinkS 1 l)).length = l.length; rw [sinkS_len, sinkS_len]
def inF (n : Int) : List FV := [.lit (.int .i64 n)]
theorem intv_at {l : List Int} {i : Nat} (h : i < l.length) (h2 : i < (intv l).length) : (intv l)[i]'h2 = [.lit (.int .i64 ((l[i]?).getD 0))] := by
  simp [intv, h]
theorem intv_set (l : List Int) (i : Nat) (x : Int) : (intv l).set i [.lit (.int .i64 x)] = intv (l.set i x) := by simp [intv, List.map_set]

set_option maxHeartbeats 4000000 in
theorem InsI_ok (l : List Int) (h3 : l.length = 3) : ECalls Try.prog 46 [.v (.c (.row 0 3)), I .i64 0, I .i64 3] [.row 3 1 (intv l)] fun y H' => H' = [some (.row 3 1 (intv (srt l)))] ∧ y = .tup [] := by
  obtain ⟨F, hF⟩ : ∃ F, srt l = F := ⟨_, rfl⟩
  rw [hF]
  have w0 : IntKind.i64.wrap 1 = 1 := by decide +kernel
  refine ecalls k_InsI ?_
  simp [c_InsI, I, w0]
  refine eloop (α := Nat × List Int) (fun a => 1 ≤ a.1 ∧ a.1 ≤ 3 ∧ a.2.length = 3 ∧ restS a.1 a.2 = F) (fun a => 3 - a.1)
    (fun a => [.v (.c (.row 0 3)), I .i64 0, I .i64 3, .any, .any, .any, I .i64 a.1, .any, .any, .any, .any, .any, .any, .any, .any, .any, .any, .any, .any, .any, .any, .any, .any, .any, .any, .any, .any, .any, .any, .any, .any, .any, .any, .any, .any, .any, .any, .any, .any, .any, .any, .any, .any, .any, .any, .any, .any, .any, .any]) (fun a => [some (.row 3 1 (intv a.2))]) (1, l) [0]
    ⟨by simp, by simp, h3, hF⟩ (by simp [I]) (by simp) (by simp) (by simp) (by simp) ?_
  rintro ⟨i, m⟩ ⟨hi1, hi3, hm, hr⟩
  dsimp only at hi1 hi3 hm hr
  by_cases hlt : i < 3
  · have hli : (i : Int) < 3 := by omega
    have w1 : IntKind.i64.wrap ((i : Int) + 1) = ((i + 1 : Nat) : Int) := wrap_i64 (by omega) (by omega)
    have hnext : restS (i + 1) (sinkS i m) = F := by
      rw [← hr]
      rcases (by omega : i = 1 ∨ i = 2) with rfl | rfl
      · rfl
      · rfl
    obtain ⟨G, hG⟩ : ∃ G, sinkS i m = G := ⟨_, rfl⟩
    have hGl : G.length = 3 := by rw [← hG, sinkS_len]; exact hm
    rw [hG] at hnext
    simp [I, hli, hlt]
    refine eloop (α := Nat × List Int) (fun a => a.1 ≤ i ∧ a.2.length = 3 ∧ sinkS a.1 a.2 = G) (fun a => a.1)
      (fun a => [.v (.c (.row 0 3)), I .i64 0, I .i64 3, .any, .any, .any, I .i64 i, I .i64 a.1, .any, .any, .any, .any, .any, .any, .any, .any, .any, .any, .any, .any, .any, .any, .any, .any, .any, .any, .any, .any, .any, .any, .any, .any, .any, .any, .any, .any, .any, .any, .any, .any, .any, .any, .any, .any, .any, .any, .any, .any, .any]) (fun a => [some (.row 3 1 (intv a.2))]) (i, m) [0]
      ⟨Nat.le_refl _, hm, hG⟩ (by simp [I]) (by simp) (by simp) (by simp) (by simp) ?_
    rintro ⟨j, k⟩ ⟨hj, hk, hs⟩
    dsimp only at hj hk hs
    rcases Nat.eq_zero_or_pos j with hj0 | hj0
    · subst hj0
      have hkG : k = G := hs
      subst hkG
      simp [I, w1, -Int.natCast_add]
      exact round (i + 1, k) [0] ⟨by dsimp only; omega, by dsimp only; omega, hk, hnext⟩ (by dsimp only; omega) (by simp [I]) (by simp) (by simp) (by simp) (by simp)
    · obtain ⟨p, rfl⟩ : ∃ p, j = p + 1 := ⟨j - 1, by omega⟩
      have hjp : (0 : Int) < ((p + 1 : Nat) : Int) := by omega
      have wj : IntKind.i64.wrap (((p + 1 : Nat) : Int) - 1) = (p : Int) := by rw [wrap_i64 (by omega) (by omega)]; omega
      obtain ⟨j, hje⟩ : ∃ j, p + 1 = j := ⟨_, rfl⟩
      have hp3 : p < 3 := by omega
      have hj3 : j < 3 := by omega
      obtain ⟨A, hA⟩ : ∃ A, (k[p]?).getD 0 = A := ⟨_, rfl⟩
      obtain ⟨B, hB⟩ : ∃ B, (k[j]?).getD 0 = B := ⟨_, rfl⟩
      have ga : ∀ h2, (intv k)[p]'h2 = [.lit (.int .i64 A)] := fun h2 => by rw [intv_at (by omega), hA]
      have gb : ∀ h2, (intv k)[j]'h2 = [.lit (.int .i64 B)] := fun h2 => by rw [intv_at (by omega), hB]
      have hs' : (if B < A then sinkS p (swS k p) else k) = G := by
        rw [← hs, ← hB, ← hA, ← hje]
        rfl
      rw [hje] at hjp wj
      have ip : (p : Int) < 3 := by omega
      have ij : (j : Int) < 3 := by omega
      have n0 : ¬ ((j : Int) < 0) := by omega
      have n1 : ¬ ((p : Int) < 0) := by omega
      rw [hje]
      have hjn : 0 < j := by omega
      simp [I, hjp, hjn, wj, ga, gb, hk, hp3, hj3, ip, ij, n0, n1]
      refine call0 (LessI_ok B A) (by simp [I]) ?_
      rintro y H' ⟨rfl, rfl⟩
      refine ⟨.inl (by simp), le_ok rfl, ?_⟩
      have hsw : (k.set j A).set p B = swS k p := by unfold swS; rw [hje, hA, hB]
      by_cases hBA : B < A
      · rw [if_pos hBA] at hs'
        rw [decide_eq_true hBA]
        have gp : ∀ h2, (intv (k.set j A))[p]'h2 = [.lit (.int .i64 (((k.set j A)[p]?).getD 0))] := fun h2 => intv_at (by simp; omega) h2
        simp [I, wj, ga, gb, gp, hk, hp3, hj3, ip, ij, n0, n1, intv_set, hsw]
        exact round (p, swS k p) [0] ⟨by dsimp only; omega, by rw [swS_len]; exact hk, hs'⟩ (by dsimp only; omega) (by simp [I]) (by simp) (by simp) (by simp) (by simp)
      · rw [if_neg hBA] at hs'
        subst hs'
        rw [decide_eq_false hBA]
        simp [I, w1, -Int.natCast_add]
        exact round (i + 1, k) [0] ⟨by dsimp only; omega, by dsimp only; omega, hk, hnext⟩ (by dsimp only; omega) (by simp [I]) (by simp) (by simp) (by simp) (by simp)
  · have h3' : i = 3 := by omega
    subst h3'
    have hmF : m = F := hr
    subst hmF
    simp [I]
    exact fin [] (by decide) rfl rfl (by simp [objsOut, show List.range 1 = [0] from rfl]) ⟨rfl, rfl⟩

theorem LenB64_ok : ECalls Try.prog 56 [.lit (.int .u64 3)] [] fun y H' => H' = [] ∧ y = I .i64 2 := by
  refine ecalls k_LenB64 ?_
  have w1 : IntKind.u8.wrap 3 = 3 := by decide +kernel
  have w2 : IntKind.i64.wrap 2 = 2 := by decide +kernel
  have hs : s_LenB64_0.data[3]? = some 2 := by decide +kernel
  simp [c_LenB64, I, w1, hs, w2]
  exact fin [] (by decide) rfl rfl rfl ⟨rfl, rfl⟩
theorem LenB_ok : ECalls Try.prog 41 [.lit (.int .u64 3)] [] fun y H' => H' = [] ∧ y = I .i64 2 := by
  refine ecalls k_LenB ?_
  simp [c_LenB, I]
  refine call0 LenB64_ok (by simp) ?_
  rintro y H' ⟨rfl, rfl⟩
  refine ⟨.inl (by simp [I]), le_ok rfl, ?_⟩
  simp [I]
  exact fin [] (by decide) rfl rfl rfl ⟨rfl, rfl⟩
theorem PdqI_ok (l : List Int) (k : Int) (h3 : l.length = 3) : ECalls Try.prog 40 [.v (.c (.row 0 3)), I .i64 0, I .i64 3, I .i64 k] [.row 3 1 (intv l)] fun y H' => H' = [some (.row 3 1 (intv (srt l)))] ∧ y = .tup [] := by
  have w0 : IntKind.i64.wrap 3 = 3 := by decide +kernel
  refine ecalls k_PdqI ?_
  simp [c_PdqI, I]
  refine eloop (α := Nat) (fun i => i = 0) (fun i => i) (fun i => [.v (.c (.row 0 3)), I .i64 0, I .i64 3, I .i64 k, .any, .any, .any, .any, .lit (.bool true), .lit (.bool true), .any, .any, .any, .any, .any, .any, .any, .any, .any, .any, .any, .any, .any, .any, .any, .any, .any, .any, .any, .any, .any, .any, .any, .any, .any, .any, .any, .any, .any, .any, .any, .any, .any, .any, .any, .any, .any, .any, .any, .any, .any, .any, .any, .any, .any, .any, .any, .any, .any, .any, .any, .any, .any, .any, .any, .any, .any, .any, .any, .any, .any, .any, .any, .any, .any, .any, .any, .any, .any, .any, .any, .any, .any, .any, .any, .any, .any, .any, .any, .any, .any, .any, .any, .any, .any, .any, .any, .any, .any, .any, .any, .any, .any, .any, .any, .any, .any, .any, .any, .any, .any, .any, .any, .any, .any, .any, .any, .any, .any, .any, .any, .any, .any, .any, .any, .any, .any, .any, .any, .any, .any, .any, .any, .any]) (fun _ => [some (.row 3 1 (intv l))]) 0 [0]
    rfl (by simp [I]) (by simp) (by simp) (by simp) (by simp) ?_
  rintro i rfl
  simp [I, w0]
  refine callH [0] (InsI_ok l h3) (by simp [I]) (by simp) (by simp) (by simp) (by simp) ?_
  rintro y H' ⟨rfl, rfl⟩
  refine ⟨.inl (by simp), by simp, ?_⟩
  simp
  exact fin [] (by decide) rfl rfl (by simp [objsOut, show List.range 1 = [0] from rfl]) ⟨rfl, rfl⟩
theorem SortI_ok (l : List Int) (h3 : l.length = 3) : ECalls Try.prog 28 [.v (.c (.row 0 3))] [.row 3 1 (intv l)] fun y H' => H' = [some (.row 3 1 (intv (srt l)))] ∧ y = .tup [] := by
  have w0 : IntKind.u64.wrap 3 = 3 := by decide +kernel
  refine ecalls k_SortI ?_
  simp [c_SortI, I, w0]
  refine call0 LenB_ok (by simp) ?_
  rintro y H' ⟨rfl, rfl⟩
  refine ⟨.inl (by simp [I]), le_ok rfl, ?_⟩
  simp [I]
  refine callH [0] (PdqI_ok l 2 h3) (by simp [I]) (by simp) (by simp) (by simp) (by simp) ?_
  rintro y H' ⟨rfl, rfl⟩
  refine ⟨.inl (by simp), by simp, ?_⟩
  simp
  exact fin [] (by decide) rfl rfl (by simp [objsOut, show List.range 1 = [0] from rfl]) ⟨rfl, rfl⟩

end Go.Proofs.Ytejjhgdnmknejaa
