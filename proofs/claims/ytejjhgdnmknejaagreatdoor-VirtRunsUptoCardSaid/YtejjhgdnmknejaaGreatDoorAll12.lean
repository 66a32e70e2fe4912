import Derived.Test.YtejjhgdnmknejaaGreatDoorAll11
import Derived.Test.YtejjhgdnmknejaaGreatDoorAll9
import Derived.Test.YtejjhgdnmknejaaGreatDoorAll10
namespace Go.Proofs.YtejjhgdnmknejaaGreatDoor
open Go Go.EW
set_option linter.unusedSimpArgs false
set_option linter.unusedVariables false

@[simp] def l_RholdAt_1 (_ : Unit) : List EOp := [⟨0, (some 4), none, (.q (.mov (.k (.int .i64 0)))), []⟩]
@[simp] def b_RholdAt_2 (_ : Unit) : EB := reg0 (hid l_RholdAt_1) 1
@[simp] def l_RholdAt_3 (_ : Unit) : List EOp := [⟨0, (some 5), none, (.q (.mov (.k (.int .i64 0)))), []⟩]
@[simp] def b_RholdAt_4 (_ : Unit) : EB := reg0 (hid l_RholdAt_3) 1
@[simp] def l_RholdAt_5 (_ : Unit) : List EOp := [⟨0, (some 6), none, (.q (.mov (.t 5))), []⟩, ⟨1, (some 7), none, (.q (.mov (.t 0))), []⟩, ⟨2, (some 8), none, (.q (.len (.t 7))), []⟩, ⟨3, (some 9), none, (.q (.bin .lss (.t 6) (.t 8))), []⟩]
@[simp] def b_RholdAt_6 (_ : Unit) : EB := reg0 (hid l_RholdAt_5) 4
@[simp] def b_RholdAt_7 (_ : Unit) : EB := .cond (.t 9) .skip (.exit 0)
@[simp] def b_RholdAt_8 (_ : Unit) : EB := .seq (hid b_RholdAt_6) (hid b_RholdAt_7)
@[simp] def l_RholdAt_10 (_ : Unit) : List EOp := [⟨6, (some 18), none, (.q (.bin .eql (.t 16) (.t 17))), []⟩]
@[simp] def l_RholdAt_9 (_ : Unit) : List EOp := ⟨0, (some 12), none, (.q (.mov (.t 0))), []⟩ :: ⟨1, (some 13), none, (.q (.mov (.t 5))), []⟩ :: ⟨2, (some 14), none, (.q (.isl 3 (.t 12) (.t 13))), []⟩ :: ⟨3, (some 15), none, (.q (.fad 0 (.t 14))), []⟩ :: ⟨4, (some 16), none, (.q (.ldc (.t 15))), []⟩ :: ⟨5, (some 17), none, (.q (.mov (.t 1))), []⟩ :: hid l_RholdAt_10
@[simp] def b_RholdAt_11 (_ : Unit) : EB := reg0 (hid l_RholdAt_9) 7
@[simp] def l_RholdAt_12 (_ : Unit) : List EOp := [⟨0, (some 19), none, (.q (.mov (.t 5))), []⟩, ⟨1, (some 4), none, (.q (.mov (.t 19))), []⟩]
@[simp] def b_RholdAt_13 (_ : Unit) : EB := reg0 (hid l_RholdAt_12) 2
@[simp] def b_RholdAt_14 (_ : Unit) : EB := .seq (hid b_RholdAt_13) .ret
@[simp] def b_RholdAt_15 (_ : Unit) : EB := .cond (.t 18) (hid b_RholdAt_14) .skip
@[simp] def b_RholdAt_16 (_ : Unit) : EB := .seq (hid b_RholdAt_11) (hid b_RholdAt_15)
@[simp] def b_RholdAt_17 (_ : Unit) : EB := .block 1 (hid b_RholdAt_16)
@[simp] def l_RholdAt_18 (_ : Unit) : List EOp := [⟨0, (some 10), none, (.q (.mov (.t 5))), []⟩, ⟨1, (some 11), none, (.q (.bin .add (.t 10) (.k (.int .i64 1)))), []⟩, ⟨2, (some 5), none, (.q (.mov (.t 11))), []⟩]
@[simp] def b_RholdAt_19 (_ : Unit) : EB := reg0 (hid l_RholdAt_18) 3
@[simp] def b_RholdAt_20 (_ : Unit) : EB := .seq (hid b_RholdAt_17) (hid b_RholdAt_19)
@[simp] def b_RholdAt_21 (_ : Unit) : EB := .seq (hid b_RholdAt_8) (hid b_RholdAt_20)
@[simp] def b_RholdAt_22 (_ : Unit) : EB := .loop (hid b_RholdAt_21)
@[simp] def b_RholdAt_23 (_ : Unit) : EB := .block 0 (hid b_RholdAt_22)
@[simp] def b_RholdAt_24 (_ : Unit) : EB := .seq (hid b_RholdAt_4) (hid b_RholdAt_23)
@[simp] def l_RholdAt_25 (_ : Unit) : List EOp := [⟨0, (some 4), none, (.q (.mov (.k (.int .i64 (-1))))), []⟩]
@[simp] def b_RholdAt_26 (_ : Unit) : EB := reg0 (hid l_RholdAt_25) 1
@[simp] def b_RholdAt_27 (_ : Unit) : EB := .seq (hid b_RholdAt_26) .ret
@[simp] def b_RholdAt_28 (_ : Unit) : EB := .seq (hid b_RholdAt_24) (hid b_RholdAt_27)
@[simp] def b_RholdAt_29 (_ : Unit) : EB := .seq (hid b_RholdAt_2) (hid b_RholdAt_28)
def c_RholdAt : EB × List QOp × Nat := ((hid b_RholdAt_29), [(.mov (.t 4))], 20)
theorem k_RholdAt : cfun Tryz.prog 95 = some c_RholdAt := by kernel_rfl

@[simp] def l_RKeep_1 (_ : Unit) : List EOp := [⟨0, (some 3), none, (.q (.box 35 (.t 0))), []⟩, ⟨1, (some 5), none, (.q (.box 120 (.t 2))), []⟩, ⟨2, (some 6), none, (.q (.alloc 35 [(.int .i64 0), (.int .i64 0), (.int .i64 0), (.slice none 0 0), (.slice none 0 0)])), []⟩, ⟨3, (some 7), none, (.q (.mov (.k (.int .i64 0)))), []⟩]
@[simp] def b_RKeep_2 (_ : Unit) : EB := reg0 (hid l_RKeep_1) 4
@[simp] def l_RKeep_3 (_ : Unit) : List EOp := [⟨0, (some 13), none, (.q (.lda 5 (.t 3))), []⟩, ⟨1, (some 14), none, (.call 93 [(.t 13)]), []⟩, ⟨2, (some 15), none, (.q (.un .not (.t 14))), []⟩, ⟨3, (some 12), none, (.q (.mov (.t 15))), []⟩]
@[simp] def b_RKeep_4 (_ : Unit) : EB := reg0 (hid l_RKeep_3) 4
@[simp] def l_RKeep_5 (_ : Unit) : List EOp := [⟨0, (some 16), none, (.q (.build [(.int .i64 0), (.int .i64 0), (.int .i64 0), (.slice none 0 0), (.slice none 0 0)] [])), []⟩, ⟨1, none, none, (.fz (.sto 5 (.t 6) (.t 16))), []⟩, ⟨2, (some 7), none, (.q (.mov (.k (.int .i64 1)))), []⟩]
@[simp] def b_RKeep_6 (_ : Unit) : EB := reg0 (hid l_RKeep_5) 3
@[simp] def b_RKeep_7 (_ : Unit) : EB := .seq (hid b_RKeep_6) .ret
@[simp] def l_RKeep_9 (_ : Unit) : List EOp := [⟨6, (some 17), none, (.q (.mov (.t 23))), []⟩]
@[simp] def l_RKeep_8 (_ : Unit) : List EOp := ⟨0, (some 18), none, (.q (.mov (.t 1))), []⟩ :: ⟨1, (some 19), none, (.q (.bin .neq (.t 18) (.k (.int .i64 0)))), []⟩ :: ⟨2, (some 20), none, (.q (.mov (.t 19))), []⟩ :: ⟨3, (some 21), (some (20, true)), (.q (.mov (.t 1))), []⟩ :: ⟨4, (some 22), (some (20, true)), (.q (.bin .neq (.t 21) (.k (.int .i64 1)))), []⟩ :: ⟨5, (some 23), none, (.q (.pick (.t 20) (.t 22) (.k (.bool false)))), []⟩ :: hid l_RKeep_9
@[simp] def b_RKeep_10 (_ : Unit) : EB := reg0 (hid l_RKeep_8) 7
@[simp] def l_RKeep_11 (_ : Unit) : List EOp := [⟨0, (some 24), none, (.q (.build [(.int .i64 0), (.int .i64 0), (.int .i64 0), (.slice none 0 0), (.slice none 0 0)] [])), []⟩, ⟨1, none, none, (.fz (.sto 5 (.t 6) (.t 24))), []⟩, ⟨2, (some 7), none, (.q (.mov (.k (.int .i64 33)))), []⟩]
@[simp] def b_RKeep_12 (_ : Unit) : EB := reg0 (hid l_RKeep_11) 3
@[simp] def b_RKeep_13 (_ : Unit) : EB := .seq (hid b_RKeep_12) .ret
@[simp] def l_RKeep_14 (_ : Unit) : List EOp := [⟨0, (some 26), none, (.q (.fad 1 (.t 5))), []⟩, ⟨1, (some 27), none, (.q (.ldc (.t 26))), []⟩, ⟨2, (some 28), none, (.q (.bin .lss (.t 27) (.k (.int .i64 10)))), []⟩, ⟨3, (some 25), none, (.q (.mov (.t 28))), []⟩]
@[simp] def b_RKeep_15 (_ : Unit) : EB := reg0 (hid l_RKeep_14) 4
@[simp] def l_RKeep_16 (_ : Unit) : List EOp := [⟨0, (some 29), none, (.q (.build [(.int .i64 0), (.int .i64 0), (.int .i64 0), (.slice none 0 0), (.slice none 0 0)] [])), []⟩, ⟨1, none, none, (.fz (.sto 5 (.t 6) (.t 29))), []⟩, ⟨2, (some 7), none, (.q (.mov (.k (.int .i64 27)))), []⟩]
@[simp] def b_RKeep_17 (_ : Unit) : EB := reg0 (hid l_RKeep_16) 3
@[simp] def b_RKeep_18 (_ : Unit) : EB := .seq (hid b_RKeep_17) .ret
@[simp] def l_RKeep_19 (_ : Unit) : List EOp := [⟨0, (some 31), none, (.q (.lda 3 (.t 5))), []⟩, ⟨1, (some 32), none, (.call 94 [(.t 31)]), []⟩, ⟨2, (some 33), none, (.q (.un .not (.t 32))), []⟩, ⟨3, (some 30), none, (.q (.mov (.t 33))), []⟩]
@[simp] def b_RKeep_20 (_ : Unit) : EB := reg0 (hid l_RKeep_19) 4
@[simp] def l_RKeep_21 (_ : Unit) : List EOp := [⟨0, (some 34), none, (.q (.build [(.int .i64 0), (.int .i64 0), (.int .i64 0), (.slice none 0 0), (.slice none 0 0)] [])), []⟩, ⟨1, none, none, (.fz (.sto 5 (.t 6) (.t 34))), []⟩, ⟨2, (some 7), none, (.q (.mov (.k (.int .i64 1)))), []⟩]
@[simp] def b_RKeep_22 (_ : Unit) : EB := reg0 (hid l_RKeep_21) 3
@[simp] def b_RKeep_23 (_ : Unit) : EB := .seq (hid b_RKeep_22) .ret
@[simp] def l_RKeep_25 (_ : Unit) : List EOp := [⟨6, (some 35), none, (.q (.mov (.t 41))), []⟩]
@[simp] def l_RKeep_24 (_ : Unit) : List EOp := ⟨0, (some 36), none, (.q (.fad 4 (.t 3))), []⟩ :: ⟨1, (some 37), none, (.q (.ldc (.t 36))), []⟩ :: ⟨2, (some 38), none, (.q (.fad 0 (.t 5))), []⟩ :: ⟨3, (some 39), none, (.q (.ldc (.t 38))), []⟩ :: ⟨4, (some 40), none, (.call 95 [(.t 37), (.t 39)]), []⟩ :: ⟨5, (some 41), none, (.q (.bin .geq (.t 40) (.k (.int .i64 0)))), []⟩ :: hid l_RKeep_25
@[simp] def b_RKeep_26 (_ : Unit) : EB := reg0 (hid l_RKeep_24) 7
@[simp] def l_RKeep_27 (_ : Unit) : List EOp := [⟨0, (some 42), none, (.q (.build [(.int .i64 0), (.int .i64 0), (.int .i64 0), (.slice none 0 0), (.slice none 0 0)] [])), []⟩, ⟨1, none, none, (.fz (.sto 5 (.t 6) (.t 42))), []⟩, ⟨2, (some 7), none, (.q (.mov (.k (.int .i64 9)))), []⟩]
@[simp] def b_RKeep_28 (_ : Unit) : EB := reg0 (hid l_RKeep_27) 3
@[simp] def b_RKeep_29 (_ : Unit) : EB := .seq (hid b_RKeep_28) .ret
@[simp] def l_RKeep_31 (_ : Unit) : List EOp := [⟨6, (some 50), none, (.q (.bin .add (.t 46) (.t 49))), []⟩, ⟨7, (some 51), none, (.q (.bin .gtr (.t 50) (.k (.int .i64 7)))), []⟩, ⟨8, (some 43), none, (.q (.mov (.t 51))), []⟩]
@[simp] def l_RKeep_30 (_ : Unit) : List EOp := ⟨0, (some 44), none, (.q (.fad 3 (.t 3))), []⟩ :: ⟨1, (some 45), none, (.q (.ldc (.t 44))), []⟩ :: ⟨2, (some 46), none, (.q (.len (.t 45))), []⟩ :: ⟨3, (some 47), none, (.q (.fad 4 (.t 3))), []⟩ :: ⟨4, (some 48), none, (.q (.ldc (.t 47))), []⟩ :: ⟨5, (some 49), none, (.q (.len (.t 48))), []⟩ :: hid l_RKeep_31
@[simp] def b_RKeep_32 (_ : Unit) : EB := reg0 (hid l_RKeep_30) 9
@[simp] def l_RKeep_33 (_ : Unit) : List EOp := [⟨0, (some 52), none, (.q (.build [(.int .i64 0), (.int .i64 0), (.int .i64 0), (.slice none 0 0), (.slice none 0 0)] [])), []⟩, ⟨1, none, none, (.fz (.sto 5 (.t 6) (.t 52))), []⟩, ⟨2, (some 7), none, (.q (.mov (.k (.int .i64 30)))), []⟩]
@[simp] def b_RKeep_34 (_ : Unit) : EB := reg0 (hid l_RKeep_33) 3
@[simp] def b_RKeep_35 (_ : Unit) : EB := .seq (hid b_RKeep_34) .ret
@[simp] def l_RKeep_37 (_ : Unit) : List EOp := [⟨6, (some 60), none, (.q (.bin .lss (.t 57) (.t 59))), []⟩, ⟨7, (some 53), none, (.q (.mov (.t 60))), []⟩]
@[simp] def l_RKeep_36 (_ : Unit) : List EOp := ⟨0, (some 54), none, (.q (.mov (.t 1))), []⟩ :: ⟨1, (some 55), none, (.q (.fad 1 (.t 3))), []⟩ :: ⟨2, (some 56), none, (.q (.iad 2 1 (.t 55) (.t 54))), []⟩ :: ⟨3, (some 57), none, (.q (.ldc (.t 56))), []⟩ :: ⟨4, (some 58), none, (.q (.fad 1 (.t 5))), []⟩ :: ⟨5, (some 59), none, (.q (.ldc (.t 58))), []⟩ :: hid l_RKeep_37
@[simp] def b_RKeep_38 (_ : Unit) : EB := reg0 (hid l_RKeep_36) 8
@[simp] def l_RKeep_39 (_ : Unit) : List EOp := [⟨0, (some 61), none, (.q (.build [(.int .i64 0), (.int .i64 0), (.int .i64 0), (.slice none 0 0), (.slice none 0 0)] [])), []⟩, ⟨1, none, none, (.fz (.sto 5 (.t 6) (.t 61))), []⟩, ⟨2, (some 7), none, (.q (.mov (.k (.int .i64 20)))), []⟩]
@[simp] def b_RKeep_40 (_ : Unit) : EB := reg0 (hid l_RKeep_39) 3
@[simp] def b_RKeep_41 (_ : Unit) : EB := .seq (hid b_RKeep_40) .ret
@[simp] def b_RKeep_42 (_ : Unit) : EB := .cond (.t 53) (hid b_RKeep_41) .skip
@[simp] def b_RKeep_43 (_ : Unit) : EB := .seq (hid b_RKeep_38) (hid b_RKeep_42)
@[simp] def b_RKeep_44 (_ : Unit) : EB := .cond (.t 43) (hid b_RKeep_35) (hid b_RKeep_43)
@[simp] def b_RKeep_45 (_ : Unit) : EB := .seq (hid b_RKeep_32) (hid b_RKeep_44)
@[simp] def b_RKeep_46 (_ : Unit) : EB := .cond (.t 35) (hid b_RKeep_29) (hid b_RKeep_45)
@[simp] def b_RKeep_47 (_ : Unit) : EB := .seq (hid b_RKeep_26) (hid b_RKeep_46)
@[simp] def b_RKeep_48 (_ : Unit) : EB := .cond (.t 30) (hid b_RKeep_23) (hid b_RKeep_47)
@[simp] def b_RKeep_49 (_ : Unit) : EB := .seq (hid b_RKeep_20) (hid b_RKeep_48)
@[simp] def b_RKeep_50 (_ : Unit) : EB := .cond (.t 25) (hid b_RKeep_18) (hid b_RKeep_49)
@[simp] def b_RKeep_51 (_ : Unit) : EB := .seq (hid b_RKeep_15) (hid b_RKeep_50)
@[simp] def b_RKeep_52 (_ : Unit) : EB := .cond (.t 17) (hid b_RKeep_13) (hid b_RKeep_51)
@[simp] def b_RKeep_53 (_ : Unit) : EB := .seq (hid b_RKeep_10) (hid b_RKeep_52)
@[simp] def b_RKeep_54 (_ : Unit) : EB := .cond (.t 12) (hid b_RKeep_7) (hid b_RKeep_53)
@[simp] def b_RKeep_55 (_ : Unit) : EB := .seq (hid b_RKeep_4) (hid b_RKeep_54)
@[simp] def b_RKeep_56 (_ : Unit) : EB := .block 0 (hid b_RKeep_55)
@[simp] def l_RKeep_57 (_ : Unit) : List EOp := [⟨0, (some 8), none, (.q (.mov (.k (.slice none 0 0)))), []⟩]
@[simp] def b_RKeep_58 (_ : Unit) : EB := reg0 (hid l_RKeep_57) 1
@[simp] def l_RKeep_59 (_ : Unit) : List EOp := [⟨0, (some 9), none, (.q (.mov (.k (.int .i64 0)))), []⟩]
@[simp] def b_RKeep_60 (_ : Unit) : EB := reg0 (hid l_RKeep_59) 1
@[simp] def l_RKeep_63 (_ : Unit) : List EOp := [⟨12, (some 74), (some (67, true)), (.q (.fad 0 (.t 5))), []⟩, ⟨13, (some 75), (some (67, true)), (.q (.ldc (.t 74))), []⟩, ⟨14, (some 76), (some (67, true)), (.q (.bin .lss (.t 73) (.t 75))), []⟩, ⟨15, (some 77), none, (.q (.pick (.t 67) (.t 76) (.k (.bool false)))), []⟩]
@[simp] def l_RKeep_62 (_ : Unit) : List EOp := ⟨6, (some 68), (some (67, true)), (.q (.fad 4 (.t 3))), []⟩ :: ⟨7, (some 69), (some (67, true)), (.q (.ldc (.t 68))), []⟩ :: ⟨8, (some 70), (some (67, true)), (.q (.mov (.t 9))), []⟩ :: ⟨9, (some 71), (some (67, true)), (.q (.isl 3 (.t 69) (.t 70))), []⟩ :: ⟨10, (some 72), (some (67, true)), (.q (.fad 0 (.t 71))), []⟩ :: ⟨11, (some 73), (some (67, true)), (.q (.ldc (.t 72))), []⟩ :: hid l_RKeep_63
@[simp] def l_RKeep_61 (_ : Unit) : List EOp := ⟨0, (some 62), none, (.q (.mov (.t 9))), []⟩ :: ⟨1, (some 63), none, (.q (.fad 4 (.t 3))), []⟩ :: ⟨2, (some 64), none, (.q (.ldc (.t 63))), []⟩ :: ⟨3, (some 65), none, (.q (.len (.t 64))), []⟩ :: ⟨4, (some 66), none, (.q (.bin .lss (.t 62) (.t 65))), []⟩ :: ⟨5, (some 67), none, (.q (.mov (.t 66))), []⟩ :: hid l_RKeep_62
@[simp] def b_RKeep_64 (_ : Unit) : EB := reg0 (hid l_RKeep_61) 16
@[simp] def b_RKeep_65 (_ : Unit) : EB := .cond (.t 77) .skip (.exit 1)
@[simp] def b_RKeep_66 (_ : Unit) : EB := .seq (hid b_RKeep_64) (hid b_RKeep_65)
@[simp] def l_RKeep_67 (_ : Unit) : List EOp := [⟨0, (some 78), none, (.q (.mov (.t 9))), []⟩, ⟨1, (some 79), none, (.q (.bin .add (.t 78) (.k (.int .i64 1)))), []⟩, ⟨2, (some 9), none, (.q (.mov (.t 79))), []⟩]
@[simp] def b_RKeep_68 (_ : Unit) : EB := reg0 (hid l_RKeep_67) 3
@[simp] def b_RKeep_69 (_ : Unit) : EB := .block 2 (hid b_RKeep_68)
@[simp] def b_RKeep_70 (_ : Unit) : EB := .seq (hid b_RKeep_66) (hid b_RKeep_69)
@[simp] def b_RKeep_71 (_ : Unit) : EB := .loop (hid b_RKeep_70)
@[simp] def b_RKeep_72 (_ : Unit) : EB := .block 1 (hid b_RKeep_71)
@[simp] def l_RKeep_75 (_ : Unit) : List EOp := [⟨8, (some 88), none, (.app 120 3 40 (.t 85) (.t 87)), [9, 10, 11, 12]⟩, ⟨13, (some 93), none, (.app 120 3 40 (.t 88) (.t 92)), []⟩, ⟨14, (some 8), none, (.q (.mov (.t 93))), []⟩]
@[simp] def l_RKeep_74 (_ : Unit) : List EOp := ⟨7, (some 87), none, (.q (.bsl 3 [(.int .i64 0), (.int .i64 0), (.slice none 0 0)] 1 [(0, (.t 86))])), []⟩ :: ⟨9, (some 89), none, (.q (.fad 4 (.t 3))), []⟩ :: ⟨10, (some 90), none, (.q (.ldc (.t 89))), []⟩ :: ⟨11, (some 91), none, (.q (.mov (.t 9))), []⟩ :: ⟨12, (some 92), none, (.q (.ssl 3 (.t 90) (some (.t 91)) none)), []⟩ :: ⟨5, (some 85), none, (.app 120 3 40 (.t 80) (.t 84)), [6, 7, 9, 10, 11, 12]⟩ :: hid l_RKeep_75
@[simp] def l_RKeep_73 (_ : Unit) : List EOp := ⟨0, (some 80), none, (.q (.mov (.t 8))), []⟩ :: ⟨1, (some 81), none, (.q (.fad 4 (.t 3))), []⟩ :: ⟨2, (some 82), none, (.q (.ldc (.t 81))), []⟩ :: ⟨3, (some 83), none, (.q (.mov (.t 9))), []⟩ :: ⟨4, (some 84), none, (.q (.ssl 3 (.t 82) none (some (.t 83)))), []⟩ :: ⟨6, (some 86), none, (.q (.lda 3 (.t 5))), []⟩ :: hid l_RKeep_74
@[simp] def b_RKeep_76 (_ : Unit) : EB := reg1 (hid l_RKeep_73) 15
@[simp] def l_RKeep_78 (_ : Unit) : List EOp := [⟨6, (some 100), none, (.q (.ext 0 (.t 94))), []⟩, ⟨7, (some 101), none, (.q (.ext 1 (.t 94))), []⟩, ⟨8, (some 10), none, (.q (.mov (.t 100))), []⟩, ⟨9, (some 11), none, (.q (.mov (.t 101))), []⟩]
@[simp] def l_RKeep_77 (_ : Unit) : List EOp := ⟨0, (some 95), none, (.q (.mov (.t 1))), []⟩ :: ⟨1, (some 96), none, (.q (.fad 1 (.t 5))), []⟩ :: ⟨2, (some 97), none, (.q (.ldc (.t 96))), []⟩ :: ⟨3, (some 98), none, (.q (.un .neg (.t 97))), []⟩ :: ⟨4, (some 99), none, (.call 96 [(.t 95), (.t 98)]), []⟩ :: ⟨5, (some 94), none, (.q (.mov (.t 99))), []⟩ :: hid l_RKeep_78
@[simp] def b_RKeep_79 (_ : Unit) : EB := reg0 (hid l_RKeep_77) 10
@[simp] def l_RKeep_81 (_ : Unit) : List EOp := [⟨6, (some 108), none, (.call 97 [(.t 102), (.t 103), (.t 104), (.t 106), (.t 107)]), []⟩, ⟨7, none, none, (.fz (.sto 5 (.t 6) (.t 108))), []⟩, ⟨8, (some 7), none, (.q (.mov (.k (.int .i64 0)))), []⟩]
@[simp] def l_RKeep_80 (_ : Unit) : List EOp := ⟨0, (some 102), none, (.q (.lda 5 (.t 3))), []⟩ :: ⟨1, (some 103), none, (.q (.mov (.t 10))), []⟩ :: ⟨2, (some 104), none, (.q (.mov (.t 11))), []⟩ :: ⟨3, (some 105), none, (.q (.fad 3 (.t 3))), []⟩ :: ⟨4, (some 106), none, (.q (.ldc (.t 105))), []⟩ :: ⟨5, (some 107), none, (.q (.mov (.t 8))), []⟩ :: hid l_RKeep_81
@[simp] def b_RKeep_82 (_ : Unit) : EB := reg0 (hid l_RKeep_80) 9
@[simp] def b_RKeep_83 (_ : Unit) : EB := .seq (hid b_RKeep_82) .ret
@[simp] def b_RKeep_84 (_ : Unit) : EB := .seq (hid b_RKeep_79) (hid b_RKeep_83)
@[simp] def b_RKeep_85 (_ : Unit) : EB := .seq (hid b_RKeep_76) (hid b_RKeep_84)
@[simp] def b_RKeep_86 (_ : Unit) : EB := .seq (hid b_RKeep_72) (hid b_RKeep_85)
@[simp] def b_RKeep_87 (_ : Unit) : EB := .seq (hid b_RKeep_60) (hid b_RKeep_86)
@[simp] def b_RKeep_88 (_ : Unit) : EB := .seq (hid b_RKeep_58) (hid b_RKeep_87)
@[simp] def b_RKeep_89 (_ : Unit) : EB := .seq (hid b_RKeep_56) (hid b_RKeep_88)
@[simp] def b_RKeep_90 (_ : Unit) : EB := .seq (hid b_RKeep_2) (hid b_RKeep_89)
def c_RKeep : EB × List QOp × Nat := ((hid b_RKeep_90), [(.lda 5 (.t 6)), (.mov (.t 7))], 109)
theorem k_RKeep : cfun Tryz.prog 44 = some c_RKeep := by kernel_rfl

@[simp] def l_RFree_1 (_ : Unit) : List EOp := [⟨0, (some 3), none, (.q (.box 35 (.t 0))), []⟩, ⟨1, (some 6), none, (.q (.alloc 35 [(.int .i64 0), (.int .i64 0), (.int .i64 0), (.slice none 0 0), (.slice none 0 0)])), []⟩, ⟨2, (some 7), none, (.q (.mov (.k (.int .i64 0)))), []⟩]
@[simp] def b_RFree_2 (_ : Unit) : EB := reg0 (hid l_RFree_1) 3
@[simp] def l_RFree_3 (_ : Unit) : List EOp := [⟨0, (some 10), none, (.q (.fad 4 (.t 3))), []⟩, ⟨1, (some 11), none, (.q (.ldc (.t 10))), []⟩, ⟨2, (some 12), none, (.q (.mov (.t 1))), []⟩, ⟨3, (some 13), none, (.call 95 [(.t 11), (.t 12)]), []⟩, ⟨4, (some 8), none, (.q (.mov (.t 13))), []⟩]
@[simp] def b_RFree_4 (_ : Unit) : EB := reg0 (hid l_RFree_3) 5
@[simp] def l_RFree_5 (_ : Unit) : List EOp := [⟨0, (some 15), none, (.q (.lda 5 (.t 3))), []⟩, ⟨1, (some 16), none, (.call 93 [(.t 15)]), []⟩, ⟨2, (some 17), none, (.q (.un .not (.t 16))), []⟩, ⟨3, (some 14), none, (.q (.mov (.t 17))), []⟩]
@[simp] def b_RFree_6 (_ : Unit) : EB := reg0 (hid l_RFree_5) 4
@[simp] def l_RFree_7 (_ : Unit) : List EOp := [⟨0, (some 18), none, (.q (.build [(.int .i64 0), (.int .i64 0), (.int .i64 0), (.slice none 0 0), (.slice none 0 0)] [])), []⟩, ⟨1, none, none, (.fz (.sto 5 (.t 6) (.t 18))), []⟩, ⟨2, (some 7), none, (.q (.mov (.k (.int .i64 1)))), []⟩]
@[simp] def b_RFree_8 (_ : Unit) : EB := reg0 (hid l_RFree_7) 3
@[simp] def b_RFree_9 (_ : Unit) : EB := .seq (hid b_RFree_8) .ret
@[simp] def l_RFree_10 (_ : Unit) : List EOp := [⟨0, (some 20), none, (.q (.mov (.t 8))), []⟩, ⟨1, (some 21), none, (.q (.bin .lss (.t 20) (.k (.int .i64 0)))), []⟩, ⟨2, (some 19), none, (.q (.mov (.t 21))), []⟩]
@[simp] def b_RFree_11 (_ : Unit) : EB := reg0 (hid l_RFree_10) 3
@[simp] def l_RFree_12 (_ : Unit) : List EOp := [⟨0, (some 22), none, (.q (.build [(.int .i64 0), (.int .i64 0), (.int .i64 0), (.slice none 0 0), (.slice none 0 0)] [])), []⟩, ⟨1, none, none, (.fz (.sto 5 (.t 6) (.t 22))), []⟩, ⟨2, (some 7), none, (.q (.mov (.k (.int .i64 8)))), []⟩]
@[simp] def b_RFree_13 (_ : Unit) : EB := reg0 (hid l_RFree_12) 3
@[simp] def b_RFree_14 (_ : Unit) : EB := .seq (hid b_RFree_13) .ret
@[simp] def l_RFree_17 (_ : Unit) : List EOp := [⟨12, (some 23), none, (.q (.mov (.t 35))), []⟩]
@[simp] def l_RFree_16 (_ : Unit) : List EOp := ⟨6, (some 30), (some (26, false)), (.q (.mov (.t 8))), []⟩ :: ⟨7, (some 31), (some (26, false)), (.q (.isl 3 (.t 29) (.t 30))), []⟩ :: ⟨8, (some 32), (some (26, false)), (.q (.fad 1 (.t 31))), []⟩ :: ⟨9, (some 33), (some (26, false)), (.q (.ldc (.t 32))), []⟩ :: ⟨10, (some 34), (some (26, false)), (.q (.bin .gtr (.t 27) (.t 33))), []⟩ :: ⟨11, (some 35), none, (.q (.pick (.t 26) (.k (.bool true)) (.t 34))), []⟩ :: hid l_RFree_17
@[simp] def l_RFree_15 (_ : Unit) : List EOp := ⟨0, (some 24), none, (.q (.mov (.t 2))), []⟩ :: ⟨1, (some 25), none, (.q (.bin .lss (.t 24) (.k (.int .i64 0)))), []⟩ :: ⟨2, (some 26), none, (.q (.mov (.t 25))), []⟩ :: ⟨3, (some 27), (some (26, false)), (.q (.mov (.t 2))), []⟩ :: ⟨4, (some 28), (some (26, false)), (.q (.fad 4 (.t 3))), []⟩ :: ⟨5, (some 29), (some (26, false)), (.q (.ldc (.t 28))), []⟩ :: hid l_RFree_16
@[simp] def b_RFree_18 (_ : Unit) : EB := reg0 (hid l_RFree_15) 13
@[simp] def l_RFree_19 (_ : Unit) : List EOp := [⟨0, (some 36), none, (.q (.build [(.int .i64 0), (.int .i64 0), (.int .i64 0), (.slice none 0 0), (.slice none 0 0)] [])), []⟩, ⟨1, none, none, (.fz (.sto 5 (.t 6) (.t 36))), []⟩, ⟨2, (some 7), none, (.q (.mov (.k (.int .i64 20)))), []⟩]
@[simp] def b_RFree_20 (_ : Unit) : EB := reg0 (hid l_RFree_19) 3
@[simp] def b_RFree_21 (_ : Unit) : EB := .seq (hid b_RFree_20) .ret
@[simp] def b_RFree_22 (_ : Unit) : EB := .cond (.t 23) (hid b_RFree_21) .skip
@[simp] def b_RFree_23 (_ : Unit) : EB := .seq (hid b_RFree_18) (hid b_RFree_22)
@[simp] def b_RFree_24 (_ : Unit) : EB := .cond (.t 19) (hid b_RFree_14) (hid b_RFree_23)
@[simp] def b_RFree_25 (_ : Unit) : EB := .seq (hid b_RFree_11) (hid b_RFree_24)
@[simp] def b_RFree_26 (_ : Unit) : EB := .cond (.t 14) (hid b_RFree_9) (hid b_RFree_25)
@[simp] def b_RFree_27 (_ : Unit) : EB := .seq (hid b_RFree_6) (hid b_RFree_26)
@[simp] def b_RFree_28 (_ : Unit) : EB := .block 0 (hid b_RFree_27)
@[simp] def l_RFree_29 (_ : Unit) : List EOp := [⟨0, (some 9), none, (.q (.mov (.k (.slice none 0 0)))), []⟩]
@[simp] def b_RFree_30 (_ : Unit) : EB := reg0 (hid l_RFree_29) 1
@[simp] def l_RFree_33 (_ : Unit) : List EOp := [⟨12, (some 9), none, (.q (.mov (.t 48))), []⟩]
@[simp] def l_RFree_32 (_ : Unit) : List EOp := ⟨7, (some 44), none, (.q (.ldc (.t 43))), []⟩ :: ⟨8, (some 45), none, (.q (.mov (.t 8))), []⟩ :: ⟨9, (some 46), none, (.q (.bin .add (.t 45) (.k (.int .i64 1)))), []⟩ :: ⟨10, (some 47), none, (.q (.ssl 3 (.t 44) (some (.t 46)) none)), []⟩ :: ⟨5, (some 42), none, (.app 120 3 40 (.t 37) (.t 41)), [6, 7, 8, 9, 10]⟩ :: ⟨11, (some 48), none, (.app 120 3 40 (.t 42) (.t 47)), []⟩ :: hid l_RFree_33
@[simp] def l_RFree_31 (_ : Unit) : List EOp := ⟨0, (some 37), none, (.q (.mov (.t 9))), []⟩ :: ⟨1, (some 38), none, (.q (.fad 4 (.t 3))), []⟩ :: ⟨2, (some 39), none, (.q (.ldc (.t 38))), []⟩ :: ⟨3, (some 40), none, (.q (.mov (.t 8))), []⟩ :: ⟨4, (some 41), none, (.q (.ssl 3 (.t 39) none (some (.t 40)))), []⟩ :: ⟨6, (some 43), none, (.q (.fad 4 (.t 3))), []⟩ :: hid l_RFree_32
@[simp] def b_RFree_34 (_ : Unit) : EB := reg1 (hid l_RFree_31) 13
@[simp] def l_RFree_37 (_ : Unit) : List EOp := [⟨12, (some 61), none, (.q (.mov (.t 9))), []⟩, ⟨13, (some 62), none, (.call 97 [(.t 49), (.t 50), (.t 58), (.t 60), (.t 61)]), []⟩, ⟨14, none, none, (.fz (.sto 5 (.t 6) (.t 62))), []⟩, ⟨15, (some 7), none, (.q (.mov (.k (.int .i64 0)))), []⟩]
@[simp] def l_RFree_36 (_ : Unit) : List EOp := ⟨6, (some 55), none, (.q (.fad 1 (.t 54))), []⟩ :: ⟨7, (some 56), none, (.q (.ldc (.t 55))), []⟩ :: ⟨8, (some 57), none, (.q (.mov (.t 2))), []⟩ :: ⟨9, (some 58), none, (.q (.bin .sub (.t 56) (.t 57))), []⟩ :: ⟨10, (some 59), none, (.q (.fad 3 (.t 3))), []⟩ :: ⟨11, (some 60), none, (.q (.ldc (.t 59))), []⟩ :: hid l_RFree_37
@[simp] def l_RFree_35 (_ : Unit) : List EOp := ⟨0, (some 49), none, (.q (.lda 5 (.t 3))), []⟩ :: ⟨1, (some 50), none, (.q (.mov (.t 2))), []⟩ :: ⟨2, (some 51), none, (.q (.fad 4 (.t 3))), []⟩ :: ⟨3, (some 52), none, (.q (.ldc (.t 51))), []⟩ :: ⟨4, (some 53), none, (.q (.mov (.t 8))), []⟩ :: ⟨5, (some 54), none, (.q (.isl 3 (.t 52) (.t 53))), []⟩ :: hid l_RFree_36
@[simp] def b_RFree_38 (_ : Unit) : EB := reg0 (hid l_RFree_35) 16
@[simp] def b_RFree_39 (_ : Unit) : EB := .seq (hid b_RFree_38) .ret
@[simp] def b_RFree_40 (_ : Unit) : EB := .seq (hid b_RFree_34) (hid b_RFree_39)
@[simp] def b_RFree_41 (_ : Unit) : EB := .seq (hid b_RFree_30) (hid b_RFree_40)
@[simp] def b_RFree_42 (_ : Unit) : EB := .seq (hid b_RFree_28) (hid b_RFree_41)
@[simp] def b_RFree_43 (_ : Unit) : EB := .seq (hid b_RFree_4) (hid b_RFree_42)
@[simp] def b_RFree_44 (_ : Unit) : EB := .seq (hid b_RFree_2) (hid b_RFree_43)
def c_RFree : EB × List QOp × Nat := ((hid b_RFree_44), [(.lda 5 (.t 6)), (.mov (.t 7))], 63)
theorem k_RFree : cfun Tryz.prog 55 = some c_RFree := by kernel_rfl


set_option maxHeartbeats 2000000 in
theorem RholdAt_ok (l : List Hol) (x : Int) (hn : l.length ≤ 100000000) : ECalls Tryz.prog 95 [HL l, I .i64 x] [] fun y H' => H' = [] ∧ ∃ r, FI (l.map (·.id)) x r ∧ y = I .i64 r := by
  obtain ⟨ids, hids⟩ : ∃ ids, l.map (·.id) = ids := ⟨_, rfl⟩
  rw [hids]
  have idl : ids.length = l.length := by rw [← hids]; simp
  have hget : ∀ (k : Nat) (p : Hol), l[k]? = some p → ids[k]? = some p.id := fun k p h => by rw [← hids, List.getElem?_map, h]; rfl
  refine ecalls k_RholdAt ?_
  simp [c_RholdAt, I, HL]
  refine eloop (α := Nat) (fun i => i ≤ l.length ∧ ∀ (k : Nat) (y : Int), k < i → ids[k]? = some y → y ≠ x) (fun i => l.length - i)
    (fun i => [HL l, I .i64 x, .any, .any, .any, I .i64 i, .any, .any, .any, .any, .any, .any, .any, .any, .any, .any, .any, .any, .any, .any]) (fun _ => []) 0 []
    ⟨Nat.zero_le _, fun k y h => by omega⟩ (by simp [I, HL]) (by simp) (by simp) (by simp) (by simp) ?_
  rintro i ⟨hi, hlo⟩
  simp [I, HL]
  refine alt (fun hlt => ?_) (fun hlt => ?_)
  · have hln : i < l.length := by omega
    obtain ⟨p, hc⟩ : ∃ p, l[i]? = some p := ⟨l[i], by simp [hln]⟩
    have hge : (holv l)[i]'(by simp [hln]) = holF p := by
      have e := holv_get hc
      rw [List.getElem?_eq_getElem (by simp [hln])] at e
      exact Option.some.inj e
    have w4 : IntKind.i64.wrap ((i : Int) + 1) = ((i + 1 : Nat) : Int) := wrap_i64 (by omega) (by omega)
    simp [hln, hge, holF]
    refine alt (fun he => ?_) (fun he => ?_)
    · simp
      exact fin [] (by decide) rfl rfl rfl ⟨rfl, (i : Int), .inr ⟨i, rfl, by rw [hget i p hc, he]⟩, rfl⟩
    · simp [w4, -Int.natCast_add]
      refine round (i + 1) [] ⟨by omega, ?_⟩ (by omega) (by simp) (by simp) (by simp) (by simp) (by simp)
      intro k y hk hy
      rcases Nat.lt_or_ge k i with h1 | h1
      · exact hlo k y h1 hy
      · obtain rfl : k = i := by omega
        rw [hget k p hc] at hy
        obtain rfl := Option.some.inj hy
        exact he
  · simp
    exact fin [] (by decide) rfl rfl rfl ⟨rfl, -1, .inl ⟨rfl, fun k y hk => hlo k y (by have := lt_len hk; omega) hk⟩, rfl⟩

theorem RwithH_ok (s : Sta) (a b : Int) (h1 : IntKind.i64.wrap (s.num + 1) = s.num + 1) (h2 : IntKind.i64.wrap (s.h0 + a) = s.h0 + a) (h3 : IntKind.i64.wrap (s.h1 + b) = s.h1 + b) (ps : List Pay) (hs : List Hol) :
    ECalls Tryz.prog 97 [SV s, I .i64 a, I .i64 b, PL ps, .v (.c (.row 0 hs.length))] [.row 120 3 (holv hs)] fun y H' => H' = [some (.row 120 3 (holv hs))] ∧ y = .v (.agg [.fz (.lit (.int .i64 (s.num + 1))), .fz (.lit (.int .i64 (s.h0 + a))), .fz (.lit (.int .i64 (s.h1 + b))), .fz (.sl 36 (payv ps)), .row 0 hs.length]) := by
  refine ecalls k_Rwith ?_
  simp [c_Rwith, SV, staC, I, PL, HL, h1, h2, h3]
  exact fin [] (by decide) rfl rfl rfl ⟨rfl, rfl⟩

set_option maxHeartbeats 4000000 in
theorem RFree_ok (s : Sta) (x a : Int) (hs : s.ok) (hx64 : i64 x) (ha64 : i64 a) : ECalls Tryz.prog 55 [SV s, I .i64 x, I .i64 a] [] fun y H' => H' = [] ∧ y = RE (freS s x a) := by
  obtain ⟨ok1, ok2, ok3, ok4, ok5, ok6, ok7⟩ := id hs
  refine ecalls k_RFree ?_
  simp [c_RFree, SV, staC, I, -errV_0]
  refine call0 (RholdAt_ok s.holds x ok7) (by simp [HL, I]) ?_
  rintro y H' ⟨rfl, r, hr, rfl⟩
  refine ⟨.inl (by simp), le_ok rfl, ?_⟩
  simp [I, -errV_0]
  refine call0 (Rright_ok s hs) (by simp [SV, staC]) ?_
  rintro y H' ⟨rfl, rfl⟩
  refine ⟨.inl (by simp), le_ok rfl, ?_⟩
  by_cases h0 : mayS s = true ∧ s.num ≠ 1099511627776
  rotate_left
  · have hx : nxt s = (zSta, 1) := by simp only [nxt, if_neg h0]
    have ha : freS s x a = (zSta, 1) := by simp [freS, hx]
    rw [ha, decide_eq_false h0]
    simp [RE, staC, zSta]
    refine finW _ (weak_nlB (o := 16) (k := 3) 36 rfl rfl) (finW _ (weak_nlB (o := 16) (k := 4) 3 rfl rfl) ?_)
    exact fin [] (by decide) rfl rfl rfl ⟨rfl, rfl⟩
  rw [decide_eq_true h0]
  have hx : nxt s = (⟨s.num + 1, s.h0, s.h1, s.pays, s.holds⟩, 0) := by simp only [nxt, if_pos h0]
  obtain ⟨hr', hpl', hhl, htot⟩ := mayS_t h0.1
  have hpw := holL_pw hhl
  rcases FI_pos hpw hr with ⟨hf, rfl⟩ | ⟨hf, rfl⟩
  · have hne : (s.holds.map (·.id))[posI (s.holds.map (·.id)) x]? ≠ some x := of_decide_eq_false hf
    have ha : freS s x a = (zSta, 8) := by
      simp only [freS, hx]
      rw [if_neg (by simp)]
      split
      · rfl
      · rename_i h hc
        rw [List.getElem?_map, hc] at hne
        rw [if_pos (by simpa using hne)]
    rw [ha]
    simp [RE, staC, zSta]
    refine finW _ (weak_nlB (o := 16) (k := 3) 36 rfl rfl) (finW _ (weak_nlB (o := 16) (k := 4) 3 rfl rfl) ?_)
    exact fin [] (by decide) rfl rfl rfl ⟨rfl, rfl⟩
  obtain ⟨h, hc, hid⟩ := fnd_get (f := Hol.id) hf
  have hfr : freS s x a = if a < 0 ∨ h.am < a then (zSta, 20) else (⟨s.num + 1, s.h0 + a, s.h1 + (h.am - a), s.pays, delA Hol.id s.holds x⟩, 0) := by
    simp only [freS, hx, hc]
    rw [if_neg (by simp), if_neg (by simp [hid])]
  have hpv0 := holv_del s.holds x
  have hpl1 : (delA Hol.id s.holds x).length = s.holds.length - 1 := len_del hc
  obtain ⟨pos, hpos⟩ : ∃ pos, posI (s.holds.map (·.id)) x = pos := ⟨_, rfl⟩
  rw [hpos] at hc hpv0 ⊢
  have hlt : pos < s.holds.length := lt_len hc
  have hge : (holv s.holds)[pos]'(by simp [hlt]) = holF h := by
    have e := holv_get hc
    rw [List.getElem?_eq_getElem (by simp [hlt])] at e
    exact Option.some.inj e
  have hpt2 : List.take (s.holds.length - 1) (holv (delA Hol.id s.holds x)) = holv (delA Hol.id s.holds x) := List.take_of_length_le (by simp [hpl1])
  have w1 : IntKind.i64.wrap ((pos : Int) + 1) = ((pos + 1 : Nat) : Int) := wrap_i64 (by omega) (by omega)
  have hle := holL_sum hhl h (List.mem_of_getElem? hc)
  have hma := mayH_am (holL_mem hhl h (List.mem_of_getElem? hc))
  have hnn := sumP_nn hpl'
  have hto : total s = s.h0 + s.h1 + sumP s.pays + sumH s.holds := rfl
  rw [hfr]
  have hn0 : ¬ ((pos : Int) < 0) := by omega
  simp [hn0, -errV_0]
  by_cases c1 : a < 0
  · rw [if_pos (.inl c1)]
    simp [c1, show ¬ 0 ≤ a by omega, RE, staC, zSta]
    refine finW _ (weak_nlB (o := 16) (k := 3) 36 rfl rfl) (finW _ (weak_nlB (o := 16) (k := 4) 3 rfl rfl) ?_)
    exact fin [] (by decide) rfl rfl rfl ⟨rfl, rfl⟩
  by_cases c2 : h.am < a
  · rw [if_pos (.inr c2)]
    simp [c1, show 0 ≤ a by omega, c2, hlt, hge, holF, RE, staC, zSta]
    refine finW _ (weak_nlB (o := 16) (k := 3) 36 rfl rfl) (finW _ (weak_nlB (o := 16) (k := 4) 3 rfl rfl) ?_)
    exact fin [] (by decide) rfl rfl rfl ⟨rfl, rfl⟩
  rw [if_neg (by omega)]
  have w2 : IntKind.i64.wrap (s.h0 + a) = s.h0 + a := wrap_i64 (by omega) (by omega)
  have w3 : IntKind.i64.wrap (h.am - a) = h.am - a := wrap_i64 (by omega) (by omega)
  have w4 : IntKind.i64.wrap (s.h1 + (h.am - a)) = s.h1 + (h.am - a) := wrap_i64 (by omega) (by omega)
  have w5 : IntKind.i64.wrap (s.num + 1) = s.num + 1 := wrap_i64 (by omega) (by omega)
  have tpv : List.take s.holds.length (holv s.holds) = holv s.holds := List.take_of_length_le (by simp)
  obtain ⟨L, hL⟩ : ∃ L, delA Hol.id s.holds x = L := ⟨_, rfl⟩
  rw [hL] at hpv0 hpl1 hpt2 ⊢
  have hlen : min pos s.holds.length + (s.holds.length - (pos + 1)) = L.length := by omega
  simp [c1, c2, show 0 ≤ a by omega, hlt, hge, holF, w1, w3, tpv, hlen, ← hpv0, -errV_0, -Int.natCast_add]
  refine ⟨by omega, by omega, by omega, by omega, ?_⟩
  refine callH [640] (RwithH_ok s a (h.am - a) w5 w2 w4 s.pays L) (by simp [SV, staC, PL, I]) (by simp) (by simp) (by simp) (by simp) ?_
  rintro y H' ⟨rfl, rfl⟩
  refine ⟨.inl (by simp), by simp, ?_⟩
  simp [-errV_0]
  refine finW _ (weak_frz (o := 640) (ty := 120) (es := 3) (xs := holv L) rfl) ?_
  exact fin [] (by decide) rfl rfl rfl ⟨rfl, by simp [RE, staC, List.take_of_length_le, -errV_0]⟩

set_option maxHeartbeats 4000000 in
theorem RKeep_ok (s : Sta) (who : Int) (h : Hol) (hs : s.ok) (hw : i64 who) (hh : h.ok) : ECalls Tryz.prog 44 [SV s, I .i64 who, .v (.agg (holC h))] [] fun y H' => H' = [] ∧ y = RE (keeS s who h) := by
  obtain ⟨ok1, ok2, ok3, ok4, ok5, ok6, ok7⟩ := id hs
  obtain ⟨⟨p1, p1'⟩, ⟨p2, p2'⟩, p3, p4⟩ := id hh
  refine ecalls k_RKeep ?_
  simp [c_RKeep, SV, staC, hc0', I, -errV_0]
  refine call0 (Rright_ok s hs) (by simp [SV, staC]) ?_
  rintro y H' ⟨rfl, rfl⟩
  refine ⟨.inl (by simp), le_ok rfl, ?_⟩
  by_cases h0 : mayS s = true ∧ s.num ≠ 1099511627776
  rotate_left
  · have hx : nxt s = (zSta, 1) := by simp only [nxt, if_neg h0]
    have ha : keeS s who h = (zSta, 1) := by simp [keeS, hx]
    rw [ha, decide_eq_false h0]
    simp [RE, staC, zSta]
    refine finW _ (weak_nlB (o := 32) (k := 3) 36 rfl rfl) (finW _ (weak_nlB (o := 32) (k := 4) 3 rfl rfl) ?_)
    exact fin [] (by decide) rfl rfl rfl ⟨rfl, rfl⟩
  rw [decide_eq_true h0]
  have hx : nxt s = (⟨s.num + 1, s.h0, s.h1, s.pays, s.holds⟩, 0) := by simp only [nxt, if_pos h0]
  obtain ⟨hr', hpl', hhl, htot⟩ := mayS_t h0.1
  have hpw := holL_pw hhl
  have hadd : keeS s who h = if ¬ (who = 0 ∨ who = 1) then (zSta, 33) else if h.am < 10 then (zSta, 27) else if mayH h = false then (zSta, 1)
      else if fndI (s.holds.map (·.id)) h.id = true then (zSta, 9) else if 8 ≤ s.pays.length + s.holds.length then (zSta, 30) else if sideS s who < h.am then (zSta, 20)
      else (⟨s.num + 1, if who = 0 then s.h0 - h.am else s.h0, if who = 0 then s.h1 else s.h1 - h.am, s.pays, insA Hol.id s.holds h⟩, 0) := by
    simp only [keeS, hx]
    rw [if_neg (by simp)]
  by_cases hb' : who = 0 ∨ who = 1
  rotate_left
  · rw [hadd, if_pos hb']
    have b0 : ¬ who = 0 := fun e => hb' (.inl e)
    have b1 : ¬ who = 1 := fun e => hb' (.inr e)
    simp [b0, b1, RE, staC, zSta]
    refine finW _ (weak_nlB (o := 32) (k := 3) 36 rfl rfl) (finW _ (weak_nlB (o := 32) (k := 4) 3 rfl rfl) ?_)
    exact fin [] (by decide) rfl rfl rfl ⟨rfl, rfl⟩
  rw [hadd, if_neg (by simp [hb'])]
  have hsd : ∃ sd : Int, sideS s who = sd ∧ 0 ≤ sd ∧ sd ≤ 1125899906842624 := ⟨_, rfl, by unfold sideS; split <;> omega⟩
  obtain ⟨W, hW⟩ : ∃ W : EV, W = I .i64 who := ⟨_, rfl⟩
  obtain ⟨wh, hwh⟩ : ∃ w : Int, w = who := ⟨_, rfl⟩
  obtain ⟨ids, hids⟩ : ∃ ids, s.holds.map (·.id) = ids := ⟨_, rfl⟩
  have idl : ids.length = s.holds.length := by rw [← hids]; simp
  have hget : ∀ (k : Nat) (p : Hol), s.holds[k]? = some p → ids[k]? = some p.id := fun k p h => by rw [← hids, List.getElem?_map, h]; rfl
  obtain ⟨A, hA⟩ : ∃ A : Int, A = if who = 0 then -h.am else 0 := ⟨_, rfl⟩
  obtain ⟨B, hB⟩ : ∃ B : Int, B = if who = 0 then 0 else -h.am := ⟨_, rfl⟩
  rcases hb' with rfl | rfl
  all_goals
    simp at hA hB
    simp [-errV_0]
    refine alt (fun c1 => ?_) (fun c1 => ?_)
    · rw [if_pos c1]
      simp [RE, staC, zSta]
      refine finW _ (weak_nlB (o := 32) (k := 3) 36 rfl rfl) (finW _ (weak_nlB (o := 32) (k := 4) 3 rfl rfl) ?_)
      exact fin [] (by decide) rfl rfl rfl ⟨rfl, rfl⟩
    rw [if_neg c1]
    simp [-errV_0]
    refine call0 (RholdMay_ok h p4) (by simp [hc0']) ?_
    rintro y H' ⟨rfl, rfl⟩
    refine ⟨.inl (by simp [-List.flatMap_eq_nil_iff]), le_ok rfl, ?_⟩
    cases hm : mayH h
    · simp [RE, staC, zSta]
      refine finW _ (weak_nlB (o := 32) (k := 3) 36 rfl rfl) (finW _ (weak_nlB (o := 32) (k := 4) 3 rfl rfl) ?_)
      exact fin [] (by decide) rfl rfl rfl ⟨rfl, rfl⟩
    simp [-errV_0]
    refine call0 (RholdAt_ok s.holds h.id ok7) (by simp [HL, I]) ?_
    rintro y H' ⟨rfl, r, hr, rfl⟩
    refine ⟨.inl (by simp), le_ok rfl, ?_⟩
    rcases FI_pos hpw hr with ⟨hf, rfl⟩ | ⟨hf, rfl⟩
    rotate_left
    · rw [hf]
      simp [I, RE, staC, zSta]
      refine finW _ (weak_nlB (o := 32) (k := 3) 36 rfl rfl) (finW _ (weak_nlB (o := 32) (k := 4) 3 rfl rfl) ?_)
      exact fin [] (by decide) rfl rfl rfl ⟨rfl, rfl⟩
    rw [hf]
    have wl : IntKind.i64.wrap ((s.pays.length : Int) + (s.holds.length : Int)) = ((s.pays.length + s.holds.length : Nat) : Int) := by rw [wrap_i64 (by omega) (by omega)]; omega
    simp [I, wl, -errV_0, -Int.natCast_add]
    refine alt (fun c2 => ?_) (fun c2 => ?_)
    · rw [if_pos (by omega)]
      simp [RE, staC, zSta]
      refine finW _ (weak_nlB (o := 32) (k := 3) 36 rfl rfl) (finW _ (weak_nlB (o := 32) (k := 4) 3 rfl rfl) ?_)
      exact fin [] (by decide) rfl rfl rfl ⟨rfl, rfl⟩
    rw [if_neg (by omega)]
    simp [-errV_0]
    refine alt (fun c3 => ?_) (fun c3 => ?_)
    · rw [if_pos (by simpa [sideS] using c3)]
      simp [RE, staC, zSta]
      refine finW _ (weak_nlB (o := 32) (k := 3) 36 rfl rfl) (finW _ (weak_nlB (o := 32) (k := 4) 3 rfl rfl) ?_)
      exact fin [] (by decide) rfl rfl rfl ⟨rfl, rfl⟩
    rw [if_neg (by simpa [sideS] using c3)]
    simp [-errV_0]
    refine eloop (α := Nat) (fun i => i ≤ s.holds.length ∧ ∀ (k : Nat) (y : Int), k < i → ids[k]? = some y → y < h.id) (fun i => s.holds.length - i)
      (fun i => [.any, W, .any, Ptr 0, .any, Ptr 1, Ptr 2, .any, EV.lit (.slice none 0 0), I .i64 i, .any, .any, .any, .any, .any, .any, .any, .any, .any, .any, .any, .any, .any, .any, .any, .any, .any, .any, .any, .any, .any, .any, .any, .any, .any, .any, .any, .any, .any, .any, .any, .any, .any, .any, .any, .any, .any, .any, .any, .any, .any, .any, .any, .any, .any, .any, .any, .any, .any, .any, .any, .any, .any, .any, .any, .any, .any, .any, .any, .any, .any, .any, .any, .any, .any, .any, .any, .any, .any, .any, .any, .any, .any, .any, .any, .any, .any, .any, .any, .any, .any, .any, .any, .any, .any, .any, .any, .any, .any, .any, .any, .any, .any, .any, .any, .any, .any, .any, .any]) (fun _ => [some (.box 35 (staC s)), some (.box 120 (holC h)), some (.box 35 [.fz (.lit (.int .i64 0)), .fz (.lit (.int .i64 0)), .fz (.lit (.int .i64 0)), .fz (.lit (.slice none 0 0)), .fz (.lit (.slice none 0 0))])]) 0 [0, 16, 32]
      ⟨Nat.zero_le _, fun k y hk => absurd hk (Nat.not_lt_zero k)⟩ (by simp [I, Ptr, hW]) (by simp [staC, holC, zSta]) (by simp) (by simp) (by simp) ?_
    rintro i ⟨hi, hlo⟩
    simp [I, Ptr, hW, staC, holC, zSta]
    have hn0 : ¬ ((i : Int) < 0) := by omega
    have wn : IntKind.i64.wrap (-h.am) = -h.am := wrap_i64 (by omega) (by omega)
    have w2 : IntKind.i64.wrap (s.h0 + A) = s.h0 + A := wrap_i64 (by omega) (by omega)
    have w3 : IntKind.i64.wrap (s.h1 + B) = s.h1 + B := wrap_i64 (by omega) (by omega)
    have w5 : IntKind.i64.wrap (s.num + 1) = s.num + 1 := wrap_i64 (by omega) (by omega)
    have tpv : List.take s.holds.length (holv s.holds) = holv s.holds := List.take_of_length_le (by simp)
    refine alt (fun hlt => ?_) (fun hlt => ?_)
    · have hln : i < s.holds.length := by omega
      obtain ⟨p, hc⟩ : ∃ p, s.holds[i]? = some p := ⟨s.holds[i], by simp [hln]⟩
      have hge : (holv s.holds)[i]'(by simp [hln]) = holF p := by
        have e := holv_get hc
        rw [List.getElem?_eq_getElem (by simp [hln])] at e
        exact Option.some.inj e
      have w4 : IntKind.i64.wrap ((i : Int) + 1) = ((i + 1 : Nat) : Int) := wrap_i64 (by omega) (by omega)
      simp [hln, hge, holF, -errV_0]
      refine alt (fun he => ?_) (fun he => ?_)
      · simp [w4, -errV_0, -Int.natCast_add]
        refine round (i + 1) [0, 1, 2] ⟨by omega, ?_⟩ (by omega) (by simp) (by simp) (by simp) (by simp) (by simp)
        intro k y hk hy
        rcases Nat.lt_or_ge k i with h1 | h1
        · exact hlo k y h1 hy
        · obtain rfl : k = i := by omega
          rw [hget k p hc] at hy
          obtain rfl := Option.some.inj hy
          exact he
      · have hpos : posI (s.holds.map (·.id)) h.id = i := by
          rw [hids]
          exact posI_eq (by omega) hlo fun y hy => by
            rw [hget i p hc] at hy
            obtain rfl := Option.some.inj hy
            omega
        have hpv := holv_ins s.holds h
        rw [hpos] at hpv
        have hpl1 : (insA Hol.id s.holds h).length = s.holds.length + 1 := len_ins Hol.id s.holds h
        obtain ⟨L, hL⟩ : ∃ L, insA Hol.id s.holds h = L := ⟨_, rfl⟩
        rw [hL] at hpv hpl1 ⊢
        simp [holF] at hpv
        have hlen : i + 1 + (s.holds.length - i) = L.length := by omega
        simp [hlt, hn0, hi, tpv, hlen, wn, ← hpv, -errV_0]
        refine ⟨by omega, by omega, by omega, ?_⟩
        refine call0 (Rto_ok wh (-h.am)) (by simp [I, hwh]) ?_
        rintro y H' ⟨rfl, rfl⟩
        refine ⟨.inl (by simp), le_ok rfl, ?_⟩
        simp [-errV_0]
        refine callH [467] (RwithH_ok s A B w5 w2 w3 s.pays L) (by simp [SV, staC, PL, I, hA, hB, hwh]) (by simp) (by simp) (by simp) (by simp) ?_
        rintro y H' ⟨rfl, rfl⟩
        refine ⟨.inl (by simp), by simp, ?_⟩
        simp [-errV_0]
        refine finW _ (weak_frz (o := 467) (ty := 120) (es := 3) (xs := holv L) rfl) ?_
        exact fin [] (by decide) rfl rfl rfl ⟨rfl, by simp [RE, staC, hA, hB, List.take_of_length_le, Int.sub_eq_add_neg, -errV_0]⟩
    · have hpos : posI (s.holds.map (·.id)) h.id = i := by
        rw [hids]
        exact posI_eq (by omega) hlo fun y hy => absurd (lt_len hy) (by omega)
      have hpv := holv_ins s.holds h
      rw [hpos] at hpv
      have hpl1 : (insA Hol.id s.holds h).length = s.holds.length + 1 := len_ins Hol.id s.holds h
      obtain ⟨L, hL⟩ : ∃ L, insA Hol.id s.holds h = L := ⟨_, rfl⟩
      rw [hL] at hpv hpl1 ⊢
      simp [holF] at hpv
      have hlen : i + 1 + (s.holds.length - i) = L.length := by omega
      simp [hlt, hn0, hi, tpv, hlen, wn, ← hpv, -errV_0]
      refine ⟨by omega, by omega, by omega, ?_⟩
      refine call0 (Rto_ok wh (-h.am)) (by simp [I, hwh]) ?_
      rintro y H' ⟨rfl, rfl⟩
      refine ⟨.inl (by simp), le_ok rfl, ?_⟩
      simp [-errV_0]
      refine callH [467] (RwithH_ok s A B w5 w2 w3 s.pays L) (by simp [SV, staC, PL, I, hA, hB, hwh]) (by simp) (by simp) (by simp) (by simp) ?_
      rintro y H' ⟨rfl, rfl⟩
      refine ⟨.inl (by simp), by simp, ?_⟩
      simp [-errV_0]
      refine finW _ (weak_frz (o := 467) (ty := 120) (es := 3) (xs := holv L) rfl) ?_
      exact fin [] (by decide) rfl rfl rfl ⟨rfl, by simp [RE, staC, hA, hB, List.take_of_length_le, Int.sub_eq_add_neg, -errV_0]⟩

end Go.Proofs.YtejjhgdnmknejaaGreatDoor

namespace Go.Proofs.YtejjhgdnmknejaaGreatDoor
open Go Go.EW
set_option linter.unusedSimpArgs false
set_option linter.unusedVariables false

@[simp] def l_ROpen_1 (_ : Unit) : List EOp := [⟨0, (some 4), none, (.q (.box 31 (.t 0))), []⟩, ⟨1, (some 6), none, (.q (.box 35 (.t 2))), []⟩, ⟨2, (some 7), none, (.q (.box 35 (.t 3))), []⟩, ⟨3, (some 8), none, (.q (.alloc 35 [(.int .i64 0), (.int .i64 0), (.int .i64 0), (.slice none 0 0), (.slice none 0 0)])), []⟩, ⟨4, (some 9), none, (.q (.alloc 35 [(.int .i64 0), (.int .i64 0), (.int .i64 0), (.slice none 0 0), (.slice none 0 0)])), []⟩, ⟨5, (some 10), none, (.q (.mov (.k (.int .i64 0)))), []⟩]
@[simp] def b_ROpen_2 (_ : Unit) : EB := reg0 (hid l_ROpen_1) 6
@[simp] def l_ROpen_3 (_ : Unit) : List EOp := [⟨0, (some 18), none, (.q (.lda 81 (.t 4))), []⟩, ⟨1, (some 19), none, (.call 16 [(.t 18)]), []⟩, ⟨2, (some 11), none, (.q (.mov (.t 19))), []⟩]
@[simp] def b_ROpen_4 (_ : Unit) : EB := reg0 (hid l_ROpen_3) 3
@[simp] def l_ROpen_5 (_ : Unit) : List EOp := [⟨0, (some 20), none, (.q (.mov (.t 11))), []⟩, ⟨1, (some 21), none, (.q (.bin .neq (.t 20) (.k (.int .i64 0)))), []⟩]
@[simp] def b_ROpen_6 (_ : Unit) : EB := reg0 (hid l_ROpen_5) 2
@[simp] def l_ROpen_7 (_ : Unit) : List EOp := [⟨0, (some 22), none, (.q (.build [(.int .i64 0), (.int .i64 0), (.int .i64 0), (.slice none 0 0), (.slice none 0 0)] [])), []⟩, ⟨1, (some 23), none, (.q (.build [(.int .i64 0), (.int .i64 0), (.int .i64 0), (.slice none 0 0), (.slice none 0 0)] [])), []⟩, ⟨2, (some 24), none, (.q (.mov (.t 11))), []⟩, ⟨3, none, none, (.fz (.sto 5 (.t 8) (.t 22))), []⟩, ⟨4, none, none, (.fz (.sto 5 (.t 9) (.t 23))), []⟩, ⟨5, (some 10), none, (.q (.mov (.t 24))), []⟩]
@[simp] def b_ROpen_8 (_ : Unit) : EB := reg0 (hid l_ROpen_7) 6
@[simp] def b_ROpen_9 (_ : Unit) : EB := .seq (hid b_ROpen_8) .ret
@[simp] def b_ROpen_10 (_ : Unit) : EB := .cond (.t 21) (hid b_ROpen_9) .skip
@[simp] def b_ROpen_11 (_ : Unit) : EB := .seq (hid b_ROpen_6) (hid b_ROpen_10)
@[simp] def l_ROpen_13 (_ : Unit) : List EOp := [⟨6, (some 25), none, (.q (.mov (.t 31))), []⟩, ⟨7, (some 32), none, (.q (.ext 0 (.t 25))), []⟩, ⟨8, (some 33), none, (.q (.ext 1 (.t 25))), []⟩, ⟨9, (some 12), none, (.q (.mov (.t 32))), []⟩, ⟨10, (some 13), none, (.q (.mov (.t 33))), []⟩]
@[simp] def l_ROpen_12 (_ : Unit) : List EOp := ⟨0, (some 26), none, (.q (.fad 0 (.t 4))), []⟩ :: ⟨1, (some 27), none, (.q (.lda 38 (.t 26))), []⟩ :: ⟨2, (some 28), none, (.q (.fad 76 (.t 4))), []⟩ :: ⟨3, (some 29), none, (.q (.iad 3 1 (.t 28) (.k (.int .i64 0)))), []⟩ :: ⟨4, (some 30), none, (.q (.ldc (.t 29))), []⟩ :: ⟨5, (some 31), none, (.call 20 [(.t 27), (.t 30)]), []⟩ :: hid l_ROpen_13
@[simp] def b_ROpen_14 (_ : Unit) : EB := reg0 (hid l_ROpen_12) 11
@[simp] def l_ROpen_16 (_ : Unit) : List EOp := [⟨6, (some 34), none, (.q (.mov (.t 40))), []⟩, ⟨7, (some 41), none, (.q (.ext 0 (.t 34))), []⟩, ⟨8, (some 42), none, (.q (.ext 1 (.t 34))), []⟩, ⟨9, (some 14), none, (.q (.mov (.t 41))), []⟩, ⟨10, (some 15), none, (.q (.mov (.t 42))), []⟩]
@[simp] def l_ROpen_15 (_ : Unit) : List EOp := ⟨0, (some 35), none, (.q (.fad 38 (.t 4))), []⟩ :: ⟨1, (some 36), none, (.q (.lda 38 (.t 35))), []⟩ :: ⟨2, (some 37), none, (.q (.fad 76 (.t 4))), []⟩ :: ⟨3, (some 38), none, (.q (.iad 3 1 (.t 37) (.k (.int .i64 1)))), []⟩ :: ⟨4, (some 39), none, (.q (.ldc (.t 38))), []⟩ :: ⟨5, (some 40), none, (.call 20 [(.t 36), (.t 39)]), []⟩ :: hid l_ROpen_16
@[simp] def b_ROpen_17 (_ : Unit) : EB := reg0 (hid l_ROpen_15) 11
@[simp] def l_ROpen_19 (_ : Unit) : List EOp := [⟨5, (some 49), none, (.call 44 [(.t 44), (.t 45), (.t 48)]), [9]⟩, ⟨6, (some 43), none, (.q (.mov (.t 49))), []⟩, ⟨7, (some 50), none, (.q (.ext 0 (.t 43))), []⟩, ⟨8, (some 51), none, (.q (.ext 1 (.t 43))), []⟩, ⟨10, none, none, (.fz (.sto 5 (.t 16) (.t 50))), [8]⟩, ⟨11, (some 11), none, (.q (.mov (.t 51))), []⟩]
@[simp] def l_ROpen_18 (_ : Unit) : List EOp := ⟨0, (some 44), none, (.q (.lda 5 (.t 6))), []⟩ :: ⟨1, (some 45), none, (.q (.mov (.t 12))), []⟩ :: ⟨2, (some 46), none, (.q (.lda 81 (.t 4))), []⟩ :: ⟨3, (some 47), none, (.q (.mov (.t 1))), []⟩ :: ⟨9, (some 16), none, (.q (.alloc 35 [(.int .i64 0), (.int .i64 0), (.int .i64 0), (.slice none 0 0), (.slice none 0 0)])), []⟩ :: ⟨4, (some 48), none, (.call 45 [(.t 46), (.t 47)]), [0, 1, 9]⟩ :: hid l_ROpen_19
@[simp] def b_ROpen_20 (_ : Unit) : EB := reg1 (hid l_ROpen_18) 12
@[simp] def l_ROpen_21 (_ : Unit) : List EOp := [⟨0, (some 52), none, (.q (.mov (.t 11))), []⟩, ⟨1, (some 53), none, (.q (.bin .neq (.t 52) (.k (.int .i64 0)))), []⟩]
@[simp] def b_ROpen_22 (_ : Unit) : EB := reg0 (hid l_ROpen_21) 2
@[simp] def l_ROpen_23 (_ : Unit) : List EOp := [⟨0, (some 54), none, (.q (.build [(.int .i64 0), (.int .i64 0), (.int .i64 0), (.slice none 0 0), (.slice none 0 0)] [])), []⟩, ⟨1, (some 55), none, (.q (.build [(.int .i64 0), (.int .i64 0), (.int .i64 0), (.slice none 0 0), (.slice none 0 0)] [])), []⟩, ⟨2, (some 56), none, (.q (.mov (.t 11))), []⟩, ⟨3, none, none, (.fz (.sto 5 (.t 8) (.t 54))), []⟩, ⟨4, none, none, (.fz (.sto 5 (.t 9) (.t 55))), []⟩, ⟨5, (some 10), none, (.q (.mov (.t 56))), []⟩]
@[simp] def b_ROpen_24 (_ : Unit) : EB := reg0 (hid l_ROpen_23) 6
@[simp] def b_ROpen_25 (_ : Unit) : EB := .seq (hid b_ROpen_24) .ret
@[simp] def b_ROpen_26 (_ : Unit) : EB := .cond (.t 53) (hid b_ROpen_25) .skip
@[simp] def b_ROpen_27 (_ : Unit) : EB := .seq (hid b_ROpen_22) (hid b_ROpen_26)
@[simp] def l_ROpen_29 (_ : Unit) : List EOp := [⟨5, (some 63), none, (.call 44 [(.t 58), (.t 59), (.t 62)]), [9]⟩, ⟨6, (some 57), none, (.q (.mov (.t 63))), []⟩, ⟨7, (some 64), none, (.q (.ext 0 (.t 57))), []⟩, ⟨8, (some 65), none, (.q (.ext 1 (.t 57))), []⟩, ⟨10, none, none, (.fz (.sto 5 (.t 17) (.t 64))), [8]⟩, ⟨11, (some 11), none, (.q (.mov (.t 65))), []⟩]
@[simp] def l_ROpen_28 (_ : Unit) : List EOp := ⟨0, (some 58), none, (.q (.lda 5 (.t 7))), []⟩ :: ⟨1, (some 59), none, (.q (.mov (.t 14))), []⟩ :: ⟨2, (some 60), none, (.q (.lda 81 (.t 4))), []⟩ :: ⟨3, (some 61), none, (.q (.mov (.t 1))), []⟩ :: ⟨9, (some 17), none, (.q (.alloc 35 [(.int .i64 0), (.int .i64 0), (.int .i64 0), (.slice none 0 0), (.slice none 0 0)])), []⟩ :: ⟨4, (some 62), none, (.call 45 [(.t 60), (.t 61)]), [0, 1, 9]⟩ :: hid l_ROpen_29
@[simp] def b_ROpen_30 (_ : Unit) : EB := reg1 (hid l_ROpen_28) 12
@[simp] def l_ROpen_31 (_ : Unit) : List EOp := [⟨0, (some 66), none, (.q (.mov (.t 11))), []⟩, ⟨1, (some 67), none, (.q (.bin .neq (.t 66) (.k (.int .i64 0)))), []⟩]
@[simp] def b_ROpen_32 (_ : Unit) : EB := reg0 (hid l_ROpen_31) 2
@[simp] def l_ROpen_33 (_ : Unit) : List EOp := [⟨0, (some 68), none, (.q (.build [(.int .i64 0), (.int .i64 0), (.int .i64 0), (.slice none 0 0), (.slice none 0 0)] [])), []⟩, ⟨1, (some 69), none, (.q (.build [(.int .i64 0), (.int .i64 0), (.int .i64 0), (.slice none 0 0), (.slice none 0 0)] [])), []⟩, ⟨2, (some 70), none, (.q (.mov (.t 11))), []⟩, ⟨3, none, none, (.fz (.sto 5 (.t 8) (.t 68))), []⟩, ⟨4, none, none, (.fz (.sto 5 (.t 9) (.t 69))), []⟩, ⟨5, (some 10), none, (.q (.mov (.t 70))), []⟩]
@[simp] def b_ROpen_34 (_ : Unit) : EB := reg0 (hid l_ROpen_33) 6
@[simp] def b_ROpen_35 (_ : Unit) : EB := .seq (hid b_ROpen_34) .ret
@[simp] def b_ROpen_36 (_ : Unit) : EB := .cond (.t 67) (hid b_ROpen_35) .skip
@[simp] def b_ROpen_37 (_ : Unit) : EB := .seq (hid b_ROpen_32) (hid b_ROpen_36)
@[simp] def l_ROpen_38 (_ : Unit) : List EOp := [⟨0, (some 71), none, (.q (.lda 5 (.t 16))), []⟩, ⟨1, (some 72), none, (.q (.lda 5 (.t 17))), []⟩, ⟨2, none, none, (.fz (.sto 5 (.t 8) (.t 71))), [1]⟩, ⟨3, none, none, (.fz (.sto 5 (.t 9) (.t 72))), []⟩, ⟨4, (some 10), none, (.q (.mov (.k (.int .i64 0)))), []⟩]
@[simp] def b_ROpen_39 (_ : Unit) : EB := reg1 (hid l_ROpen_38) 5
@[simp] def b_ROpen_40 (_ : Unit) : EB := .seq (hid b_ROpen_39) .ret
@[simp] def b_ROpen_41 (_ : Unit) : EB := .seq (hid b_ROpen_37) (hid b_ROpen_40)
@[simp] def b_ROpen_42 (_ : Unit) : EB := .seq (hid b_ROpen_30) (hid b_ROpen_41)
@[simp] def b_ROpen_43 (_ : Unit) : EB := .seq (hid b_ROpen_27) (hid b_ROpen_42)
@[simp] def b_ROpen_44 (_ : Unit) : EB := .seq (hid b_ROpen_20) (hid b_ROpen_43)
@[simp] def b_ROpen_45 (_ : Unit) : EB := .seq (hid b_ROpen_17) (hid b_ROpen_44)
@[simp] def b_ROpen_46 (_ : Unit) : EB := .seq (hid b_ROpen_14) (hid b_ROpen_45)
@[simp] def b_ROpen_47 (_ : Unit) : EB := .seq (hid b_ROpen_11) (hid b_ROpen_46)
@[simp] def b_ROpen_48 (_ : Unit) : EB := .seq (hid b_ROpen_4) (hid b_ROpen_47)
@[simp] def b_ROpen_49 (_ : Unit) : EB := .seq (hid b_ROpen_2) (hid b_ROpen_48)
def c_ROpen : EB × List QOp × Nat := ((hid b_ROpen_49), [(.lda 5 (.t 8)), (.lda 5 (.t 9)), (.mov (.t 10))], 73)
theorem k_ROpen : cfun Tryz.prog 12 = some c_ROpen := by kernel_rfl


def SSR (q : Sta × Sta × Nat) : EV := .tup [.agg (staC q.1), .agg (staC q.2.1), .c (.fz (.lit (.int .i64 (q.2.2 : Int))))]
theorem sid_of {p : Prm} {a b : Int} (h : ofV p a b = true) : (sidV p a).1 = sid p.k0 p.k1 a ∧ (sidV p b).1 = sid p.k0 p.k1 b := by
  unfold ofV at h
  have h' := of_decide_eq_true h
  unfold sidV sid
  constructor
  · by_cases c : p.k0 = a
    · rw [if_pos c, if_pos c]
    · have d : p.k1 = a := by omega
      rw [if_neg c, if_pos d, if_neg c, if_pos d]
  · by_cases c : p.k0 = b
    · rw [if_pos c, if_pos c]
    · have d : p.k1 = b := by omega
      rw [if_neg c, if_pos d, if_neg c, if_pos d]
theorem chk_prt {r : Rte} (h : chkV r = 0) : prtV r := by
  unfold chkV at h
  by_cases c : prtV r
  · exact c
  · rw [if_pos c] at h; omega

set_option maxHeartbeats 8000000 in
theorem ROpen_ok (r : Rte) (id' : Int) (s t : Sta) (hr : r.ok) (hi : i64 id') (hs : s.ok) (ht : t.ok) : ECalls Tryz.prog 12 [RVv r, I .i64 id', SV s, SV t] [] fun y H' => H' = [] ∧ y = SSR (opnS r id' s t) := by
  obtain ⟨⟨h1, _⟩, ⟨h2, _⟩, _⟩ := id hr
  have l0 := rteC_len h1 h2
  have t0 := rt_take h1 h2
  have t38 := rt_t38 h1
  have s38 := rt_s38 h1 h2
  have e76 := idx_of (rt_76 h1 h2) (by omega)
  have e77 := idx_of (rt_77 h1 h2) (by omega)
  refine ecalls k_ROpen ?_
  simp [c_ROpen, RVv, I, SV, staC, l0, t0, iC]
  refine call0 (RCheckV_ok r hr) (by simp [RVv]) ?_
  rintro y H' ⟨rfl, rfl⟩
  refine ⟨.inl (by simp), le_ok rfl, ?_⟩
  by_cases c0 : chkV r = 0
  rotate_left
  · have hv : opnS r id' s t = (zSta, zSta, chkV r) := by unfold opnS; rw [if_pos c0]
    rw [hv]
    simp [SSR, staC, zSta, c0, I]
    refine finW _ (weak_nlB (o := 48) (k := 3) 36 rfl rfl) (finW _ (weak_nlB (o := 48) (k := 4) 3 rfl rfl) (finW _ (weak_nlB (o := 64) (k := 3) 36 rfl rfl) (finW _ (weak_nlB (o := 64) (k := 4) 3 rfl rfl) ?_)))
    exact fin [] (by decide) rfl rfl rfl ⟨rfl, rfl⟩
  obtain ⟨_, _, _, d1, d2, d3, o1, o2⟩ := chk_prt c0
  have hsd1 := (sid_of o1).1
  have hsd2 := (sid_of o2).1
  simp [c0, I, l0, t0, t38, s38, e76, e77, iC]
  refine call0 (RSide_ok r.f r.a h1) (by simp [PVv, I]) ?_
  rintro y H' ⟨rfl, rfl⟩
  refine ⟨.inl (by simp [iC]), le_ok rfl, ?_⟩
  rw [hsd1]
  simp [I, l0, t0, t38, s38, e76, e77, iC]
  refine call0 (RSide_ok r.s r.b h2) (by simp [PVv, I]) ?_
  rintro y H' ⟨rfl, rfl⟩
  refine ⟨.inl (by simp [iC]), le_ok rfl, ?_⟩
  rw [hsd2]
  simp [I, l0, t0, t38, s38, e76, e77, iC]
  have hho := Rhold_ok r id' hr d1 d2 d3
  have hk1 := RKeep_ok s (sid r.f.k0 r.f.k1 r.a) (holV r id') hs (sid_i64 _ _ _) (holV_ok hr hi)
  have hk2 := RKeep_ok t (sid r.s.k0 r.s.k1 r.b) (holV r id') ht (sid_i64 _ _ _) (holV_ok hr hi)
  obtain ⟨A, hA⟩ : ∃ A, keeS s (sid r.f.k0 r.f.k1 r.a) (holV r id') = A := ⟨_, rfl⟩
  obtain ⟨B, hB⟩ : ∃ B, keeS t (sid r.s.k0 r.s.k1 r.b) (holV r id') = B := ⟨_, rfl⟩
  rw [hA] at hk1
  rw [hB] at hk2
  have ho : opnS r id' s t = if A.2 ≠ 0 then (zSta, zSta, A.2) else if B.2 ≠ 0 then (zSta, zSta, B.2) else (A.1, B.1, 0) := by unfold opnS; rw [if_neg (by simpa using c0), hA, hB]
  rw [ho]
  obtain ⟨R, hR⟩ : ∃ R, (if A.2 ≠ 0 then (zSta, zSta, A.2) else if B.2 ≠ 0 then (zSta, zSta, B.2) else (A.1, B.1, 0)) = R := ⟨_, rfl⟩
  rw [hR]
  refine call0 hho (by simp [RVv, I]) ?_
  rintro y H' ⟨rfl, rfl⟩
  refine ⟨.inl (by simp), le_ok rfl, ?_⟩
  simp [holC, I, l0, t0, iC]
  refine call0 hk1 (by simp [SV, staC, I, holC]) ?_
  rintro y H' ⟨rfl, rfl⟩
  refine ⟨.inl (by simp), le_ok rfl, ?_⟩
  by_cases c1 : A.2 = 0
  rotate_left
  · rw [if_pos c1] at hR
    rw [← hR]
    simp [RE, SSR, staC, zSta, c1]
    refine finW _ (weak_nlB (o := 48) (k := 3) 36 rfl rfl) (finW _ (weak_nlB (o := 48) (k := 4) 3 rfl rfl) (finW _ (weak_nlB (o := 64) (k := 3) 36 rfl rfl) (finW _ (weak_nlB (o := 64) (k := 4) 3 rfl rfl) ?_)))
    exact fin [] (by decide) rfl rfl rfl ⟨rfl, rfl⟩
  rw [if_neg (by simpa using c1)] at hR
  simp [RE, staC, c1, l0, t0, I]
  refine call0 hho (by simp [RVv, I]) ?_
  rintro y H' ⟨rfl, rfl⟩
  refine ⟨.inl (by simp), le_ok rfl, ?_⟩
  simp [holC, I, l0, t0, iC]
  refine call0 hk2 (by simp [SV, staC, I, holC]) ?_
  rintro y H' ⟨rfl, rfl⟩
  refine ⟨.inl (by simp), le_ok rfl, ?_⟩
  by_cases c2 : B.2 = 0
  rotate_left
  · rw [if_pos c2] at hR
    rw [← hR]
    simp [RE, SSR, staC, zSta, c2]
    refine finW _ (weak_nlB (o := 48) (k := 3) 36 rfl rfl) (finW _ (weak_nlB (o := 48) (k := 4) 3 rfl rfl) (finW _ (weak_nlB (o := 64) (k := 3) 36 rfl rfl) (finW _ (weak_nlB (o := 64) (k := 4) 3 rfl rfl) ?_)))
    exact fin [] (by decide) rfl rfl rfl ⟨rfl, rfl⟩
  rw [if_neg (by simpa using c2)] at hR
  rw [← hR]
  simp [RE, SSR, staC, c2]
  exact fin [] (by decide) rfl rfl rfl ⟨rfl, rfl⟩

end Go.Proofs.YtejjhgdnmknejaaGreatDoor

namespace Go.Proofs.YtejjhgdnmknejaaGreatDoor
open Go Go.EW
set_option linter.unusedSimpArgs false
set_option linter.unusedVariables false

@[simp] def l_Rholds_1 (_ : Unit) : List EOp := [⟨0, (some 3), none, (.q (.box 31 (.t 0))), []⟩, ⟨1, (some 4), none, (.q (.box 35 (.t 1))), []⟩, ⟨2, (some 6), none, (.q (.mov (.k (.bool false)))), []⟩]
@[simp] def b_Rholds_2 (_ : Unit) : EB := reg0 (hid l_Rholds_1) 3
@[simp] def l_Rholds_3 (_ : Unit) : List EOp := [⟨0, (some 10), none, (.q (.lda 81 (.t 3))), []⟩, ⟨1, (some 11), none, (.q (.mov (.t 2))), []⟩, ⟨2, (some 12), none, (.call 45 [(.t 10), (.t 11)]), []⟩, ⟨3, (some 7), none, (.q (.alloc 120 [(.int .i64 0), (.int .i64 0), (.slice none 0 0)])), []⟩, ⟨4, none, none, (.fz (.sto 3 (.t 7) (.t 12))), []⟩]
@[simp] def b_Rholds_4 (_ : Unit) : EB := reg0 (hid l_Rholds_3) 5
@[simp] def l_Rholds_5 (_ : Unit) : List EOp := [⟨0, (some 8), none, (.q (.mov (.k (.int .i64 0)))), []⟩]
@[simp] def b_Rholds_6 (_ : Unit) : EB := reg0 (hid l_Rholds_5) 1
@[simp] def l_Rholds_7 (_ : Unit) : List EOp := [⟨0, (some 13), none, (.q (.mov (.t 8))), []⟩, ⟨1, (some 14), none, (.q (.fad 4 (.t 4))), []⟩, ⟨2, (some 15), none, (.q (.ldc (.t 14))), []⟩, ⟨3, (some 16), none, (.q (.len (.t 15))), []⟩, ⟨4, (some 17), none, (.q (.bin .lss (.t 13) (.t 16))), []⟩]
@[simp] def b_Rholds_8 (_ : Unit) : EB := reg0 (hid l_Rholds_7) 5
@[simp] def b_Rholds_9 (_ : Unit) : EB := .cond (.t 17) .skip (.exit 0)
@[simp] def b_Rholds_10 (_ : Unit) : EB := .seq (hid b_Rholds_8) (hid b_Rholds_9)
@[simp] def l_Rholds_12 (_ : Unit) : List EOp := [⟨6, none, none, (.fz (.sto 3 (.t 9) (.t 24))), []⟩]
@[simp] def l_Rholds_11 (_ : Unit) : List EOp := ⟨0, (some 20), none, (.q (.fad 4 (.t 4))), []⟩ :: ⟨1, (some 21), none, (.q (.ldc (.t 20))), []⟩ :: ⟨2, (some 22), none, (.q (.mov (.t 8))), []⟩ :: ⟨3, (some 23), none, (.q (.isl 3 (.t 21) (.t 22))), []⟩ :: ⟨4, (some 24), none, (.q (.lda 3 (.t 23))), []⟩ :: ⟨5, (some 9), none, (.q (.alloc 120 [(.int .i64 0), (.int .i64 0), (.slice none 0 0)])), []⟩ :: hid l_Rholds_12
@[simp] def b_Rholds_13 (_ : Unit) : EB := reg0 (hid l_Rholds_11) 7
@[simp] def l_Rholds_22 (_ : Unit) : List EOp := [⟨48, (some 73), (some (64, true)), (.q (.bin .eql (.t 68) (.t 72))), []⟩, ⟨49, (some 74), none, (.q (.pick (.t 64) (.t 73) (.k (.bool false)))), []⟩]
@[simp] def l_Rholds_21 (_ : Unit) : List EOp := ⟨42, (some 67), (some (64, true)), (.q (.isl 1 (.t 66) (.k (.int .i64 2)))), []⟩ :: ⟨43, (some 68), (some (64, true)), (.q (.ldc (.t 67))), []⟩ :: ⟨44, (some 69), (some (64, true)), (.q (.fad 2 (.t 7))), []⟩ :: ⟨45, (some 70), (some (64, true)), (.q (.ldc (.t 69))), []⟩ :: ⟨46, (some 71), (some (64, true)), (.q (.isl 1 (.t 70) (.k (.int .i64 2)))), []⟩ :: ⟨47, (some 72), (some (64, true)), (.q (.ldc (.t 71))), []⟩ :: hid l_Rholds_22
@[simp] def l_Rholds_20 (_ : Unit) : List EOp := ⟨36, (some 61), (some (53, true)), (.q (.ldc (.t 60))), []⟩ :: ⟨37, (some 62), (some (53, true)), (.q (.bin .eql (.t 57) (.t 61))), []⟩ :: ⟨38, (some 63), none, (.q (.pick (.t 53) (.t 62) (.k (.bool false)))), []⟩ :: ⟨39, (some 64), none, (.q (.mov (.t 63))), []⟩ :: ⟨40, (some 65), (some (64, true)), (.q (.fad 2 (.t 9))), []⟩ :: ⟨41, (some 66), (some (64, true)), (.q (.ldc (.t 65))), []⟩ :: hid l_Rholds_21
@[simp] def l_Rholds_19 (_ : Unit) : List EOp := ⟨30, (some 55), (some (53, true)), (.q (.ldc (.t 54))), []⟩ :: ⟨31, (some 56), (some (53, true)), (.q (.isl 1 (.t 55) (.k (.int .i64 1)))), []⟩ :: ⟨32, (some 57), (some (53, true)), (.q (.ldc (.t 56))), []⟩ :: ⟨33, (some 58), (some (53, true)), (.q (.fad 2 (.t 7))), []⟩ :: ⟨34, (some 59), (some (53, true)), (.q (.ldc (.t 58))), []⟩ :: ⟨35, (some 60), (some (53, true)), (.q (.isl 1 (.t 59) (.k (.int .i64 1)))), []⟩ :: hid l_Rholds_20
@[simp] def l_Rholds_18 (_ : Unit) : List EOp := ⟨24, (some 49), (some (42, true)), (.q (.isl 1 (.t 48) (.k (.int .i64 0)))), []⟩ :: ⟨25, (some 50), (some (42, true)), (.q (.ldc (.t 49))), []⟩ :: ⟨26, (some 51), (some (42, true)), (.q (.bin .eql (.t 46) (.t 50))), []⟩ :: ⟨27, (some 52), none, (.q (.pick (.t 42) (.t 51) (.k (.bool false)))), []⟩ :: ⟨28, (some 53), none, (.q (.mov (.t 52))), []⟩ :: ⟨29, (some 54), (some (53, true)), (.q (.fad 2 (.t 9))), []⟩ :: hid l_Rholds_19
@[simp] def l_Rholds_17 (_ : Unit) : List EOp := ⟨18, (some 43), (some (42, true)), (.q (.fad 2 (.t 9))), []⟩ :: ⟨19, (some 44), (some (42, true)), (.q (.ldc (.t 43))), []⟩ :: ⟨20, (some 45), (some (42, true)), (.q (.isl 1 (.t 44) (.k (.int .i64 0)))), []⟩ :: ⟨21, (some 46), (some (42, true)), (.q (.ldc (.t 45))), []⟩ :: ⟨22, (some 47), (some (42, true)), (.q (.fad 2 (.t 7))), []⟩ :: ⟨23, (some 48), (some (42, true)), (.q (.ldc (.t 47))), []⟩ :: hid l_Rholds_18
@[simp] def l_Rholds_16 (_ : Unit) : List EOp := ⟨12, (some 37), (some (36, true)), (.q (.fad 2 (.t 9))), []⟩ :: ⟨13, (some 38), (some (36, true)), (.q (.ldc (.t 37))), []⟩ :: ⟨14, (some 39), (some (36, true)), (.q (.len (.t 38))), []⟩ :: ⟨15, (some 40), (some (36, true)), (.q (.bin .eql (.t 39) (.k (.int .i64 3)))), []⟩ :: ⟨16, (some 41), none, (.q (.pick (.t 36) (.t 40) (.k (.bool false)))), []⟩ :: ⟨17, (some 42), none, (.q (.mov (.t 41))), []⟩ :: hid l_Rholds_17
@[simp] def l_Rholds_15 (_ : Unit) : List EOp := ⟨6, (some 31), (some (29, true)), (.q (.ldc (.t 30))), []⟩ :: ⟨7, (some 32), (some (29, true)), (.q (.fad 1 (.t 7))), []⟩ :: ⟨8, (some 33), (some (29, true)), (.q (.ldc (.t 32))), []⟩ :: ⟨9, (some 34), (some (29, true)), (.q (.bin .eql (.t 31) (.t 33))), []⟩ :: ⟨10, (some 35), none, (.q (.pick (.t 29) (.t 34) (.k (.bool false)))), []⟩ :: ⟨11, (some 36), none, (.q (.mov (.t 35))), []⟩ :: hid l_Rholds_16
@[simp] def l_Rholds_14 (_ : Unit) : List EOp := ⟨0, (some 25), none, (.q (.fad 0 (.t 9))), []⟩ :: ⟨1, (some 26), none, (.q (.ldc (.t 25))), []⟩ :: ⟨2, (some 27), none, (.q (.mov (.t 2))), []⟩ :: ⟨3, (some 28), none, (.q (.bin .eql (.t 26) (.t 27))), []⟩ :: ⟨4, (some 29), none, (.q (.mov (.t 28))), []⟩ :: ⟨5, (some 30), (some (29, true)), (.q (.fad 1 (.t 9))), []⟩ :: hid l_Rholds_15
@[simp] def b_Rholds_23 (_ : Unit) : EB := reg0 (hid l_Rholds_14) 50
@[simp] def l_Rholds_24 (_ : Unit) : List EOp := [⟨0, (some 6), none, (.q (.mov (.k (.bool true)))), []⟩]
@[simp] def b_Rholds_25 (_ : Unit) : EB := reg0 (hid l_Rholds_24) 1
@[simp] def b_Rholds_26 (_ : Unit) : EB := .seq (hid b_Rholds_25) .ret
@[simp] def b_Rholds_27 (_ : Unit) : EB := .cond (.t 74) (hid b_Rholds_26) .skip
@[simp] def b_Rholds_28 (_ : Unit) : EB := .seq (hid b_Rholds_23) (hid b_Rholds_27)
@[simp] def b_Rholds_29 (_ : Unit) : EB := .seq (hid b_Rholds_13) (hid b_Rholds_28)
@[simp] def b_Rholds_30 (_ : Unit) : EB := .block 1 (hid b_Rholds_29)
@[simp] def l_Rholds_31 (_ : Unit) : List EOp := [⟨0, (some 18), none, (.q (.mov (.t 8))), []⟩, ⟨1, (some 19), none, (.q (.bin .add (.t 18) (.k (.int .i64 1)))), []⟩, ⟨2, (some 8), none, (.q (.mov (.t 19))), []⟩]
@[simp] def b_Rholds_32 (_ : Unit) : EB := reg0 (hid l_Rholds_31) 3
@[simp] def b_Rholds_33 (_ : Unit) : EB := .seq (hid b_Rholds_30) (hid b_Rholds_32)
@[simp] def b_Rholds_34 (_ : Unit) : EB := .seq (hid b_Rholds_10) (hid b_Rholds_33)
@[simp] def b_Rholds_35 (_ : Unit) : EB := .loop (hid b_Rholds_34)
@[simp] def b_Rholds_36 (_ : Unit) : EB := .block 0 (hid b_Rholds_35)
@[simp] def b_Rholds_37 (_ : Unit) : EB := .seq (hid b_Rholds_6) (hid b_Rholds_36)
@[simp] def l_Rholds_38 (_ : Unit) : List EOp := [⟨0, (some 6), none, (.q (.mov (.k (.bool false)))), []⟩]
@[simp] def b_Rholds_39 (_ : Unit) : EB := reg0 (hid l_Rholds_38) 1
@[simp] def b_Rholds_40 (_ : Unit) : EB := .seq (hid b_Rholds_39) .ret
@[simp] def b_Rholds_41 (_ : Unit) : EB := .seq (hid b_Rholds_37) (hid b_Rholds_40)
@[simp] def b_Rholds_42 (_ : Unit) : EB := .seq (hid b_Rholds_4) (hid b_Rholds_41)
@[simp] def b_Rholds_43 (_ : Unit) : EB := .seq (hid b_Rholds_2) (hid b_Rholds_42)
def c_Rholds : EB × List QOp × Nat := ((hid b_Rholds_43), [(.mov (.t 6))], 75)
theorem k_Rholds : cfun Tryz.prog 54 = some c_Rholds := by kernel_rfl


theorem hit_step (l : List Hol) (i : Nat) (h : Hol) (f : Hol → Bool) (hg : l[i]? = some h) (hp : (l.take i).any f = false) (hf : f h = false) : (l.take (i + 1)).any f = false := by
  rw [List.take_add_one, hg]
  simp [List.any_append, hp, hf]
theorem hit_any (l : List Hol) (i : Nat) (h : Hol) (f : Hol → Bool) (hg : l[i]? = some h) (hf : f h = true) : l.any f = true := List.any_eq_true.2 ⟨h, List.mem_of_getElem? hg, hf⟩

structure HoI (l : List Hol) (f : Hol → Bool) (i : Nat) : Prop where
  le : i ≤ l.length
  no : (l.take i).any f = false
set_option maxRecDepth 8000 in
set_option maxHeartbeats 8000000 in
theorem Rholds_ok (r : Rte) (s : Sta) (id' : Int) (hr : r.ok) (hs : s.ok) (d1 : r.a ≠ r.b) (d2 : r.b ≠ r.c) (d3 : r.a ≠ r.c) : ECalls Tryz.prog 54 [RVv r, SV s, I .i64 id'] [] fun y H' => H' = [] ∧ y = .lit (.bool (hasV r s id')) := by
  obtain ⟨⟨h1, _⟩, ⟨h2, _⟩, _⟩ := id hr
  obtain ⟨ok1, ok2, ok3, ok4, ok5, ok6, ok7⟩ := id hs
  have l0 := rteC_len h1 h2
  have t0 := rt_take h1 h2
  have hho := Rhold_ok r id' hr d1 d2 d3
  obtain ⟨K, hK⟩ : ∃ K, srt [r.a, r.b, r.c] = K := ⟨_, rfl⟩
  have hKl : K.length = 3 := by rw [← hK, srt_len]; rfl
  have hhv : holC (holV r id') = [iC id', iC r.am, .fz (.sl 1 (intv K))] := by rw [← hK]; rfl
  rw [hhv] at hho
  have hhas : hasV r s id' = s.holds.any (hitV id' r.am K) := by rw [← hK]; rfl
  rw [hhas]
  refine ecalls k_Rholds ?_
  simp [c_Rholds, RVv, SV, staC, I, l0, t0, iC]
  refine call0 hho (by simp [RVv, I]) ?_
  rintro y H' ⟨rfl, rfl⟩
  refine ⟨.inl (by simp), le_ok rfl, ?_⟩
  simp [I, iC]
  refine eloop (α := Nat) (HoI s.holds (hitV id' r.am K)) (fun i => s.holds.length - i)
    (fun i => [.any, .any, I .i64 id', .v (.c (.ptr 0 0)), .v (.c (.ptr 1 0)), .any, .any, .v (.c (.ptr 2 0)), I .i64 i, .any, .any, .any, .any, .any, .any, .any, .any, .any, .any, .any, .any, .any, .any, .any, .any, .any, .any, .any, .any, .any, .any, .any, .any, .any, .any, .any, .any, .any, .any, .any, .any, .any, .any, .any, .any, .any, .any, .any, .any, .any, .any, .any, .any, .any, .any, .any, .any, .any, .any, .any, .any, .any, .any, .any, .any, .any, .any, .any, .any, .any, .any, .any, .any, .any, .any]) (fun _ => [some (.box 31 (rteC r)), some (.box 35 (staC s)), some (.box 120 [iC id', iC r.am, .fz (.sl 1 (intv K))])]) 0 [0, 16, 96]
    ⟨Nat.zero_le _, rfl⟩ (by simp [I]) (by simp [staC, iC]) (by simp) (by simp) (by simp) ?_
  rintro i ⟨hi, hno⟩
  simp [I, iC, staC]
  refine alt (fun hlt => ?_) (fun hlt => ?_)
  · have hln : i < s.holds.length := by omega
    obtain ⟨h, hc⟩ : ∃ h, s.holds[i]? = some h := ⟨s.holds[i], by simp [hln]⟩
    have hge : (holv s.holds)[i]'(by simp [hln]) = holF h := by
      have e := holv_get hc
      rw [List.getElem?_eq_getElem (by simp [hln])] at e
      exact Option.some.inj e
    have hkl := (ok5 h (List.mem_of_getElem? hc)).2.2.2
    have w4 : IntKind.i64.wrap ((i : Int) + 1) = ((i + 1 : Nat) : Int) := wrap_i64 (by omega) (by omega)
    obtain ⟨hi', ha', hk'⟩ := h
    dsimp only at hkl
    by_cases c1 : hi' = id'
    rotate_left
    · simp [I, iC, hln, hge, holF, c1, w4, -Int.natCast_add]
      exact round (i + 1) [0, 1, 2] ⟨by omega, hit_step _ _ _ _ hc hno (by simp [hitV, c1])⟩ (by omega) (by simp [I]) (by simp [staC, iC]) (by simp) (by simp) (by simp)
    by_cases c2 : ha' = r.am
    rotate_left
    · simp [I, iC, hln, hge, holF, c1, c2, w4, -Int.natCast_add]
      exact round (i + 1) [0, 1, 2] ⟨by omega, hit_step _ _ _ _ hc hno (by simp [hitV, c2])⟩ (by omega) (by simp [I]) (by simp [staC, iC]) (by simp) (by simp) (by simp)
    by_cases c3 : hk'.length = 3
    rotate_left
    · have c3i : ¬ (hk'.length : Int) = 3 := by omega
      have c3k : ¬ hk' = K := fun e => c3 (by rw [e, hKl])
      simp [I, iC, hln, hge, holF, c1, c2, c3, c3i, w4, -Int.natCast_add]
      exact round (i + 1) [0, 1, 2] ⟨by omega, hit_step _ _ _ _ hc hno (by simp [hitV, c3k])⟩ (by omega) (by simp [I]) (by simp [staC, iC]) (by simp) (by simp) (by simp)
    obtain ⟨x, y, z, rfl⟩ : ∃ x y z, hk' = [x, y, z] := by
      match hk', c3 with
      | [x, y, z], _ => exact ⟨x, y, z, rfl⟩
    obtain ⟨k0, k1, k2, rfl⟩ : ∃ x y z, K = [x, y, z] := by
      match K, hKl with
      | [x, y, z], _ => exact ⟨x, y, z, rfl⟩
    by_cases c4 : x = k0
    rotate_left
    · simp [I, iC, hln, hge, holF, intv, c1, c2, c4, w4, -Int.natCast_add]
      exact round (i + 1) [0, 1, 2] ⟨by omega, hit_step _ _ _ _ hc hno (by simp [hitV, c4])⟩ (by omega) (by simp [I]) (by simp [staC, iC, intv]) (by simp) (by simp) (by simp)
    by_cases c5 : y = k1
    rotate_left
    · simp [I, iC, hln, hge, holF, intv, c1, c2, c4, c5, w4, -Int.natCast_add]
      exact round (i + 1) [0, 1, 2] ⟨by omega, hit_step _ _ _ _ hc hno (by simp [hitV, c5])⟩ (by omega) (by simp [I]) (by simp [staC, iC, intv]) (by simp) (by simp) (by simp)
    by_cases c6 : z = k2
    rotate_left
    · simp [I, iC, hln, hge, holF, intv, c1, c2, c4, c5, c6, w4, -Int.natCast_add]
      exact round (i + 1) [0, 1, 2] ⟨by omega, hit_step _ _ _ _ hc hno (by simp [hitV, c6])⟩ (by omega) (by simp [I]) (by simp [staC, iC, intv]) (by simp) (by simp) (by simp)
    have hyes := hit_any s.holds i _ (hitV id' r.am [k0, k1, k2]) hc (by simp [hitV, c1, c2, c4, c5, c6])
    rw [hyes]
    simp [I, iC, hln, hge, holF, intv, c1, c2, c4, c5, c6]
    exact fin [] (by decide) rfl rfl rfl ⟨rfl, rfl⟩
  · have hall : s.holds.any (hitV id' r.am K) = false := by
      rw [List.take_of_length_le (by omega)] at hno
      exact hno
    rw [hall]
    simp
    exact fin [] (by decide) rfl rfl rfl ⟨rfl, rfl⟩

end Go.Proofs.YtejjhgdnmknejaaGreatDoor

namespace Go.Proofs.YtejjhgdnmknejaaGreatDoor
open Go Go.EW
set_option linter.unusedSimpArgs false
set_option linter.unusedVariables false

@[simp] def l_RClose_1 (_ : Unit) : List EOp := [⟨0, (some 5), none, (.q (.box 31 (.t 0))), []⟩, ⟨1, (some 8), none, (.q (.box 35 (.t 3))), []⟩, ⟨2, (some 9), none, (.q (.box 35 (.t 4))), []⟩, ⟨3, (some 10), none, (.q (.alloc 35 [(.int .i64 0), (.int .i64 0), (.int .i64 0), (.slice none 0 0), (.slice none 0 0)])), []⟩, ⟨4, (some 11), none, (.q (.alloc 35 [(.int .i64 0), (.int .i64 0), (.int .i64 0), (.slice none 0 0), (.slice none 0 0)])), []⟩, ⟨5, (some 12), none, (.q (.mov (.k (.int .i64 0)))), []⟩]
@[simp] def b_RClose_2 (_ : Unit) : EB := reg0 (hid l_RClose_1) 6
@[simp] def l_RClose_3 (_ : Unit) : List EOp := [⟨0, (some 18), none, (.q (.lda 81 (.t 5))), []⟩, ⟨1, (some 19), none, (.call 16 [(.t 18)]), []⟩, ⟨2, (some 13), none, (.q (.mov (.t 19))), []⟩]
@[simp] def b_RClose_4 (_ : Unit) : EB := reg0 (hid l_RClose_3) 3
@[simp] def l_RClose_5 (_ : Unit) : List EOp := [⟨0, (some 20), none, (.q (.mov (.t 13))), []⟩, ⟨1, (some 21), none, (.q (.bin .neq (.t 20) (.k (.int .i64 0)))), []⟩]
@[simp] def b_RClose_6 (_ : Unit) : EB := reg0 (hid l_RClose_5) 2
@[simp] def l_RClose_7 (_ : Unit) : List EOp := [⟨0, (some 22), none, (.q (.build [(.int .i64 0), (.int .i64 0), (.int .i64 0), (.slice none 0 0), (.slice none 0 0)] [])), []⟩, ⟨1, (some 23), none, (.q (.build [(.int .i64 0), (.int .i64 0), (.int .i64 0), (.slice none 0 0), (.slice none 0 0)] [])), []⟩, ⟨2, (some 24), none, (.q (.mov (.t 13))), []⟩, ⟨3, none, none, (.fz (.sto 5 (.t 10) (.t 22))), []⟩, ⟨4, none, none, (.fz (.sto 5 (.t 11) (.t 23))), []⟩, ⟨5, (some 12), none, (.q (.mov (.t 24))), []⟩]
@[simp] def b_RClose_8 (_ : Unit) : EB := reg0 (hid l_RClose_7) 6
@[simp] def b_RClose_9 (_ : Unit) : EB := .seq (hid b_RClose_8) .ret
@[simp] def b_RClose_10 (_ : Unit) : EB := .cond (.t 21) (hid b_RClose_9) .skip
@[simp] def b_RClose_11 (_ : Unit) : EB := .seq (hid b_RClose_6) (hid b_RClose_10)
@[simp] def l_RClose_13 (_ : Unit) : List EOp := [⟨6, (some 31), (some (27, false)), (.q (.bin .gtr (.t 28) (.t 30))), []⟩, ⟨7, (some 32), none, (.q (.pick (.t 27) (.k (.bool true)) (.t 31))), []⟩]
@[simp] def l_RClose_12 (_ : Unit) : List EOp := ⟨0, (some 25), none, (.q (.mov (.t 2))), []⟩ :: ⟨1, (some 26), none, (.q (.bin .lss (.t 25) (.k (.int .i64 0)))), []⟩ :: ⟨2, (some 27), none, (.q (.mov (.t 26))), []⟩ :: ⟨3, (some 28), (some (27, false)), (.q (.mov (.t 2))), []⟩ :: ⟨4, (some 29), (some (27, false)), (.q (.fad 79 (.t 5))), []⟩ :: ⟨5, (some 30), (some (27, false)), (.q (.ldc (.t 29))), []⟩ :: hid l_RClose_13
@[simp] def b_RClose_14 (_ : Unit) : EB := reg0 (hid l_RClose_12) 8
@[simp] def l_RClose_15 (_ : Unit) : List EOp := [⟨0, (some 33), none, (.q (.build [(.int .i64 0), (.int .i64 0), (.int .i64 0), (.slice none 0 0), (.slice none 0 0)] [])), []⟩, ⟨1, (some 34), none, (.q (.build [(.int .i64 0), (.int .i64 0), (.int .i64 0), (.slice none 0 0), (.slice none 0 0)] [])), []⟩, ⟨2, none, none, (.fz (.sto 5 (.t 10) (.t 33))), []⟩, ⟨3, none, none, (.fz (.sto 5 (.t 11) (.t 34))), []⟩, ⟨4, (some 12), none, (.q (.mov (.k (.int .i64 20)))), []⟩]
@[simp] def b_RClose_16 (_ : Unit) : EB := reg0 (hid l_RClose_15) 5
@[simp] def b_RClose_17 (_ : Unit) : EB := .seq (hid b_RClose_16) .ret
@[simp] def b_RClose_18 (_ : Unit) : EB := .cond (.t 32) (hid b_RClose_17) .skip
@[simp] def b_RClose_19 (_ : Unit) : EB := .seq (hid b_RClose_14) (hid b_RClose_18)
@[simp] def l_RClose_21 (_ : Unit) : List EOp := [⟨6, (some 41), (some (40, false)), (.q (.lda 81 (.t 5))), []⟩, ⟨7, (some 42), (some (40, false)), (.q (.lda 5 (.t 9))), []⟩, ⟨8, (some 43), (some (40, false)), (.q (.mov (.t 1))), []⟩, ⟨9, (some 44), (some (40, false)), (.call 54 [(.t 41), (.t 42), (.t 43)]), []⟩, ⟨10, (some 45), (some (40, false)), (.q (.un .not (.t 44))), []⟩, ⟨11, (some 46), none, (.q (.pick (.t 40) (.k (.bool true)) (.t 45))), []⟩]
@[simp] def l_RClose_20 (_ : Unit) : List EOp := ⟨0, (some 35), none, (.q (.lda 81 (.t 5))), []⟩ :: ⟨1, (some 36), none, (.q (.lda 5 (.t 8))), []⟩ :: ⟨2, (some 37), none, (.q (.mov (.t 1))), []⟩ :: ⟨3, (some 38), none, (.call 54 [(.t 35), (.t 36), (.t 37)]), []⟩ :: ⟨4, (some 39), none, (.q (.un .not (.t 38))), []⟩ :: ⟨5, (some 40), none, (.q (.mov (.t 39))), []⟩ :: hid l_RClose_21
@[simp] def b_RClose_22 (_ : Unit) : EB := reg0 (hid l_RClose_20) 12
@[simp] def l_RClose_23 (_ : Unit) : List EOp := [⟨0, (some 47), none, (.q (.build [(.int .i64 0), (.int .i64 0), (.int .i64 0), (.slice none 0 0), (.slice none 0 0)] [])), []⟩, ⟨1, (some 48), none, (.q (.build [(.int .i64 0), (.int .i64 0), (.int .i64 0), (.slice none 0 0), (.slice none 0 0)] [])), []⟩, ⟨2, none, none, (.fz (.sto 5 (.t 10) (.t 47))), []⟩, ⟨3, none, none, (.fz (.sto 5 (.t 11) (.t 48))), []⟩, ⟨4, (some 12), none, (.q (.mov (.k (.int .i64 8)))), []⟩]
@[simp] def b_RClose_24 (_ : Unit) : EB := reg0 (hid l_RClose_23) 5
@[simp] def b_RClose_25 (_ : Unit) : EB := .seq (hid b_RClose_24) .ret
@[simp] def b_RClose_26 (_ : Unit) : EB := .cond (.t 46) (hid b_RClose_25) .skip
@[simp] def b_RClose_27 (_ : Unit) : EB := .seq (hid b_RClose_22) (hid b_RClose_26)
@[simp] def l_RClose_29 (_ : Unit) : List EOp := [⟨6, (some 55), none, (.q (.mov (.t 2))), []⟩, ⟨7, (some 56), none, (.q (.bin .sub (.t 54) (.t 55))), []⟩, ⟨8, (some 14), none, (.q (.mov (.t 52))), []⟩, ⟨9, (some 15), none, (.q (.mov (.t 56))), []⟩]
@[simp] def l_RClose_28 (_ : Unit) : List EOp := ⟨0, (some 49), none, (.q (.fad 79 (.t 5))), []⟩ :: ⟨1, (some 50), none, (.q (.ldc (.t 49))), []⟩ :: ⟨2, (some 51), none, (.q (.mov (.t 2))), []⟩ :: ⟨3, (some 52), none, (.q (.bin .sub (.t 50) (.t 51))), []⟩ :: ⟨4, (some 53), none, (.q (.fad 79 (.t 5))), []⟩ :: ⟨5, (some 54), none, (.q (.ldc (.t 53))), []⟩ :: hid l_RClose_29
@[simp] def b_RClose_30 (_ : Unit) : EB := reg0 (hid l_RClose_28) 10
@[simp] def l_RClose_32 (_ : Unit) : List EOp := [⟨6, (some 63), none, (.q (.ldc (.t 62))), []⟩, ⟨7, (some 64), none, (.q (.bin .eql (.t 60) (.t 63))), []⟩]
@[simp] def l_RClose_31 (_ : Unit) : List EOp := ⟨0, (some 57), none, (.q (.fad 0 (.t 5))), []⟩ :: ⟨1, (some 58), none, (.q (.fad 34 (.t 57))), []⟩ :: ⟨2, (some 59), none, (.q (.iad 2 1 (.t 58) (.k (.int .i64 0)))), []⟩ :: ⟨3, (some 60), none, (.q (.ldc (.t 59))), []⟩ :: ⟨4, (some 61), none, (.q (.fad 76 (.t 5))), []⟩ :: ⟨5, (some 62), none, (.q (.iad 3 1 (.t 61) (.k (.int .i64 1)))), []⟩ :: hid l_RClose_32
@[simp] def b_RClose_33 (_ : Unit) : EB := reg0 (hid l_RClose_31) 8
@[simp] def l_RClose_34 (_ : Unit) : List EOp := [⟨0, (some 65), none, (.q (.mov (.t 2))), []⟩, ⟨1, (some 14), none, (.q (.mov (.t 65))), []⟩]
@[simp] def b_RClose_35 (_ : Unit) : EB := reg0 (hid l_RClose_34) 2
@[simp] def b_RClose_36 (_ : Unit) : EB := .cond (.t 64) (hid b_RClose_35) .skip
@[simp] def b_RClose_37 (_ : Unit) : EB := .seq (hid b_RClose_33) (hid b_RClose_36)
@[simp] def l_RClose_39 (_ : Unit) : List EOp := [⟨6, (some 72), none, (.q (.ldc (.t 71))), []⟩, ⟨7, (some 73), none, (.q (.bin .eql (.t 69) (.t 72))), []⟩]
@[simp] def l_RClose_38 (_ : Unit) : List EOp := ⟨0, (some 66), none, (.q (.fad 38 (.t 5))), []⟩ :: ⟨1, (some 67), none, (.q (.fad 34 (.t 66))), []⟩ :: ⟨2, (some 68), none, (.q (.iad 2 1 (.t 67) (.k (.int .i64 0)))), []⟩ :: ⟨3, (some 69), none, (.q (.ldc (.t 68))), []⟩ :: ⟨4, (some 70), none, (.q (.fad 76 (.t 5))), []⟩ :: ⟨5, (some 71), none, (.q (.iad 3 1 (.t 70) (.k (.int .i64 2)))), []⟩ :: hid l_RClose_39
@[simp] def b_RClose_40 (_ : Unit) : EB := reg0 (hid l_RClose_38) 8
@[simp] def l_RClose_41 (_ : Unit) : List EOp := [⟨0, (some 74), none, (.q (.mov (.t 2))), []⟩, ⟨1, (some 15), none, (.q (.mov (.t 74))), []⟩]
@[simp] def b_RClose_42 (_ : Unit) : EB := reg0 (hid l_RClose_41) 2
@[simp] def b_RClose_43 (_ : Unit) : EB := .cond (.t 73) (hid b_RClose_42) .skip
@[simp] def b_RClose_44 (_ : Unit) : EB := .seq (hid b_RClose_40) (hid b_RClose_43)
@[simp] def l_RClose_46 (_ : Unit) : List EOp := [⟨6, (some 81), none, (.q (.ext 1 (.t 75))), []⟩, ⟨7, (some 16), none, (.q (.alloc 35 [(.int .i64 0), (.int .i64 0), (.int .i64 0), (.slice none 0 0), (.slice none 0 0)])), []⟩, ⟨8, none, none, (.fz (.sto 5 (.t 16) (.t 80))), []⟩, ⟨9, (some 13), none, (.q (.mov (.t 81))), []⟩]
@[simp] def l_RClose_45 (_ : Unit) : List EOp := ⟨0, (some 76), none, (.q (.lda 5 (.t 8))), []⟩ :: ⟨1, (some 77), none, (.q (.mov (.t 1))), []⟩ :: ⟨2, (some 78), none, (.q (.mov (.t 14))), []⟩ :: ⟨3, (some 79), none, (.call 55 [(.t 76), (.t 77), (.t 78)]), []⟩ :: ⟨4, (some 75), none, (.q (.mov (.t 79))), []⟩ :: ⟨5, (some 80), none, (.q (.ext 0 (.t 75))), []⟩ :: hid l_RClose_46
@[simp] def b_RClose_47 (_ : Unit) : EB := reg0 (hid l_RClose_45) 10
@[simp] def l_RClose_48 (_ : Unit) : List EOp := [⟨0, (some 82), none, (.q (.mov (.t 13))), []⟩, ⟨1, (some 83), none, (.q (.bin .neq (.t 82) (.k (.int .i64 0)))), []⟩]
@[simp] def b_RClose_49 (_ : Unit) : EB := reg0 (hid l_RClose_48) 2
@[simp] def l_RClose_50 (_ : Unit) : List EOp := [⟨0, (some 84), none, (.q (.build [(.int .i64 0), (.int .i64 0), (.int .i64 0), (.slice none 0 0), (.slice none 0 0)] [])), []⟩, ⟨1, (some 85), none, (.q (.build [(.int .i64 0), (.int .i64 0), (.int .i64 0), (.slice none 0 0), (.slice none 0 0)] [])), []⟩, ⟨2, (some 86), none, (.q (.mov (.t 13))), []⟩, ⟨3, none, none, (.fz (.sto 5 (.t 10) (.t 84))), []⟩, ⟨4, none, none, (.fz (.sto 5 (.t 11) (.t 85))), []⟩, ⟨5, (some 12), none, (.q (.mov (.t 86))), []⟩]
@[simp] def b_RClose_51 (_ : Unit) : EB := reg0 (hid l_RClose_50) 6
@[simp] def b_RClose_52 (_ : Unit) : EB := .seq (hid b_RClose_51) .ret
@[simp] def b_RClose_53 (_ : Unit) : EB := .cond (.t 83) (hid b_RClose_52) .skip
@[simp] def b_RClose_54 (_ : Unit) : EB := .seq (hid b_RClose_49) (hid b_RClose_53)
@[simp] def l_RClose_56 (_ : Unit) : List EOp := [⟨6, (some 93), none, (.q (.ext 1 (.t 87))), []⟩, ⟨7, (some 17), none, (.q (.alloc 35 [(.int .i64 0), (.int .i64 0), (.int .i64 0), (.slice none 0 0), (.slice none 0 0)])), []⟩, ⟨8, none, none, (.fz (.sto 5 (.t 17) (.t 92))), []⟩, ⟨9, (some 13), none, (.q (.mov (.t 93))), []⟩]
@[simp] def l_RClose_55 (_ : Unit) : List EOp := ⟨0, (some 88), none, (.q (.lda 5 (.t 9))), []⟩ :: ⟨1, (some 89), none, (.q (.mov (.t 1))), []⟩ :: ⟨2, (some 90), none, (.q (.mov (.t 15))), []⟩ :: ⟨3, (some 91), none, (.call 55 [(.t 88), (.t 89), (.t 90)]), []⟩ :: ⟨4, (some 87), none, (.q (.mov (.t 91))), []⟩ :: ⟨5, (some 92), none, (.q (.ext 0 (.t 87))), []⟩ :: hid l_RClose_56
@[simp] def b_RClose_57 (_ : Unit) : EB := reg0 (hid l_RClose_55) 10
@[simp] def l_RClose_58 (_ : Unit) : List EOp := [⟨0, (some 94), none, (.q (.mov (.t 13))), []⟩, ⟨1, (some 95), none, (.q (.bin .neq (.t 94) (.k (.int .i64 0)))), []⟩]
@[simp] def b_RClose_59 (_ : Unit) : EB := reg0 (hid l_RClose_58) 2
@[simp] def l_RClose_60 (_ : Unit) : List EOp := [⟨0, (some 96), none, (.q (.build [(.int .i64 0), (.int .i64 0), (.int .i64 0), (.slice none 0 0), (.slice none 0 0)] [])), []⟩, ⟨1, (some 97), none, (.q (.build [(.int .i64 0), (.int .i64 0), (.int .i64 0), (.slice none 0 0), (.slice none 0 0)] [])), []⟩, ⟨2, (some 98), none, (.q (.mov (.t 13))), []⟩, ⟨3, none, none, (.fz (.sto 5 (.t 10) (.t 96))), []⟩, ⟨4, none, none, (.fz (.sto 5 (.t 11) (.t 97))), []⟩, ⟨5, (some 12), none, (.q (.mov (.t 98))), []⟩]
@[simp] def b_RClose_61 (_ : Unit) : EB := reg0 (hid l_RClose_60) 6
@[simp] def b_RClose_62 (_ : Unit) : EB := .seq (hid b_RClose_61) .ret
@[simp] def b_RClose_63 (_ : Unit) : EB := .cond (.t 95) (hid b_RClose_62) .skip
@[simp] def b_RClose_64 (_ : Unit) : EB := .seq (hid b_RClose_59) (hid b_RClose_63)
@[simp] def l_RClose_65 (_ : Unit) : List EOp := [⟨0, (some 99), none, (.q (.lda 5 (.t 16))), []⟩, ⟨1, (some 100), none, (.q (.lda 5 (.t 17))), []⟩, ⟨2, none, none, (.fz (.sto 5 (.t 10) (.t 99))), [1]⟩, ⟨3, none, none, (.fz (.sto 5 (.t 11) (.t 100))), []⟩, ⟨4, (some 12), none, (.q (.mov (.k (.int .i64 0)))), []⟩]
@[simp] def b_RClose_66 (_ : Unit) : EB := reg1 (hid l_RClose_65) 5
@[simp] def b_RClose_67 (_ : Unit) : EB := .seq (hid b_RClose_66) .ret
@[simp] def b_RClose_68 (_ : Unit) : EB := .seq (hid b_RClose_64) (hid b_RClose_67)
@[simp] def b_RClose_69 (_ : Unit) : EB := .seq (hid b_RClose_57) (hid b_RClose_68)
@[simp] def b_RClose_70 (_ : Unit) : EB := .seq (hid b_RClose_54) (hid b_RClose_69)
@[simp] def b_RClose_71 (_ : Unit) : EB := .seq (hid b_RClose_47) (hid b_RClose_70)
@[simp] def b_RClose_72 (_ : Unit) : EB := .seq (hid b_RClose_44) (hid b_RClose_71)
@[simp] def b_RClose_73 (_ : Unit) : EB := .seq (hid b_RClose_37) (hid b_RClose_72)
@[simp] def b_RClose_74 (_ : Unit) : EB := .seq (hid b_RClose_30) (hid b_RClose_73)
@[simp] def b_RClose_75 (_ : Unit) : EB := .seq (hid b_RClose_27) (hid b_RClose_74)
@[simp] def b_RClose_76 (_ : Unit) : EB := .seq (hid b_RClose_19) (hid b_RClose_75)
@[simp] def b_RClose_77 (_ : Unit) : EB := .seq (hid b_RClose_11) (hid b_RClose_76)
@[simp] def b_RClose_78 (_ : Unit) : EB := .seq (hid b_RClose_4) (hid b_RClose_77)
@[simp] def b_RClose_79 (_ : Unit) : EB := .seq (hid b_RClose_2) (hid b_RClose_78)
def c_RClose : EB × List QOp × Nat := ((hid b_RClose_79), [(.lda 5 (.t 10)), (.lda 5 (.t 11)), (.mov (.t 12))], 101)
theorem k_RClose : cfun Tryz.prog 18 = some c_RClose := by kernel_rfl


set_option maxHeartbeats 8000000 in
theorem RClose_ok (r : Rte) (id' last : Int) (s t : Sta) (hr : r.ok) (hi : i64 id') (hla : i64 last) (hs : s.ok) (ht : t.ok) : ECalls Tryz.prog 18 [RVv r, I .i64 id', I .i64 last, SV s, SV t] [] fun y H' => H' = [] ∧ y = SSR (cloS r id' last s t) := by
  obtain ⟨⟨h1, _⟩, ⟨h2, _⟩, _⟩ := id hr
  have l0 := rteC_len h1 h2
  have t0 := rt_take h1 h2
  have e77 := idx_of (rt_77 h1 h2) (by omega)
  have e78 := idx_of (rt_78 h1 h2) (by omega)
  have e79 := idx_of (rt_79 h1 h2) (by omega)
  refine ecalls k_RClose ?_
  simp [c_RClose, RVv, SV, staC, I, l0, t0, e77, e78, e79, iC]
  refine call0 (RCheckV_ok r hr) (by simp [RVv]) ?_
  rintro y H' ⟨rfl, rfl⟩
  refine ⟨.inl (by simp), le_ok rfl, ?_⟩
  by_cases c0 : chkV r = 0
  rotate_left
  · have hv : cloS r id' last s t = (zSta, zSta, chkV r) := by unfold cloS; rw [if_pos c0]
    rw [hv]
    simp [SSR, staC, zSta, c0, I]
    refine finW _ (weak_nlB (o := 48) (k := 3) 36 rfl rfl) (finW _ (weak_nlB (o := 48) (k := 4) 3 rfl rfl) (finW _ (weak_nlB (o := 64) (k := 3) 36 rfl rfl) (finW _ (weak_nlB (o := 64) (k := 4) 3 rfl rfl) ?_)))
    exact fin [] (by decide) rfl rfl rfl ⟨rfl, rfl⟩
  obtain ⟨_, _, _, d1, d2, d3, o1, o2⟩ := chk_prt c0
  have e34 : (rteC r)[34]? = some (iC r.f.k0) := by
    have h := rt_k1 h1
    have := congrArg (fun l : List EC => l[0]?) h
    simpa using this
  have e72 : (rteC r)[72]? = some (iC r.s.k0) := by
    have h := rt_k2 h1 h2
    have := congrArg (fun l : List EC => l[0]?) h
    simpa using this
  have e34 := idx_of e34 (by omega)
  have e72 := idx_of e72 (by omega)
  have hc : cloS r id' last s t = if last < 0 ∨ r.am < last then (zSta, zSta, 20)
      else if hasV r s id' = false ∨ hasV r t id' = false then (zSta, zSta, 8)
      else if (freV r s id' (sid r.f.k0 r.f.k1 r.a) last).2 ≠ 0 then (zSta, zSta, (freV r s id' (sid r.f.k0 r.f.k1 r.a) last).2)
      else if (freV r t id' (sid r.s.k0 r.s.k1 r.b) last).2 ≠ 0 then (zSta, zSta, (freV r t id' (sid r.s.k0 r.s.k1 r.b) last).2)
      else ((freV r s id' (sid r.f.k0 r.f.k1 r.a) last).1, (freV r t id' (sid r.s.k0 r.s.k1 r.b) last).1, 0) := by
    unfold cloS; rw [if_neg (by simpa using c0)]
  by_cases z0 : last < 0
  · have z0n : ¬ 0 ≤ last := by omega
    rw [hc, if_pos (.inl z0)]
    simp [c0, z0, z0n, SSR, staC, zSta, I, l0, t0, e34, e72, e77, e78, e79, iC]
    refine finW _ (weak_nlB (o := 48) (k := 3) 36 rfl rfl) (finW _ (weak_nlB (o := 48) (k := 4) 3 rfl rfl) (finW _ (weak_nlB (o := 64) (k := 3) 36 rfl rfl) (finW _ (weak_nlB (o := 64) (k := 4) 3 rfl rfl) ?_)))
    exact fin [] (by decide) rfl rfl rfl ⟨rfl, rfl⟩
  have z0p : 0 ≤ last := by omega
  by_cases z1 : r.am < last
  · have z1n : ¬ last ≤ r.am := by omega
    rw [hc, if_pos (.inr z1)]
    simp [c0, z0, z0p, z1, z1n, SSR, staC, zSta, I, l0, t0, e34, e72, e77, e78, e79, iC]
    refine finW _ (weak_nlB (o := 48) (k := 3) 36 rfl rfl) (finW _ (weak_nlB (o := 48) (k := 4) 3 rfl rfl) (finW _ (weak_nlB (o := 64) (k := 3) 36 rfl rfl) (finW _ (weak_nlB (o := 64) (k := 4) 3 rfl rfl) ?_)))
    exact fin [] (by decide) rfl rfl rfl ⟨rfl, rfl⟩
  have z1p : last ≤ r.am := by omega
  rw [hc, if_neg (by omega)]
  have ham := hr.2.2.2.2.2.1
  unfold i64 at ham
  obtain ⟨V, hV⟩ : ∃ V, (if hasV r s id' = false ∨ hasV r t id' = false then (zSta, zSta, 8)
      else if (freV r s id' (sid r.f.k0 r.f.k1 r.a) last).2 ≠ 0 then (zSta, zSta, (freV r s id' (sid r.f.k0 r.f.k1 r.a) last).2)
      else if (freV r t id' (sid r.s.k0 r.s.k1 r.b) last).2 ≠ 0 then (zSta, zSta, (freV r t id' (sid r.s.k0 r.s.k1 r.b) last).2)
      else ((freV r s id' (sid r.f.k0 r.f.k1 r.a) last).1, (freV r t id' (sid r.s.k0 r.s.k1 r.b) last).1, 0)) = V := ⟨_, rfl⟩
  rw [hV]
  simp [c0, z0, z0p, z1, z1p, I, l0, t0, e34, e72, e77, e78, e79, iC]
  refine call0 (Rholds_ok r s id' hr hs d1 d2 d3) (by simp [RVv, SV, staC, I]) ?_
  rintro y H' ⟨rfl, rfl⟩
  refine ⟨.inl (by simp), le_ok rfl, ?_⟩
  cases g1 : hasV r s id'
  · rw [if_pos (.inl g1)] at hV
    rw [← hV]
    simp [SSR, staC, zSta, I, l0, t0, e34, e72, e77, e78, e79, iC]
    refine finW _ (weak_nlB (o := 48) (k := 3) 36 rfl rfl) (finW _ (weak_nlB (o := 48) (k := 4) 3 rfl rfl) (finW _ (weak_nlB (o := 64) (k := 3) 36 rfl rfl) (finW _ (weak_nlB (o := 64) (k := 4) 3 rfl rfl) ?_)))
    exact fin [] (by decide) rfl rfl rfl ⟨rfl, rfl⟩
  simp [I, l0, t0, e34, e72, e77, e78, e79, iC]
  refine call0 (Rholds_ok r t id' hr ht d1 d2 d3) (by simp [RVv, SV, staC, I]) ?_
  rintro y H' ⟨rfl, rfl⟩
  refine ⟨.inl (by simp), le_ok rfl, ?_⟩
  cases g2 : hasV r t id'
  · rw [if_pos (.inr g2)] at hV
    rw [← hV]
    simp [SSR, staC, zSta, I, l0, t0, e34, e72, e77, e78, e79, iC]
    refine finW _ (weak_nlB (o := 48) (k := 3) 36 rfl rfl) (finW _ (weak_nlB (o := 48) (k := 4) 3 rfl rfl) (finW _ (weak_nlB (o := 64) (k := 3) 36 rfl rfl) (finW _ (weak_nlB (o := 64) (k := 4) 3 rfl rfl) ?_)))
    exact fin [] (by decide) rfl rfl rfl ⟨rfl, rfl⟩
  have wS : IntKind.i64.wrap (r.am - last) = r.am - last := wrap_i64 (by omega) (by omega)
  rw [if_neg (by rw [g1, g2]; simp)] at hV
  have p1 := of_decide_eq_true o1
  have p2 := of_decide_eq_true o2
  by_cases x1 : r.f.k0 = r.a
  · have y1 : ¬ r.f.k0 = r.b := by omega
    have n1 : freV r s id' (sid r.f.k0 r.f.k1 r.a) last = freS s id' (r.am - last) := by unfold freV sid; rw [if_pos x1, if_pos rfl]
    by_cases x2 : r.s.k0 = r.b
    · have y2 : ¬ r.s.k0 = r.c := by omega
      have n2 : freV r t id' (sid r.s.k0 r.s.k1 r.b) last = freS t id' (r.am - last) := by unfold freV sid; rw [if_pos x2, if_pos rfl]
      rw [n1, n2] at hV
      obtain ⟨A, hA⟩ : ∃ A, freS s id' (r.am - last) = A := ⟨_, rfl⟩
      obtain ⟨B, hB⟩ : ∃ B, freS t id' (r.am - last) = B := ⟨_, rfl⟩
      rw [hA, hB] at hV
      have f1 := RFree_ok s id' (r.am - last) hs hi (by unfold i64; omega)
      have f2 := RFree_ok t id' (r.am - last) ht hi (by unfold i64; omega)
      rw [hA] at f1
      rw [hB] at f2
      simp [y1, y2, wS, I, l0, t0, e34, e72, e77, e78, e79, iC]
      refine call0 f1 (by simp [SV, staC, I]) ?_
      rintro y H' ⟨rfl, rfl⟩
      refine ⟨.inl (by simp), le_ok rfl, ?_⟩
      by_cases k1 : A.2 = 0
      rotate_left
      · rw [if_pos k1] at hV
        rw [← hV]
        simp [RE, SSR, staC, zSta, k1, I, l0, t0, e34, e72, e77, e78, e79, iC]
        refine finW _ (weak_nlB (o := 48) (k := 3) 36 rfl rfl) (finW _ (weak_nlB (o := 48) (k := 4) 3 rfl rfl) (finW _ (weak_nlB (o := 64) (k := 3) 36 rfl rfl) (finW _ (weak_nlB (o := 64) (k := 4) 3 rfl rfl) ?_)))
        exact fin [] (by decide) rfl rfl rfl ⟨rfl, rfl⟩
      rw [if_neg (by simpa using k1)] at hV
      simp [RE, staC, k1, I, l0, t0, e34, e72, e77, e78, e79, iC]
      refine call0 f2 (by simp [SV, staC, I]) ?_
      rintro y H' ⟨rfl, rfl⟩
      refine ⟨.inl (by simp), le_ok rfl, ?_⟩
      by_cases k2 : B.2 = 0
      rotate_left
      · rw [if_pos k2] at hV
        rw [← hV]
        simp [RE, SSR, staC, zSta, k2, I, l0, t0, e34, e72, e77, e78, e79, iC]
        refine finW _ (weak_nlB (o := 48) (k := 3) 36 rfl rfl) (finW _ (weak_nlB (o := 48) (k := 4) 3 rfl rfl) (finW _ (weak_nlB (o := 64) (k := 3) 36 rfl rfl) (finW _ (weak_nlB (o := 64) (k := 4) 3 rfl rfl) ?_)))
        exact fin [] (by decide) rfl rfl rfl ⟨rfl, rfl⟩
      rw [if_neg (by simpa using k2)] at hV
      rw [← hV]
      simp [RE, SSR, staC, k2, I, l0, t0, e34, e72, e77, e78, e79, iC]
      exact fin [] (by decide) rfl rfl rfl ⟨rfl, rfl⟩
    · have y2 : r.s.k0 = r.c := by omega
      have x2' : r.s.k1 = r.b := by omega
      have n2 : freV r t id' (sid r.s.k0 r.s.k1 r.b) last = freS t id' last := by unfold freV sid; rw [if_neg x2, if_pos x2', if_neg (by omega)]
      rw [n1, n2] at hV
      obtain ⟨A, hA⟩ : ∃ A, freS s id' (r.am - last) = A := ⟨_, rfl⟩
      obtain ⟨B, hB⟩ : ∃ B, freS t id' last = B := ⟨_, rfl⟩
      rw [hA, hB] at hV
      have f1 := RFree_ok s id' (r.am - last) hs hi (by unfold i64; omega)
      have f2 := RFree_ok t id' last ht hi (by unfold i64; omega)
      rw [hA] at f1
      rw [hB] at f2
      simp [y1, y2, wS, I, l0, t0, e34, e72, e77, e78, e79, iC]
      refine call0 f1 (by simp [SV, staC, I]) ?_
      rintro y H' ⟨rfl, rfl⟩
      refine ⟨.inl (by simp), le_ok rfl, ?_⟩
      by_cases k1 : A.2 = 0
      rotate_left
      · rw [if_pos k1] at hV
        rw [← hV]
        simp [RE, SSR, staC, zSta, k1, I, l0, t0, e34, e72, e77, e78, e79, iC]
        refine finW _ (weak_nlB (o := 48) (k := 3) 36 rfl rfl) (finW _ (weak_nlB (o := 48) (k := 4) 3 rfl rfl) (finW _ (weak_nlB (o := 64) (k := 3) 36 rfl rfl) (finW _ (weak_nlB (o := 64) (k := 4) 3 rfl rfl) ?_)))
        exact fin [] (by decide) rfl rfl rfl ⟨rfl, rfl⟩
      rw [if_neg (by simpa using k1)] at hV
      simp [RE, staC, k1, I, l0, t0, e34, e72, e77, e78, e79, iC]
      refine call0 f2 (by simp [SV, staC, I]) ?_
      rintro y H' ⟨rfl, rfl⟩
      refine ⟨.inl (by simp), le_ok rfl, ?_⟩
      by_cases k2 : B.2 = 0
      rotate_left
      · rw [if_pos k2] at hV
        rw [← hV]
        simp [RE, SSR, staC, zSta, k2, I, l0, t0, e34, e72, e77, e78, e79, iC]
        refine finW _ (weak_nlB (o := 48) (k := 3) 36 rfl rfl) (finW _ (weak_nlB (o := 48) (k := 4) 3 rfl rfl) (finW _ (weak_nlB (o := 64) (k := 3) 36 rfl rfl) (finW _ (weak_nlB (o := 64) (k := 4) 3 rfl rfl) ?_)))
        exact fin [] (by decide) rfl rfl rfl ⟨rfl, rfl⟩
      rw [if_neg (by simpa using k2)] at hV
      rw [← hV]
      simp [RE, SSR, staC, k2, I, l0, t0, e34, e72, e77, e78, e79, iC]
      exact fin [] (by decide) rfl rfl rfl ⟨rfl, rfl⟩
  · have y1 : r.f.k0 = r.b := by omega
    have x1' : r.f.k1 = r.a := by omega
    have n1 : freV r s id' (sid r.f.k0 r.f.k1 r.a) last = freS s id' last := by unfold freV sid; rw [if_neg x1, if_pos x1', if_neg (by omega)]
    by_cases x2 : r.s.k0 = r.b
    · have y2 : ¬ r.s.k0 = r.c := by omega
      have n2 : freV r t id' (sid r.s.k0 r.s.k1 r.b) last = freS t id' (r.am - last) := by unfold freV sid; rw [if_pos x2, if_pos rfl]
      rw [n1, n2] at hV
      obtain ⟨A, hA⟩ : ∃ A, freS s id' last = A := ⟨_, rfl⟩
      obtain ⟨B, hB⟩ : ∃ B, freS t id' (r.am - last) = B := ⟨_, rfl⟩
      rw [hA, hB] at hV
      have f1 := RFree_ok s id' last hs hi (by unfold i64; omega)
      have f2 := RFree_ok t id' (r.am - last) ht hi (by unfold i64; omega)
      rw [hA] at f1
      rw [hB] at f2
      simp [y1, y2, wS, I, l0, t0, e34, e72, e77, e78, e79, iC]
      refine call0 f1 (by simp [SV, staC, I]) ?_
      rintro y H' ⟨rfl, rfl⟩
      refine ⟨.inl (by simp), le_ok rfl, ?_⟩
      by_cases k1 : A.2 = 0
      rotate_left
      · rw [if_pos k1] at hV
        rw [← hV]
        simp [RE, SSR, staC, zSta, k1, I, l0, t0, e34, e72, e77, e78, e79, iC]
        refine finW _ (weak_nlB (o := 48) (k := 3) 36 rfl rfl) (finW _ (weak_nlB (o := 48) (k := 4) 3 rfl rfl) (finW _ (weak_nlB (o := 64) (k := 3) 36 rfl rfl) (finW _ (weak_nlB (o := 64) (k := 4) 3 rfl rfl) ?_)))
        exact fin [] (by decide) rfl rfl rfl ⟨rfl, rfl⟩
      rw [if_neg (by simpa using k1)] at hV
      simp [RE, staC, k1, I, l0, t0, e34, e72, e77, e78, e79, iC]
      refine call0 f2 (by simp [SV, staC, I]) ?_
      rintro y H' ⟨rfl, rfl⟩
      refine ⟨.inl (by simp), le_ok rfl, ?_⟩
      by_cases k2 : B.2 = 0
      rotate_left
      · rw [if_pos k2] at hV
        rw [← hV]
        simp [RE, SSR, staC, zSta, k2, I, l0, t0, e34, e72, e77, e78, e79, iC]
        refine finW _ (weak_nlB (o := 48) (k := 3) 36 rfl rfl) (finW _ (weak_nlB (o := 48) (k := 4) 3 rfl rfl) (finW _ (weak_nlB (o := 64) (k := 3) 36 rfl rfl) (finW _ (weak_nlB (o := 64) (k := 4) 3 rfl rfl) ?_)))
        exact fin [] (by decide) rfl rfl rfl ⟨rfl, rfl⟩
      rw [if_neg (by simpa using k2)] at hV
      rw [← hV]
      simp [RE, SSR, staC, k2, I, l0, t0, e34, e72, e77, e78, e79, iC]
      exact fin [] (by decide) rfl rfl rfl ⟨rfl, rfl⟩
    · have y2 : r.s.k0 = r.c := by omega
      have x2' : r.s.k1 = r.b := by omega
      have n2 : freV r t id' (sid r.s.k0 r.s.k1 r.b) last = freS t id' last := by unfold freV sid; rw [if_neg x2, if_pos x2', if_neg (by omega)]
      rw [n1, n2] at hV
      obtain ⟨A, hA⟩ : ∃ A, freS s id' last = A := ⟨_, rfl⟩
      obtain ⟨B, hB⟩ : ∃ B, freS t id' last = B := ⟨_, rfl⟩
      rw [hA, hB] at hV
      have f1 := RFree_ok s id' last hs hi (by unfold i64; omega)
      have f2 := RFree_ok t id' last ht hi (by unfold i64; omega)
      rw [hA] at f1
      rw [hB] at f2
      simp [y1, y2, wS, I, l0, t0, e34, e72, e77, e78, e79, iC]
      refine call0 f1 (by simp [SV, staC, I]) ?_
      rintro y H' ⟨rfl, rfl⟩
      refine ⟨.inl (by simp), le_ok rfl, ?_⟩
      by_cases k1 : A.2 = 0
      rotate_left
      · rw [if_pos k1] at hV
        rw [← hV]
        simp [RE, SSR, staC, zSta, k1, I, l0, t0, e34, e72, e77, e78, e79, iC]
        refine finW _ (weak_nlB (o := 48) (k := 3) 36 rfl rfl) (finW _ (weak_nlB (o := 48) (k := 4) 3 rfl rfl) (finW _ (weak_nlB (o := 64) (k := 3) 36 rfl rfl) (finW _ (weak_nlB (o := 64) (k := 4) 3 rfl rfl) ?_)))
        exact fin [] (by decide) rfl rfl rfl ⟨rfl, rfl⟩
      rw [if_neg (by simpa using k1)] at hV
      simp [RE, staC, k1, I, l0, t0, e34, e72, e77, e78, e79, iC]
      refine call0 f2 (by simp [SV, staC, I]) ?_
      rintro y H' ⟨rfl, rfl⟩
      refine ⟨.inl (by simp), le_ok rfl, ?_⟩
      by_cases k2 : B.2 = 0
      rotate_left
      · rw [if_pos k2] at hV
        rw [← hV]
        simp [RE, SSR, staC, zSta, k2, I, l0, t0, e34, e72, e77, e78, e79, iC]
        refine finW _ (weak_nlB (o := 48) (k := 3) 36 rfl rfl) (finW _ (weak_nlB (o := 48) (k := 4) 3 rfl rfl) (finW _ (weak_nlB (o := 64) (k := 3) 36 rfl rfl) (finW _ (weak_nlB (o := 64) (k := 4) 3 rfl rfl) ?_)))
        exact fin [] (by decide) rfl rfl rfl ⟨rfl, rfl⟩
      rw [if_neg (by simpa using k2)] at hV
      rw [← hV]
      simp [RE, SSR, staC, k2, I, l0, t0, e34, e72, e77, e78, e79, iC]
      exact fin [] (by decide) rfl rfl rfl ⟨rfl, rfl⟩

end Go.Proofs.YtejjhgdnmknejaaGreatDoor

namespace Go.Proofs.YtejjhgdnmknejaaGreatDoor
open Go Go.EW
set_option linter.unusedSimpArgs false
set_option linter.unusedVariables false



theorem num_e (e : Nat) : ECalls Tryz.prog 13 [.lit (errV e)] [] fun y H' => H' = [] ∧ y = I .i64 e := by
  have h := num_ok (e : Int)
  have e1 : EN (e : Int) = .lit (errV e) := by
    unfold EN errV
    by_cases h : e = 0
    · subst h; rfl
    · rw [if_neg (by omega), if_neg h]
  rw [e1] at h
  exact h

end Go.Proofs.YtejjhgdnmknejaaGreatDoor
