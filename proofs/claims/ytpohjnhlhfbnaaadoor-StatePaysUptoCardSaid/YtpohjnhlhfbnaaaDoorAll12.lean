import Derived.Test.YtpohjnhlhfbnaaaDoorAll11
import Derived.Test.YtpohjnhlhfbnaaaDoorProg
import Derived.Test.YtpohjnhlhfbnaaaDoorAll5
namespace Go.Proofs.YtpohjnhlhfbnaaaDoor
open Go Go.EW
set_option linter.unusedSimpArgs false
set_option linter.unusedVariables false

@[simp] def l_RpayAt_1 (_ : Unit) : List EOp := [⟨0, (some 4), none, (.q (.mov (.k (.int .i64 0)))), []⟩]
@[simp] def b_RpayAt_2 (_ : Unit) : EB := reg0 (hid l_RpayAt_1) 1
@[simp] def l_RpayAt_3 (_ : Unit) : List EOp := [⟨0, (some 5), none, (.q (.mov (.k (.int .i64 0)))), []⟩]
@[simp] def b_RpayAt_4 (_ : Unit) : EB := reg0 (hid l_RpayAt_3) 1
@[simp] def l_RpayAt_5 (_ : Unit) : List EOp := [⟨0, (some 6), none, (.q (.mov (.t 5))), []⟩, ⟨1, (some 7), none, (.q (.mov (.t 0))), []⟩, ⟨2, (some 8), none, (.q (.len (.t 7))), []⟩, ⟨3, (some 9), none, (.q (.bin .lss (.t 6) (.t 8))), []⟩]
@[simp] def b_RpayAt_6 (_ : Unit) : EB := reg0 (hid l_RpayAt_5) 4
@[simp] def b_RpayAt_7 (_ : Unit) : EB := .cond (.t 9) .skip (.exit 0)
@[simp] def b_RpayAt_8 (_ : Unit) : EB := .seq (hid b_RpayAt_6) (hid b_RpayAt_7)
@[simp] def l_RpayAt_10 (_ : Unit) : List EOp := [⟨6, (some 18), none, (.q (.bin .eql (.t 16) (.t 17))), []⟩]
@[simp] def l_RpayAt_9 (_ : Unit) : List EOp := ⟨0, (some 12), none, (.q (.mov (.t 0))), []⟩ :: ⟨1, (some 13), none, (.q (.mov (.t 5))), []⟩ :: ⟨2, (some 14), none, (.q (.isl 36 (.t 12) (.t 13))), []⟩ :: ⟨3, (some 15), none, (.q (.fad 0 (.t 14))), []⟩ :: ⟨4, (some 16), none, (.q (.ldc (.t 15))), []⟩ :: ⟨5, (some 17), none, (.q (.mov (.t 1))), []⟩ :: hid l_RpayAt_10
@[simp] def b_RpayAt_11 (_ : Unit) : EB := reg0 (hid l_RpayAt_9) 7
@[simp] def l_RpayAt_12 (_ : Unit) : List EOp := [⟨0, (some 19), none, (.q (.mov (.t 5))), []⟩, ⟨1, (some 4), none, (.q (.mov (.t 19))), []⟩]
@[simp] def b_RpayAt_13 (_ : Unit) : EB := reg0 (hid l_RpayAt_12) 2
@[simp] def b_RpayAt_14 (_ : Unit) : EB := .seq (hid b_RpayAt_13) .ret
@[simp] def b_RpayAt_15 (_ : Unit) : EB := .cond (.t 18) (hid b_RpayAt_14) .skip
@[simp] def b_RpayAt_16 (_ : Unit) : EB := .seq (hid b_RpayAt_11) (hid b_RpayAt_15)
@[simp] def b_RpayAt_17 (_ : Unit) : EB := .block 1 (hid b_RpayAt_16)
@[simp] def l_RpayAt_18 (_ : Unit) : List EOp := [⟨0, (some 10), none, (.q (.mov (.t 5))), []⟩, ⟨1, (some 11), none, (.q (.bin .add (.t 10) (.k (.int .i64 1)))), []⟩, ⟨2, (some 5), none, (.q (.mov (.t 11))), []⟩]
@[simp] def b_RpayAt_19 (_ : Unit) : EB := reg0 (hid l_RpayAt_18) 3
@[simp] def b_RpayAt_20 (_ : Unit) : EB := .seq (hid b_RpayAt_17) (hid b_RpayAt_19)
@[simp] def b_RpayAt_21 (_ : Unit) : EB := .seq (hid b_RpayAt_8) (hid b_RpayAt_20)
@[simp] def b_RpayAt_22 (_ : Unit) : EB := .loop (hid b_RpayAt_21)
@[simp] def b_RpayAt_23 (_ : Unit) : EB := .block 0 (hid b_RpayAt_22)
@[simp] def b_RpayAt_24 (_ : Unit) : EB := .seq (hid b_RpayAt_4) (hid b_RpayAt_23)
@[simp] def l_RpayAt_25 (_ : Unit) : List EOp := [⟨0, (some 4), none, (.q (.mov (.k (.int .i64 (-1))))), []⟩]
@[simp] def b_RpayAt_26 (_ : Unit) : EB := reg0 (hid l_RpayAt_25) 1
@[simp] def b_RpayAt_27 (_ : Unit) : EB := .seq (hid b_RpayAt_26) .ret
@[simp] def b_RpayAt_28 (_ : Unit) : EB := .seq (hid b_RpayAt_24) (hid b_RpayAt_27)
@[simp] def b_RpayAt_29 (_ : Unit) : EB := .seq (hid b_RpayAt_2) (hid b_RpayAt_28)
def c_RpayAt : EB × List QOp × Nat := ((hid b_RpayAt_29), [(.mov (.t 4))], 20)
theorem k_RpayAt : cfun Tryd.prog 79 = some c_RpayAt := by kernel_rfl

@[simp] def l_RAdd_1 (_ : Unit) : List EOp := [⟨0, (some 2), none, (.q (.box 26 (.t 0))), []⟩, ⟨1, (some 3), none, (.q (.box 54 (.t 1))), []⟩, ⟨2, (some 4), none, (.q (.alloc 26 [(.int .i64 0), (.int .i64 0), (.int .i64 0), (.slice none 0 0), (.slice none 0 0)])), []⟩, ⟨3, (some 5), none, (.q (.mov (.k (.int .i64 0)))), []⟩]
@[simp] def b_RAdd_2 (_ : Unit) : EB := reg0 (hid l_RAdd_1) 4
@[simp] def l_RAdd_3 (_ : Unit) : List EOp := [⟨0, (some 11), none, (.q (.lda 5 (.t 2))), []⟩, ⟨1, (some 12), none, (.call 39 [(.t 11)]), []⟩, ⟨2, (some 13), none, (.q (.un .not (.t 12))), []⟩, ⟨3, (some 10), none, (.q (.mov (.t 13))), []⟩]
@[simp] def b_RAdd_4 (_ : Unit) : EB := reg0 (hid l_RAdd_3) 4
@[simp] def l_RAdd_5 (_ : Unit) : List EOp := [⟨0, (some 14), none, (.q (.build [(.int .i64 0), (.int .i64 0), (.int .i64 0), (.slice none 0 0), (.slice none 0 0)] [])), []⟩, ⟨1, none, none, (.fz (.sto 5 (.t 4) (.t 14))), []⟩, ⟨2, (some 5), none, (.q (.mov (.k (.int .i64 1)))), []⟩]
@[simp] def b_RAdd_6 (_ : Unit) : EB := reg0 (hid l_RAdd_5) 3
@[simp] def b_RAdd_7 (_ : Unit) : EB := .seq (hid b_RAdd_6) .ret
@[simp] def l_RAdd_9 (_ : Unit) : List EOp := [⟨6, (some 22), (some (19, true)), (.q (.bin .neq (.t 21) (.k (.int .i64 1)))), []⟩, ⟨7, (some 23), none, (.q (.pick (.t 19) (.t 22) (.k (.bool false)))), []⟩, ⟨8, (some 15), none, (.q (.mov (.t 23))), []⟩]
@[simp] def l_RAdd_8 (_ : Unit) : List EOp := ⟨0, (some 16), none, (.q (.fad 1 (.t 3))), []⟩ :: ⟨1, (some 17), none, (.q (.ldc (.t 16))), []⟩ :: ⟨2, (some 18), none, (.q (.bin .neq (.t 17) (.k (.int .i64 0)))), []⟩ :: ⟨3, (some 19), none, (.q (.mov (.t 18))), []⟩ :: ⟨4, (some 20), (some (19, true)), (.q (.fad 1 (.t 3))), []⟩ :: ⟨5, (some 21), (some (19, true)), (.q (.ldc (.t 20))), []⟩ :: hid l_RAdd_9
@[simp] def b_RAdd_10 (_ : Unit) : EB := reg0 (hid l_RAdd_8) 9
@[simp] def l_RAdd_11 (_ : Unit) : List EOp := [⟨0, (some 24), none, (.q (.build [(.int .i64 0), (.int .i64 0), (.int .i64 0), (.slice none 0 0), (.slice none 0 0)] [])), []⟩, ⟨1, none, none, (.fz (.sto 5 (.t 4) (.t 24))), []⟩, ⟨2, (some 5), none, (.q (.mov (.k (.int .i64 33)))), []⟩]
@[simp] def b_RAdd_12 (_ : Unit) : EB := reg0 (hid l_RAdd_11) 3
@[simp] def b_RAdd_13 (_ : Unit) : EB := .seq (hid b_RAdd_12) .ret
@[simp] def l_RAdd_14 (_ : Unit) : List EOp := [⟨0, (some 26), none, (.q (.fad 2 (.t 3))), []⟩, ⟨1, (some 27), none, (.q (.ldc (.t 26))), []⟩, ⟨2, (some 28), none, (.q (.bin .lss (.t 27) (.k (.int .i64 10)))), []⟩, ⟨3, (some 25), none, (.q (.mov (.t 28))), []⟩]
@[simp] def b_RAdd_15 (_ : Unit) : EB := reg0 (hid l_RAdd_14) 4
@[simp] def l_RAdd_16 (_ : Unit) : List EOp := [⟨0, (some 29), none, (.q (.build [(.int .i64 0), (.int .i64 0), (.int .i64 0), (.slice none 0 0), (.slice none 0 0)] [])), []⟩, ⟨1, none, none, (.fz (.sto 5 (.t 4) (.t 29))), []⟩, ⟨2, (some 5), none, (.q (.mov (.k (.int .i64 27)))), []⟩]
@[simp] def b_RAdd_17 (_ : Unit) : EB := reg0 (hid l_RAdd_16) 3
@[simp] def b_RAdd_18 (_ : Unit) : EB := .seq (hid b_RAdd_17) .ret
@[simp] def l_RAdd_19 (_ : Unit) : List EOp := [⟨0, (some 31), none, (.q (.lda 36 (.t 3))), []⟩, ⟨1, (some 32), none, (.call 78 [(.t 31)]), []⟩, ⟨2, (some 33), none, (.q (.un .not (.t 32))), []⟩, ⟨3, (some 30), none, (.q (.mov (.t 33))), []⟩]
@[simp] def b_RAdd_20 (_ : Unit) : EB := reg0 (hid l_RAdd_19) 4
@[simp] def l_RAdd_21 (_ : Unit) : List EOp := [⟨0, (some 34), none, (.q (.build [(.int .i64 0), (.int .i64 0), (.int .i64 0), (.slice none 0 0), (.slice none 0 0)] [])), []⟩, ⟨1, none, none, (.fz (.sto 5 (.t 4) (.t 34))), []⟩, ⟨2, (some 5), none, (.q (.mov (.k (.int .i64 1)))), []⟩]
@[simp] def b_RAdd_22 (_ : Unit) : EB := reg0 (hid l_RAdd_21) 3
@[simp] def b_RAdd_23 (_ : Unit) : EB := .seq (hid b_RAdd_22) .ret
@[simp] def l_RAdd_25 (_ : Unit) : List EOp := [⟨6, (some 35), none, (.q (.mov (.t 41))), []⟩]
@[simp] def l_RAdd_24 (_ : Unit) : List EOp := ⟨0, (some 36), none, (.q (.fad 3 (.t 2))), []⟩ :: ⟨1, (some 37), none, (.q (.ldc (.t 36))), []⟩ :: ⟨2, (some 38), none, (.q (.fad 0 (.t 3))), []⟩ :: ⟨3, (some 39), none, (.q (.ldc (.t 38))), []⟩ :: ⟨4, (some 40), none, (.call 79 [(.t 37), (.t 39)]), []⟩ :: ⟨5, (some 41), none, (.q (.bin .geq (.t 40) (.k (.int .i64 0)))), []⟩ :: hid l_RAdd_25
@[simp] def b_RAdd_26 (_ : Unit) : EB := reg0 (hid l_RAdd_24) 7
@[simp] def l_RAdd_27 (_ : Unit) : List EOp := [⟨0, (some 42), none, (.q (.build [(.int .i64 0), (.int .i64 0), (.int .i64 0), (.slice none 0 0), (.slice none 0 0)] [])), []⟩, ⟨1, none, none, (.fz (.sto 5 (.t 4) (.t 42))), []⟩, ⟨2, (some 5), none, (.q (.mov (.k (.int .i64 9)))), []⟩]
@[simp] def b_RAdd_28 (_ : Unit) : EB := reg0 (hid l_RAdd_27) 3
@[simp] def b_RAdd_29 (_ : Unit) : EB := .seq (hid b_RAdd_28) .ret
@[simp] def l_RAdd_31 (_ : Unit) : List EOp := [⟨6, (some 50), none, (.q (.bin .add (.t 46) (.t 49))), []⟩, ⟨7, (some 51), none, (.q (.bin .gtr (.t 50) (.k (.int .i64 7)))), []⟩, ⟨8, (some 43), none, (.q (.mov (.t 51))), []⟩]
@[simp] def l_RAdd_30 (_ : Unit) : List EOp := ⟨0, (some 44), none, (.q (.fad 3 (.t 2))), []⟩ :: ⟨1, (some 45), none, (.q (.ldc (.t 44))), []⟩ :: ⟨2, (some 46), none, (.q (.len (.t 45))), []⟩ :: ⟨3, (some 47), none, (.q (.fad 4 (.t 2))), []⟩ :: ⟨4, (some 48), none, (.q (.ldc (.t 47))), []⟩ :: ⟨5, (some 49), none, (.q (.len (.t 48))), []⟩ :: hid l_RAdd_31
@[simp] def b_RAdd_32 (_ : Unit) : EB := reg0 (hid l_RAdd_30) 9
@[simp] def l_RAdd_33 (_ : Unit) : List EOp := [⟨0, (some 52), none, (.q (.build [(.int .i64 0), (.int .i64 0), (.int .i64 0), (.slice none 0 0), (.slice none 0 0)] [])), []⟩, ⟨1, none, none, (.fz (.sto 5 (.t 4) (.t 52))), []⟩, ⟨2, (some 5), none, (.q (.mov (.k (.int .i64 30)))), []⟩]
@[simp] def b_RAdd_34 (_ : Unit) : EB := reg0 (hid l_RAdd_33) 3
@[simp] def b_RAdd_35 (_ : Unit) : EB := .seq (hid b_RAdd_34) .ret
@[simp] def l_RAdd_37 (_ : Unit) : List EOp := [⟨6, (some 60), none, (.q (.ldc (.t 59))), []⟩, ⟨7, (some 61), none, (.q (.bin .lss (.t 58) (.t 60))), []⟩, ⟨8, (some 53), none, (.q (.mov (.t 61))), []⟩]
@[simp] def l_RAdd_36 (_ : Unit) : List EOp := ⟨0, (some 54), none, (.q (.fad 1 (.t 3))), []⟩ :: ⟨1, (some 55), none, (.q (.ldc (.t 54))), []⟩ :: ⟨2, (some 56), none, (.q (.fad 1 (.t 2))), []⟩ :: ⟨3, (some 57), none, (.q (.iad 2 1 (.t 56) (.t 55))), []⟩ :: ⟨4, (some 58), none, (.q (.ldc (.t 57))), []⟩ :: ⟨5, (some 59), none, (.q (.fad 2 (.t 3))), []⟩ :: hid l_RAdd_37
@[simp] def b_RAdd_38 (_ : Unit) : EB := reg0 (hid l_RAdd_36) 9
@[simp] def l_RAdd_39 (_ : Unit) : List EOp := [⟨0, (some 62), none, (.q (.build [(.int .i64 0), (.int .i64 0), (.int .i64 0), (.slice none 0 0), (.slice none 0 0)] [])), []⟩, ⟨1, none, none, (.fz (.sto 5 (.t 4) (.t 62))), []⟩, ⟨2, (some 5), none, (.q (.mov (.k (.int .i64 20)))), []⟩]
@[simp] def b_RAdd_40 (_ : Unit) : EB := reg0 (hid l_RAdd_39) 3
@[simp] def b_RAdd_41 (_ : Unit) : EB := .seq (hid b_RAdd_40) .ret
@[simp] def b_RAdd_42 (_ : Unit) : EB := .cond (.t 53) (hid b_RAdd_41) .skip
@[simp] def b_RAdd_43 (_ : Unit) : EB := .seq (hid b_RAdd_38) (hid b_RAdd_42)
@[simp] def b_RAdd_44 (_ : Unit) : EB := .cond (.t 43) (hid b_RAdd_35) (hid b_RAdd_43)
@[simp] def b_RAdd_45 (_ : Unit) : EB := .seq (hid b_RAdd_32) (hid b_RAdd_44)
@[simp] def b_RAdd_46 (_ : Unit) : EB := .cond (.t 35) (hid b_RAdd_29) (hid b_RAdd_45)
@[simp] def b_RAdd_47 (_ : Unit) : EB := .seq (hid b_RAdd_26) (hid b_RAdd_46)
@[simp] def b_RAdd_48 (_ : Unit) : EB := .cond (.t 30) (hid b_RAdd_23) (hid b_RAdd_47)
@[simp] def b_RAdd_49 (_ : Unit) : EB := .seq (hid b_RAdd_20) (hid b_RAdd_48)
@[simp] def b_RAdd_50 (_ : Unit) : EB := .cond (.t 25) (hid b_RAdd_18) (hid b_RAdd_49)
@[simp] def b_RAdd_51 (_ : Unit) : EB := .seq (hid b_RAdd_15) (hid b_RAdd_50)
@[simp] def b_RAdd_52 (_ : Unit) : EB := .cond (.t 15) (hid b_RAdd_13) (hid b_RAdd_51)
@[simp] def b_RAdd_53 (_ : Unit) : EB := .seq (hid b_RAdd_10) (hid b_RAdd_52)
@[simp] def b_RAdd_54 (_ : Unit) : EB := .cond (.t 10) (hid b_RAdd_7) (hid b_RAdd_53)
@[simp] def b_RAdd_55 (_ : Unit) : EB := .seq (hid b_RAdd_4) (hid b_RAdd_54)
@[simp] def b_RAdd_56 (_ : Unit) : EB := .block 0 (hid b_RAdd_55)
@[simp] def l_RAdd_57 (_ : Unit) : List EOp := [⟨0, (some 6), none, (.q (.mov (.k (.slice none 0 0)))), []⟩]
@[simp] def b_RAdd_58 (_ : Unit) : EB := reg0 (hid l_RAdd_57) 1
@[simp] def l_RAdd_59 (_ : Unit) : List EOp := [⟨0, (some 7), none, (.q (.mov (.k (.int .i64 0)))), []⟩]
@[simp] def b_RAdd_60 (_ : Unit) : EB := reg0 (hid l_RAdd_59) 1
@[simp] def l_RAdd_63 (_ : Unit) : List EOp := [⟨12, (some 75), (some (68, true)), (.q (.fad 0 (.t 3))), []⟩, ⟨13, (some 76), (some (68, true)), (.q (.ldc (.t 75))), []⟩, ⟨14, (some 77), (some (68, true)), (.q (.bin .lss (.t 74) (.t 76))), []⟩, ⟨15, (some 78), none, (.q (.pick (.t 68) (.t 77) (.k (.bool false)))), []⟩]
@[simp] def l_RAdd_62 (_ : Unit) : List EOp := ⟨6, (some 69), (some (68, true)), (.q (.fad 3 (.t 2))), []⟩ :: ⟨7, (some 70), (some (68, true)), (.q (.ldc (.t 69))), []⟩ :: ⟨8, (some 71), (some (68, true)), (.q (.mov (.t 7))), []⟩ :: ⟨9, (some 72), (some (68, true)), (.q (.isl 36 (.t 70) (.t 71))), []⟩ :: ⟨10, (some 73), (some (68, true)), (.q (.fad 0 (.t 72))), []⟩ :: ⟨11, (some 74), (some (68, true)), (.q (.ldc (.t 73))), []⟩ :: hid l_RAdd_63
@[simp] def l_RAdd_61 (_ : Unit) : List EOp := ⟨0, (some 63), none, (.q (.mov (.t 7))), []⟩ :: ⟨1, (some 64), none, (.q (.fad 3 (.t 2))), []⟩ :: ⟨2, (some 65), none, (.q (.ldc (.t 64))), []⟩ :: ⟨3, (some 66), none, (.q (.len (.t 65))), []⟩ :: ⟨4, (some 67), none, (.q (.bin .lss (.t 63) (.t 66))), []⟩ :: ⟨5, (some 68), none, (.q (.mov (.t 67))), []⟩ :: hid l_RAdd_62
@[simp] def b_RAdd_64 (_ : Unit) : EB := reg0 (hid l_RAdd_61) 16
@[simp] def b_RAdd_65 (_ : Unit) : EB := .cond (.t 78) .skip (.exit 1)
@[simp] def b_RAdd_66 (_ : Unit) : EB := .seq (hid b_RAdd_64) (hid b_RAdd_65)
@[simp] def l_RAdd_67 (_ : Unit) : List EOp := [⟨0, (some 79), none, (.q (.mov (.t 7))), []⟩, ⟨1, (some 80), none, (.q (.bin .add (.t 79) (.k (.int .i64 1)))), []⟩, ⟨2, (some 7), none, (.q (.mov (.t 80))), []⟩]
@[simp] def b_RAdd_68 (_ : Unit) : EB := reg0 (hid l_RAdd_67) 3
@[simp] def b_RAdd_69 (_ : Unit) : EB := .block 2 (hid b_RAdd_68)
@[simp] def b_RAdd_70 (_ : Unit) : EB := .seq (hid b_RAdd_66) (hid b_RAdd_69)
@[simp] def b_RAdd_71 (_ : Unit) : EB := .loop (hid b_RAdd_70)
@[simp] def b_RAdd_72 (_ : Unit) : EB := .block 1 (hid b_RAdd_71)
@[simp] def l_RAdd_75 (_ : Unit) : List EOp := [⟨8, (some 89), none, (.app 54 36 64 (.t 86) (.t 88)), [9, 10, 11, 12]⟩, ⟨13, (some 94), none, (.app 54 36 64 (.t 89) (.t 93)), []⟩, ⟨14, (some 6), none, (.q (.mov (.t 94))), []⟩]
@[simp] def l_RAdd_74 (_ : Unit) : List EOp := ⟨7, (some 88), none, (.q (.bsl 36 (([(.int .i64 0), (.int .i64 0), (.int .i64 0), (.int .i64 0)] : List Value) ++ zU8) 1 [(0, (.t 87))])), []⟩ :: ⟨9, (some 90), none, (.q (.fad 3 (.t 2))), []⟩ :: ⟨10, (some 91), none, (.q (.ldc (.t 90))), []⟩ :: ⟨11, (some 92), none, (.q (.mov (.t 7))), []⟩ :: ⟨12, (some 93), none, (.q (.ssl 36 (.t 91) (some (.t 92)) none)), []⟩ :: ⟨5, (some 86), none, (.app 54 36 64 (.t 81) (.t 85)), [6, 7, 9, 10, 11, 12]⟩ :: hid l_RAdd_75
@[simp] def l_RAdd_73 (_ : Unit) : List EOp := ⟨0, (some 81), none, (.q (.mov (.t 6))), []⟩ :: ⟨1, (some 82), none, (.q (.fad 3 (.t 2))), []⟩ :: ⟨2, (some 83), none, (.q (.ldc (.t 82))), []⟩ :: ⟨3, (some 84), none, (.q (.mov (.t 7))), []⟩ :: ⟨4, (some 85), none, (.q (.ssl 36 (.t 83) none (some (.t 84)))), []⟩ :: ⟨6, (some 87), none, (.q (.lda 36 (.t 3))), []⟩ :: hid l_RAdd_74
@[simp] def b_RAdd_76 (_ : Unit) : EB := reg1 (hid l_RAdd_73) 15
@[simp] def l_RAdd_78 (_ : Unit) : List EOp := [⟨6, (some 95), none, (.q (.mov (.t 101))), []⟩, ⟨7, (some 102), none, (.q (.ext 0 (.t 95))), []⟩, ⟨8, (some 103), none, (.q (.ext 1 (.t 95))), []⟩, ⟨9, (some 8), none, (.q (.mov (.t 102))), []⟩, ⟨10, (some 9), none, (.q (.mov (.t 103))), []⟩]
@[simp] def l_RAdd_77 (_ : Unit) : List EOp := ⟨0, (some 96), none, (.q (.fad 1 (.t 3))), []⟩ :: ⟨1, (some 97), none, (.q (.ldc (.t 96))), []⟩ :: ⟨2, (some 98), none, (.q (.fad 2 (.t 3))), []⟩ :: ⟨3, (some 99), none, (.q (.ldc (.t 98))), []⟩ :: ⟨4, (some 100), none, (.q (.un .neg (.t 99))), []⟩ :: ⟨5, (some 101), none, (.call 42 [(.t 97), (.t 100)]), []⟩ :: hid l_RAdd_78
@[simp] def b_RAdd_79 (_ : Unit) : EB := reg0 (hid l_RAdd_77) 11
@[simp] def l_RAdd_81 (_ : Unit) : List EOp := [⟨6, (some 110), none, (.call 40 [(.t 104), (.t 105), (.t 106), (.t 107), (.t 109)]), []⟩, ⟨7, none, none, (.fz (.sto 5 (.t 4) (.t 110))), []⟩, ⟨8, (some 5), none, (.q (.mov (.k (.int .i64 0)))), []⟩]
@[simp] def l_RAdd_80 (_ : Unit) : List EOp := ⟨0, (some 104), none, (.q (.lda 5 (.t 2))), []⟩ :: ⟨1, (some 105), none, (.q (.mov (.t 8))), []⟩ :: ⟨2, (some 106), none, (.q (.mov (.t 9))), []⟩ :: ⟨3, (some 107), none, (.q (.mov (.t 6))), []⟩ :: ⟨4, (some 108), none, (.q (.fad 4 (.t 2))), []⟩ :: ⟨5, (some 109), none, (.q (.ldc (.t 108))), []⟩ :: hid l_RAdd_81
@[simp] def b_RAdd_82 (_ : Unit) : EB := reg0 (hid l_RAdd_80) 9
@[simp] def b_RAdd_83 (_ : Unit) : EB := .seq (hid b_RAdd_82) .ret
@[simp] def b_RAdd_84 (_ : Unit) : EB := .seq (hid b_RAdd_79) (hid b_RAdd_83)
@[simp] def b_RAdd_85 (_ : Unit) : EB := .seq (hid b_RAdd_76) (hid b_RAdd_84)
@[simp] def b_RAdd_86 (_ : Unit) : EB := .seq (hid b_RAdd_72) (hid b_RAdd_85)
@[simp] def b_RAdd_87 (_ : Unit) : EB := .seq (hid b_RAdd_60) (hid b_RAdd_86)
@[simp] def b_RAdd_88 (_ : Unit) : EB := .seq (hid b_RAdd_58) (hid b_RAdd_87)
@[simp] def b_RAdd_89 (_ : Unit) : EB := .seq (hid b_RAdd_56) (hid b_RAdd_88)
@[simp] def b_RAdd_90 (_ : Unit) : EB := .seq (hid b_RAdd_2) (hid b_RAdd_89)
def c_RAdd : EB × List QOp × Nat := ((hid b_RAdd_90), [(.lda 5 (.t 4)), (.mov (.t 5))], 111)
theorem k_RAdd : cfun Tryd.prog 34 = some c_RAdd := by kernel_rfl


set_option maxHeartbeats 2000000 in
theorem RpayAt_ok (l : List Pay) (x : Int) (hl : ∀ p ∈ l, p.ok) (hn : l.length ≤ 100000000) : ECalls Tryd.prog 79 [PL l, I .i64 x] [] fun y H' => H' = [] ∧ ∃ r, FI (l.map (·.id)) x r ∧ y = I .i64 r := by
  obtain ⟨ids, hids⟩ : ∃ ids, l.map (·.id) = ids := ⟨_, rfl⟩
  rw [hids]
  have idl : ids.length = l.length := by rw [← hids]; simp
  have hget : ∀ (k : Nat) (p : Pay), l[k]? = some p → ids[k]? = some p.id := fun k p h => by rw [← hids, List.getElem?_map, h]; rfl
  refine ecalls k_RpayAt ?_
  simp [c_RpayAt, I, PL]
  refine eloop (α := Nat) (fun i => i ≤ l.length ∧ ∀ (k : Nat) (y : Int), k < i → ids[k]? = some y → y ≠ x) (fun i => l.length - i)
    (fun i => [PL l, I .i64 x, .any, .any, .any, I .i64 i, .any, .any, .any, .any, .any, .any, .any, .any, .any, .any, .any, .any, .any, .any]) (fun _ => []) 0 []
    ⟨Nat.zero_le _, fun k y h => by omega⟩ (by simp [I, PL]) (by simp) (by simp) (by simp) (by simp) ?_
  rintro i ⟨hi, hlo⟩
  simp [I, PL]
  refine alt (fun hlt => ?_) (fun hlt => ?_)
  · have hln : i < l.length := by omega
    obtain ⟨p, hc⟩ : ∃ p, l[i]? = some p := ⟨l[i], by simp [hln]⟩
    have hge : (payv l)[i]'(by simp [hln]) = payF p := by
      have e := payv_get hc
      rw [List.getElem?_eq_getElem (by simp [hln])] at e
      exact Option.some.inj e
    have w4 : IntKind.i64.wrap ((i : Int) + 1) = ((i + 1 : Nat) : Int) := wrap_i64 (by omega) (by omega)
    have hpo := hl p (List.mem_of_getElem? hc)
    have hfl := payF_len hpo.2.2.2.2
    simp [hln, hge, payF]
    refine alt (fun he => ?_) (fun he => ?_)
    · simp
      exact fin [] (by decide) rfl rfl rfl ⟨rfl, (i : Int), .inr ⟨i, rfl, by rw [hget i p hc, he]⟩, rfl⟩
    · simp [w4, -Int.natCast_add]
      refine round (i + 1) [] ⟨by omega, ?_⟩ (by omega) (by simp) (by simp) (by simp) (by simp) (by simp)
      intro k y hk hy
      rcases Nat.lt_or_ge k i with h1 | h1
      · exact hlo k y h1 hy
      · obtain rfl : k = i := by omega
        rw [hget k p hc] at hy
        obtain rfl := Option.some.inj hy
        exact he
  · simp
    exact fin [] (by decide) rfl rfl rfl ⟨rfl, -1, .inl ⟨rfl, fun k y hk => hlo k y (by have := lt_len hk; omega) hk⟩, rfl⟩

theorem RwithP_ok (s : Sta) (a b : Int) (h1 : IntKind.i64.wrap (s.num + 1) = s.num + 1) (h2 : IntKind.i64.wrap (s.h0 + a) = s.h0 + a) (h3 : IntKind.i64.wrap (s.h1 + b) = s.h1 + b) (ps : List Pay) (hs : List Hol) :
    ECalls Tryd.prog 40 [SV s, I .i64 a, I .i64 b, .v (.c (.row 0 ps.length)), HL hs] [.row 54 36 (payv ps)] fun y H' => H' = [some (.row 54 36 (payv ps))] ∧ y = .v (.agg [.fz (.lit (.int .i64 (s.num + 1))), .fz (.lit (.int .i64 (s.h0 + a))), .fz (.lit (.int .i64 (s.h1 + b))), .row 0 ps.length, .fz (.sl 3 (holv hs))]) := by
  refine ecalls k_Rwith ?_
  simp [c_Rwith, SV, staC, I, PL, HL, h1, h2, h3]
  exact fin [] (by decide) rfl rfl rfl ⟨rfl, rfl⟩

set_option maxHeartbeats 4000000 in
theorem RAdd_ok (s : Sta) (p : Pay) (hs : s.ok) (hp : p.ok) : ECalls Tryd.prog 34 [SV s, .v (.agg (payC p))] [] fun y H' => H' = [] ∧ y = RE (addP s p) := by
  obtain ⟨ok1, ok2, ok3, ok4, ok5, ok6, ok7⟩ := id hs
  obtain ⟨⟨p1, p1'⟩, ⟨p2, p2'⟩, ⟨p3, p3'⟩, ⟨p4, p4'⟩, p5⟩ := id hp
  have hpt := payC_take p5
  have hpl := payC_len p5
  have hfl := payF_len p5
  refine ecalls k_RAdd ?_
  simp [c_RAdd, SV, staC, hpt, hpl, I, -errV_0]
  refine call0 (Rright_ok s hs) (by simp [SV, staC]) ?_
  rintro y H' ⟨rfl, rfl⟩
  refine ⟨.inl (by simp), le_ok rfl, ?_⟩
  by_cases h0 : mayS s = true ∧ s.num ≠ 1099511627776
  rotate_left
  · have hx : nxt s = (zSta, 1) := by simp only [nxt, if_neg h0]
    have ha : addP s p = (zSta, 1) := by simp [addP, hx]
    rw [ha, decide_eq_false h0]
    simp [RE, staC, zSta]
    refine finW _ (weak_nlB (o := 32) (k := 3) 36 rfl rfl) (finW _ (weak_nlB (o := 32) (k := 4) 3 rfl rfl) ?_)
    exact fin [] (by decide) rfl rfl rfl ⟨rfl, rfl⟩
  rw [decide_eq_true h0]
  have hx : nxt s = (⟨s.num + 1, s.h0, s.h1, s.pays, s.holds⟩, 0) := by simp only [nxt, if_pos h0]
  obtain ⟨hr', hpl', hhl, htot⟩ := mayS_t h0.1
  have hpw := payL_pw hpl'
  have hadd : addP s p = if ¬ (p.fr = 0 ∨ p.fr = 1) then (zSta, 33) else if p.am < 10 then (zSta, 27) else if mayP p = false then (zSta, 1)
      else if fndI (s.pays.map (·.id)) p.id = true then (zSta, 9) else if 8 ≤ s.pays.length + s.holds.length then (zSta, 30) else if sideS s p.fr < p.am then (zSta, 20)
      else (⟨s.num + 1, if p.fr = 0 then s.h0 - p.am else s.h0, if p.fr = 0 then s.h1 else s.h1 - p.am, insP s.pays p, s.holds⟩, 0) := by
    simp only [addP, hx]
    rw [if_neg (by simp)]
  by_cases hb' : p.fr = 0 ∨ p.fr = 1
  rotate_left
  · rw [hadd, if_pos hb']
    have b0 : ¬ p.fr = 0 := fun e => hb' (.inl e)
    have b1 : ¬ p.fr = 1 := fun e => hb' (.inr e)
    simp [pc0, pc1, pc2, pd1, pd2, pe0, pe1, pe2, hpt, hpl, b0, b1, RE, staC, zSta]
    refine finW _ (weak_nlB (o := 32) (k := 3) 36 rfl rfl) (finW _ (weak_nlB (o := 32) (k := 4) 3 rfl rfl) ?_)
    exact fin [] (by decide) rfl rfl rfl ⟨rfl, rfl⟩
  rw [hadd, if_neg (by simp [hb'])]
  have hsd : ∃ sd : Int, sideS s p.fr = sd ∧ 0 ≤ sd ∧ sd ≤ 1125899906842624 := ⟨_, rfl, by unfold sideS; split <;> omega⟩
  obtain ⟨W, hW⟩ : ∃ W : EV, W = I .i64 p.fr := ⟨_, rfl⟩
  obtain ⟨wh, hwh⟩ : ∃ w : Int, w = p.fr := ⟨_, rfl⟩
  obtain ⟨ids, hids⟩ : ∃ ids, s.pays.map (·.id) = ids := ⟨_, rfl⟩
  have idl : ids.length = s.pays.length := by rw [← hids]; simp
  have hget : ∀ (k : Nat) (p : Pay), s.pays[k]? = some p → ids[k]? = some p.id := fun k p h => by rw [← hids, List.getElem?_map, h]; rfl
  obtain ⟨A, hA⟩ : ∃ A : Int, A = if p.fr = 0 then -p.am else 0 := ⟨_, rfl⟩
  obtain ⟨B, hB⟩ : ∃ B : Int, B = if p.fr = 0 then 0 else -p.am := ⟨_, rfl⟩
  rcases hb' with hfr | hfr
  all_goals
    simp [hfr] at hA hB
    simp [pc0, pc1, pc2, pd1, pd2, pe0, pe1, pe2, hpt, hpl, hfr, -errV_0]
    refine alt (fun c1 => ?_) (fun c1 => ?_)
    · rw [if_pos c1]
      simp [pc0, pc1, pc2, pd1, pd2, pe0, pe1, pe2, hpt, hpl, hfr, RE, staC, zSta]
      refine finW _ (weak_nlB (o := 32) (k := 3) 36 rfl rfl) (finW _ (weak_nlB (o := 32) (k := 4) 3 rfl rfl) ?_)
      exact fin [] (by decide) rfl rfl rfl ⟨rfl, rfl⟩
    rw [if_neg c1]
    simp [pc0, pc1, pc2, pd1, pd2, pe0, pe1, pe2, hpt, hpl, hfr, -errV_0]
    refine call0 (RpayMay_ok p p5) (by simp [hpt]) ?_
    rintro y H' ⟨rfl, rfl⟩
    refine ⟨.inl (by simp [-List.flatMap_eq_nil_iff]), le_ok rfl, ?_⟩
    cases hm : mayP p
    · simp [pc0, pc1, pc2, pd1, pd2, pe0, pe1, pe2, hpt, hpl, hfr, RE, staC, zSta]
      refine finW _ (weak_nlB (o := 32) (k := 3) 36 rfl rfl) (finW _ (weak_nlB (o := 32) (k := 4) 3 rfl rfl) ?_)
      exact fin [] (by decide) rfl rfl rfl ⟨rfl, rfl⟩
    simp [pc0, pc1, pc2, pd1, pd2, pe0, pe1, pe2, hpt, hpl, hfr, -errV_0]
    refine call0 (RpayAt_ok s.pays p.id ok4 ok6) (by simp [PL, I]) ?_
    rintro y H' ⟨rfl, r, hr, rfl⟩
    refine ⟨.inl (by simp), le_ok rfl, ?_⟩
    rcases FI_pos hpw hr with ⟨hf, rfl⟩ | ⟨hf, rfl⟩
    rotate_left
    · rw [hf]
      simp [pc0, pc1, pc2, pd1, pd2, pe0, pe1, pe2, hpt, hpl, hfr, I, RE, staC, zSta]
      refine finW _ (weak_nlB (o := 32) (k := 3) 36 rfl rfl) (finW _ (weak_nlB (o := 32) (k := 4) 3 rfl rfl) ?_)
      exact fin [] (by decide) rfl rfl rfl ⟨rfl, rfl⟩
    rw [hf]
    have wl : IntKind.i64.wrap ((s.pays.length : Int) + (s.holds.length : Int)) = ((s.pays.length + s.holds.length : Nat) : Int) := by rw [wrap_i64 (by omega) (by omega)]; omega
    simp [pc0, pc1, pc2, pd1, pd2, pe0, pe1, pe2, hpt, hpl, hfr, I, wl, -errV_0, -Int.natCast_add]
    refine alt (fun c2 => ?_) (fun c2 => ?_)
    · rw [if_pos (by omega)]
      simp [pc0, pc1, pc2, pd1, pd2, pe0, pe1, pe2, hpt, hpl, hfr, RE, staC, zSta]
      refine finW _ (weak_nlB (o := 32) (k := 3) 36 rfl rfl) (finW _ (weak_nlB (o := 32) (k := 4) 3 rfl rfl) ?_)
      exact fin [] (by decide) rfl rfl rfl ⟨rfl, rfl⟩
    rw [if_neg (by omega)]
    simp [pc0, pc1, pc2, pd1, pd2, pe0, pe1, pe2, hpt, hpl, hfr, -errV_0]
    refine alt (fun c3 => ?_) (fun c3 => ?_)
    · rw [if_pos (by simpa [sideS, hfr] using c3)]
      simp [pc0, pc1, pc2, pd1, pd2, pe0, pe1, pe2, hpt, hpl, hfr, RE, staC, zSta]
      refine finW _ (weak_nlB (o := 32) (k := 3) 36 rfl rfl) (finW _ (weak_nlB (o := 32) (k := 4) 3 rfl rfl) ?_)
      exact fin [] (by decide) rfl rfl rfl ⟨rfl, rfl⟩
    rw [if_neg (by simpa [sideS, hfr] using c3)]
    simp [pc0, pc1, pc2, pd1, pd2, pe0, pe1, pe2, hpt, hpl, hfr, -errV_0]
    refine eloop (α := Nat) (fun i => i ≤ s.pays.length ∧ ∀ (k : Nat) (y : Int), k < i → ids[k]? = some y → y < p.id) (fun i => s.pays.length - i)
      (fun i => [.any, .any, Ptr 0, Ptr 1, Ptr 2, .any, EV.lit (.slice none 0 0), I .i64 i, .any, .any, .any, .any, .any, .any, .any, .any, .any, .any, .any, .any, .any, .any, .any, .any, .any, .any, .any, .any, .any, .any, .any, .any, .any, .any, .any, .any, .any, .any, .any, .any, .any, .any, .any, .any, .any, .any, .any, .any, .any, .any, .any, .any, .any, .any, .any, .any, .any, .any, .any, .any, .any, .any, .any, .any, .any, .any, .any, .any, .any, .any, .any, .any, .any, .any, .any, .any, .any, .any, .any, .any, .any, .any, .any, .any, .any, .any, .any, .any, .any, .any, .any, .any, .any, .any, .any, .any, .any, .any, .any, .any, .any, .any, .any, .any, .any, .any, .any, .any, .any, .any, .any]) (fun _ => [some (.box 26 (staC s)), some (.box 54 (payC p)), some (.box 26 [.fz (.lit (.int .i64 0)), .fz (.lit (.int .i64 0)), .fz (.lit (.int .i64 0)), .fz (.lit (.slice none 0 0)), .fz (.lit (.slice none 0 0))])]) 0 [0, 16, 32]
      ⟨Nat.zero_le _, fun k y hk => absurd hk (Nat.not_lt_zero k)⟩ (by simp [I, Ptr]) (by simp [staC, zSta, hpl]) (by simp) (by simp) (by simp) ?_
    rintro i ⟨hi, hlo⟩
    simp [pc0, pc1, pc2, pd1, pd2, pe0, pe1, pe2, hpt, hpl, hfr, I, Ptr, staC, zSta]
    have hn0 : ¬ ((i : Int) < 0) := by omega
    have wn : IntKind.i64.wrap (-p.am) = -p.am := wrap_i64 (by omega) (by omega)
    have w2 : IntKind.i64.wrap (s.h0 + A) = s.h0 + A := wrap_i64 (by omega) (by omega)
    have w3 : IntKind.i64.wrap (s.h1 + B) = s.h1 + B := wrap_i64 (by omega) (by omega)
    have w5 : IntKind.i64.wrap (s.num + 1) = s.num + 1 := wrap_i64 (by omega) (by omega)
    have tpv : List.take s.pays.length (payv s.pays) = payv s.pays := List.take_of_length_le (by simp)
    refine alt (fun hlt => ?_) (fun hlt => ?_)
    · have hln : i < s.pays.length := by omega
      obtain ⟨g, hc⟩ : ∃ p, s.pays[i]? = some p := ⟨s.pays[i], by simp [hln]⟩
      have hgo := ok4 g (List.mem_of_getElem? hc)
      have hgl := payF_len hgo.2.2.2.2
      have hge : (payv s.pays)[i]'(by simp [hln]) = payF g := by
        have e := payv_get hc
        rw [List.getElem?_eq_getElem (by simp [hln])] at e
        exact Option.some.inj e
      have w4 : IntKind.i64.wrap ((i : Int) + 1) = ((i + 1 : Nat) : Int) := wrap_i64 (by omega) (by omega)
      simp [pc0, pc1, pc2, pd1, pd2, pe0, pe1, pe2, hpt, hpl, hln, hge, payF, -errV_0]
      refine alt (fun he => ?_) (fun he => ?_)
      · simp [pc0, pc1, pc2, pd1, pd2, pe0, pe1, pe2, hpt, hpl, w4, -errV_0, -Int.natCast_add]
        refine round (i + 1) [0, 1, 2] ⟨by omega, ?_⟩ (by omega) (by simp) (by simp) (by simp) (by simp) (by simp)
        intro k y hk hy
        rcases Nat.lt_or_ge k i with h1 | h1
        · exact hlo k y h1 hy
        · obtain rfl : k = i := by omega
          rw [hget k g hc] at hy
          obtain rfl := Option.some.inj hy
          exact he
      · have hpos : posI (s.pays.map (·.id)) p.id = i := by
          rw [hids]
          exact posI_eq (by omega) hlo fun y hy => by
            rw [hget i g hc] at hy
            obtain rfl := Option.some.inj hy
            omega
        have hpv := payv_ins s.pays p
        rw [hpos] at hpv
        have hpl1 : (insP s.pays p).length = s.pays.length + 1 := len_ins Pay.id s.pays p
        obtain ⟨L, hL⟩ : ∃ L, insP s.pays p = L := ⟨_, rfl⟩
        rw [hL] at hpv hpl1 ⊢
        have hlen : i + 1 + (s.pays.length - i) = L.length := by omega
        simp [pc0, pc1, pc2, pd1, pd2, pe0, pe1, pe2, hpt, hpl, hfr, hfl, hlt, hn0, hi, tpv, hlen, wn, ← hpv, -errV_0]
        refine ⟨by omega, by omega, by omega, ?_⟩
        refine call0 (Rto_ok wh (-p.am)) (by simp [I, hwh, hfr]) ?_
        rintro y H' ⟨rfl, rfl⟩
        refine ⟨.inl (by simp), le_ok rfl, ?_⟩
        simp [pc0, pc1, pc2, pd1, pd2, pe0, pe1, pe2, hpt, hpl, hfr, -errV_0]
        refine callH [467] (RwithP_ok s A B w5 w2 w3 L s.holds) (by simp [SV, staC, HL, I, hA, hB, hwh, hfr]) (by simp) (by simp) (by simp) (by simp) ?_
        rintro y H' ⟨rfl, rfl⟩
        refine ⟨.inl (by simp), by simp, ?_⟩
        simp [pc0, pc1, pc2, pd1, pd2, pe0, pe1, pe2, hpt, hpl, hfr, -errV_0]
        refine finW _ (weak_frz (o := 467) (ty := 54) (es := 36) (xs := payv L) rfl) ?_
        exact fin [] (by decide) rfl rfl rfl ⟨rfl, by simp [RE, staC, hA, hB, hfr, List.take_of_length_le, Int.sub_eq_add_neg, -errV_0]⟩
    · have hpos : posI (s.pays.map (·.id)) p.id = i := by
        rw [hids]
        exact posI_eq (by omega) hlo fun y hy => absurd (lt_len hy) (by omega)
      have hpv := payv_ins s.pays p
      rw [hpos] at hpv
      have hpl1 : (insP s.pays p).length = s.pays.length + 1 := len_ins Pay.id s.pays p
      obtain ⟨L, hL⟩ : ∃ L, insP s.pays p = L := ⟨_, rfl⟩
      rw [hL] at hpv hpl1 ⊢
      have hlen : i + 1 + (s.pays.length - i) = L.length := by omega
      simp [pc0, pc1, pc2, pd1, pd2, pe0, pe1, pe2, hpt, hpl, hfr, hfl, hlt, hn0, hi, tpv, hlen, wn, ← hpv, -errV_0]
      refine ⟨by omega, by omega, by omega, ?_⟩
      refine call0 (Rto_ok wh (-p.am)) (by simp [I, hwh, hfr]) ?_
      rintro y H' ⟨rfl, rfl⟩
      refine ⟨.inl (by simp), le_ok rfl, ?_⟩
      simp [pc0, pc1, pc2, pd1, pd2, pe0, pe1, pe2, hpt, hpl, hfr, -errV_0]
      refine callH [467] (RwithP_ok s A B w5 w2 w3 L s.holds) (by simp [SV, staC, HL, I, hA, hB, hwh, hfr]) (by simp) (by simp) (by simp) (by simp) ?_
      rintro y H' ⟨rfl, rfl⟩
      refine ⟨.inl (by simp), by simp, ?_⟩
      simp [pc0, pc1, pc2, pd1, pd2, pe0, pe1, pe2, hpt, hpl, hfr, -errV_0]
      refine finW _ (weak_frz (o := 467) (ty := 54) (es := 36) (xs := payv L) rfl) ?_
      exact fin [] (by decide) rfl rfl rfl ⟨rfl, by simp [RE, staC, hA, hB, hfr, List.take_of_length_le, Int.sub_eq_add_neg, -errV_0]⟩

end Go.Proofs.YtpohjnhlhfbnaaaDoor

namespace Go.Proofs.YtpohjnhlhfbnaaaDoor
open Go Go.EW
set_option linter.unusedSimpArgs false
set_option linter.unusedVariables false

@[simp] def l_Rdrop_1 (_ : Unit) : List EOp := [⟨0, (some 4), none, (.q (.mov (.k (.slice none 0 0)))), []⟩]
@[simp] def b_Rdrop_2 (_ : Unit) : EB := reg0 (hid l_Rdrop_1) 1
@[simp] def l_Rdrop_3 (_ : Unit) : List EOp := [⟨0, (some 5), none, (.q (.mov (.k (.slice none 0 0)))), []⟩]
@[simp] def b_Rdrop_4 (_ : Unit) : EB := reg0 (hid l_Rdrop_3) 1
@[simp] def l_Rdrop_6 (_ : Unit) : List EOp := [⟨7, (some 13), none, (.q (.bin .add (.t 12) (.k (.int .i64 1)))), []⟩, ⟨8, (some 14), none, (.q (.ssl 36 (.t 11) (some (.t 13)) none)), []⟩, ⟨4, (some 10), none, (.app 54 36 64 (.t 6) (.t 9)), [5, 6, 7, 8]⟩, ⟨9, (some 15), none, (.app 54 36 64 (.t 10) (.t 14)), []⟩, ⟨10, (some 4), none, (.q (.mov (.t 15))), []⟩]
@[simp] def l_Rdrop_5 (_ : Unit) : List EOp := ⟨0, (some 6), none, (.q (.mov (.t 5))), []⟩ :: ⟨1, (some 7), none, (.q (.mov (.t 0))), []⟩ :: ⟨2, (some 8), none, (.q (.mov (.t 1))), []⟩ :: ⟨3, (some 9), none, (.q (.ssl 36 (.t 7) none (some (.t 8)))), []⟩ :: ⟨5, (some 11), none, (.q (.mov (.t 0))), []⟩ :: ⟨6, (some 12), none, (.q (.mov (.t 1))), []⟩ :: hid l_Rdrop_6
@[simp] def b_Rdrop_7 (_ : Unit) : EB := reg1 (hid l_Rdrop_5) 11
@[simp] def b_Rdrop_8 (_ : Unit) : EB := .seq (hid b_Rdrop_7) .ret
@[simp] def b_Rdrop_9 (_ : Unit) : EB := .seq (hid b_Rdrop_4) (hid b_Rdrop_8)
@[simp] def b_Rdrop_10 (_ : Unit) : EB := .seq (hid b_Rdrop_2) (hid b_Rdrop_9)
def c_Rdrop : EB × List QOp × Nat := ((hid b_Rdrop_10), [(.mov (.t 4))], 16)
theorem k_Rdrop : cfun Tryd.prog 81 = some c_Rdrop := by kernel_rfl

@[simp] def l_RFail_1 (_ : Unit) : List EOp := [⟨0, (some 2), none, (.q (.box 26 (.t 0))), []⟩, ⟨1, (some 4), none, (.q (.alloc 26 [(.int .i64 0), (.int .i64 0), (.int .i64 0), (.slice none 0 0), (.slice none 0 0)])), []⟩, ⟨2, (some 5), none, (.q (.mov (.k (.int .i64 0)))), []⟩]
@[simp] def b_RFail_2 (_ : Unit) : EB := reg0 (hid l_RFail_1) 3
@[simp] def l_RFail_3 (_ : Unit) : List EOp := [⟨0, (some 9), none, (.q (.fad 3 (.t 2))), []⟩, ⟨1, (some 10), none, (.q (.ldc (.t 9))), []⟩, ⟨2, (some 11), none, (.q (.mov (.t 1))), []⟩, ⟨3, (some 12), none, (.call 79 [(.t 10), (.t 11)]), []⟩, ⟨4, (some 6), none, (.q (.mov (.t 12))), []⟩]
@[simp] def b_RFail_4 (_ : Unit) : EB := reg0 (hid l_RFail_3) 5
@[simp] def l_RFail_5 (_ : Unit) : List EOp := [⟨0, (some 14), none, (.q (.lda 5 (.t 2))), []⟩, ⟨1, (some 15), none, (.call 39 [(.t 14)]), []⟩, ⟨2, (some 16), none, (.q (.un .not (.t 15))), []⟩, ⟨3, (some 13), none, (.q (.mov (.t 16))), []⟩]
@[simp] def b_RFail_6 (_ : Unit) : EB := reg0 (hid l_RFail_5) 4
@[simp] def l_RFail_7 (_ : Unit) : List EOp := [⟨0, (some 17), none, (.q (.build [(.int .i64 0), (.int .i64 0), (.int .i64 0), (.slice none 0 0), (.slice none 0 0)] [])), []⟩, ⟨1, none, none, (.fz (.sto 5 (.t 4) (.t 17))), []⟩, ⟨2, (some 5), none, (.q (.mov (.k (.int .i64 1)))), []⟩]
@[simp] def b_RFail_8 (_ : Unit) : EB := reg0 (hid l_RFail_7) 3
@[simp] def b_RFail_9 (_ : Unit) : EB := .seq (hid b_RFail_8) .ret
@[simp] def l_RFail_10 (_ : Unit) : List EOp := [⟨0, (some 19), none, (.q (.mov (.t 6))), []⟩, ⟨1, (some 20), none, (.q (.bin .lss (.t 19) (.k (.int .i64 0)))), []⟩, ⟨2, (some 18), none, (.q (.mov (.t 20))), []⟩]
@[simp] def b_RFail_11 (_ : Unit) : EB := reg0 (hid l_RFail_10) 3
@[simp] def l_RFail_12 (_ : Unit) : List EOp := [⟨0, (some 21), none, (.q (.build [(.int .i64 0), (.int .i64 0), (.int .i64 0), (.slice none 0 0), (.slice none 0 0)] [])), []⟩, ⟨1, none, none, (.fz (.sto 5 (.t 4) (.t 21))), []⟩, ⟨2, (some 5), none, (.q (.mov (.k (.int .i64 8)))), []⟩]
@[simp] def b_RFail_13 (_ : Unit) : EB := reg0 (hid l_RFail_12) 3
@[simp] def b_RFail_14 (_ : Unit) : EB := .seq (hid b_RFail_13) .ret
@[simp] def b_RFail_15 (_ : Unit) : EB := .cond (.t 18) (hid b_RFail_14) .skip
@[simp] def b_RFail_16 (_ : Unit) : EB := .seq (hid b_RFail_11) (hid b_RFail_15)
@[simp] def b_RFail_17 (_ : Unit) : EB := .cond (.t 13) (hid b_RFail_9) (hid b_RFail_16)
@[simp] def b_RFail_18 (_ : Unit) : EB := .seq (hid b_RFail_6) (hid b_RFail_17)
@[simp] def b_RFail_19 (_ : Unit) : EB := .block 0 (hid b_RFail_18)
@[simp] def l_RFail_22 (_ : Unit) : List EOp := [⟨12, (some 35), none, (.call 42 [(.t 28), (.t 34)]), []⟩, ⟨13, (some 22), none, (.q (.mov (.t 35))), []⟩, ⟨14, (some 36), none, (.q (.ext 0 (.t 22))), []⟩, ⟨15, (some 37), none, (.q (.ext 1 (.t 22))), []⟩, ⟨16, (some 7), none, (.q (.mov (.t 36))), []⟩, ⟨17, (some 8), none, (.q (.mov (.t 37))), []⟩]
@[simp] def l_RFail_21 (_ : Unit) : List EOp := ⟨6, (some 29), none, (.q (.fad 3 (.t 2))), []⟩ :: ⟨7, (some 30), none, (.q (.ldc (.t 29))), []⟩ :: ⟨8, (some 31), none, (.q (.mov (.t 6))), []⟩ :: ⟨9, (some 32), none, (.q (.isl 36 (.t 30) (.t 31))), []⟩ :: ⟨10, (some 33), none, (.q (.fad 2 (.t 32))), []⟩ :: ⟨11, (some 34), none, (.q (.ldc (.t 33))), []⟩ :: hid l_RFail_22
@[simp] def l_RFail_20 (_ : Unit) : List EOp := ⟨0, (some 23), none, (.q (.fad 3 (.t 2))), []⟩ :: ⟨1, (some 24), none, (.q (.ldc (.t 23))), []⟩ :: ⟨2, (some 25), none, (.q (.mov (.t 6))), []⟩ :: ⟨3, (some 26), none, (.q (.isl 36 (.t 24) (.t 25))), []⟩ :: ⟨4, (some 27), none, (.q (.fad 1 (.t 26))), []⟩ :: ⟨5, (some 28), none, (.q (.ldc (.t 27))), []⟩ :: hid l_RFail_21
@[simp] def b_RFail_23 (_ : Unit) : EB := reg0 (hid l_RFail_20) 18
@[simp] def l_RFail_25 (_ : Unit) : List EOp := [⟨7, (some 45), none, (.q (.fad 4 (.t 2))), []⟩, ⟨8, (some 46), none, (.q (.ldc (.t 45))), []⟩, ⟨6, (some 44), none, (.call 81 [(.t 42), (.t 43)]), [0, 1, 2, 7, 8]⟩, ⟨9, (some 47), none, (.call 40 [(.t 38), (.t 39), (.t 40), (.t 44), (.t 46)]), []⟩, ⟨10, none, none, (.fz (.sto 5 (.t 4) (.t 47))), []⟩, ⟨11, (some 5), none, (.q (.mov (.k (.int .i64 0)))), []⟩]
@[simp] def l_RFail_24 (_ : Unit) : List EOp := ⟨0, (some 38), none, (.q (.lda 5 (.t 2))), []⟩ :: ⟨1, (some 39), none, (.q (.mov (.t 7))), []⟩ :: ⟨2, (some 40), none, (.q (.mov (.t 8))), []⟩ :: ⟨3, (some 41), none, (.q (.fad 3 (.t 2))), []⟩ :: ⟨4, (some 42), none, (.q (.ldc (.t 41))), []⟩ :: ⟨5, (some 43), none, (.q (.mov (.t 6))), []⟩ :: hid l_RFail_25
@[simp] def b_RFail_26 (_ : Unit) : EB := reg1 (hid l_RFail_24) 12
@[simp] def b_RFail_27 (_ : Unit) : EB := .seq (hid b_RFail_26) .ret
@[simp] def b_RFail_28 (_ : Unit) : EB := .seq (hid b_RFail_23) (hid b_RFail_27)
@[simp] def b_RFail_29 (_ : Unit) : EB := .seq (hid b_RFail_19) (hid b_RFail_28)
@[simp] def b_RFail_30 (_ : Unit) : EB := .seq (hid b_RFail_4) (hid b_RFail_29)
@[simp] def b_RFail_31 (_ : Unit) : EB := .seq (hid b_RFail_2) (hid b_RFail_30)
def c_RFail : EB × List QOp × Nat := ((hid b_RFail_31), [(.lda 5 (.t 4)), (.mov (.t 5))], 48)
theorem k_RFail : cfun Tryd.prog 36 = some c_RFail := by kernel_rfl


set_option maxHeartbeats 1000000 in
theorem Rdrop_ok (l : List Pay) (i : Nat) (hi : i < l.length) (hn : l.length ≤ 100000000) : ECalls Tryd.prog 81 [PL l, I .i64 i] [] fun y H' => H' = [some (.row 54 36 ((payv l).take i ++ (payv l).drop (i + 1)))] ∧ y = .v (.c (.row 0 (l.length - 1))) := by
  have w1 : IntKind.i64.wrap ((i : Int) + 1) = ((i + 1 : Nat) : Int) := wrap_i64 (by omega) (by omega)
  have hn0 : ¬ ((i : Int) < 0) := by omega
  have tpv : List.take l.length (payv l) = payv l := List.take_of_length_le (by simp)
  have hlen : min i l.length + (l.length - (i + 1)) = l.length - 1 := by omega
  refine ecalls k_Rdrop ?_
  simp [c_Rdrop, PL, I, hi, hn0, w1, tpv, hlen, -Int.natCast_add]
  exact ⟨by omega, by omega, by omega, by omega, fin [176] (by decide) rfl rfl rfl ⟨rfl, rfl⟩⟩

set_option maxHeartbeats 4000000 in
theorem RFail_ok (s : Sta) (x : Int) (hs : s.ok) (hx64 : i64 x) : ECalls Tryd.prog 36 [SV s, I .i64 x] [] fun y H' => H' = [] ∧ y = RE (falS s x) := by
  obtain ⟨ok1, ok2, ok3, ok4, ok5, ok6, ok7⟩ := id hs
  refine ecalls k_RFail ?_
  simp [c_RFail, SV, staC, I, -errV_0]
  refine call0 (RpayAt_ok s.pays x ok4 ok6) (by simp [PL, I]) ?_
  rintro y H' ⟨rfl, r, hr, rfl⟩
  refine ⟨.inl (by simp), le_ok rfl, ?_⟩
  simp [I, -errV_0]
  refine call0 (Rright_ok s hs) (by simp [SV, staC]) ?_
  rintro y H' ⟨rfl, rfl⟩
  refine ⟨.inl (by simp), le_ok rfl, ?_⟩
  by_cases h0 : mayS s = true ∧ s.num ≠ 1099511627776
  rotate_left
  · have hx : nxt s = (zSta, 1) := by simp only [nxt, if_neg h0]
    have ha : falS s x = (zSta, 1) := by simp [falS, takS, hx]
    rw [ha, decide_eq_false h0]
    simp [RE, staC, zSta]
    refine finW _ (weak_nlB (o := 16) (k := 3) 36 rfl rfl) (finW _ (weak_nlB (o := 16) (k := 4) 3 rfl rfl) ?_)
    exact fin [] (by decide) rfl rfl rfl ⟨rfl, rfl⟩
  rw [decide_eq_true h0]
  have hx : nxt s = (⟨s.num + 1, s.h0, s.h1, s.pays, s.holds⟩, 0) := by simp only [nxt, if_pos h0]
  obtain ⟨hr', hpl', hhl, htot⟩ := mayS_t h0.1
  have hpw := payL_pw hpl'
  rcases FI_pos hpw hr with ⟨hf, rfl⟩ | ⟨hf, rfl⟩
  · have ht : takS s x = (zSta, zPay, 8) := by simp only [takS, hx]; rw [if_neg (by simp), if_pos hf]
    have ha : falS s x = (zSta, 8) := by simp [falS, ht]
    rw [ha]
    simp [RE, staC, zSta]
    refine finW _ (weak_nlB (o := 16) (k := 3) 36 rfl rfl) (finW _ (weak_nlB (o := 16) (k := 4) 3 rfl rfl) ?_)
    exact fin [] (by decide) rfl rfl rfl ⟨rfl, rfl⟩
  obtain ⟨p, hc, hid⟩ := fnd_get (f := Pay.id) hf
  have hc' : s.pays[posI (s.pays.map (·.id)) x]? = some p := hc
  have ht : takS s x = (⟨s.num + 1, s.h0, s.h1, delP s.pays x, s.holds⟩, p, 0) := by
    simp only [takS, hx]; rw [if_neg (by simp), if_neg (by rw [hf]; simp), hc']; rfl
  have hfr : falS s x = (⟨s.num + 1, if p.fr = 0 then s.h0 + p.am else s.h0, if p.fr = 0 then s.h1 else s.h1 + p.am, delP s.pays x, s.holds⟩, 0) := by
    simp only [falS, ht]; rw [if_neg (by simp)]
  have hpv0 := payv_del s.pays x
  have hpl1 : (delP s.pays x).length = s.pays.length - 1 := by rw [delP_eq]; exact len_del (f := Pay.id) hc
  have hmem := List.mem_of_getElem? hc
  obtain ⟨pos, hpos⟩ : ∃ pos, posI (s.pays.map (·.id)) x = pos := ⟨_, rfl⟩
  rw [hpos] at hc' hpv0 ⊢
  have hlt : pos < s.pays.length := lt_len hc'
  have hge : (payv s.pays)[pos]'(by simp [hlt]) = payF p := by
    have e := payv_get hc'
    rw [List.getElem?_eq_getElem (by simp [hlt])] at e
    exact Option.some.inj e
  have hpo := ok4 p hmem
  have hfl := payF_len hpo.2.2.2.2
  have hle := payL_sum hpl' p hmem
  have hma := mayP_pos (payL_mem hpl' p hmem)
  have hnn := sumH_nn hhl
  have hto : total s = s.h0 + s.h1 + sumP s.pays + sumH s.holds := rfl
  rw [hfr]
  have hn0 : ¬ ((pos : Int) < 0) := by omega
  simp [hn0, hlt, hge, hfl, payF, -errV_0]
  obtain ⟨A, hA⟩ : ∃ A : Int, (if p.fr = 0 then p.am else 0) = A := ⟨_, rfl⟩
  obtain ⟨B, hB⟩ : ∃ B : Int, (if p.fr = 0 then 0 else p.am) = B := ⟨_, rfl⟩
  have hAB : 0 ≤ A ∧ 0 ≤ B ∧ A + B = p.am := by rw [← hA, ← hB]; split <;> omega
  have w2 : IntKind.i64.wrap (s.h0 + A) = s.h0 + A := wrap_i64 (by omega) (by omega)
  have w4 : IntKind.i64.wrap (s.h1 + B) = s.h1 + B := wrap_i64 (by omega) (by omega)
  have w5 : IntKind.i64.wrap (s.num + 1) = s.num + 1 := wrap_i64 (by omega) (by omega)
  refine call0 (Rto_ok p.fr p.am) (by simp [I]) ?_
  rintro y H' ⟨rfl, rfl⟩
  refine ⟨.inl (by simp), le_ok rfl, ?_⟩
  rw [hA, hB]
  simp [-errV_0]
  have hd := Rdrop_ok s.pays pos hlt ok6
  rw [← hpv0, ← hpl1] at hd
  refine call0 hd (by simp [PL, I]) ?_
  rintro y H' ⟨rfl, rfl⟩
  refine ⟨.inl (by simp), by simp, ?_⟩
  simp [-errV_0]
  obtain ⟨L, hL⟩ : ∃ L, delP s.pays x = L := ⟨_, rfl⟩
  rw [hL]
  refine callH [624] (RwithP_ok s A B w5 w2 w4 L s.holds) (by simp [SV, staC, HL, I]) (by simp) (by simp) (by simp) (by simp) ?_
  rintro y H' ⟨rfl, rfl⟩
  refine ⟨.inl (by simp), by simp, ?_⟩
  simp [-errV_0]
  refine finW _ (weak_frz (o := 624) (ty := 54) (es := 36) (xs := payv L) rfl) ?_
  refine fin [] (by decide) rfl rfl rfl ⟨rfl, ?_⟩
  have e1 : (if p.fr = 0 then s.h0 + p.am else s.h0) = s.h0 + A := by rw [← hA]; split <;> omega
  have e2 : (if p.fr = 0 then s.h1 else s.h1 + p.am) = s.h1 + B := by rw [← hB]; split <;> omega
  rw [e1, e2]
  simp [RE, staC, List.take_of_length_le, -errV_0]

end Go.Proofs.YtpohjnhlhfbnaaaDoor

namespace Go.Proofs.YtpohjnhlhfbnaaaDoor
open Go Go.EW
set_option linter.unusedSimpArgs false
set_option linter.unusedVariables false

@[simp] def l_Rot_1 (_ : Unit) : List EOp := [⟨0, (some 4), none, (.q (.mov (.k (.int .u32 0)))), []⟩]
@[simp] def b_Rot_2 (_ : Unit) : EB := reg0 (hid l_Rot_1) 1
@[simp] def l_Rot_3 (_ : Unit) : List EOp := [⟨0, (some 6), none, (.q (.mov (.t 1))), []⟩, ⟨1, (some 7), none, (.q (.cnv .u64 (.t 6))), []⟩, ⟨2, (some 8), none, (.q (.bin .and (.t 7) (.k (.int .u64 31)))), []⟩, ⟨3, (some 5), none, (.q (.mov (.t 8))), []⟩]
@[simp] def b_Rot_4 (_ : Unit) : EB := reg0 (hid l_Rot_3) 4
@[simp] def l_Rot_6 (_ : Unit) : List EOp := [⟨6, (some 15), none, (.q (.bin .shr (.t 12) (.t 14))), []⟩, ⟨7, (some 16), none, (.q (.bin .or (.t 11) (.t 15))), []⟩, ⟨8, (some 4), none, (.q (.mov (.t 16))), []⟩]
@[simp] def l_Rot_5 (_ : Unit) : List EOp := ⟨0, (some 9), none, (.q (.mov (.t 0))), []⟩ :: ⟨1, (some 10), none, (.q (.mov (.t 5))), []⟩ :: ⟨2, (some 11), none, (.q (.bin .shl (.t 9) (.t 10))), []⟩ :: ⟨3, (some 12), none, (.q (.mov (.t 0))), []⟩ :: ⟨4, (some 13), none, (.q (.mov (.t 5))), []⟩ :: ⟨5, (some 14), none, (.q (.bin .sub (.k (.int .u64 32)) (.t 13))), []⟩ :: hid l_Rot_6
@[simp] def b_Rot_7 (_ : Unit) : EB := reg0 (hid l_Rot_5) 9
@[simp] def b_Rot_8 (_ : Unit) : EB := .seq (hid b_Rot_7) .ret
@[simp] def b_Rot_9 (_ : Unit) : EB := .seq (hid b_Rot_4) (hid b_Rot_8)
@[simp] def b_Rot_10 (_ : Unit) : EB := .seq (hid b_Rot_2) (hid b_Rot_9)
def c_Rot : EB × List QOp × Nat := ((hid b_Rot_10), [(.mov (.t 4))], 17)
theorem k_Rot : cfun Tryd.prog 129 = some c_Rot := by kernel_rfl

@[simp] def l_mix_3 (_ : Unit) : List EOp := [⟨12, (some 26), none, (.q (.bin .add (.t 18) (.t 25))), []⟩, ⟨13, (some 27), none, (.q (.nilc (.t 14))), []⟩, ⟨14, (some 28), none, (.q (.iad 16 1 (.t 27) (.t 15))), []⟩, ⟨15, none, none, (.sto 1 (.t 28) (.t 26)), []⟩]
@[simp] def l_mix_2 (_ : Unit) : List EOp := ⟨6, (some 20), none, (.q (.mov (.t 2))), []⟩ :: ⟨7, (some 21), none, (.q (.nilc (.t 19))), []⟩ :: ⟨8, (some 22), none, (.q (.iad 16 1 (.t 21) (.t 20))), []⟩ :: ⟨9, (some 23), none, (.q (.ldc (.t 22))), []⟩ :: ⟨10, (some 24), none, (.q (.mov (.t 5))), []⟩ :: ⟨11, (some 25), none, (.q (.bin .add (.t 23) (.t 24))), []⟩ :: hid l_mix_3
@[simp] def l_mix_1 (_ : Unit) : List EOp := ⟨0, (some 14), none, (.q (.mov (.t 0))), []⟩ :: ⟨1, (some 15), none, (.q (.mov (.t 1))), []⟩ :: ⟨2, (some 16), none, (.q (.nilc (.t 14))), []⟩ :: ⟨3, (some 17), none, (.q (.iad 16 1 (.t 16) (.t 15))), []⟩ :: ⟨4, (some 18), none, (.q (.ldc (.t 17))), []⟩ :: ⟨5, (some 19), none, (.q (.mov (.t 0))), []⟩ :: hid l_mix_2
@[simp] def b_mix_4 (_ : Unit) : EB := reg0 (hid l_mix_1) 16
@[simp] def l_mix_7 (_ : Unit) : List EOp := [⟨12, (some 41), none, (.q (.bin .xor (.t 35) (.t 40))), []⟩, ⟨14, (some 43), none, (.q (.nilc (.t 29))), []⟩, ⟨13, (some 42), none, (.call 129 [(.t 41), (.k (.int .i64 (-16)))]), [0, 1, 14]⟩, ⟨15, (some 44), none, (.q (.iad 16 1 (.t 43) (.t 30))), []⟩, ⟨16, none, none, (.sto 1 (.t 44) (.t 42)), []⟩]
@[simp] def l_mix_6 (_ : Unit) : List EOp := ⟨6, (some 35), none, (.q (.ldc (.t 34))), []⟩ :: ⟨7, (some 36), none, (.q (.mov (.t 0))), []⟩ :: ⟨8, (some 37), none, (.q (.mov (.t 1))), []⟩ :: ⟨9, (some 38), none, (.q (.nilc (.t 36))), []⟩ :: ⟨10, (some 39), none, (.q (.iad 16 1 (.t 38) (.t 37))), []⟩ :: ⟨11, (some 40), none, (.q (.ldc (.t 39))), []⟩ :: hid l_mix_7
@[simp] def l_mix_5 (_ : Unit) : List EOp := ⟨0, (some 29), none, (.q (.mov (.t 0))), []⟩ :: ⟨1, (some 30), none, (.q (.mov (.t 4))), []⟩ :: ⟨2, (some 31), none, (.q (.mov (.t 0))), []⟩ :: ⟨3, (some 32), none, (.q (.mov (.t 4))), []⟩ :: ⟨4, (some 33), none, (.q (.nilc (.t 31))), []⟩ :: ⟨5, (some 34), none, (.q (.iad 16 1 (.t 33) (.t 32))), []⟩ :: hid l_mix_6
@[simp] def b_mix_8 (_ : Unit) : EB := reg1 (hid l_mix_5) 17
@[simp] def l_mix_11 (_ : Unit) : List EOp := [⟨12, (some 57), none, (.q (.iad 16 1 (.t 56) (.t 46))), []⟩, ⟨13, none, none, (.sto 1 (.t 57) (.t 55)), []⟩]
@[simp] def l_mix_10 (_ : Unit) : List EOp := ⟨6, (some 51), none, (.q (.mov (.t 4))), []⟩ :: ⟨7, (some 52), none, (.q (.nilc (.t 50))), []⟩ :: ⟨8, (some 53), none, (.q (.iad 16 1 (.t 52) (.t 51))), []⟩ :: ⟨9, (some 54), none, (.q (.ldc (.t 53))), []⟩ :: ⟨10, (some 55), none, (.q (.bin .add (.t 49) (.t 54))), []⟩ :: ⟨11, (some 56), none, (.q (.nilc (.t 45))), []⟩ :: hid l_mix_11
@[simp] def l_mix_9 (_ : Unit) : List EOp := ⟨0, (some 45), none, (.q (.mov (.t 0))), []⟩ :: ⟨1, (some 46), none, (.q (.mov (.t 3))), []⟩ :: ⟨2, (some 47), none, (.q (.nilc (.t 45))), []⟩ :: ⟨3, (some 48), none, (.q (.iad 16 1 (.t 47) (.t 46))), []⟩ :: ⟨4, (some 49), none, (.q (.ldc (.t 48))), []⟩ :: ⟨5, (some 50), none, (.q (.mov (.t 0))), []⟩ :: hid l_mix_10
@[simp] def b_mix_12 (_ : Unit) : EB := reg0 (hid l_mix_9) 14
@[simp] def l_mix_15 (_ : Unit) : List EOp := [⟨12, (some 70), none, (.q (.bin .xor (.t 64) (.t 69))), []⟩, ⟨14, (some 72), none, (.q (.nilc (.t 58))), []⟩, ⟨13, (some 71), none, (.call 129 [(.t 70), (.k (.int .i64 (-12)))]), [0, 1, 14]⟩, ⟨15, (some 73), none, (.q (.iad 16 1 (.t 72) (.t 59))), []⟩, ⟨16, none, none, (.sto 1 (.t 73) (.t 71)), []⟩]
@[simp] def l_mix_14 (_ : Unit) : List EOp := ⟨6, (some 64), none, (.q (.ldc (.t 63))), []⟩ :: ⟨7, (some 65), none, (.q (.mov (.t 0))), []⟩ :: ⟨8, (some 66), none, (.q (.mov (.t 3))), []⟩ :: ⟨9, (some 67), none, (.q (.nilc (.t 65))), []⟩ :: ⟨10, (some 68), none, (.q (.iad 16 1 (.t 67) (.t 66))), []⟩ :: ⟨11, (some 69), none, (.q (.ldc (.t 68))), []⟩ :: hid l_mix_15
@[simp] def l_mix_13 (_ : Unit) : List EOp := ⟨0, (some 58), none, (.q (.mov (.t 0))), []⟩ :: ⟨1, (some 59), none, (.q (.mov (.t 2))), []⟩ :: ⟨2, (some 60), none, (.q (.mov (.t 0))), []⟩ :: ⟨3, (some 61), none, (.q (.mov (.t 2))), []⟩ :: ⟨4, (some 62), none, (.q (.nilc (.t 60))), []⟩ :: ⟨5, (some 63), none, (.q (.iad 16 1 (.t 62) (.t 61))), []⟩ :: hid l_mix_14
@[simp] def b_mix_16 (_ : Unit) : EB := reg1 (hid l_mix_13) 17
@[simp] def l_mix_19 (_ : Unit) : List EOp := [⟨12, (some 86), none, (.q (.bin .add (.t 78) (.t 85))), []⟩, ⟨13, (some 87), none, (.q (.nilc (.t 74))), []⟩, ⟨14, (some 88), none, (.q (.iad 16 1 (.t 87) (.t 75))), []⟩, ⟨15, none, none, (.sto 1 (.t 88) (.t 86)), []⟩]
@[simp] def l_mix_18 (_ : Unit) : List EOp := ⟨6, (some 80), none, (.q (.mov (.t 2))), []⟩ :: ⟨7, (some 81), none, (.q (.nilc (.t 79))), []⟩ :: ⟨8, (some 82), none, (.q (.iad 16 1 (.t 81) (.t 80))), []⟩ :: ⟨9, (some 83), none, (.q (.ldc (.t 82))), []⟩ :: ⟨10, (some 84), none, (.q (.mov (.t 6))), []⟩ :: ⟨11, (some 85), none, (.q (.bin .add (.t 83) (.t 84))), []⟩ :: hid l_mix_19
@[simp] def l_mix_17 (_ : Unit) : List EOp := ⟨0, (some 74), none, (.q (.mov (.t 0))), []⟩ :: ⟨1, (some 75), none, (.q (.mov (.t 1))), []⟩ :: ⟨2, (some 76), none, (.q (.nilc (.t 74))), []⟩ :: ⟨3, (some 77), none, (.q (.iad 16 1 (.t 76) (.t 75))), []⟩ :: ⟨4, (some 78), none, (.q (.ldc (.t 77))), []⟩ :: ⟨5, (some 79), none, (.q (.mov (.t 0))), []⟩ :: hid l_mix_18
@[simp] def b_mix_20 (_ : Unit) : EB := reg0 (hid l_mix_17) 16
@[simp] def l_mix_23 (_ : Unit) : List EOp := [⟨12, (some 101), none, (.q (.bin .xor (.t 95) (.t 100))), []⟩, ⟨14, (some 103), none, (.q (.nilc (.t 89))), []⟩, ⟨13, (some 102), none, (.call 129 [(.t 101), (.k (.int .i64 (-8)))]), [0, 1, 14]⟩, ⟨15, (some 104), none, (.q (.iad 16 1 (.t 103) (.t 90))), []⟩, ⟨16, none, none, (.sto 1 (.t 104) (.t 102)), []⟩]
@[simp] def l_mix_22 (_ : Unit) : List EOp := ⟨6, (some 95), none, (.q (.ldc (.t 94))), []⟩ :: ⟨7, (some 96), none, (.q (.mov (.t 0))), []⟩ :: ⟨8, (some 97), none, (.q (.mov (.t 1))), []⟩ :: ⟨9, (some 98), none, (.q (.nilc (.t 96))), []⟩ :: ⟨10, (some 99), none, (.q (.iad 16 1 (.t 98) (.t 97))), []⟩ :: ⟨11, (some 100), none, (.q (.ldc (.t 99))), []⟩ :: hid l_mix_23
@[simp] def l_mix_21 (_ : Unit) : List EOp := ⟨0, (some 89), none, (.q (.mov (.t 0))), []⟩ :: ⟨1, (some 90), none, (.q (.mov (.t 4))), []⟩ :: ⟨2, (some 91), none, (.q (.mov (.t 0))), []⟩ :: ⟨3, (some 92), none, (.q (.mov (.t 4))), []⟩ :: ⟨4, (some 93), none, (.q (.nilc (.t 91))), []⟩ :: ⟨5, (some 94), none, (.q (.iad 16 1 (.t 93) (.t 92))), []⟩ :: hid l_mix_22
@[simp] def b_mix_24 (_ : Unit) : EB := reg1 (hid l_mix_21) 17
@[simp] def l_mix_27 (_ : Unit) : List EOp := [⟨12, (some 117), none, (.q (.iad 16 1 (.t 116) (.t 106))), []⟩, ⟨13, none, none, (.sto 1 (.t 117) (.t 115)), []⟩]
@[simp] def l_mix_26 (_ : Unit) : List EOp := ⟨6, (some 111), none, (.q (.mov (.t 4))), []⟩ :: ⟨7, (some 112), none, (.q (.nilc (.t 110))), []⟩ :: ⟨8, (some 113), none, (.q (.iad 16 1 (.t 112) (.t 111))), []⟩ :: ⟨9, (some 114), none, (.q (.ldc (.t 113))), []⟩ :: ⟨10, (some 115), none, (.q (.bin .add (.t 109) (.t 114))), []⟩ :: ⟨11, (some 116), none, (.q (.nilc (.t 105))), []⟩ :: hid l_mix_27
@[simp] def l_mix_25 (_ : Unit) : List EOp := ⟨0, (some 105), none, (.q (.mov (.t 0))), []⟩ :: ⟨1, (some 106), none, (.q (.mov (.t 3))), []⟩ :: ⟨2, (some 107), none, (.q (.nilc (.t 105))), []⟩ :: ⟨3, (some 108), none, (.q (.iad 16 1 (.t 107) (.t 106))), []⟩ :: ⟨4, (some 109), none, (.q (.ldc (.t 108))), []⟩ :: ⟨5, (some 110), none, (.q (.mov (.t 0))), []⟩ :: hid l_mix_26
@[simp] def b_mix_28 (_ : Unit) : EB := reg0 (hid l_mix_25) 14
@[simp] def l_mix_31 (_ : Unit) : List EOp := [⟨12, (some 130), none, (.q (.bin .xor (.t 124) (.t 129))), []⟩, ⟨14, (some 132), none, (.q (.nilc (.t 118))), []⟩, ⟨13, (some 131), none, (.call 129 [(.t 130), (.k (.int .i64 (-7)))]), [0, 1, 14]⟩, ⟨15, (some 133), none, (.q (.iad 16 1 (.t 132) (.t 119))), []⟩, ⟨16, none, none, (.sto 1 (.t 133) (.t 131)), []⟩]
@[simp] def l_mix_30 (_ : Unit) : List EOp := ⟨6, (some 124), none, (.q (.ldc (.t 123))), []⟩ :: ⟨7, (some 125), none, (.q (.mov (.t 0))), []⟩ :: ⟨8, (some 126), none, (.q (.mov (.t 3))), []⟩ :: ⟨9, (some 127), none, (.q (.nilc (.t 125))), []⟩ :: ⟨10, (some 128), none, (.q (.iad 16 1 (.t 127) (.t 126))), []⟩ :: ⟨11, (some 129), none, (.q (.ldc (.t 128))), []⟩ :: hid l_mix_31
@[simp] def l_mix_29 (_ : Unit) : List EOp := ⟨0, (some 118), none, (.q (.mov (.t 0))), []⟩ :: ⟨1, (some 119), none, (.q (.mov (.t 2))), []⟩ :: ⟨2, (some 120), none, (.q (.mov (.t 0))), []⟩ :: ⟨3, (some 121), none, (.q (.mov (.t 2))), []⟩ :: ⟨4, (some 122), none, (.q (.nilc (.t 120))), []⟩ :: ⟨5, (some 123), none, (.q (.iad 16 1 (.t 122) (.t 121))), []⟩ :: hid l_mix_30
@[simp] def b_mix_32 (_ : Unit) : EB := reg1 (hid l_mix_29) 17
@[simp] def b_mix_33 (_ : Unit) : EB := .seq (hid b_mix_28) (hid b_mix_32)
@[simp] def b_mix_34 (_ : Unit) : EB := .seq (hid b_mix_24) (hid b_mix_33)
@[simp] def b_mix_35 (_ : Unit) : EB := .seq (hid b_mix_20) (hid b_mix_34)
@[simp] def b_mix_36 (_ : Unit) : EB := .seq (hid b_mix_16) (hid b_mix_35)
@[simp] def b_mix_37 (_ : Unit) : EB := .seq (hid b_mix_12) (hid b_mix_36)
@[simp] def b_mix_38 (_ : Unit) : EB := .seq (hid b_mix_8) (hid b_mix_37)
@[simp] def b_mix_39 (_ : Unit) : EB := .seq (hid b_mix_4) (hid b_mix_38)
def c_mix : EB × List QOp × Nat := ((hid b_mix_39), [], 134)
theorem k_mix : cfun Tryd.prog 124 = some c_mix := by kernel_rfl

@[simp] def l_first_1 (_ : Unit) : List EOp := [⟨0, (some 0), none, (.q (.alloc 150 [(.int .u32 0), (.int .u32 0), (.int .u32 0), (.int .u32 0), (.int .u32 0), (.int .u32 0), (.int .u32 0), (.int .u32 0)])), []⟩]
@[simp] def b_first_2 (_ : Unit) : EB := reg0 (hid l_first_1) 1
@[simp] def l_first_3 (_ : Unit) : List EOp := [⟨0, (some 1), none, (.q (.build [(.int .u32 0), (.int .u32 0), (.int .u32 0), (.int .u32 0), (.int .u32 0), (.int .u32 0), (.int .u32 0), (.int .u32 0)] [(0, 1, (.k (.int .u32 1779033703))), (1, 1, (.k (.int .u32 3144134277))), (2, 1, (.k (.int .u32 1013904242))), (3, 1, (.k (.int .u32 2773480762))), (4, 1, (.k (.int .u32 1359893119))), (5, 1, (.k (.int .u32 2600822924))), (6, 1, (.k (.int .u32 528734635))), (7, 1, (.k (.int .u32 1541459225)))])), []⟩, ⟨1, none, none, (.sto 8 (.t 0) (.t 1)), []⟩]
@[simp] def b_first_4 (_ : Unit) : EB := reg0 (hid l_first_3) 2
@[simp] def b_first_5 (_ : Unit) : EB := .seq (hid b_first_4) .ret
@[simp] def b_first_6 (_ : Unit) : EB := .seq (hid b_first_2) (hid b_first_5)
def c_first : EB × List QOp × Nat := ((hid b_first_6), [(.lda 8 (.t 0))], 2)
theorem k_first : cfun Tryd.prog 99 = some c_first := by kernel_rfl


/-! ### words -/
/-- A word as the program has it. -/
def wi (x : UInt32) : Int := (x.toNat : Int)
def wc (x : UInt32) : EC := .fz (.lit (.int .u32 (wi x)))
def wl (l : List UInt32) : List EC := l.map wc
def WV (x : UInt32) : EV := .lit (.int .u32 (wi x))
def NV (n : Int) : EV := .lit (.int .i64 n)
@[simp] theorem wl_len (l : List UInt32) : (wl l).length = l.length := by simp [wl]
theorem wl_get {l : List UInt32} {i : Nat} {x : UInt32} (h : l[i]? = some x) : (wl l)[i]? = some (wc x) := by simp [wl, h]
theorem wl_set (l : List UInt32) (i : Nat) (x : UInt32) : (wl l).set i (.fz (.lit (.int .u32 (wi x)))) = wl (l.set i x) := by simp [wl, List.map_set, wc]
@[simp] theorem conAll_wl (H : Nat → Option EO) (ids : List Nat) (l : List UInt32) : conAll H ids (wl l) = some (wl l) := by
  induction l with
  | nil => rfl
  | cons b t ih =>
    have e : wl (b :: t) = .fz (.lit (.int .u32 (wi b))) :: wl t := rfl
    rw [e]
    simp only [conAll, ih]
    simp
@[simp] theorem strAll_wl (ids : List Nat) (l : List UInt32) : strAll ids (wl l) = some (wl l) := by
  induction l with
  | nil => rfl
  | cons b r ih => simp only [wl, List.map_cons, strAll] at *; rw [ih]; rfl
@[simp] theorem refs_wl (l : List UInt32) : (wl l).flatMap refsC = [] := by
  induction l with
  | nil => rfl
  | cons b r ih => simp only [wl, List.map_cons, List.flatMap_cons] at *; rw [ih]; rfl
@[simp] theorem fz_wl (ids : List Nat) (l : List UInt32) : (wl l).flatMap (fzC ids) = [] := by
  induction l with
  | nil => rfl
  | cons b r ih => simp only [wl, List.map_cons, List.flatMap_cons] at *; rw [ih]; rfl
@[simp] theorem ren_wl (g : Nat → Nat) (l : List UInt32) : (wl l).map (renC g) = wl l := by
  induction l with
  | nil => rfl
  | cons b r ih => simp only [wl, List.map_cons] at *; rw [ih]; rfl
def shl (x : UInt32) (k : Nat) : UInt32 := UInt32.ofNat (x.toNat * 2 ^ k)
def shr (x : UInt32) (k : Nat) : UInt32 := UInt32.ofNat (x.toNat / 2 ^ k)
def rotr (x : UInt32) (k : Nat) : UInt32 := shl x (32 - k) ||| shr x k
theorem u32_mod (n : Int) : IntKind.u32.wrap n = n % 4294967296 := by simp [IntKind.wrap, IntKind.bits, IntKind.signed]
theorem wi_ofNat (n : Nat) : wi (UInt32.ofNat n) = (n : Int) % 4294967296 := by
  unfold wi
  rw [UInt32.toNat_ofNat']
  omega
theorem wi_b (x : UInt32) : 0 ≤ wi x ∧ wi x < 4294967296 := by
  unfold wi
  have := x.toNat_lt
  simp at *
  omega
theorem wi_add (x y : UInt32) : IntKind.u32.wrap (wi x + wi y) = wi (x + y) := by
  rw [u32_mod]
  unfold wi
  rw [UInt32.toNat_add]
  omega
theorem wi_of (x : UInt32) : BitVec.ofInt IntKind.u32.bits (wi x) = x.toBitVec := by
  unfold wi
  simp [IntKind.bits]
theorem wrap_wi (x : UInt32) : IntKind.u32.wrap (wi x) = wi x := by
  have := wi_b x
  rw [u32_mod]; omega
theorem wi_xor (x y : UInt32) : ibit .xor .u32 (wi x) (wi y) = wi (x ^^^ y) := by
  have h3 : (BitVec.ofInt IntKind.u32.bits (wi x) ^^^ BitVec.ofInt IntKind.u32.bits (wi y)).toNat = (x ^^^ y).toNat := by
    rw [wi_of, wi_of]; rfl
  refine (congrArg (fun n : Nat => IntKind.u32.wrap (n : Int)) h3).trans ?_
  exact wrap_wi (x ^^^ y)
theorem wi_or (x y : UInt32) : ibit .or .u32 (wi x) (wi y) = wi (x ||| y) := by
  have h3 : (BitVec.ofInt IntKind.u32.bits (wi x) ||| BitVec.ofInt IntKind.u32.bits (wi y)).toNat = (x ||| y).toNat := by
    rw [wi_of, wi_of]; rfl
  refine (congrArg (fun n : Nat => IntKind.u32.wrap (n : Int)) h3).trans ?_
  exact wrap_wi (x ||| y)
theorem wi_shl (x : UInt32) (k : Nat) (h : k ≤ 32) : ishl .u32 (wi x) (k : Int) = wi (shl x k) := by
  unfold ishl shl
  rw [wi_ofNat, u32_mod, show min (k : Int).toNat IntKind.u32.bits = k by simp [IntKind.bits]; omega]
  unfold wi
  simp
theorem wi_shr (x : UInt32) (k : Nat) (h : k ≤ 32) : ishr .u32 (wi x) (k : Int) = wi (shr x k) := by
  have e : ishr .u32 (wi x) (k : Int) = ((x.toNat / 2 ^ k : Nat) : Int) := ishr_nat .u32 x.toNat k h
  rw [e]
  unfold shr
  rw [wi_ofNat]
  have h1 : x.toNat / 2 ^ k ≤ x.toNat := Nat.div_le_self _ _
  have h2 := x.toNat_lt
  generalize x.toNat / 2 ^ k = q at *
  omega

theorem Rot16_ok (x : UInt32) : ECalls Tryd.prog 129 [WV x, NV (-16)] [] fun y H' => H' = [] ∧ y = WV (rotr x 16) := by
  have s1 : ishl .u32 (wi x) 16 = wi (shl x 16) := wi_shl x 16 (by omega)
  have r1 : ishr .u32 (wi x) 16 = wi (shr x 16) := wi_shr x 16 (by omega)
  have a1 : IntKind.u64.wrap (-16) = 18446744073709551600 := by decide +kernel
  have a2 : ibit .and .u64 18446744073709551600 31 = 16 := by decide +kernel
  have a3 : IntKind.u64.wrap 16 = 16 := by decide +kernel
  refine ecalls k_Rot ?_
  simp [c_Rot, WV, NV, a1, a2, a3, s1, r1, wi_or]
  exact fin [] (by decide) rfl rfl rfl ⟨rfl, rfl⟩

theorem Rot12_ok (x : UInt32) : ECalls Tryd.prog 129 [WV x, NV (-12)] [] fun y H' => H' = [] ∧ y = WV (rotr x 12) := by
  have s1 : ishl .u32 (wi x) 20 = wi (shl x 20) := wi_shl x 20 (by omega)
  have r1 : ishr .u32 (wi x) 12 = wi (shr x 12) := wi_shr x 12 (by omega)
  have a1 : IntKind.u64.wrap (-12) = 18446744073709551604 := by decide +kernel
  have a2 : ibit .and .u64 18446744073709551604 31 = 20 := by decide +kernel
  have a3 : IntKind.u64.wrap 12 = 12 := by decide +kernel
  refine ecalls k_Rot ?_
  simp [c_Rot, WV, NV, a1, a2, a3, s1, r1, wi_or]
  exact fin [] (by decide) rfl rfl rfl ⟨rfl, rfl⟩

theorem Rot8_ok (x : UInt32) : ECalls Tryd.prog 129 [WV x, NV (-8)] [] fun y H' => H' = [] ∧ y = WV (rotr x 8) := by
  have s1 : ishl .u32 (wi x) 24 = wi (shl x 24) := wi_shl x 24 (by omega)
  have r1 : ishr .u32 (wi x) 8 = wi (shr x 8) := wi_shr x 8 (by omega)
  have a1 : IntKind.u64.wrap (-8) = 18446744073709551608 := by decide +kernel
  have a2 : ibit .and .u64 18446744073709551608 31 = 24 := by decide +kernel
  have a3 : IntKind.u64.wrap 8 = 8 := by decide +kernel
  refine ecalls k_Rot ?_
  simp [c_Rot, WV, NV, a1, a2, a3, s1, r1, wi_or]
  exact fin [] (by decide) rfl rfl rfl ⟨rfl, rfl⟩

theorem Rot7_ok (x : UInt32) : ECalls Tryd.prog 129 [WV x, NV (-7)] [] fun y H' => H' = [] ∧ y = WV (rotr x 7) := by
  have s1 : ishl .u32 (wi x) 25 = wi (shl x 25) := wi_shl x 25 (by omega)
  have r1 : ishr .u32 (wi x) 7 = wi (shr x 7) := wi_shr x 7 (by omega)
  have a1 : IntKind.u64.wrap (-7) = 18446744073709551609 := by decide +kernel
  have a2 : ibit .and .u64 18446744073709551609 31 = 25 := by decide +kernel
  have a3 : IntKind.u64.wrap 7 = 7 := by decide +kernel
  refine ecalls k_Rot ?_
  simp [c_Rot, WV, NV, a1, a2, a3, s1, r1, wi_or]
  exact fin [] (by decide) rfl rfl rfl ⟨rfl, rfl⟩

def firstW : List UInt32 := [0x6a09e667, 0xbb67ae85, 0x3c6ef372, 0xa54ff53a, 0x510e527f, 0x9b05688c, 0x1f83d9ab, 0x5be0cd19]
theorem first_ok : ECalls Tryd.prog 99 [] [] fun y H' => H' = [] ∧ y = .v (.agg (wl firstW)) := by
  refine ecalls k_first ?_
  simp [c_first]
  exact fin [] (by decide) rfl rfl rfl ⟨rfl, rfl⟩

theorem pun_x32 (x : UInt32) : pun .xor (.int .u32 (wi x)) = some (.int .u32 (wi (~~~x))) := by
  have h3 : (BitVec.ofInt IntKind.u32.bits (-1) ^^^ BitVec.ofInt IntKind.u32.bits (wi x)).toNat = (~~~x).toNat := by
    rw [wi_of]
    have k : BitVec.allOnes 32 ^^^ x.toBitVec = ~~~ x.toBitVec := BitVec.allOnes_xor
    exact congrArg BitVec.toNat k
  simp only [pun, Option.some.injEq, Value.int.injEq, true_and]
  refine (congrArg (fun n : Nat => IntKind.u32.wrap (n : Int)) h3).trans ?_
  exact wrap_wi (~~~x)

/-! ### a step on four words -/
def g (v : List UInt32) (i : Nat) : UInt32 := (v[i]?).getD 0
def mixS (v : List UInt32) (a b c d : Nat) (x y : UInt32) : List UInt32 :=
  let v := v.set a (g v a + (g v b + x))
  let v := v.set d (rotr (g v d ^^^ g v a) 16)
  let v := v.set c (g v c + g v d)
  let v := v.set b (rotr (g v b ^^^ g v c) 12)
  let v := v.set a (g v a + (g v b + y))
  let v := v.set d (rotr (g v d ^^^ g v a) 8)
  let v := v.set c (g v c + g v d)
  v.set b (rotr (g v b ^^^ g v c) 7)
def VO (v : List UInt32) : EO := .box 196 (wl v)
theorem wl_put {v : List UInt32} {i : Nat} {x : UInt32} (h : i < v.length) : List.take i (wl v) ++ .fz (.lit (.int .u32 (wi x))) :: List.drop (i + 1) (wl v) = wl (v.set i x) := by
  rw [← wl_set, List.set_eq_take_append_cons_drop, if_pos (by simpa using h)]
theorem wl_g {v : List UInt32} {i : Nat} (h : i < v.length) : (wl v)[i]? = some (.fz (.lit (.int .u32 (wi (g v i))))) := by
  refine wl_get (x := g v i) ?_
  unfold g
  rw [List.getElem?_eq_getElem h]
  rfl
theorem wl_gE {v : List UInt32} {i : Nat} (h : i < v.length) (h2 : i < (wl v).length) : (wl v)[i]'h2 = .fz (.lit (.int .u32 (wi (g v i)))) := by
  have := wl_g h
  rw [List.getElem?_eq_getElem h2] at this
  exact Option.some.inj this

set_option maxRecDepth 8000 in
set_option maxHeartbeats 8000000 in
theorem mix_ok (v : List UInt32) (a b c d : Nat) (x y : UInt32) (hv : v.length = 16) (ha : a < 16) (hb : b < 16) (hc : c < 16) (hd : d < 16) : ECalls Tryd.prog 124 [.v (.c (.ptr 0 0)), NV a, NV b, NV c, NV d, WV x, WV y] [VO v] fun y' H' => H' = [some (VO (mixS v a b c d x y))] ∧ y' = .tup [] := by
  have la : a < v.length := by omega
  have lb : b < v.length := by omega
  have lc : c < v.length := by omega
  have ld : d < v.length := by omega
  have xa : a ≤ 15 := by omega
  have xb : b ≤ 15 := by omega
  have xc : c ≤ 15 := by omega
  have xd : d ≤ 15 := by omega
  have ia : (a : Int) < 16 := by omega
  have ib : (b : Int) < 16 := by omega
  have ic : (c : Int) < 16 := by omega
  have id' : (d : Int) < 16 := by omega
  obtain ⟨v1, h1⟩ : ∃ w, v.set a (g v a + (g v b + x)) = w := ⟨_, rfl⟩
  have e1 : v1.length = 16 := by rw [← h1, List.length_set]; exact hv
  obtain ⟨v2, h2⟩ : ∃ w, v1.set d (rotr (g v1 d ^^^ g v1 a) 16) = w := ⟨_, rfl⟩
  have e2 : v2.length = 16 := by rw [← h2, List.length_set]; exact e1
  obtain ⟨v3, h3⟩ : ∃ w, v2.set c (g v2 c + g v2 d) = w := ⟨_, rfl⟩
  have e3 : v3.length = 16 := by rw [← h3, List.length_set]; exact e2
  obtain ⟨v4, h4⟩ : ∃ w, v3.set b (rotr (g v3 b ^^^ g v3 c) 12) = w := ⟨_, rfl⟩
  have e4 : v4.length = 16 := by rw [← h4, List.length_set]; exact e3
  obtain ⟨v5, h5⟩ : ∃ w, v4.set a (g v4 a + (g v4 b + y)) = w := ⟨_, rfl⟩
  have e5 : v5.length = 16 := by rw [← h5, List.length_set]; exact e4
  obtain ⟨v6, h6⟩ : ∃ w, v5.set d (rotr (g v5 d ^^^ g v5 a) 8) = w := ⟨_, rfl⟩
  have e6 : v6.length = 16 := by rw [← h6, List.length_set]; exact e5
  obtain ⟨v7, h7⟩ : ∃ w, v6.set c (g v6 c + g v6 d) = w := ⟨_, rfl⟩
  have e7 : v7.length = 16 := by rw [← h7, List.length_set]; exact e6
  obtain ⟨v8, h8⟩ : ∃ w, v7.set b (rotr (g v7 b ^^^ g v7 c) 7) = w := ⟨_, rfl⟩
  have e8 : v8.length = 16 := by rw [← h8, List.length_set]; exact e7
  have hm : mixS v a b c d x y = v8 := by unfold mixS; simp only [h1, h2, h3, h4, h5, h6, h7, h8]
  rw [hm]
  refine ecalls k_mix ?_
  simp [c_mix, NV, WV, VO, hv, e1, e2, e3, e4, e5, e6, e7, e8, ha, hb, hc, hd, ia, ib, ic, id', xa, xb, xc, xd, wl_gE, wl_put, la, lb, lc, ld, wi_add, wi_xor, h1, h2, h3, h4, h5, h6, h7, h8]
  refine call0 (Rot16_ok (g v1 d ^^^ g v1 a)) (by simp [WV, NV]) ?_
  rintro y' H' ⟨rfl, rfl⟩
  refine ⟨.inl (by simp), le_ok rfl, ?_⟩
  simp [NV, WV, VO, hv, e1, e2, e3, e4, e5, e6, e7, e8, ha, hb, hc, hd, ia, ib, ic, id', xa, xb, xc, xd, wl_gE, wl_put, la, lb, lc, ld, wi_add, wi_xor, h1, h2, h3, h4, h5, h6, h7, h8]
  refine call0 (Rot12_ok (g v3 b ^^^ g v3 c)) (by simp [WV, NV]) ?_
  rintro y' H' ⟨rfl, rfl⟩
  refine ⟨.inl (by simp), le_ok rfl, ?_⟩
  simp [NV, WV, VO, hv, e1, e2, e3, e4, e5, e6, e7, e8, ha, hb, hc, hd, ia, ib, ic, id', xa, xb, xc, xd, wl_gE, wl_put, la, lb, lc, ld, wi_add, wi_xor, h1, h2, h3, h4, h5, h6, h7, h8]
  refine call0 (Rot8_ok (g v5 d ^^^ g v5 a)) (by simp [WV, NV]) ?_
  rintro y' H' ⟨rfl, rfl⟩
  refine ⟨.inl (by simp), le_ok rfl, ?_⟩
  simp [NV, WV, VO, hv, e1, e2, e3, e4, e5, e6, e7, e8, ha, hb, hc, hd, ia, ib, ic, id', xa, xb, xc, xd, wl_gE, wl_put, la, lb, lc, ld, wi_add, wi_xor, h1, h2, h3, h4, h5, h6, h7, h8]
  refine call0 (Rot7_ok (g v7 b ^^^ g v7 c)) (by simp [WV, NV]) ?_
  rintro y' H' ⟨rfl, rfl⟩
  refine ⟨.inl (by simp), le_ok rfl, ?_⟩
  simp [NV, WV, VO, hv, e1, e2, e3, e4, e5, e6, e7, e8, ha, hb, hc, hd, ia, ib, ic, id', xa, xb, xc, xd, wl_gE, wl_put, la, lb, lc, ld, wi_add, wi_xor, h1, h2, h3, h4, h5, h6, h7, h8]
  exact fin [] (by decide) rfl rfl (by simp [objsOut]) ⟨rfl, rfl⟩

end Go.Proofs.YtpohjnhlhfbnaaaDoor
