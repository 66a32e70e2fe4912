import Derived.Test.YtbbcofojjgofmaaOrd
import Derived.Test.YtbbcofojjgofmaaEnc6
namespace Go.Proofs.Ytbbcofojjgofmaa
open Go Go.EW
set_option linter.unusedSimpArgs false
set_option linter.unusedVariables false

@[simp] def l_compare_1 (_ : Unit) : List EOp := [⟨0, (some 4), none, (.q (.mov (.k (.int .i64 0)))), []⟩]
@[simp] def b_compare_2 (_ : Unit) : EB := reg0 (hid l_compare_1) 1
@[simp] def l_compare_3 (_ : Unit) : List EOp := [⟨0, (some 5), none, (.q (.mov (.t 1))), []⟩]
@[simp] def b_compare_4 (_ : Unit) : EB := reg0 (hid l_compare_3) 1
@[simp] def l_compare_5 (_ : Unit) : List EOp := [⟨0, (some 4), none, (.q (.mov (.k (.int .i64 0)))), []⟩]
@[simp] def b_compare_6 (_ : Unit) : EB := reg0 (hid l_compare_5) 1
@[simp] def b_compare_7 (_ : Unit) : EB := .seq (hid b_compare_6) .ret
@[simp] def b_compare_8 (_ : Unit) : EB := .cond (.t 5) (hid b_compare_7) .skip
@[simp] def b_compare_9 (_ : Unit) : EB := .seq (hid b_compare_4) (hid b_compare_8)
@[simp] def l_compare_10 (_ : Unit) : List EOp := [⟨0, (some 6), none, (.q (.mov (.t 0))), []⟩]
@[simp] def b_compare_11 (_ : Unit) : EB := reg0 (hid l_compare_10) 1
@[simp] def l_compare_12 (_ : Unit) : List EOp := [⟨0, (some 4), none, (.q (.mov (.k (.int .i64 (-1))))), []⟩]
@[simp] def b_compare_13 (_ : Unit) : EB := reg0 (hid l_compare_12) 1
@[simp] def b_compare_14 (_ : Unit) : EB := .seq (hid b_compare_13) .ret
@[simp] def b_compare_15 (_ : Unit) : EB := .cond (.t 6) (hid b_compare_14) .skip
@[simp] def b_compare_16 (_ : Unit) : EB := .seq (hid b_compare_11) (hid b_compare_15)
@[simp] def l_compare_17 (_ : Unit) : List EOp := [⟨0, (some 4), none, (.q (.mov (.k (.int .i64 1)))), []⟩]
@[simp] def b_compare_18 (_ : Unit) : EB := reg0 (hid l_compare_17) 1
@[simp] def b_compare_19 (_ : Unit) : EB := .seq (hid b_compare_18) .ret
@[simp] def b_compare_20 (_ : Unit) : EB := .seq (hid b_compare_16) (hid b_compare_19)
@[simp] def b_compare_21 (_ : Unit) : EB := .seq (hid b_compare_9) (hid b_compare_20)
@[simp] def b_compare_22 (_ : Unit) : EB := .seq (hid b_compare_2) (hid b_compare_21)
def c_compare : EB × List QOp × Nat := ((hid b_compare_22), [(.mov (.t 4))], 7)
theorem k_compare : cfun Try.prog 11 = some c_compare := by kernel_rfl

@[simp] def l_EncOrder_1 (_ : Unit) : List EOp := [⟨0, (some 6), none, (.q (.mov (.k (.bool false)))), []⟩]
@[simp] def b_EncOrder_2 (_ : Unit) : EB := reg0 (hid l_EncOrder_1) 1
@[simp] def l_EncOrder_3 (_ : Unit) : List EOp := [⟨0, (some 16), none, (.q (.mov (.t 0))), []⟩, ⟨1, (some 17), none, (.q (.len (.t 16))), []⟩, ⟨2, (some 18), none, (.q (.mov (.t 1))), []⟩, ⟨3, (some 19), none, (.q (.len (.t 18))), []⟩, ⟨4, (some 20), none, (.q (.minmax false [(.t 17), (.t 19), (.k (.int .i64 30))])), []⟩, ⟨5, (some 7), none, (.q (.mov (.t 20))), []⟩]
@[simp] def b_EncOrder_4 (_ : Unit) : EB := reg0 (hid l_EncOrder_3) 6
@[simp] def l_EncOrder_5 (_ : Unit) : List EOp := [⟨0, (some 21), none, (.call 6 []), []⟩, ⟨1, (some 22), none, (.call 6 []), []⟩, ⟨2, (some 8), none, (.q (.mov (.t 21))), []⟩, ⟨3, (some 9), none, (.q (.mov (.t 22))), []⟩]
@[simp] def b_EncOrder_6 (_ : Unit) : EB := reg0 (hid l_EncOrder_5) 4
@[simp] def l_EncOrder_7 (_ : Unit) : List EOp := [⟨0, (some 10), none, (.q (.mov (.k (.int .i64 0)))), []⟩]
@[simp] def b_EncOrder_8 (_ : Unit) : EB := reg0 (hid l_EncOrder_7) 1
@[simp] def l_EncOrder_9 (_ : Unit) : List EOp := [⟨0, (some 11), none, (.q (.mov (.k (.int .i64 0)))), []⟩]
@[simp] def b_EncOrder_10 (_ : Unit) : EB := reg0 (hid l_EncOrder_9) 1
@[simp] def l_EncOrder_11 (_ : Unit) : List EOp := [⟨0, (some 23), none, (.q (.mov (.t 11))), []⟩, ⟨1, (some 24), none, (.q (.mov (.t 7))), []⟩, ⟨2, (some 25), none, (.q (.bin .lss (.t 23) (.t 24))), []⟩]
@[simp] def b_EncOrder_12 (_ : Unit) : EB := reg0 (hid l_EncOrder_11) 3
@[simp] def b_EncOrder_13 (_ : Unit) : EB := .cond (.t 25) .skip (.exit 0)
@[simp] def b_EncOrder_14 (_ : Unit) : EB := .seq (hid b_EncOrder_12) (hid b_EncOrder_13)
@[simp] def l_EncOrder_16 (_ : Unit) : List EOp := [⟨6, (some 34), none, (.q (.isl 35 (.t 32) (.t 33))), []⟩, ⟨7, (some 35), none, (.q (.lda 35 (.t 34))), []⟩, ⟨8, (some 12), none, (.q (.alloc 30 (([(.int .i64 0), (.int .i64 0), (.slice none 0 0)] : List Value) ++ zU8))), []⟩, ⟨9, (some 13), none, (.q (.alloc 30 (([(.int .i64 0), (.int .i64 0), (.slice none 0 0)] : List Value) ++ zU8))), []⟩, ⟨10, none, none, (.fz (.sto 35 (.t 12) (.t 31))), []⟩, ⟨11, none, none, (.fz (.sto 35 (.t 13) (.t 35))), []⟩]
@[simp] def l_EncOrder_15 (_ : Unit) : List EOp := ⟨0, (some 28), none, (.q (.mov (.t 0))), []⟩ :: ⟨1, (some 29), none, (.q (.mov (.t 11))), []⟩ :: ⟨2, (some 30), none, (.q (.isl 35 (.t 28) (.t 29))), []⟩ :: ⟨3, (some 31), none, (.q (.lda 35 (.t 30))), []⟩ :: ⟨4, (some 32), none, (.q (.mov (.t 1))), []⟩ :: ⟨5, (some 33), none, (.q (.mov (.t 11))), []⟩ :: hid l_EncOrder_16
@[simp] def b_EncOrder_17 (_ : Unit) : EB := reg0 (hid l_EncOrder_15) 12
@[simp] def l_EncOrder_18 (_ : Unit) : List EOp := [⟨0, (some 36), none, (.q (.mov (.t 2))), []⟩, ⟨1, (some 37), none, (.q (.cnv .u64 (.t 36))), []⟩, ⟨2, (some 38), none, (.q (.bin .rem (.t 37) (.k (.int .u64 30)))), []⟩, ⟨3, (some 39), none, (.q (.cnv .i64 (.t 38))), []⟩, ⟨4, (some 40), none, (.q (.mov (.t 11))), []⟩, ⟨5, (some 41), none, (.q (.bin .gtr (.t 39) (.t 40))), []⟩]
@[simp] def b_EncOrder_19 (_ : Unit) : EB := reg0 (hid l_EncOrder_18) 6
@[simp] def l_EncOrder_20 (_ : Unit) : List EOp := [⟨0, (some 42), none, (.q (.lda 35 (.t 12))), []⟩, ⟨1, none, none, (.fz (.sto 35 (.t 13) (.t 42))), []⟩]
@[simp] def b_EncOrder_21 (_ : Unit) : EB := reg0 (hid l_EncOrder_20) 2
@[simp] def b_EncOrder_22 (_ : Unit) : EB := .cond (.t 41) (hid b_EncOrder_21) .skip
@[simp] def b_EncOrder_23 (_ : Unit) : EB := .seq (hid b_EncOrder_19) (hid b_EncOrder_22)
@[simp] def l_EncOrder_24 (_ : Unit) : List EOp := [⟨0, (some 43), none, (.q (.fad 0 (.t 12))), []⟩, ⟨1, (some 44), none, (.q (.ldc (.t 43))), []⟩, ⟨2, (some 45), none, (.q (.fad 0 (.t 13))), []⟩, ⟨3, none, none, (.sto 1 (.t 45) (.t 44)), []⟩]
@[simp] def b_EncOrder_25 (_ : Unit) : EB := reg0 (hid l_EncOrder_24) 4
@[simp] def l_EncOrder_27 (_ : Unit) : List EOp := [⟨6, (some 8), none, (.q (.mov (.t 48))), []⟩, ⟨7, (some 9), none, (.q (.mov (.t 51))), []⟩]
@[simp] def l_EncOrder_26 (_ : Unit) : List EOp := ⟨0, (some 46), none, (.q (.mov (.t 8))), []⟩ :: ⟨1, (some 47), none, (.q (.lda 35 (.t 12))), []⟩ :: ⟨3, (some 49), none, (.q (.mov (.t 9))), []⟩ :: ⟨4, (some 50), none, (.q (.lda 35 (.t 13))), []⟩ :: ⟨2, (some 48), none, (.call 7 [(.t 46), (.t 47)]), [3, 4]⟩ :: ⟨5, (some 51), none, (.call 7 [(.t 49), (.t 50)]), []⟩ :: hid l_EncOrder_27
@[simp] def b_EncOrder_28 (_ : Unit) : EB := reg1 (hid l_EncOrder_26) 8
@[simp] def l_EncOrder_29 (_ : Unit) : List EOp := [⟨0, (some 52), none, (.q (.mov (.t 10))), []⟩, ⟨1, (some 53), none, (.q (.bin .neq (.t 52) (.k (.int .i64 0)))), []⟩]
@[simp] def b_EncOrder_30 (_ : Unit) : EB := reg0 (hid l_EncOrder_29) 2
@[simp] def b_EncOrder_31 (_ : Unit) : EB := .cond (.t 53) (.exit 1) .skip
@[simp] def b_EncOrder_32 (_ : Unit) : EB := .seq (hid b_EncOrder_30) (hid b_EncOrder_31)
@[simp] def l_EncOrder_33 (_ : Unit) : List EOp := [⟨0, (some 54), none, (.q (.fad 0 (.t 12))), []⟩, ⟨1, (some 55), none, (.q (.ldc (.t 54))), []⟩, ⟨2, (some 56), none, (.q (.cnv .u64 (.t 55))), []⟩, ⟨3, (some 57), none, (.q (.bin .rem (.t 56) (.k (.int .u64 4)))), []⟩, ⟨4, (some 58), none, (.q (.cnv .i64 (.t 57))), []⟩]
@[simp] def b_EncOrder_34 (_ : Unit) : EB := reg0 (hid l_EncOrder_33) 5
@[simp] def l_EncOrder_35 (_ : Unit) : List EOp := [⟨0, (some 73), none, (.q (.bin .eql (.t 58) (.k (.int .i64 0)))), []⟩, ⟨1, (some 72), none, (.q (.mov (.t 73))), []⟩]
@[simp] def b_EncOrder_36 (_ : Unit) : EB := reg0 (hid l_EncOrder_35) 2
@[simp] def l_EncOrder_39 (_ : Unit) : List EOp := [⟨12, (some 86), none, (.call 11 [(.t 80), (.t 85)]), []⟩, ⟨13, (some 10), none, (.q (.mov (.t 86))), []⟩]
@[simp] def l_EncOrder_38 (_ : Unit) : List EOp := ⟨6, (some 80), none, (.q (.bin .lss (.t 76) (.t 79))), []⟩ :: ⟨7, (some 81), none, (.q (.fad 1 (.t 12))), []⟩ :: ⟨8, (some 82), none, (.q (.ldc (.t 81))), []⟩ :: ⟨9, (some 83), none, (.q (.fad 1 (.t 13))), []⟩ :: ⟨10, (some 84), none, (.q (.ldc (.t 83))), []⟩ :: ⟨11, (some 85), none, (.q (.bin .eql (.t 82) (.t 84))), []⟩ :: hid l_EncOrder_39
@[simp] def l_EncOrder_37 (_ : Unit) : List EOp := ⟨0, (some 74), none, (.q (.fad 1 (.t 12))), []⟩ :: ⟨1, (some 75), none, (.q (.ldc (.t 74))), []⟩ :: ⟨2, (some 76), none, (.q (.cnv .u64 (.t 75))), []⟩ :: ⟨3, (some 77), none, (.q (.fad 1 (.t 13))), []⟩ :: ⟨4, (some 78), none, (.q (.ldc (.t 77))), []⟩ :: ⟨5, (some 79), none, (.q (.cnv .u64 (.t 78))), []⟩ :: hid l_EncOrder_38
@[simp] def b_EncOrder_40 (_ : Unit) : EB := reg0 (hid l_EncOrder_37) 14
@[simp] def l_EncOrder_41 (_ : Unit) : List EOp := [⟨0, (some 88), none, (.q (.bin .eql (.t 58) (.k (.int .i64 1)))), []⟩, ⟨1, (some 87), none, (.q (.mov (.t 88))), []⟩]
@[simp] def b_EncOrder_42 (_ : Unit) : EB := reg0 (hid l_EncOrder_41) 2
@[simp] def l_EncOrder_44 (_ : Unit) : List EOp := [⟨6, (some 95), none, (.q (.ldc (.t 94))), []⟩, ⟨7, (some 96), none, (.q (.fad 1 (.t 13))), []⟩, ⟨8, (some 97), none, (.q (.ldc (.t 96))), []⟩, ⟨9, (some 98), none, (.q (.bin .eql (.t 95) (.t 97))), []⟩, ⟨10, (some 99), none, (.call 11 [(.t 93), (.t 98)]), []⟩, ⟨11, (some 10), none, (.q (.mov (.t 99))), []⟩]
@[simp] def l_EncOrder_43 (_ : Unit) : List EOp := ⟨0, (some 89), none, (.q (.fad 1 (.t 12))), []⟩ :: ⟨1, (some 90), none, (.q (.ldc (.t 89))), []⟩ :: ⟨2, (some 91), none, (.q (.fad 1 (.t 13))), []⟩ :: ⟨3, (some 92), none, (.q (.ldc (.t 91))), []⟩ :: ⟨4, (some 93), none, (.q (.bin .lss (.t 90) (.t 92))), []⟩ :: ⟨5, (some 94), none, (.q (.fad 1 (.t 12))), []⟩ :: hid l_EncOrder_44
@[simp] def b_EncOrder_45 (_ : Unit) : EB := reg0 (hid l_EncOrder_43) 12
@[simp] def l_EncOrder_46 (_ : Unit) : List EOp := [⟨0, (some 101), none, (.q (.bin .eql (.t 58) (.k (.int .i64 2)))), []⟩, ⟨1, (some 100), none, (.q (.mov (.t 101))), []⟩]
@[simp] def b_EncOrder_47 (_ : Unit) : EB := reg0 (hid l_EncOrder_46) 2
@[simp] def l_EncOrder_50 (_ : Unit) : List EOp := [⟨12, (some 114), none, (.q (.b2s (.t 113))), []⟩, ⟨13, (some 115), none, (.q (.bin .eql (.t 111) (.t 114))), []⟩, ⟨14, (some 116), none, (.call 11 [(.t 108), (.t 115)]), []⟩, ⟨15, (some 10), none, (.q (.mov (.t 116))), []⟩]
@[simp] def l_EncOrder_49 (_ : Unit) : List EOp := ⟨6, (some 108), none, (.q (.bin .lss (.t 104) (.t 107))), []⟩ :: ⟨7, (some 109), none, (.q (.fad 2 (.t 12))), []⟩ :: ⟨8, (some 110), none, (.q (.ldc (.t 109))), []⟩ :: ⟨9, (some 111), none, (.q (.b2s (.t 110))), []⟩ :: ⟨10, (some 112), none, (.q (.fad 2 (.t 13))), []⟩ :: ⟨11, (some 113), none, (.q (.ldc (.t 112))), []⟩ :: hid l_EncOrder_50
@[simp] def l_EncOrder_48 (_ : Unit) : List EOp := ⟨0, (some 102), none, (.q (.fad 2 (.t 12))), []⟩ :: ⟨1, (some 103), none, (.q (.ldc (.t 102))), []⟩ :: ⟨2, (some 104), none, (.q (.b2s (.t 103))), []⟩ :: ⟨3, (some 105), none, (.q (.fad 2 (.t 13))), []⟩ :: ⟨4, (some 106), none, (.q (.ldc (.t 105))), []⟩ :: ⟨5, (some 107), none, (.q (.b2s (.t 106))), []⟩ :: hid l_EncOrder_49
@[simp] def b_EncOrder_51 (_ : Unit) : EB := reg0 (hid l_EncOrder_48) 16
@[simp] def l_EncOrder_54 (_ : Unit) : List EOp := [⟨12, (some 71), none, (.call 11 [(.t 65), (.t 70)]), []⟩, ⟨13, (some 10), none, (.q (.mov (.t 71))), []⟩]
@[simp] def l_EncOrder_53 (_ : Unit) : List EOp := ⟨6, (some 65), none, (.q (.bin .lss (.t 61) (.t 64))), []⟩ :: ⟨7, (some 66), none, (.q (.fad 3 (.t 12))), []⟩ :: ⟨8, (some 67), none, (.q (.lda 32 (.t 66))), []⟩ :: ⟨9, (some 68), none, (.q (.fad 3 (.t 13))), []⟩ :: ⟨10, (some 69), none, (.q (.lda 32 (.t 68))), []⟩ :: ⟨11, (some 70), none, (.q (.eqa false 32 .u8 (.t 67) (.t 69))), []⟩ :: hid l_EncOrder_54
@[simp] def l_EncOrder_52 (_ : Unit) : List EOp := ⟨0, (some 59), none, (.q (.fad 3 (.t 12))), []⟩ :: ⟨1, (some 60), none, (.q (.sar 32 (.t 59) none none)), []⟩ :: ⟨2, (some 61), none, (.q (.b2s (.t 60))), []⟩ :: ⟨3, (some 62), none, (.q (.fad 3 (.t 13))), []⟩ :: ⟨4, (some 63), none, (.q (.sar 32 (.t 62) none none)), []⟩ :: ⟨5, (some 64), none, (.q (.b2s (.t 63))), []⟩ :: hid l_EncOrder_53
@[simp] def b_EncOrder_55 (_ : Unit) : EB := reg0 (hid l_EncOrder_52) 14
@[simp] def b_EncOrder_56 (_ : Unit) : EB := .cond (.t 100) (hid b_EncOrder_51) (hid b_EncOrder_55)
@[simp] def b_EncOrder_57 (_ : Unit) : EB := .seq (hid b_EncOrder_47) (hid b_EncOrder_56)
@[simp] def b_EncOrder_58 (_ : Unit) : EB := .cond (.t 87) (hid b_EncOrder_45) (hid b_EncOrder_57)
@[simp] def b_EncOrder_59 (_ : Unit) : EB := .seq (hid b_EncOrder_42) (hid b_EncOrder_58)
@[simp] def b_EncOrder_60 (_ : Unit) : EB := .cond (.t 72) (hid b_EncOrder_40) (hid b_EncOrder_59)
@[simp] def b_EncOrder_61 (_ : Unit) : EB := .seq (hid b_EncOrder_36) (hid b_EncOrder_60)
@[simp] def b_EncOrder_62 (_ : Unit) : EB := .block 2 (hid b_EncOrder_61)
@[simp] def b_EncOrder_63 (_ : Unit) : EB := .seq (hid b_EncOrder_34) (hid b_EncOrder_62)
@[simp] def b_EncOrder_64 (_ : Unit) : EB := .seq (hid b_EncOrder_32) (hid b_EncOrder_63)
@[simp] def b_EncOrder_65 (_ : Unit) : EB := .seq (hid b_EncOrder_28) (hid b_EncOrder_64)
@[simp] def b_EncOrder_66 (_ : Unit) : EB := .seq (hid b_EncOrder_25) (hid b_EncOrder_65)
@[simp] def b_EncOrder_67 (_ : Unit) : EB := .seq (hid b_EncOrder_23) (hid b_EncOrder_66)
@[simp] def b_EncOrder_68 (_ : Unit) : EB := .seq (hid b_EncOrder_17) (hid b_EncOrder_67)
@[simp] def b_EncOrder_69 (_ : Unit) : EB := .block 1 (hid b_EncOrder_68)
@[simp] def l_EncOrder_70 (_ : Unit) : List EOp := [⟨0, (some 26), none, (.q (.mov (.t 11))), []⟩, ⟨1, (some 27), none, (.q (.bin .add (.t 26) (.k (.int .i64 1)))), []⟩, ⟨2, (some 11), none, (.q (.mov (.t 27))), []⟩]
@[simp] def b_EncOrder_71 (_ : Unit) : EB := reg0 (hid l_EncOrder_70) 3
@[simp] def b_EncOrder_72 (_ : Unit) : EB := .seq (hid b_EncOrder_69) (hid b_EncOrder_71)
@[simp] def b_EncOrder_73 (_ : Unit) : EB := .seq (hid b_EncOrder_14) (hid b_EncOrder_72)
@[simp] def b_EncOrder_74 (_ : Unit) : EB := .loop (hid b_EncOrder_73)
@[simp] def b_EncOrder_75 (_ : Unit) : EB := .block 0 (hid b_EncOrder_74)
@[simp] def b_EncOrder_76 (_ : Unit) : EB := .seq (hid b_EncOrder_10) (hid b_EncOrder_75)
@[simp] def l_EncOrder_78 (_ : Unit) : List EOp := [⟨6, (some 14), none, (.q (.mov (.t 119))), []⟩, ⟨7, (some 15), none, (.q (.mov (.t 122))), []⟩]
@[simp] def l_EncOrder_77 (_ : Unit) : List EOp := ⟨0, (some 117), none, (.q (.mov (.t 8))), []⟩ :: ⟨3, (some 120), none, (.q (.mov (.t 9))), []⟩ :: ⟨1, (some 118), none, (.call 9 [(.t 117)]), [3]⟩ :: ⟨2, (some 119), none, (.q (.b2s (.t 118))), []⟩ :: ⟨4, (some 121), none, (.call 9 [(.t 120)]), [2]⟩ :: ⟨5, (some 122), none, (.q (.b2s (.t 121))), []⟩ :: hid l_EncOrder_78
@[simp] def b_EncOrder_79 (_ : Unit) : EB := reg1 (hid l_EncOrder_77) 8
@[simp] def l_EncOrder_82 (_ : Unit) : List EOp := [⟨12, (some 6), none, (.q (.mov (.t 134))), []⟩]
@[simp] def l_EncOrder_81 (_ : Unit) : List EOp := ⟨6, (some 129), none, (.call 11 [(.t 125), (.t 128)]), []⟩ :: ⟨7, (some 130), none, (.q (.mov (.t 10))), []⟩ :: ⟨8, (some 131), none, (.q (.bin .eql (.t 129) (.t 130))), []⟩ :: ⟨9, (some 132), none, (.q (.mov (.t 131))), []⟩ :: ⟨10, (some 133), (some (132, true)), (.call 10 []), []⟩ :: ⟨11, (some 134), none, (.q (.pick (.t 132) (.t 133) (.k (.bool false)))), []⟩ :: hid l_EncOrder_82
@[simp] def l_EncOrder_80 (_ : Unit) : List EOp := ⟨0, (some 123), none, (.q (.mov (.t 14))), []⟩ :: ⟨1, (some 124), none, (.q (.mov (.t 15))), []⟩ :: ⟨2, (some 125), none, (.q (.bin .lss (.t 123) (.t 124))), []⟩ :: ⟨3, (some 126), none, (.q (.mov (.t 14))), []⟩ :: ⟨4, (some 127), none, (.q (.mov (.t 15))), []⟩ :: ⟨5, (some 128), none, (.q (.bin .eql (.t 126) (.t 127))), []⟩ :: hid l_EncOrder_81
@[simp] def b_EncOrder_83 (_ : Unit) : EB := reg0 (hid l_EncOrder_80) 13
@[simp] def b_EncOrder_84 (_ : Unit) : EB := .seq (hid b_EncOrder_83) .ret
@[simp] def b_EncOrder_85 (_ : Unit) : EB := .seq (hid b_EncOrder_79) (hid b_EncOrder_84)
@[simp] def b_EncOrder_86 (_ : Unit) : EB := .seq (hid b_EncOrder_76) (hid b_EncOrder_85)
@[simp] def b_EncOrder_87 (_ : Unit) : EB := .seq (hid b_EncOrder_8) (hid b_EncOrder_86)
@[simp] def b_EncOrder_88 (_ : Unit) : EB := .seq (hid b_EncOrder_6) (hid b_EncOrder_87)
@[simp] def b_EncOrder_89 (_ : Unit) : EB := .seq (hid b_EncOrder_4) (hid b_EncOrder_88)
@[simp] def b_EncOrder_90 (_ : Unit) : EB := .seq (hid b_EncOrder_2) (hid b_EncOrder_89)
def c_EncOrder : EB × List QOp × Nat := ((hid b_EncOrder_90), [(.mov (.t 6))], 135)
theorem k_EncOrder : cfun Try.prog 4 = some c_EncOrder := by kernel_rfl


theorem compare_ok (a b : Bool) : ECalls Try.prog 11 [.lit (.bool a), .lit (.bool b)] [] fun y H' => H' = [] ∧ y = I .i64 (ordI a b) := by
  refine ecalls k_compare ?_
  cases b <;> cases a <;> simp [c_compare, ordI, I, EV.lit] <;> exact fin [] (by decide) rfl rfl rfl ⟨rfl, rfl⟩

def at30 (a : Int) : Nat := u64n a % 30
theorem at_eq (a : Int) : IntKind.i64.wrap ((IntKind.u64.wrap a).tmod 30) = (at30 a : Int) := by
  rw [wrap_u64n, Int.tmod_eq_emod_of_nonneg (by omega), wrap_i64 (by omega) (by omega)]
  unfold at30
  omega

set_option maxRecDepth 8000 in
set_option maxHeartbeats 8000000 in
theorem EncOrder_ok (l k : List Th) (a : Int) (hl : ∀ x ∈ l, x.ok) (hk : ∀ x ∈ k, x.ok) :
    ECalls Try.prog 4 [Ths l, Ths k, I .i64 a] [] fun y H' => H' = [] ∧ y = .lit (.bool true) := by
  refine ecalls k_EncOrder ?_
  simp [c_EncOrder, Ths, I]
  refine call0 (New_ok) (by simp [Ptr, NP, I, R, RO, WO, Bs, EV.lit]) ?_
  rintro y H' ⟨rfl, rfl⟩
  refine ⟨.inl (by simp [Ptr, NP, I, R, RO, WO, Bs, EV.lit]), le_ok rfl, ?_⟩
  simp [Ptr, NP, I, R, RO, WO, Bs, EV.lit]
  refine call0 (New_ok) (by simp [Ptr, NP, I, R, RO, WO, Bs, EV.lit]) ?_
  rintro y H' ⟨rfl, rfl⟩
  refine ⟨.inl (by simp [Ptr, NP, I, R, RO, WO, Bs, EV.lit]), le_ok rfl, ?_⟩
  simp [Ptr, NP, I, R, RO, WO, Bs, EV.lit]
  obtain ⟨n, hn⟩ : ∃ n, min l.length (min k.length 30) = n := ⟨_, rfl⟩
  have hnn : (if (30 : Int) < (if k.length < l.length then (k.length : Int) else (l.length : Int)) then (30 : Int) else (if k.length < l.length then (k.length : Int) else (l.length : Int))) = (n : Int) := by
    rw [← hn]; split <;> split <;> omega
  simp only [hnn]
  refine eloop (α := Nat × Int × List UInt8 × List UInt8) (fun s => s.1 ≤ n ∧ Ordd s.2.1 s.2.2.1 s.2.2.2 ∧ s.2.2.1.length ≤ 20000040 * s.1 ∧ s.2.2.2.length ≤ 20000040 * s.1) (fun s => n - s.1)
    (fun s => [Ths l, Ths k, I .i64 a, .any, .any, .any, .any, I .i64 n, Ptr 0, Ptr 2, I .i64 s.2.1, I .i64 s.1, .any, .any, .any, .any, .any, .any, .any, .any, .any, .any, .any, .any, .any, .any, .any, .any, .any, .any, .any, .any, .any, .any, .any, .any, .any, .any, .any, .any, .any, .any, .any, .any, .any, .any, .any, .any, .any, .any, .any, .any, .any, .any, .any, .any, .any, .any, .any, .any, .any, .any, .any, .any, .any, .any, .any, .any, .any, .any, .any, .any, .any, .any, .any, .any, .any, .any, .any, .any, .any, .any, .any, .any, .any, .any, .any, .any, .any, .any, .any, .any, .any, .any, .any, .any, .any, .any, .any, .any, .any, .any, .any, .any, .any, .any, .any, .any, .any, .any, .any, .any, .any, .any, .any, .any, .any, .any, .any, .any, .any, .any, .any, .any, .any, .any, .any, .any, .any, .any, .any, .any, .any, .any, .any]) (fun s => [some (WO 1 s.2.2.1), some (RO s.2.2.1), some (WO 3 s.2.2.2), some (RO s.2.2.2)]) (0, 0, [], []) [112, 113, 128, 129]
    ⟨by simp, .inl ⟨rfl, rfl⟩, by simp, by simp⟩ (by simp [Ptr, I, Ths]) (by simp [WO, RO]) (by simp) (by simp) (by simp) ?_
  rintro ⟨i, o, V, W⟩ ⟨hi, ho, hV, hW⟩
  simp only at hi ho hV hW
  simp [Ptr, I, Ths, WO, RO]
  by_cases hin : i < n
  · obtain ⟨x, hx⟩ : ∃ x, l[i]? = some x := ⟨l[i]'(by omega), by simp⟩
    obtain ⟨y, hy⟩ : ∃ y, k[i]? = some y := ⟨k[i]'(by omega), by simp⟩
    have hxo := hl x (List.mem_of_getElem? hx)
    have hyo := hk y (List.mem_of_getElem? hy)
    have e1 := thF_len hxo
    have e2 := thF_take hxo
    have f1 := thF_len hyo
    have f2 := thF_take hyo
    have hxl : i < l.length := by omega
    have hyl : i < k.length := by omega
    have hxe : l[i] = x := by rw [List.getElem?_eq_getElem hxl] at hx; exact Option.some.inj hx
    have hye : k[i] = y := by rw [List.getElem?_eq_getElem hyl] at hy; exact Option.some.inj hy
    have w2 : IntKind.i64.wrap ((i : Int) + 1) = ((i + 1 : Nat) : Int) := wrap_i64 (by omega) (by omega)
    have hat := at_eq a
    have hkd := kd_eq x
    have hkl := kd_lt x
    have h32x : x.h.length = 32 := hxo.2.2.2.2.2
    have h32z : y.h.length = 32 := hyo.2.2.2.2.2
    have e3 : (thC x).length = 35 := by simp [thC, h32x]
    have f3 : (thC y).length = 35 := by simp [thC, h32z]
    have e4 : List.drop 35 (EC.fz (.lit (.int .i64 0)) :: EC.fz (.lit (.int .i64 0)) :: EC.fz (.lit (.slice none 0 0)) :: hc EW.hz) = ([] : List EC) := rfl
    simp [hin, hxl, hyl, hxe, hye, e1, e2, f1, f2, e3, f3, e4, hat]
    refine alt (fun ha => ?_) (fun ha => ?_)
    · have hy1 := hxo
      have hd35 : List.drop 35 (thC y) = [] := List.drop_eq_nil_of_le (by omega)
      have ht35 : List.take 35 (thC x) = thC x := List.take_of_length_le (by omega)
      simp [e3, f3, hd35, ht35]
      obtain ⟨z, hz⟩ : ∃ z : Th, (Th.mk x.kind x.n x.b x.h) = z := ⟨_, rfl⟩
      have hzo : z.ok := by rw [← hz]; exact ⟨hxo.1, hxo.2.1, hy1.2.2.1, hy1.2.2.2.1, hy1.2.2.2.2.1, hy1.2.2.2.2.2⟩
      have hzk : kd z = kd x := by subst hz; rfl
      have hzn : z.n = x.n := by rw [← hz]
      have hzb : z.b = x.b := by rw [← hz]
      have hzh : z.h = x.h := by rw [← hz]
      have hzC : thC z = .fz (.lit (.int .i64 x.kind)) :: .fz (.lit (.int .i64 x.n)) :: .fz (.sl 1 (bsv x.b)) :: hc x.h := by subst hz; rfl
      have l1 := layB_len hxo
      have l2 := layB_len hzo
      have b1 := hxo.2.2.2.2.1
      have b2 := hzo.2.2.2.2.1
      have h32 : x.h.length = 32 := hxo.2.2.2.2.2
      have h32y : x.h.length = 32 := hy1.2.2.2.2.2
      have t32 : x.h.take 32 = x.h := List.take_of_length_le (by omega)
      have t32y : x.h.take 32 = x.h := List.take_of_length_le (by omega)
      simp [thC, h32, h32y, t32, t32y]
      refine callH [0, 1] (lay_ok V x hxo (by omega)) (by simp [Ptr, thC]) (by simp [WO, RO]) (by simp) (by simp) (by simp [Wok]) ?_
      rintro y' H' ⟨rfl, rfl⟩
      refine ⟨.inl (by simp [thC]), le_ok rfl, ?_⟩
      simp [Ptr, WO, RO, h32, h32y, t32, t32y]
      refine callH [2, 3] (lay_ok W z hzo (by omega)) (by simp [Ptr, hzC]) (by simp [WO, RO]) (by simp) (by simp) (by simp [Wok]) ?_
      rintro y' H' ⟨rfl, rfl⟩
      refine ⟨.inl (by simp [hzC, thC]), le_ok rfl, ?_⟩
      simp [Ptr, WO, RO]
      have lV : (V ++ layB x).length ≤ 20000040 * (i + 1) := by rw [List.length_append]; omega
      have lW : (W ++ layB z).length ≤ 20000040 * (i + 1) := by rw [List.length_append]; omega
      refine alt (fun ho0 => ?_) (fun ho0 => ?_)
      · simp [w2, -Int.natCast_add]
        exact round (i + 1, o, V ++ layB x, W ++ layB z) [0, 468, 2, 516] ⟨by omega, ordd_app ho ho0 _ _, lV, lW⟩ (by simp; omega) (by simp) (by simp [WO, RO]) (by simp) (by simp) (by simp)
      have hVW : V = W := by
        rcases ho with ⟨_, h⟩ | ⟨h, _⟩ | ⟨h, _⟩
        · exact h
        · omega
        · omega
      subst hVW
      simp [hkd]
      refine alt (fun k0 => ?_) (fun k0 => ?_)
      · have q1 : layB x = uintB (u64n x.n) := by rw [layB, if_pos (by omega)]
        have q2 : layB z = uintB (u64n x.n) := by rw [layB, hzk, if_pos (by omega), hzn]
        have hni : decide (u64n x.n = u64n x.n) = decide (x.n = x.n) := by
          have r1 := hxo.2.2.1; have r2 := hxo.2.2.2.1; have r3 := hy1.2.2.1; have r4 := hy1.2.2.2.1
          apply decide_eq_decide.2
          unfold u64n
          omega
        have hod : Ordd (ordI (decide (u64n x.n < u64n x.n)) (decide (x.n = x.n))) (V ++ layB x) (V ++ layB z) := by rw [q1, q2, ← hni]; exact ordd_pre V (ordd_uint (u64n_lt x.n) (u64n_lt x.n))
        have hlt : decide ((u64n x.n : Int) < (u64n x.n : Int)) = decide (u64n x.n < u64n x.n) := by apply decide_eq_decide.2; omega
        simp [wrap_u64n]
        refine call0 (compare_ok (decide (u64n x.n < u64n x.n)) (decide (x.n = x.n))) (by simp [Ptr, NP, I, R, RO, WO, Bs, EV.lit]) ?_
        rintro y H' ⟨rfl, rfl⟩
        refine ⟨.inl (by simp [Ptr, NP, I, R, RO, WO, Bs, EV.lit]), le_ok rfl, ?_⟩
        simp [I, w2, -Int.natCast_add]
        exact round (i + 1, ordI (decide (u64n x.n < u64n x.n)) (decide (x.n = x.n)), V ++ layB x, V ++ layB z) [0, 468, 2, 516] ⟨by omega, hod, lV, lW⟩ (by simp; omega) (by simp) (by simp [WO, RO]) (by simp) (by simp) (by simp)
      simp [hkd]
      refine alt (fun k1 => ?_) (fun k1 => ?_)
      · have q1 : layB x = intB x.n := by rw [layB, if_neg (by omega), if_pos (by omega)]
        have q2 : layB z = intB x.n := by rw [layB, hzk, if_neg (by omega), if_pos (by omega), hzn]
        have hod : Ordd (ordI (decide (x.n < x.n)) (decide (x.n = x.n))) (V ++ layB x) (V ++ layB z) := by rw [q1, q2]; exact ordd_pre V (ordd_int ⟨hxo.2.2.1, hxo.2.2.2.1⟩ ⟨hy1.2.2.1, hy1.2.2.2.1⟩)
        simp
        refine call0 (compare_ok (decide (x.n < x.n)) (decide (x.n = x.n))) (by simp [Ptr, NP, I, R, RO, WO, Bs, EV.lit]) ?_
        rintro y H' ⟨rfl, rfl⟩
        refine ⟨.inl (by simp [Ptr, NP, I, R, RO, WO, Bs, EV.lit]), le_ok rfl, ?_⟩
        simp [I, w2, -Int.natCast_add]
        exact round (i + 1, ordI (decide (x.n < x.n)) (decide (x.n = x.n)), V ++ layB x, V ++ layB z) [0, 468, 2, 516] ⟨by omega, hod, lV, lW⟩ (by simp; omega) (by simp) (by simp [WO, RO]) (by simp) (by simp) (by simp)
      simp [hkd]
      refine alt (fun k2 => ?_) (fun k2 => ?_)
      · have q1 : layB x = bytesB x.b := by rw [layB, if_neg (by omega), if_neg (by omega), if_pos (by omega)]
        have q2 : layB z = bytesB x.b := by rw [layB, hzk, if_neg (by omega), if_neg (by omega), if_pos (by omega), hzb]
        have hod : Ordd (ordI (Ls x.b x.b) (decide (x.b = x.b))) (V ++ layB x) (V ++ layB z) := by rw [q1, q2]; exact ordd_pre V (ordd_bytes x.b x.b)
        simp
        refine call0 (compare_ok (Ls x.b x.b) (decide (x.b = x.b))) (by simp [Ptr, NP, I, R, RO, WO, Bs, EV.lit]) ?_
        rintro y H' ⟨rfl, rfl⟩
        refine ⟨.inl (by simp [Ptr, NP, I, R, RO, WO, Bs, EV.lit]), le_ok rfl, ?_⟩
        simp [I, w2, -Int.natCast_add]
        exact round (i + 1, ordI (Ls x.b x.b) (decide (x.b = x.b)), V ++ layB x, V ++ layB z) [0, 468, 2, 516] ⟨by omega, hod, lV, lW⟩ (by simp; omega) (by simp) (by simp [WO, RO]) (by simp) (by simp) (by simp)
      have q1 : layB x = x.h := by rw [layB, if_neg (by omega), if_neg (by omega), if_neg (by omega)]
      have q2 : layB z = x.h := by rw [layB, hzk, if_neg (by omega), if_neg (by omega), if_neg (by omega), hzh]
      have hod : Ordd (ordI (Ls x.h x.h) (decide (x.h = x.h))) (V ++ layB x) (V ++ layB z) := by rw [q1, q2]; exact ordd_pre V (ordd_hash (a := x.h) (b := x.h) (by omega))
      simp [h32, h32y, t32, t32y]
      refine call0 (compare_ok (Ls x.h x.h) (decide (x.h = x.h))) (by simp [Ptr, NP, I, R, RO, WO, Bs, EV.lit]) ?_
      rintro y H' ⟨rfl, rfl⟩
      refine ⟨.inl (by simp [Ptr, NP, I, R, RO, WO, Bs, EV.lit]), le_ok rfl, ?_⟩
      simp [I, w2, -Int.natCast_add]
      exact round (i + 1, ordI (Ls x.h x.h) (decide (x.h = x.h)), V ++ layB x, V ++ layB z) [0, 468, 2, 516] ⟨by omega, hod, lV, lW⟩ (by simp; omega) (by simp) (by simp [WO, RO]) (by simp) (by simp) (by simp)
    · have hy1 := hyo
      simp
      obtain ⟨z, hz⟩ : ∃ z : Th, (Th.mk x.kind y.n y.b y.h) = z := ⟨_, rfl⟩
      have hzo : z.ok := by rw [← hz]; exact ⟨hxo.1, hxo.2.1, hy1.2.2.1, hy1.2.2.2.1, hy1.2.2.2.2.1, hy1.2.2.2.2.2⟩
      have hzk : kd z = kd x := by subst hz; rfl
      have hzn : z.n = y.n := by rw [← hz]
      have hzb : z.b = y.b := by rw [← hz]
      have hzh : z.h = y.h := by rw [← hz]
      have hzC : thC z = .fz (.lit (.int .i64 x.kind)) :: .fz (.lit (.int .i64 y.n)) :: .fz (.sl 1 (bsv y.b)) :: hc y.h := by subst hz; rfl
      have l1 := layB_len hxo
      have l2 := layB_len hzo
      have b1 := hxo.2.2.2.2.1
      have b2 := hzo.2.2.2.2.1
      have h32 : x.h.length = 32 := hxo.2.2.2.2.2
      have h32y : y.h.length = 32 := hy1.2.2.2.2.2
      have t32 : x.h.take 32 = x.h := List.take_of_length_le (by omega)
      have t32y : y.h.take 32 = y.h := List.take_of_length_le (by omega)
      simp [thC, h32, h32y, t32, t32y]
      refine callH [0, 1] (lay_ok V x hxo (by omega)) (by simp [Ptr, thC]) (by simp [WO, RO]) (by simp) (by simp) (by simp [Wok]) ?_
      rintro y' H' ⟨rfl, rfl⟩
      refine ⟨.inl (by simp [thC]), le_ok rfl, ?_⟩
      simp [Ptr, WO, RO, h32, h32y, t32, t32y]
      refine callH [2, 3] (lay_ok W z hzo (by omega)) (by simp [Ptr, hzC]) (by simp [WO, RO]) (by simp) (by simp) (by simp [Wok]) ?_
      rintro y' H' ⟨rfl, rfl⟩
      refine ⟨.inl (by simp [hzC, thC]), le_ok rfl, ?_⟩
      simp [Ptr, WO, RO]
      have lV : (V ++ layB x).length ≤ 20000040 * (i + 1) := by rw [List.length_append]; omega
      have lW : (W ++ layB z).length ≤ 20000040 * (i + 1) := by rw [List.length_append]; omega
      refine alt (fun ho0 => ?_) (fun ho0 => ?_)
      · simp [w2, -Int.natCast_add]
        exact round (i + 1, o, V ++ layB x, W ++ layB z) [0, 436, 2, 484] ⟨by omega, ordd_app ho ho0 _ _, lV, lW⟩ (by simp; omega) (by simp) (by simp [WO, RO]) (by simp) (by simp) (by simp)
      have hVW : V = W := by
        rcases ho with ⟨_, h⟩ | ⟨h, _⟩ | ⟨h, _⟩
        · exact h
        · omega
        · omega
      subst hVW
      simp [hkd]
      refine alt (fun k0 => ?_) (fun k0 => ?_)
      · have q1 : layB x = uintB (u64n x.n) := by rw [layB, if_pos (by omega)]
        have q2 : layB z = uintB (u64n y.n) := by rw [layB, hzk, if_pos (by omega), hzn]
        have hni : decide (u64n x.n = u64n y.n) = decide (x.n = y.n) := by
          have r1 := hxo.2.2.1; have r2 := hxo.2.2.2.1; have r3 := hy1.2.2.1; have r4 := hy1.2.2.2.1
          apply decide_eq_decide.2
          unfold u64n
          omega
        have hod : Ordd (ordI (decide (u64n x.n < u64n y.n)) (decide (x.n = y.n))) (V ++ layB x) (V ++ layB z) := by rw [q1, q2, ← hni]; exact ordd_pre V (ordd_uint (u64n_lt x.n) (u64n_lt y.n))
        have hlt : decide ((u64n x.n : Int) < (u64n y.n : Int)) = decide (u64n x.n < u64n y.n) := by apply decide_eq_decide.2; omega
        simp [wrap_u64n]
        refine call0 (compare_ok (decide (u64n x.n < u64n y.n)) (decide (x.n = y.n))) (by simp [Ptr, NP, I, R, RO, WO, Bs, EV.lit]) ?_
        rintro y H' ⟨rfl, rfl⟩
        refine ⟨.inl (by simp [Ptr, NP, I, R, RO, WO, Bs, EV.lit]), le_ok rfl, ?_⟩
        simp [I, w2, -Int.natCast_add]
        exact round (i + 1, ordI (decide (u64n x.n < u64n y.n)) (decide (x.n = y.n)), V ++ layB x, V ++ layB z) [0, 436, 2, 484] ⟨by omega, hod, lV, lW⟩ (by simp; omega) (by simp) (by simp [WO, RO]) (by simp) (by simp) (by simp)
      simp [hkd]
      refine alt (fun k1 => ?_) (fun k1 => ?_)
      · have q1 : layB x = intB x.n := by rw [layB, if_neg (by omega), if_pos (by omega)]
        have q2 : layB z = intB y.n := by rw [layB, hzk, if_neg (by omega), if_pos (by omega), hzn]
        have hod : Ordd (ordI (decide (x.n < y.n)) (decide (x.n = y.n))) (V ++ layB x) (V ++ layB z) := by rw [q1, q2]; exact ordd_pre V (ordd_int ⟨hxo.2.2.1, hxo.2.2.2.1⟩ ⟨hy1.2.2.1, hy1.2.2.2.1⟩)
        simp
        refine call0 (compare_ok (decide (x.n < y.n)) (decide (x.n = y.n))) (by simp [Ptr, NP, I, R, RO, WO, Bs, EV.lit]) ?_
        rintro y H' ⟨rfl, rfl⟩
        refine ⟨.inl (by simp [Ptr, NP, I, R, RO, WO, Bs, EV.lit]), le_ok rfl, ?_⟩
        simp [I, w2, -Int.natCast_add]
        exact round (i + 1, ordI (decide (x.n < y.n)) (decide (x.n = y.n)), V ++ layB x, V ++ layB z) [0, 436, 2, 484] ⟨by omega, hod, lV, lW⟩ (by simp; omega) (by simp) (by simp [WO, RO]) (by simp) (by simp) (by simp)
      simp [hkd]
      refine alt (fun k2 => ?_) (fun k2 => ?_)
      · have q1 : layB x = bytesB x.b := by rw [layB, if_neg (by omega), if_neg (by omega), if_pos (by omega)]
        have q2 : layB z = bytesB y.b := by rw [layB, hzk, if_neg (by omega), if_neg (by omega), if_pos (by omega), hzb]
        have hod : Ordd (ordI (Ls x.b y.b) (decide (x.b = y.b))) (V ++ layB x) (V ++ layB z) := by rw [q1, q2]; exact ordd_pre V (ordd_bytes x.b y.b)
        simp
        refine call0 (compare_ok (Ls x.b y.b) (decide (x.b = y.b))) (by simp [Ptr, NP, I, R, RO, WO, Bs, EV.lit]) ?_
        rintro y H' ⟨rfl, rfl⟩
        refine ⟨.inl (by simp [Ptr, NP, I, R, RO, WO, Bs, EV.lit]), le_ok rfl, ?_⟩
        simp [I, w2, -Int.natCast_add]
        exact round (i + 1, ordI (Ls x.b y.b) (decide (x.b = y.b)), V ++ layB x, V ++ layB z) [0, 436, 2, 484] ⟨by omega, hod, lV, lW⟩ (by simp; omega) (by simp) (by simp [WO, RO]) (by simp) (by simp) (by simp)
      have q1 : layB x = x.h := by rw [layB, if_neg (by omega), if_neg (by omega), if_neg (by omega)]
      have q2 : layB z = y.h := by rw [layB, hzk, if_neg (by omega), if_neg (by omega), if_neg (by omega), hzh]
      have hod : Ordd (ordI (Ls x.h y.h) (decide (x.h = y.h))) (V ++ layB x) (V ++ layB z) := by rw [q1, q2]; exact ordd_pre V (ordd_hash (a := x.h) (b := y.h) (by omega))
      simp [h32, h32y, t32, t32y]
      refine call0 (compare_ok (Ls x.h y.h) (decide (x.h = y.h))) (by simp [Ptr, NP, I, R, RO, WO, Bs, EV.lit]) ?_
      rintro y H' ⟨rfl, rfl⟩
      refine ⟨.inl (by simp [Ptr, NP, I, R, RO, WO, Bs, EV.lit]), le_ok rfl, ?_⟩
      simp [I, w2, -Int.natCast_add]
      exact round (i + 1, ordI (Ls x.h y.h) (decide (x.h = y.h)), V ++ layB x, V ++ layB z) [0, 436, 2, 484] ⟨by omega, hod, lV, lW⟩ (by simp; omega) (by simp) (by simp [WO, RO]) (by simp) (by simp) (by simp)
  have hie : i = n := by omega
  simp [hin]
  refine callH [0, 1] (WDone_ok V (by omega)) (by simp [Ptr, NP, I, R, RO, WO, Bs, EV.lit]) (by simp [Ptr, NP, I, R, RO, WO, Bs, EV.lit]) (by simp) (by simp [Ptr, NP, I, R, RO, WO, Bs, EV.lit]) (by simp [Wok]) ?_
  rintro y H' ⟨rfl, rfl⟩
  refine ⟨.inl (by simp [Ptr, NP, I, R, RO, WO, Bs, EV.lit]), le_ok rfl, ?_⟩
  simp [WO, RO, R]
  refine callH [2, 3] (WDone_ok W (by omega)) (by simp [Ptr, NP, I, R, RO, WO, Bs, EV.lit]) (by simp [Ptr, NP, I, R, RO, WO, Bs, EV.lit]) (by simp) (by simp [Ptr, NP, I, R, RO, WO, Bs, EV.lit]) (by simp [Wok]) ?_
  rintro y H' ⟨rfl, rfl⟩
  refine ⟨.inl (by simp [Ptr, NP, I, R, RO, WO, Bs, EV.lit]), le_ok rfl, ?_⟩
  simp [WO, RO, R]
  have hoe := ordd_end ho
  refine call0 (compare_ok (Ls V W) (decide (V = W))) (by simp [Ptr, NP, I, R, RO, WO, Bs, EV.lit]) ?_
  rintro y H' ⟨rfl, rfl⟩
  refine ⟨.inl (by simp [Ptr, NP, I, R, RO, WO, Bs, EV.lit]), le_ok rfl, ?_⟩
  rw [hoe]
  simp [I]
  refine call0 (sure_ok) (by simp [Ptr, NP, I, R, RO, WO, Bs, EV.lit]) ?_
  rintro y H' ⟨rfl, rfl⟩
  refine ⟨.inl (by simp [Ptr, NP, I, R, RO, WO, Bs, EV.lit]), le_ok rfl, ?_⟩
  simp [Ptr, NP, I, R, RO, WO, Bs, EV.lit]
  exact fin [] (by decide) rfl rfl rfl ⟨rfl, rfl⟩

end Go.Proofs.Ytbbcofojjgofmaa
