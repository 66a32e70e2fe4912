import Derived.Test.YtpohjnhlhfbnaaaGreatDoorAll6
namespace Go.Proofs.YtpohjnhlhfbnaaaGreatDoor
open Go Go.EW
set_option linter.unusedSimpArgs false
set_option linter.unusedVariables false

@[simp] def l_Smay_1 (_ : Unit) : List EOp := [⟨0, (some 1), none, (.q (.box 33 (.t 0))), []⟩, ⟨1, (some 2), none, (.q (.mov (.k (.bool false)))), []⟩]
@[simp] def b_Smay_2 (_ : Unit) : EB := reg0 (hid l_Smay_1) 2
@[simp] def l_Smay_9 (_ : Unit) : List EOp := [⟨36, (some 44), (some (36, false)), (.q (.bin .gtr (.t 39) (.t 43))), []⟩, ⟨37, (some 45), none, (.q (.pick (.t 36) (.k (.bool true)) (.t 44))), []⟩]
@[simp] def l_Smay_8 (_ : Unit) : List EOp := ⟨30, (some 38), (some (36, false)), (.q (.ldc (.t 37))), []⟩ :: ⟨31, (some 39), (some (36, false)), (.q (.len (.t 38))), []⟩ :: ⟨32, (some 40), (some (36, false)), (.q (.fad 3 (.t 1))), []⟩ :: ⟨33, (some 41), (some (36, false)), (.q (.ldc (.t 40))), []⟩ :: ⟨34, (some 42), (some (36, false)), (.q (.len (.t 41))), []⟩ :: ⟨35, (some 43), (some (36, false)), (.q (.bin .sub (.k (.int .i64 8)) (.t 42))), []⟩ :: hid l_Smay_9
@[simp] def l_Smay_7 (_ : Unit) : List EOp := ⟨24, (some 32), (some (30, false)), (.q (.ldc (.t 31))), []⟩ :: ⟨25, (some 33), (some (30, false)), (.q (.len (.t 32))), []⟩ :: ⟨26, (some 34), (some (30, false)), (.q (.bin .gtr (.t 33) (.k (.int .i64 8)))), []⟩ :: ⟨27, (some 35), none, (.q (.pick (.t 30) (.k (.bool true)) (.t 34))), []⟩ :: ⟨28, (some 36), none, (.q (.mov (.t 35))), []⟩ :: ⟨29, (some 37), (some (36, false)), (.q (.fad 4 (.t 1))), []⟩ :: hid l_Smay_8
@[simp] def l_Smay_6 (_ : Unit) : List EOp := ⟨18, (some 26), (some (23, false)), (.q (.ldc (.t 25))), []⟩ :: ⟨19, (some 27), (some (23, false)), (.call 51 [(.t 26), (.k (.int .i64 0))]), []⟩ :: ⟨20, (some 28), (some (23, false)), (.q (.un .not (.t 27))), []⟩ :: ⟨21, (some 29), none, (.q (.pick (.t 23) (.k (.bool true)) (.t 28))), []⟩ :: ⟨22, (some 30), none, (.q (.mov (.t 29))), []⟩ :: ⟨23, (some 31), (some (30, false)), (.q (.fad 3 (.t 1))), []⟩ :: hid l_Smay_7
@[simp] def l_Smay_5 (_ : Unit) : List EOp := ⟨12, (some 20), (some (16, false)), (.call 51 [(.t 19), (.k (.int .i64 0))]), []⟩ :: ⟨13, (some 21), (some (16, false)), (.q (.un .not (.t 20))), []⟩ :: ⟨14, (some 22), none, (.q (.pick (.t 16) (.k (.bool true)) (.t 21))), []⟩ :: ⟨15, (some 23), none, (.q (.mov (.t 22))), []⟩ :: ⟨16, (some 24), (some (23, false)), (.q (.fad 1 (.t 1))), []⟩ :: ⟨17, (some 25), (some (23, false)), (.q (.iad 2 1 (.t 24) (.k (.int .i64 1)))), []⟩ :: hid l_Smay_6
@[simp] def l_Smay_4 (_ : Unit) : List EOp := ⟨6, (some 14), (some (11, false)), (.q (.bin .gtr (.t 13) (.k (.int .i64 1099511627776)))), []⟩ :: ⟨7, (some 15), none, (.q (.pick (.t 11) (.k (.bool true)) (.t 14))), []⟩ :: ⟨8, (some 16), none, (.q (.mov (.t 15))), []⟩ :: ⟨9, (some 17), (some (16, false)), (.q (.fad 1 (.t 1))), []⟩ :: ⟨10, (some 18), (some (16, false)), (.q (.iad 2 1 (.t 17) (.k (.int .i64 0)))), []⟩ :: ⟨11, (some 19), (some (16, false)), (.q (.ldc (.t 18))), []⟩ :: hid l_Smay_5
@[simp] def l_Smay_3 (_ : Unit) : List EOp := ⟨0, (some 8), none, (.q (.fad 0 (.t 1))), []⟩ :: ⟨1, (some 9), none, (.q (.ldc (.t 8))), []⟩ :: ⟨2, (some 10), none, (.q (.bin .lss (.t 9) (.k (.int .i64 0)))), []⟩ :: ⟨3, (some 11), none, (.q (.mov (.t 10))), []⟩ :: ⟨4, (some 12), (some (11, false)), (.q (.fad 0 (.t 1))), []⟩ :: ⟨5, (some 13), (some (11, false)), (.q (.ldc (.t 12))), []⟩ :: hid l_Smay_4
@[simp] def b_Smay_10 (_ : Unit) : EB := reg0 (hid l_Smay_3) 38
@[simp] def l_Smay_11 (_ : Unit) : List EOp := [⟨0, (some 2), none, (.q (.mov (.k (.bool false)))), []⟩]
@[simp] def b_Smay_12 (_ : Unit) : EB := reg0 (hid l_Smay_11) 1
@[simp] def b_Smay_13 (_ : Unit) : EB := .seq (hid b_Smay_12) .ret
@[simp] def b_Smay_14 (_ : Unit) : EB := .cond (.t 45) (hid b_Smay_13) .skip
@[simp] def b_Smay_15 (_ : Unit) : EB := .seq (hid b_Smay_10) (hid b_Smay_14)
@[simp] def l_Smay_17 (_ : Unit) : List EOp := [⟨6, (some 52), none, (.q (.bin .add (.t 48) (.t 51))), []⟩, ⟨7, (some 3), none, (.q (.mov (.t 52))), []⟩]
@[simp] def l_Smay_16 (_ : Unit) : List EOp := ⟨0, (some 46), none, (.q (.fad 1 (.t 1))), []⟩ :: ⟨1, (some 47), none, (.q (.iad 2 1 (.t 46) (.k (.int .i64 0)))), []⟩ :: ⟨2, (some 48), none, (.q (.ldc (.t 47))), []⟩ :: ⟨3, (some 49), none, (.q (.fad 1 (.t 1))), []⟩ :: ⟨4, (some 50), none, (.q (.iad 2 1 (.t 49) (.k (.int .i64 1)))), []⟩ :: ⟨5, (some 51), none, (.q (.ldc (.t 50))), []⟩ :: hid l_Smay_17
@[simp] def b_Smay_18 (_ : Unit) : EB := reg0 (hid l_Smay_16) 8
@[simp] def l_Smay_19 (_ : Unit) : List EOp := [⟨0, (some 53), none, (.q (.fad 3 (.t 1))), []⟩, ⟨1, (some 54), none, (.q (.ldc (.t 53))), []⟩, ⟨2, (some 55), none, (.q (.len (.t 54))), []⟩, ⟨3, (some 56), none, (.q (.mov (.k (.int .i64 0)))), []⟩]
@[simp] def b_Smay_20 (_ : Unit) : EB := reg0 (hid l_Smay_19) 4
@[simp] def l_Smay_21 (_ : Unit) : List EOp := [⟨0, (some 57), none, (.q (.bin .lss (.t 56) (.t 55))), []⟩]
@[simp] def b_Smay_22 (_ : Unit) : EB := reg0 (hid l_Smay_21) 1
@[simp] def b_Smay_23 (_ : Unit) : EB := .cond (.t 57) .skip (.exit 0)
@[simp] def l_Smay_24 (_ : Unit) : List EOp := [⟨0, (some 58), none, (.q (.mov (.t 56))), []⟩, ⟨1, (some 59), none, (.q (.isl 36 (.t 54) (.t 56))), []⟩, ⟨2, (some 60), none, (.q (.lda 36 (.t 59))), []⟩, ⟨3, (some 5), none, (.q (.alloc 65 (([(.int .i64 0), (.int .i64 0), (.int .i64 0), (.int .i64 0)] : List Value) ++ zU8))), []⟩, ⟨4, (some 4), none, (.q (.mov (.t 58))), []⟩, ⟨5, none, none, (.sto 36 (.t 5) (.t 60)), []⟩]
@[simp] def b_Smay_25 (_ : Unit) : EB := reg0 (hid l_Smay_24) 6
@[simp] def l_Smay_29 (_ : Unit) : List EOp := [⟨18, (some 79), none, (.q (.pick (.t 64) (.k (.bool true)) (.t 78))), []⟩]
@[simp] def l_Smay_28 (_ : Unit) : List EOp := ⟨12, (some 73), (some (67, true)), (.q (.fad 0 (.t 72))), []⟩ :: ⟨13, (some 74), (some (67, true)), (.q (.ldc (.t 73))), []⟩ :: ⟨14, (some 75), (some (67, true)), (.q (.fad 0 (.t 5))), []⟩ :: ⟨15, (some 76), (some (67, true)), (.q (.ldc (.t 75))), []⟩ :: ⟨16, (some 77), (some (67, true)), (.q (.bin .geq (.t 74) (.t 76))), []⟩ :: ⟨17, (some 78), (some (64, false)), (.q (.pick (.t 67) (.t 77) (.k (.bool false)))), []⟩ :: hid l_Smay_29
@[simp] def l_Smay_27 (_ : Unit) : List EOp := ⟨6, (some 67), (some (64, false)), (.q (.mov (.t 66))), []⟩ :: ⟨7, (some 68), (some (67, true)), (.q (.fad 3 (.t 1))), []⟩ :: ⟨8, (some 69), (some (67, true)), (.q (.ldc (.t 68))), []⟩ :: ⟨9, (some 70), (some (67, true)), (.q (.mov (.t 4))), []⟩ :: ⟨10, (some 71), (some (67, true)), (.q (.bin .sub (.t 70) (.k (.int .i64 1)))), []⟩ :: ⟨11, (some 72), (some (67, true)), (.q (.isl 36 (.t 69) (.t 71))), []⟩ :: hid l_Smay_28
@[simp] def l_Smay_26 (_ : Unit) : List EOp := ⟨0, (some 61), none, (.q (.lda 36 (.t 5))), []⟩ :: ⟨1, (some 62), none, (.call 52 [(.t 61)]), []⟩ :: ⟨2, (some 63), none, (.q (.un .not (.t 62))), []⟩ :: ⟨3, (some 64), none, (.q (.mov (.t 63))), []⟩ :: ⟨4, (some 65), (some (64, false)), (.q (.mov (.t 4))), []⟩ :: ⟨5, (some 66), (some (64, false)), (.q (.bin .gtr (.t 65) (.k (.int .i64 0)))), []⟩ :: hid l_Smay_27
@[simp] def b_Smay_30 (_ : Unit) : EB := reg0 (hid l_Smay_26) 19
@[simp] def l_Smay_31 (_ : Unit) : List EOp := [⟨0, (some 2), none, (.q (.mov (.k (.bool false)))), []⟩]
@[simp] def b_Smay_32 (_ : Unit) : EB := reg0 (hid l_Smay_31) 1
@[simp] def b_Smay_33 (_ : Unit) : EB := .seq (hid b_Smay_32) .ret
@[simp] def b_Smay_34 (_ : Unit) : EB := .cond (.t 79) (hid b_Smay_33) .skip
@[simp] def b_Smay_35 (_ : Unit) : EB := .seq (hid b_Smay_30) (hid b_Smay_34)
@[simp] def l_Smay_36 (_ : Unit) : List EOp := [⟨0, (some 80), none, (.q (.mov (.t 3))), []⟩, ⟨1, (some 81), none, (.q (.fad 2 (.t 5))), []⟩, ⟨2, (some 82), none, (.q (.ldc (.t 81))), []⟩, ⟨3, (some 83), none, (.q (.bin .add (.t 80) (.t 82))), []⟩, ⟨4, (some 3), none, (.q (.mov (.t 83))), []⟩]
@[simp] def b_Smay_37 (_ : Unit) : EB := reg0 (hid l_Smay_36) 5
@[simp] def b_Smay_38 (_ : Unit) : EB := .seq (hid b_Smay_35) (hid b_Smay_37)
@[simp] def b_Smay_39 (_ : Unit) : EB := .seq (hid b_Smay_25) (hid b_Smay_38)
@[simp] def b_Smay_40 (_ : Unit) : EB := .block 1 (hid b_Smay_39)
@[simp] def l_Smay_41 (_ : Unit) : List EOp := [⟨0, (some 84), none, (.q (.bin .add (.t 56) (.k (.int .i64 1)))), []⟩, ⟨1, (some 56), none, (.q (.mov (.t 84))), []⟩]
@[simp] def b_Smay_42 (_ : Unit) : EB := reg0 (hid l_Smay_41) 2
@[simp] def b_Smay_43 (_ : Unit) : EB := .seq (hid b_Smay_40) (hid b_Smay_42)
@[simp] def b_Smay_44 (_ : Unit) : EB := .seq (hid b_Smay_23) (hid b_Smay_43)
@[simp] def b_Smay_45 (_ : Unit) : EB := .seq (hid b_Smay_22) (hid b_Smay_44)
@[simp] def b_Smay_46 (_ : Unit) : EB := .loop (hid b_Smay_45)
@[simp] def b_Smay_47 (_ : Unit) : EB := .block 0 (hid b_Smay_46)
@[simp] def b_Smay_48 (_ : Unit) : EB := .seq (hid b_Smay_20) (hid b_Smay_47)
@[simp] def l_Smay_49 (_ : Unit) : List EOp := [⟨0, (some 85), none, (.q (.fad 4 (.t 1))), []⟩, ⟨1, (some 86), none, (.q (.ldc (.t 85))), []⟩, ⟨2, (some 87), none, (.q (.len (.t 86))), []⟩, ⟨3, (some 88), none, (.q (.mov (.k (.int .i64 0)))), []⟩]
@[simp] def b_Smay_50 (_ : Unit) : EB := reg0 (hid l_Smay_49) 4
@[simp] def l_Smay_51 (_ : Unit) : List EOp := [⟨0, (some 89), none, (.q (.bin .lss (.t 88) (.t 87))), []⟩]
@[simp] def b_Smay_52 (_ : Unit) : EB := reg0 (hid l_Smay_51) 1
@[simp] def b_Smay_53 (_ : Unit) : EB := .cond (.t 89) .skip (.exit 2)
@[simp] def l_Smay_54 (_ : Unit) : List EOp := [⟨0, (some 90), none, (.q (.mov (.t 88))), []⟩, ⟨1, (some 91), none, (.q (.isl 3 (.t 86) (.t 88))), []⟩, ⟨2, (some 92), none, (.q (.lda 3 (.t 91))), []⟩, ⟨3, (some 7), none, (.q (.alloc 66 [(.int .i64 0), (.int .i64 0), (.slice none 0 0)])), []⟩, ⟨4, (some 6), none, (.q (.mov (.t 90))), []⟩, ⟨5, none, none, (.fz (.sto 3 (.t 7) (.t 92))), []⟩]
@[simp] def b_Smay_55 (_ : Unit) : EB := reg0 (hid l_Smay_54) 6
@[simp] def l_Smay_59 (_ : Unit) : List EOp := [⟨18, (some 111), none, (.q (.pick (.t 96) (.k (.bool true)) (.t 110))), []⟩]
@[simp] def l_Smay_58 (_ : Unit) : List EOp := ⟨12, (some 105), (some (99, true)), (.q (.fad 0 (.t 104))), []⟩ :: ⟨13, (some 106), (some (99, true)), (.q (.ldc (.t 105))), []⟩ :: ⟨14, (some 107), (some (99, true)), (.q (.fad 0 (.t 7))), []⟩ :: ⟨15, (some 108), (some (99, true)), (.q (.ldc (.t 107))), []⟩ :: ⟨16, (some 109), (some (99, true)), (.q (.bin .geq (.t 106) (.t 108))), []⟩ :: ⟨17, (some 110), (some (96, false)), (.q (.pick (.t 99) (.t 109) (.k (.bool false)))), []⟩ :: hid l_Smay_59
@[simp] def l_Smay_57 (_ : Unit) : List EOp := ⟨6, (some 99), (some (96, false)), (.q (.mov (.t 98))), []⟩ :: ⟨7, (some 100), (some (99, true)), (.q (.fad 4 (.t 1))), []⟩ :: ⟨8, (some 101), (some (99, true)), (.q (.ldc (.t 100))), []⟩ :: ⟨9, (some 102), (some (99, true)), (.q (.mov (.t 6))), []⟩ :: ⟨10, (some 103), (some (99, true)), (.q (.bin .sub (.t 102) (.k (.int .i64 1)))), []⟩ :: ⟨11, (some 104), (some (99, true)), (.q (.isl 3 (.t 101) (.t 103))), []⟩ :: hid l_Smay_58
@[simp] def l_Smay_56 (_ : Unit) : List EOp := ⟨0, (some 93), none, (.q (.lda 3 (.t 7))), []⟩ :: ⟨1, (some 94), none, (.call 53 [(.t 93)]), []⟩ :: ⟨2, (some 95), none, (.q (.un .not (.t 94))), []⟩ :: ⟨3, (some 96), none, (.q (.mov (.t 95))), []⟩ :: ⟨4, (some 97), (some (96, false)), (.q (.mov (.t 6))), []⟩ :: ⟨5, (some 98), (some (96, false)), (.q (.bin .gtr (.t 97) (.k (.int .i64 0)))), []⟩ :: hid l_Smay_57
@[simp] def b_Smay_60 (_ : Unit) : EB := reg0 (hid l_Smay_56) 19
@[simp] def l_Smay_61 (_ : Unit) : List EOp := [⟨0, (some 2), none, (.q (.mov (.k (.bool false)))), []⟩]
@[simp] def b_Smay_62 (_ : Unit) : EB := reg0 (hid l_Smay_61) 1
@[simp] def b_Smay_63 (_ : Unit) : EB := .seq (hid b_Smay_62) .ret
@[simp] def b_Smay_64 (_ : Unit) : EB := .cond (.t 111) (hid b_Smay_63) .skip
@[simp] def b_Smay_65 (_ : Unit) : EB := .seq (hid b_Smay_60) (hid b_Smay_64)
@[simp] def l_Smay_66 (_ : Unit) : List EOp := [⟨0, (some 112), none, (.q (.mov (.t 3))), []⟩, ⟨1, (some 113), none, (.q (.fad 1 (.t 7))), []⟩, ⟨2, (some 114), none, (.q (.ldc (.t 113))), []⟩, ⟨3, (some 115), none, (.q (.bin .add (.t 112) (.t 114))), []⟩, ⟨4, (some 3), none, (.q (.mov (.t 115))), []⟩]
@[simp] def b_Smay_67 (_ : Unit) : EB := reg0 (hid l_Smay_66) 5
@[simp] def b_Smay_68 (_ : Unit) : EB := .seq (hid b_Smay_65) (hid b_Smay_67)
@[simp] def b_Smay_69 (_ : Unit) : EB := .seq (hid b_Smay_55) (hid b_Smay_68)
@[simp] def b_Smay_70 (_ : Unit) : EB := .block 3 (hid b_Smay_69)
@[simp] def l_Smay_71 (_ : Unit) : List EOp := [⟨0, (some 116), none, (.q (.bin .add (.t 88) (.k (.int .i64 1)))), []⟩, ⟨1, (some 88), none, (.q (.mov (.t 116))), []⟩]
@[simp] def b_Smay_72 (_ : Unit) : EB := reg0 (hid l_Smay_71) 2
@[simp] def b_Smay_73 (_ : Unit) : EB := .seq (hid b_Smay_70) (hid b_Smay_72)
@[simp] def b_Smay_74 (_ : Unit) : EB := .seq (hid b_Smay_53) (hid b_Smay_73)
@[simp] def b_Smay_75 (_ : Unit) : EB := .seq (hid b_Smay_52) (hid b_Smay_74)
@[simp] def b_Smay_76 (_ : Unit) : EB := .loop (hid b_Smay_75)
@[simp] def b_Smay_77 (_ : Unit) : EB := .block 2 (hid b_Smay_76)
@[simp] def b_Smay_78 (_ : Unit) : EB := .seq (hid b_Smay_50) (hid b_Smay_77)
@[simp] def l_Smay_79 (_ : Unit) : List EOp := [⟨0, (some 117), none, (.q (.mov (.t 3))), []⟩, ⟨1, (some 118), none, (.q (.bin .leq (.t 117) (.k (.int .i64 1125899906842624)))), []⟩, ⟨2, (some 2), none, (.q (.mov (.t 118))), []⟩]
@[simp] def b_Smay_80 (_ : Unit) : EB := reg0 (hid l_Smay_79) 3
@[simp] def b_Smay_81 (_ : Unit) : EB := .seq (hid b_Smay_80) .ret
@[simp] def b_Smay_82 (_ : Unit) : EB := .seq (hid b_Smay_78) (hid b_Smay_81)
@[simp] def b_Smay_83 (_ : Unit) : EB := .seq (hid b_Smay_48) (hid b_Smay_82)
@[simp] def b_Smay_84 (_ : Unit) : EB := .seq (hid b_Smay_18) (hid b_Smay_83)
@[simp] def b_Smay_85 (_ : Unit) : EB := .seq (hid b_Smay_15) (hid b_Smay_84)
@[simp] def b_Smay_86 (_ : Unit) : EB := .seq (hid b_Smay_2) (hid b_Smay_85)
def c_Smay : EB × List QOp × Nat := ((hid b_Smay_86), [(.mov (.t 2))], 119)
theorem k_Smay : cfun Tryz.prog 26 = some c_Smay := by kernel_rfl


theorem mayS_f {s : Sta} (q : ¬ (0 ≤ s.num ∧ s.num ≤ 1099511627776 ∧ 0 ≤ s.h0 ∧ s.h0 ≤ 1125899906842624 ∧ 0 ≤ s.h1 ∧ s.h1 ≤ 1125899906842624 ∧ s.pays.length ≤ 8 ∧ s.holds.length + s.pays.length ≤ 8)) : mayS s = false := by simp only [mayS, decide_eq_false q, Bool.false_and]
theorem mayS_p {s : Sta} (q : payL none s.pays = false) : mayS s = false := by simp only [mayS, q, Bool.and_false, Bool.false_and]
theorem mayS_h {s : Sta} (q : holL none s.holds = false) : mayS s = false := by simp only [mayS, q, Bool.and_false, Bool.false_and]
def prevP (l : List Pay) (i : Nat) : Option Int := if i = 0 then none else (l[i - 1]?).map (·.id)
def prevH (l : List Hol) (i : Nat) : Option Int := if i = 0 then none else (l[i - 1]?).map (·.id)
def PL (l : List Pay) : EV := .v (.c (.fz (.sl 36 (payv l))))
def HL (l : List Hol) : EV := .v (.c (.fz (.sl 3 (holv l))))
theorem sumP_snoc (l : List Pay) (p : Pay) : sumP (l ++ [p]) = sumP l + p.am := by simp [sumP]
theorem sumH_snoc (l : List Hol) (p : Hol) : sumH (l ++ [p]) = sumH l + p.am := by simp [sumH]
theorem take_s {α : Type} {l : List α} {i : Nat} {c : α} (h : l[i]? = some c) : l.take (i + 1) = l.take i ++ [c] := by rw [List.take_add_one, h]; rfl
theorem mayP_am {p : Pay} (h : mayP p = true) : 10 ≤ p.am ∧ p.am ≤ 1125899906842624 := by
  have := of_decide_eq_true h
  omega
theorem mayH_am {p : Hol} (h : mayH p = true) : 10 ≤ p.am ∧ p.am ≤ 1125899906842624 := by
  simp only [mayH, Bool.and_eq_true, decide_eq_true_eq] at h
  omega
theorem holF_fz (h : Hol) : (holF h).map EC.fz = holC h := rfl
theorem holC_take (h : Hol) : (holC h).take 3 = holC h := rfl

set_option maxHeartbeats 2000000 in
theorem Smay_ok (s : Sta) (hs : s.ok) : ECalls Tryz.prog 26 [SV s] [] fun y H' => H' = [] ∧ y = .lit (.bool (mayS s)) := by
  obtain ⟨ok1, ok2, ok3, ok4, ok5, ok6, ok7⟩ := hs
  refine ecalls k_Smay ?_
  simp [c_Smay, SV, staC]
  refine alt (fun a1 => ?_) (fun a1 => ?_)
  rotate_left
  · (first | simp [I, EV.lit, a1, Int.not_le.2 a1] | simp [I, EV.lit, a1, Int.not_lt.2 a1] | simp [I, EV.lit, a1, Int.not_lt.1 a1] | simp [I, EV.lit, a1, Int.not_le.1 a1] | simp [I, EV.lit, a1])
    exact fin [] (by decide) rfl rfl rfl ⟨rfl, by rw [mayS_f (by omega)]⟩
  (first | simp [I, EV.lit, a1, Int.not_le.2 a1] | simp [I, EV.lit, a1, Int.not_lt.2 a1] | simp [I, EV.lit, a1, Int.not_lt.1 a1] | simp [I, EV.lit, a1, Int.not_le.1 a1] | simp [I, EV.lit, a1])
  refine alt (fun a2 => ?_) (fun a2 => ?_)
  rotate_left
  · (first | simp [I, EV.lit, a2, Int.not_le.2 a2] | simp [I, EV.lit, a2, Int.not_lt.2 a2] | simp [I, EV.lit, a2, Int.not_lt.1 a2] | simp [I, EV.lit, a2, Int.not_le.1 a2] | simp [I, EV.lit, a2])
    exact fin [] (by decide) rfl rfl rfl ⟨rfl, by rw [mayS_f (by omega)]⟩
  (first | simp [I, EV.lit, a2, Int.not_le.2 a2] | simp [I, EV.lit, a2, Int.not_lt.2 a2] | simp [I, EV.lit, a2, Int.not_lt.1 a2] | simp [I, EV.lit, a2, Int.not_le.1 a2] | simp [I, EV.lit, a2])
  refine call0 (amount_ok s.h0 0) (by simp [I, EV.lit]) ?_
  rintro y H' ⟨rfl, rfl⟩
  refine ⟨.inl (by simp [I, EV.lit]), le_ok rfl, ?_⟩
  cases hb3 : decide (0 ≤ s.h0 ∧ s.h0 ≤ 1125899906842624)
  · have a3 := of_decide_eq_false hb3
    simp [EV.lit]
    exact fin [] (by decide) rfl rfl rfl ⟨rfl, by rw [mayS_f (by omega)]⟩
  have a3 := of_decide_eq_true hb3
  simp [EV.lit]
  refine call0 (amount_ok s.h1 0) (by simp [I, EV.lit]) ?_
  rintro y H' ⟨rfl, rfl⟩
  refine ⟨.inl (by simp [I, EV.lit]), le_ok rfl, ?_⟩
  cases hb4 : decide (0 ≤ s.h1 ∧ s.h1 ≤ 1125899906842624)
  · have a4 := of_decide_eq_false hb4
    simp [EV.lit]
    exact fin [] (by decide) rfl rfl rfl ⟨rfl, by rw [mayS_f (by omega)]⟩
  have a4 := of_decide_eq_true hb4
  simp [EV.lit]
  refine alt (fun a5 => ?_) (fun a5 => ?_)
  rotate_left
  · (first | simp [I, EV.lit, a5, Int.not_le.2 a5] | simp [I, EV.lit, a5, Int.not_lt.2 a5] | simp [I, EV.lit, a5, Int.not_lt.1 a5] | simp [I, EV.lit, a5, Int.not_le.1 a5] | simp [I, EV.lit, a5])
    exact fin [] (by decide) rfl rfl rfl ⟨rfl, by rw [mayS_f (by omega)]⟩
  (first | simp [I, EV.lit, a5, Int.not_le.2 a5] | simp [I, EV.lit, a5, Int.not_lt.2 a5] | simp [I, EV.lit, a5, Int.not_lt.1 a5] | simp [I, EV.lit, a5, Int.not_le.1 a5] | simp [I, EV.lit, a5])
  have w0 : IntKind.i64.wrap (8 - (s.pays.length : Int)) = 8 - (s.pays.length : Int) := wrap_i64 (by omega) (by omega)
  have w1 : IntKind.i64.wrap (s.h0 + s.h1) = s.h0 + s.h1 := wrap_i64 (by omega) (by omega)
  rw [w0]
  refine alt (fun a6 => ?_) (fun a6 => ?_)
  · simp
    exact fin [] (by decide) rfl rfl rfl ⟨rfl, by rw [mayS_f (by omega)]⟩
  simp [w1]
  refine eloop (α := Nat × Int) (fun a => a.1 ≤ s.pays.length ∧ payL none s.pays = payL (prevP s.pays a.1) (s.pays.drop a.1) ∧ a.2 = s.h0 + s.h1 + sumP (s.pays.take a.1) ∧ 0 ≤ a.2 ∧ a.2 ≤ 2251799813685248 + (a.1 : Int) * 1125899906842624) (fun a => s.pays.length - a.1)
    (fun a => [.any, Ptr 0, .any, I .i64 a.2, .any, .any, .any, .any, .any, .any, .any, .any, .any, .any, .any, .any, .any, .any, .any, .any, .any, .any, .any, .any, .any, .any, .any, .any, .any, .any, .any, .any, .any, .any, .any, .any, .any, .any, .any, .any, .any, .any, .any, .any, .any, .any, .any, .any, .any, .any, .any, .any, .any, .any, PL s.pays, I .i64 s.pays.length, I .i64 a.1, .any, .any, .any, .any, .any, .any, .any, .any, .any, .any, .any, .any, .any, .any, .any, .any, .any, .any, .any, .any, .any, .any, .any, .any, .any, .any, .any, .any, .any, .any, .any, .any, .any, .any, .any, .any, .any, .any, .any, .any, .any, .any, .any, .any, .any, .any, .any, .any, .any, .any, .any, .any, .any, .any, .any, .any, .any, .any, .any, .any, .any, .any]) (fun a => [some (.box 33 (staC s))]) (0, s.h0 + s.h1) [0]
    ⟨by simp, by simp [prevP], by simp [sumP], by simp; omega, by simp; omega⟩ (by simp [Ptr, I, PL]) (by simp [staC]) (by simp) (by simp) (by simp) ?_
  rintro ⟨i, n⟩ ⟨hi1, hi2, hi3, hi4, hi5⟩
  simp [Ptr, I, PL, staC] at hi1 hi2 hi3 hi4 hi5 ⊢
  refine alt (fun hlt => ?_) (fun hlt => ?_)
  · obtain ⟨p, hc⟩ : ∃ p, s.pays[i]? = some p := ⟨s.pays[i], by simp [hlt]⟩
    have hpo := ok4 p (List.mem_of_getElem? hc)
    have hl32 := hpo.2.2.2.2
    have ht : p.lock.take 32 = p.lock := List.take_of_length_le (by omega)
    have hcb := payv_get hc
    rw [drop_cons hc] at hi2
    have w2 : IntKind.i64.wrap ((i : Int) + 1) = ((i + 1 : Nat) : Int) := wrap_i64 (by omega) (by omega)
    have w3 : IntKind.i64.wrap ((i : Int) - 1) = (i : Int) - 1 := wrap_i64 (by omega) (by omega)
    simp [hcb, payF, hl32, ht]
    refine call0 (Pmay_ok p hl32) (by simp [payC]) ?_
    rintro y H' ⟨rfl, rfl⟩
    refine ⟨.inl (by simp), le_ok rfl, ?_⟩
    cases hm : mayP p
    · simp [EV.lit]
      exact fin [] (by decide) rfl rfl rfl ⟨rfl, by rw [mayS_p (by rw [hi2, payL, hm]; simp)]⟩
    have ham := mayP_am hm
    have w4 : IntKind.i64.wrap (n + p.am) = n + p.am := wrap_i64 (by omega) (by omega)
    have hnx : ∀ (q : aft (prevP s.pays i) p.id = true), payL none s.pays = payL (prevP s.pays (i + 1)) (s.pays.drop (i + 1)) := by
      intro q
      rw [hi2, payL, hm, q]
      simp [prevP, hc]
    have hsum : n + p.am = s.h0 + s.h1 + sumP (s.pays.take (i + 1)) := by rw [take_s hc, sumP_snoc]; omega
    simp [EV.lit]
    refine alt (fun h0 => ?_) (fun h0 => ?_)
    · obtain ⟨q, hq⟩ : ∃ q, s.pays[i - 1]? = some q := ⟨s.pays[i - 1]'(by omega), by simp⟩
      have hqb := payv_get hq
      have hti : ((i : Int) - 1).toNat = i - 1 := by omega
      have hpv : prevP s.pays i = some q.id := by simp [prevP, hq, show i ≠ 0 by omega]
      have h1 : (1 : Int) ≤ (i : Int) := by omega
      simp [h0, w3, hqb, hti, payF, h1]
      refine alt (fun c1 => ?_) (fun c1 => ?_)
      · simp
        exact fin [] (by decide) rfl rfl rfl ⟨rfl, by rw [mayS_p (by rw [hi2, payL, hm, hpv]; simp [aft, decide_eq_false (show ¬ q.id < p.id by omega)])]⟩
      simp [w2, w4, -Int.natCast_add]
      exact round (i + 1, n + p.am) [0] ⟨by omega, hnx (by rw [hpv]; exact decide_eq_true (by omega)), hsum, by simp; omega, by simp; omega⟩ (by simp; omega) (by simp) (by simp) (by simp) (by simp) (by simp)
    · have hi0 : i = 0 := by omega
      subst hi0
      simp [w4, IntKind.wrap_i64]
      exact round (1, n + p.am) [0] ⟨by omega, hnx (by simp [prevP, aft]), hsum, by simp; omega, by simp; omega⟩ (by simp; omega) (by simp) (by simp) (by simp) (by simp) (by simp)
  have hil : i = s.pays.length := by omega
  subst hil
  have hps : payL none s.pays = true := by rw [hi2]; simp [payL]
  rw [List.take_length] at hi3
  simp
  refine eloop (α := Nat × Int) (fun a => a.1 ≤ s.holds.length ∧ holL none s.holds = holL (prevH s.holds a.1) (s.holds.drop a.1) ∧ a.2 = s.h0 + s.h1 + sumP s.pays + sumH (s.holds.take a.1) ∧ 0 ≤ a.2 ∧ a.2 ≤ 22517998136852480 + (a.1 : Int) * 1125899906842624) (fun a => s.holds.length - a.1)
    (fun a => [.any, Ptr 0, .any, I .i64 a.2, .any, .any, .any, .any, .any, .any, .any, .any, .any, .any, .any, .any, .any, .any, .any, .any, .any, .any, .any, .any, .any, .any, .any, .any, .any, .any, .any, .any, .any, .any, .any, .any, .any, .any, .any, .any, .any, .any, .any, .any, .any, .any, .any, .any, .any, .any, .any, .any, .any, .any, .any, .any, .any, .any, .any, .any, .any, .any, .any, .any, .any, .any, .any, .any, .any, .any, .any, .any, .any, .any, .any, .any, .any, .any, .any, .any, .any, .any, .any, .any, .any, .any, HL s.holds, I .i64 s.holds.length, I .i64 a.1, .any, .any, .any, .any, .any, .any, .any, .any, .any, .any, .any, .any, .any, .any, .any, .any, .any, .any, .any, .any, .any, .any, .any, .any, .any, .any, .any, .any, .any, .any]) (fun a => [some (.box 33 (staC s))]) (0, n) [0]
    ⟨by simp, by simp [prevH], by simp [sumH]; omega, hi4, by simp; omega⟩ (by simp [Ptr, I, HL]) (by simp [staC]) (by simp) (by simp) (by simp) ?_
  clear hi1 hi2 hi3 hi4 hi5 hlt
  clear n
  rintro ⟨i, n⟩ ⟨hi1, hi2, hi3, hi4, hi5⟩
  simp [Ptr, I, HL, staC] at hi1 hi2 hi3 hi4 hi5 ⊢
  refine alt (fun hlt => ?_) (fun hlt => ?_)
  · obtain ⟨p, hc⟩ : ∃ p, s.holds[i]? = some p := ⟨s.holds[i], by simp [hlt]⟩
    have hpo := ok5 p (List.mem_of_getElem? hc)
    have hcb := holv_get hc
    rw [drop_cons hc] at hi2
    have w2 : IntKind.i64.wrap ((i : Int) + 1) = ((i + 1 : Nat) : Int) := wrap_i64 (by omega) (by omega)
    have w3 : IntKind.i64.wrap ((i : Int) - 1) = (i : Int) - 1 := wrap_i64 (by omega) (by omega)
    simp [hcb, holF]
    refine call0 (Hmay_ok p hpo.2.2.2) (by simp [holC]) ?_
    rintro y H' ⟨rfl, rfl⟩
    refine ⟨.inl (by simp), le_ok rfl, ?_⟩
    cases hm : mayH p
    · simp [EV.lit]
      exact fin [] (by decide) rfl rfl rfl ⟨rfl, by rw [mayS_h (by rw [hi2, holL, hm]; simp)]⟩
    have ham := mayH_am hm
    have w4 : IntKind.i64.wrap (n + p.am) = n + p.am := wrap_i64 (by omega) (by omega)
    have hnx : ∀ (q : aft (prevH s.holds i) p.id = true), holL none s.holds = holL (prevH s.holds (i + 1)) (s.holds.drop (i + 1)) := by
      intro q
      rw [hi2, holL, hm, q]
      simp [prevH, hc]
    have hsum : n + p.am = s.h0 + s.h1 + sumP s.pays + sumH (s.holds.take (i + 1)) := by rw [take_s hc, sumH_snoc]; omega
    simp [EV.lit]
    refine alt (fun h0 => ?_) (fun h0 => ?_)
    · obtain ⟨q, hq⟩ : ∃ q, s.holds[i - 1]? = some q := ⟨s.holds[i - 1]'(by omega), by simp⟩
      have hqb := holv_get hq
      have hti : ((i : Int) - 1).toNat = i - 1 := by omega
      have hpv : prevH s.holds i = some q.id := by simp [prevH, hq, show i ≠ 0 by omega]
      have h1 : (1 : Int) ≤ (i : Int) := by omega
      simp [h0, w3, hqb, hti, holF, h1]
      refine alt (fun c1 => ?_) (fun c1 => ?_)
      · simp
        exact fin [] (by decide) rfl rfl rfl ⟨rfl, by rw [mayS_h (by rw [hi2, holL, hm, hpv]; simp [aft, decide_eq_false (show ¬ q.id < p.id by omega)])]⟩
      simp [w2, w4, -Int.natCast_add]
      exact round (i + 1, n + p.am) [0] ⟨by omega, hnx (by rw [hpv]; exact decide_eq_true (by omega)), hsum, by simp; omega, by simp; omega⟩ (by simp; omega) (by simp) (by simp) (by simp) (by simp) (by simp)
    · have hi0 : i = 0 := by omega
      subst hi0
      simp [w4, IntKind.wrap_i64]
      exact round (1, n + p.am) [0] ⟨by omega, hnx (by simp [prevH, aft]), hsum, by simp; omega, by simp; omega⟩ (by simp; omega) (by simp) (by simp) (by simp) (by simp) (by simp)
  have hil : i = s.holds.length := by omega
  subst hil
  have hhs : holL none s.holds = true := by rw [hi2]; simp [holL]
  rw [List.take_length] at hi3
  have hS : mayS s = decide (n ≤ 1125899906842624) := by
    simp only [mayS, hps, hhs, Bool.and_true]
    rw [decide_eq_true (show 0 ≤ s.num ∧ s.num ≤ 1099511627776 ∧ 0 ≤ s.h0 ∧ s.h0 ≤ 1125899906842624 ∧ 0 ≤ s.h1 ∧ s.h1 ≤ 1125899906842624 ∧ s.pays.length ≤ 8 ∧ s.holds.length + s.pays.length ≤ 8 by omega), Bool.true_and, hi3]
    rfl
  simp
  exact fin [] (by decide) rfl rfl rfl ⟨rfl, by rw [hS]⟩

end Go.Proofs.YtpohjnhlhfbnaaaGreatDoor

namespace Go.Proofs.YtpohjnhlhfbnaaaGreatDoor
open Go Go.EW
set_option linter.unusedSimpArgs false
set_option linter.unusedVariables false

@[simp] def l_Encode_1 (_ : Unit) : List EOp := [⟨0, (some 1), none, (.q (.box 33 (.t 0))), []⟩, ⟨1, (some 2), none, (.q (.mov (.k (.slice none 0 0)))), []⟩]
@[simp] def b_Encode_2 (_ : Unit) : EB := reg0 (hid l_Encode_1) 2
@[simp] def l_Encode_3 (_ : Unit) : List EOp := [⟨0, (some 9), none, (.call 36 []), []⟩, ⟨1, (some 3), none, (.q (.alloc 83 [(.pointer none)])), []⟩, ⟨2, none, none, (.sto 1 (.t 3) (.t 9)), []⟩]
@[simp] def b_Encode_4 (_ : Unit) : EB := reg0 (hid l_Encode_3) 3
@[simp] def l_Encode_5 (_ : Unit) : List EOp := [⟨0, (some 10), none, (.q (.mkf 37 [(.t 3)])), []⟩, ⟨1, (some 4), none, (.q (.mov (.t 10))), []⟩]
@[simp] def b_Encode_6 (_ : Unit) : EB := reg0 (hid l_Encode_5) 2
@[simp] def l_Encode_9 (_ : Unit) : List EOp := [⟨12, (some 23), none, (.q (.bsl 1 [(.int .i64 0)] 4 [(0, (.t 13)), (1, (.t 16)), (2, (.t 19)), (3, (.t 22))])), []⟩, ⟨13, (some 24), none, (.clo (.t 11) [(.t 23)]), []⟩]
@[simp] def l_Encode_8 (_ : Unit) : List EOp := ⟨6, (some 17), none, (.q (.fad 1 (.t 1))), []⟩ :: ⟨7, (some 18), none, (.q (.iad 2 1 (.t 17) (.k (.int .i64 1)))), []⟩ :: ⟨8, (some 19), none, (.q (.ldc (.t 18))), []⟩ :: ⟨9, (some 20), none, (.q (.fad 3 (.t 1))), []⟩ :: ⟨10, (some 21), none, (.q (.ldc (.t 20))), []⟩ :: ⟨11, (some 22), none, (.q (.len (.t 21))), []⟩ :: hid l_Encode_9
@[simp] def l_Encode_7 (_ : Unit) : List EOp := ⟨0, (some 11), none, (.q (.mov (.t 4))), []⟩ :: ⟨1, (some 12), none, (.q (.fad 0 (.t 1))), []⟩ :: ⟨2, (some 13), none, (.q (.ldc (.t 12))), []⟩ :: ⟨3, (some 14), none, (.q (.fad 1 (.t 1))), []⟩ :: ⟨4, (some 15), none, (.q (.iad 2 1 (.t 14) (.k (.int .i64 0)))), []⟩ :: ⟨5, (some 16), none, (.q (.ldc (.t 15))), []⟩ :: hid l_Encode_8
@[simp] def b_Encode_10 (_ : Unit) : EB := reg0 (hid l_Encode_7) 14
@[simp] def l_Encode_11 (_ : Unit) : List EOp := [⟨0, (some 25), none, (.q (.fad 3 (.t 1))), []⟩, ⟨1, (some 26), none, (.q (.ldc (.t 25))), []⟩, ⟨2, (some 27), none, (.q (.len (.t 26))), []⟩, ⟨3, (some 28), none, (.q (.mov (.k (.int .i64 0)))), []⟩]
@[simp] def b_Encode_12 (_ : Unit) : EB := reg0 (hid l_Encode_11) 4
@[simp] def l_Encode_13 (_ : Unit) : List EOp := [⟨0, (some 29), none, (.q (.bin .lss (.t 28) (.t 27))), []⟩]
@[simp] def b_Encode_14 (_ : Unit) : EB := reg0 (hid l_Encode_13) 1
@[simp] def b_Encode_15 (_ : Unit) : EB := .cond (.t 29) .skip (.exit 0)
@[simp] def l_Encode_16 (_ : Unit) : List EOp := [⟨0, (some 30), none, (.q (.isl 36 (.t 26) (.t 28))), []⟩, ⟨1, (some 31), none, (.q (.lda 36 (.t 30))), []⟩, ⟨2, (some 6), none, (.q (.alloc 65 (([(.int .i64 0), (.int .i64 0), (.int .i64 0), (.int .i64 0)] : List Value) ++ zU8))), []⟩, ⟨3, none, none, (.sto 36 (.t 6) (.t 31)), []⟩]
@[simp] def b_Encode_17 (_ : Unit) : EB := reg0 (hid l_Encode_16) 4
@[simp] def l_Encode_19 (_ : Unit) : List EOp := [⟨6, (some 38), none, (.q (.ldc (.t 37))), []⟩, ⟨7, (some 39), none, (.q (.fad 3 (.t 6))), []⟩, ⟨8, (some 40), none, (.q (.ldc (.t 39))), []⟩, ⟨9, (some 41), none, (.q (.bsl 1 [(.int .i64 0)] 4 [(0, (.t 34)), (1, (.t 36)), (2, (.t 38)), (3, (.t 40))])), []⟩, ⟨10, (some 42), none, (.clo (.t 32) [(.t 41)]), []⟩]
@[simp] def l_Encode_18 (_ : Unit) : List EOp := ⟨0, (some 32), none, (.q (.mov (.t 4))), []⟩ :: ⟨1, (some 33), none, (.q (.fad 0 (.t 6))), []⟩ :: ⟨2, (some 34), none, (.q (.ldc (.t 33))), []⟩ :: ⟨3, (some 35), none, (.q (.fad 1 (.t 6))), []⟩ :: ⟨4, (some 36), none, (.q (.ldc (.t 35))), []⟩ :: ⟨5, (some 37), none, (.q (.fad 2 (.t 6))), []⟩ :: hid l_Encode_19
@[simp] def b_Encode_20 (_ : Unit) : EB := reg0 (hid l_Encode_18) 11
@[simp] def l_Encode_21 (_ : Unit) : List EOp := [⟨0, (some 43), none, (.q (.ldc (.t 3))), []⟩, ⟨1, (some 44), none, (.q (.fad 4 (.t 6))), []⟩, ⟨2, (some 45), none, (.q (.lda 32 (.t 44))), []⟩, ⟨3, (some 46), none, (.call 39 [(.t 43), (.t 45)]), []⟩]
@[simp] def b_Encode_22 (_ : Unit) : EB := reg0 (hid l_Encode_21) 4
@[simp] def b_Encode_23 (_ : Unit) : EB := .seq (hid b_Encode_20) (hid b_Encode_22)
@[simp] def b_Encode_24 (_ : Unit) : EB := .seq (hid b_Encode_17) (hid b_Encode_23)
@[simp] def b_Encode_25 (_ : Unit) : EB := .block 1 (hid b_Encode_24)
@[simp] def l_Encode_26 (_ : Unit) : List EOp := [⟨0, (some 47), none, (.q (.bin .add (.t 28) (.k (.int .i64 1)))), []⟩, ⟨1, (some 28), none, (.q (.mov (.t 47))), []⟩]
@[simp] def b_Encode_27 (_ : Unit) : EB := reg0 (hid l_Encode_26) 2
@[simp] def b_Encode_28 (_ : Unit) : EB := .seq (hid b_Encode_25) (hid b_Encode_27)
@[simp] def b_Encode_29 (_ : Unit) : EB := .seq (hid b_Encode_15) (hid b_Encode_28)
@[simp] def b_Encode_30 (_ : Unit) : EB := .seq (hid b_Encode_14) (hid b_Encode_29)
@[simp] def b_Encode_31 (_ : Unit) : EB := .loop (hid b_Encode_30)
@[simp] def b_Encode_32 (_ : Unit) : EB := .block 0 (hid b_Encode_31)
@[simp] def b_Encode_33 (_ : Unit) : EB := .seq (hid b_Encode_12) (hid b_Encode_32)
@[simp] def l_Encode_34 (_ : Unit) : List EOp := [⟨0, (some 48), none, (.q (.mov (.t 4))), []⟩, ⟨1, (some 49), none, (.q (.fad 4 (.t 1))), []⟩, ⟨2, (some 50), none, (.q (.ldc (.t 49))), []⟩, ⟨3, (some 51), none, (.q (.len (.t 50))), []⟩, ⟨4, (some 52), none, (.q (.bsl 1 [(.int .i64 0)] 1 [(0, (.t 51))])), []⟩, ⟨5, (some 53), none, (.clo (.t 48) [(.t 52)]), []⟩]
@[simp] def b_Encode_35 (_ : Unit) : EB := reg0 (hid l_Encode_34) 6
@[simp] def l_Encode_36 (_ : Unit) : List EOp := [⟨0, (some 54), none, (.q (.fad 4 (.t 1))), []⟩, ⟨1, (some 55), none, (.q (.ldc (.t 54))), []⟩, ⟨2, (some 56), none, (.q (.len (.t 55))), []⟩, ⟨3, (some 57), none, (.q (.mov (.k (.int .i64 0)))), []⟩]
@[simp] def b_Encode_37 (_ : Unit) : EB := reg0 (hid l_Encode_36) 4
@[simp] def l_Encode_38 (_ : Unit) : List EOp := [⟨0, (some 58), none, (.q (.bin .lss (.t 57) (.t 56))), []⟩]
@[simp] def b_Encode_39 (_ : Unit) : EB := reg0 (hid l_Encode_38) 1
@[simp] def b_Encode_40 (_ : Unit) : EB := .cond (.t 58) .skip (.exit 2)
@[simp] def l_Encode_41 (_ : Unit) : List EOp := [⟨0, (some 59), none, (.q (.isl 3 (.t 55) (.t 57))), []⟩, ⟨1, (some 60), none, (.q (.lda 3 (.t 59))), []⟩, ⟨2, (some 8), none, (.q (.alloc 66 [(.int .i64 0), (.int .i64 0), (.slice none 0 0)])), []⟩, ⟨3, none, none, (.fz (.sto 3 (.t 8) (.t 60))), []⟩]
@[simp] def b_Encode_42 (_ : Unit) : EB := reg0 (hid l_Encode_41) 4
@[simp] def l_Encode_44 (_ : Unit) : List EOp := [⟨6, (some 67), none, (.q (.ldc (.t 66))), []⟩, ⟨7, (some 68), none, (.q (.len (.t 67))), []⟩, ⟨8, (some 69), none, (.q (.bsl 1 [(.int .i64 0)] 3 [(0, (.t 63)), (1, (.t 65)), (2, (.t 68))])), []⟩, ⟨9, (some 70), none, (.clo (.t 61) [(.t 69)]), []⟩]
@[simp] def l_Encode_43 (_ : Unit) : List EOp := ⟨0, (some 61), none, (.q (.mov (.t 4))), []⟩ :: ⟨1, (some 62), none, (.q (.fad 0 (.t 8))), []⟩ :: ⟨2, (some 63), none, (.q (.ldc (.t 62))), []⟩ :: ⟨3, (some 64), none, (.q (.fad 1 (.t 8))), []⟩ :: ⟨4, (some 65), none, (.q (.ldc (.t 64))), []⟩ :: ⟨5, (some 66), none, (.q (.fad 2 (.t 8))), []⟩ :: hid l_Encode_44
@[simp] def b_Encode_45 (_ : Unit) : EB := reg0 (hid l_Encode_43) 10
@[simp] def l_Encode_46 (_ : Unit) : List EOp := [⟨0, (some 71), none, (.q (.mov (.t 4))), []⟩, ⟨1, (some 72), none, (.q (.fad 2 (.t 8))), []⟩, ⟨2, (some 73), none, (.q (.ldc (.t 72))), []⟩, ⟨3, (some 74), none, (.clo (.t 71) [(.t 73)]), []⟩]
@[simp] def b_Encode_47 (_ : Unit) : EB := reg0 (hid l_Encode_46) 4
@[simp] def b_Encode_48 (_ : Unit) : EB := .seq (hid b_Encode_45) (hid b_Encode_47)
@[simp] def b_Encode_49 (_ : Unit) : EB := .seq (hid b_Encode_42) (hid b_Encode_48)
@[simp] def b_Encode_50 (_ : Unit) : EB := .block 3 (hid b_Encode_49)
@[simp] def l_Encode_51 (_ : Unit) : List EOp := [⟨0, (some 75), none, (.q (.bin .add (.t 57) (.k (.int .i64 1)))), []⟩, ⟨1, (some 57), none, (.q (.mov (.t 75))), []⟩]
@[simp] def b_Encode_52 (_ : Unit) : EB := reg0 (hid l_Encode_51) 2
@[simp] def b_Encode_53 (_ : Unit) : EB := .seq (hid b_Encode_50) (hid b_Encode_52)
@[simp] def b_Encode_54 (_ : Unit) : EB := .seq (hid b_Encode_40) (hid b_Encode_53)
@[simp] def b_Encode_55 (_ : Unit) : EB := .seq (hid b_Encode_39) (hid b_Encode_54)
@[simp] def b_Encode_56 (_ : Unit) : EB := .loop (hid b_Encode_55)
@[simp] def b_Encode_57 (_ : Unit) : EB := .block 2 (hid b_Encode_56)
@[simp] def b_Encode_58 (_ : Unit) : EB := .seq (hid b_Encode_37) (hid b_Encode_57)
@[simp] def l_Encode_59 (_ : Unit) : List EOp := [⟨0, (some 76), none, (.q (.ldc (.t 3))), []⟩, ⟨1, (some 77), none, (.call 40 [(.t 76)]), []⟩, ⟨2, (some 2), none, (.q (.mov (.t 77))), []⟩]
@[simp] def b_Encode_60 (_ : Unit) : EB := reg0 (hid l_Encode_59) 3
@[simp] def b_Encode_61 (_ : Unit) : EB := .seq (hid b_Encode_60) .ret
@[simp] def b_Encode_62 (_ : Unit) : EB := .seq (hid b_Encode_58) (hid b_Encode_61)
@[simp] def b_Encode_63 (_ : Unit) : EB := .seq (hid b_Encode_35) (hid b_Encode_62)
@[simp] def b_Encode_64 (_ : Unit) : EB := .seq (hid b_Encode_33) (hid b_Encode_63)
@[simp] def b_Encode_65 (_ : Unit) : EB := .seq (hid b_Encode_10) (hid b_Encode_64)
@[simp] def b_Encode_66 (_ : Unit) : EB := .seq (hid b_Encode_6) (hid b_Encode_65)
@[simp] def b_Encode_67 (_ : Unit) : EB := .seq (hid b_Encode_4) (hid b_Encode_66)
@[simp] def b_Encode_68 (_ : Unit) : EB := .seq (hid b_Encode_2) (hid b_Encode_67)
def c_Encode : EB × List QOp × Nat := ((hid b_Encode_68), [(.mov (.t 2))], 78)
theorem k_Encode : cfun Tryz.prog 14 = some c_Encode := by kernel_rfl

@[simp] def l_put_1 (_ : Unit) : List EOp := [⟨0, (some 5), none, (.q (.mov (.t 0))), []⟩, ⟨1, (some 6), none, (.q (.len (.t 5))), []⟩, ⟨2, (some 7), none, (.q (.mov (.k (.int .i64 0)))), []⟩]
@[simp] def b_put_2 (_ : Unit) : EB := reg0 (hid l_put_1) 3
@[simp] def l_put_3 (_ : Unit) : List EOp := [⟨0, (some 8), none, (.q (.bin .lss (.t 7) (.t 6))), []⟩]
@[simp] def b_put_4 (_ : Unit) : EB := reg0 (hid l_put_3) 1
@[simp] def b_put_5 (_ : Unit) : EB := .cond (.t 8) .skip (.exit 0)
@[simp] def l_put_6 (_ : Unit) : List EOp := [⟨0, (some 9), none, (.q (.isl 1 (.t 5) (.t 7))), []⟩, ⟨1, (some 10), none, (.q (.ldc (.t 9))), []⟩, ⟨2, (some 4), none, (.q (.mov (.t 10))), []⟩]
@[simp] def b_put_7 (_ : Unit) : EB := reg0 (hid l_put_6) 3
@[simp] def l_put_8 (_ : Unit) : List EOp := [⟨0, (some 11), none, (.q (.ldc (.t 1))), []⟩, ⟨1, (some 12), none, (.q (.mov (.t 4))), []⟩, ⟨2, (some 13), none, (.q (.cnv .u64 (.t 12))), []⟩, ⟨3, (some 14), none, (.call 38 [(.t 11), (.t 13)]), []⟩]
@[simp] def b_put_9 (_ : Unit) : EB := reg0 (hid l_put_8) 4
@[simp] def b_put_10 (_ : Unit) : EB := .seq (hid b_put_7) (hid b_put_9)
@[simp] def b_put_11 (_ : Unit) : EB := .block 1 (hid b_put_10)
@[simp] def l_put_12 (_ : Unit) : List EOp := [⟨0, (some 15), none, (.q (.bin .add (.t 7) (.k (.int .i64 1)))), []⟩, ⟨1, (some 7), none, (.q (.mov (.t 15))), []⟩]
@[simp] def b_put_13 (_ : Unit) : EB := reg0 (hid l_put_12) 2
@[simp] def b_put_14 (_ : Unit) : EB := .seq (hid b_put_11) (hid b_put_13)
@[simp] def b_put_15 (_ : Unit) : EB := .seq (hid b_put_5) (hid b_put_14)
@[simp] def b_put_16 (_ : Unit) : EB := .seq (hid b_put_4) (hid b_put_15)
@[simp] def b_put_17 (_ : Unit) : EB := .loop (hid b_put_16)
@[simp] def b_put_18 (_ : Unit) : EB := .block 0 (hid b_put_17)
@[simp] def b_put_19 (_ : Unit) : EB := .seq (hid b_put_2) (hid b_put_18)
def c_put : EB × List QOp × Nat := ((hid b_put_19), [], 16)
theorem k_put : cfun Tryz.prog 37 = some c_put := by kernel_rfl


def u64n (n : Int) : Nat := (n % 18446744073709551616).toNat
theorem u64n_lt (n : Int) : u64n n < 18446744073709551616 := by unfold u64n; omega
theorem wrap_u64n (n : Int) : IntKind.u64.wrap n = (u64n n : Int) := by
  simp [IntKind.wrap, IntKind.bits, IntKind.signed, u64n]
  omega
def uB (n : Int) : List UInt8 := uintB (u64n n)
def usB (l : List Int) : List UInt8 := l.flatMap uB
def payB (p : Pay) : List UInt8 := usB [p.id, p.fr, p.am, p.af] ++ p.lock
def holB (h : Hol) : List UInt8 := usB [h.id, h.am, (h.keys.length : Int)] ++ usB h.keys
def encS (s : Sta) : List UInt8 := usB [s.num, s.h0, s.h1, (s.pays.length : Int)] ++ s.pays.flatMap payB ++ usB [(s.holds.length : Int)] ++ s.holds.flatMap holB
theorem uB_len (n : Int) : (uB n).length ≤ 9 := by
  have := nb_8 (u64n_lt n)
  simp [uB, uintB, dg_len]; omega
theorem usB_len : ∀ (l : List Int), (usB l).length ≤ 9 * l.length
  | [] => by simp [usB]
  | n :: r => by
    have h1 := uB_len n
    have h2 := usB_len r
    have : usB (n :: r) = uB n ++ usB r := by simp [usB]
    rw [this, List.length_append, List.length_cons]
    omega
theorem usB_snoc (l : List Int) (n : Int) : usB (l ++ [n]) = usB l ++ uB n := by simp [usB]
def Sta.small (s : Sta) : Prop := s.pays.length ≤ 1000 ∧ s.holds.length ≤ 1000 ∧ ∀ h ∈ s.holds, h.keys.length ≤ 1000
theorem payB_len {p : Pay} (h : p.lock.length = 32) : (payB p).length ≤ 68 := by
  have := usB_len [p.id, p.fr, p.am, p.af]
  simp [payB] at *; omega
theorem holB_len {p : Hol} (h : p.keys.length ≤ 1000) : (holB p).length ≤ 9100 := by
  have h1 := usB_len [p.id, p.am, (p.keys.length : Int)]
  have h2 := usB_len p.keys
  simp [holB] at *; omega
theorem flat_len {α : Type} {f : α → List UInt8} {k : Nat} : ∀ {l : List α}, (∀ x ∈ l, (f x).length ≤ k) → (l.flatMap f).length ≤ k * l.length
  | [], _ => by simp
  | x :: r, h => by
    have h1 := h x (by simp)
    have h2 := flat_len (l := r) (fun y hy => h y (by simp [hy]))
    rw [List.flatMap_cons, List.length_append, List.length_cons, Nat.mul_succ]
    omega

/-- A variable that holds a writer. -/
def PO (r : Nat) : EO := .box 83 [.ptr r 0]
def PutV (o : Nat) : EV := .v (.c (.clo 37 [(o, 0)]))

set_option maxHeartbeats 1000000 in
theorem put_ok (bs : List UInt8) (l : List Int) (hl : l.length ≤ 10000000) (hb : bs.length + 9 * l.length ≤ 800000000) :
    ECalls Tryz.prog 37 [IL l, Ptr 0] [PO 1, WO 2 bs, RO bs] fun y H' => H' = [some (PO 1), some (WO 3 (bs ++ usB l)), none, some (RO (bs ++ usB l))] ∧ y = .tup [] := by
  refine ecalls k_put ?_
  simp [c_put, IL, Ptr]
  refine eloop (α := Nat) (fun i => i ≤ l.length) (fun i => l.length - i)
    (fun i => [.any, Ptr 0, .any, .any, .any, IL l, I .i64 l.length, I .i64 i, .any, .any, .any, .any, .any, .any, .any, .any]) (fun i => [some (PO 1), some (WO 3 (bs ++ usB (l.take i))), none, some (RO (bs ++ usB (l.take i)))]) 0 [0, 1, 2, 2]
    (Nat.zero_le _) (by simp [Ptr, I, IL]) (by simp [PO, WO, RO, usB]) (by simp) (by decide) (by simp) ?_
  intro i hi
  have hle := usB_len (l.take i)
  have hlt' : (l.take i).length = i := by simp; omega
  simp [Ptr, I, IL]
  refine alt (fun hlt => ?_) (fun hlt => ?_)
  · obtain ⟨k, hc⟩ : ∃ k, l[i]? = some k := ⟨l[i], by simp [hlt]⟩
    have hcb := intv_get hc
    have hts : l.take (i + 1) = l.take i ++ [k] := by rw [List.take_add_one, hc]; rfl
    have w1 : IntKind.i64.wrap ((i : Int) + 1) = ((i + 1 : Nat) : Int) := wrap_i64 (by omega) (by omega)
    simp [hcb, PO, wrap_u64n]
    refine callH [1, 3] (WUint_ok (bs ++ usB (l.take i)) (u64n k) (u64n_lt k) (by simp; omega)) (by simp [Ptr, I]) (by simp [WO, RO]) (by simp) (by simp [WO]) (by simp) ?_
    rintro y H' ⟨rfl, rfl⟩
    refine ⟨.inl (by simp), le_ok rfl, ?_⟩
    simp [w1, WO, RO, -Int.natCast_add]
    exact round (i + 1) [0, 1, 2, 116] (by omega) (by omega) (by simp) (by simp [hts, usB_snoc, uB, PO, WO, RO]) (by simp) (by decide) (by simp)
  · have hil : i = l.length := by omega
    subst hil
    simp
    exact fin [3] (by decide) rfl rfl rfl ⟨by simp [PO, WO, RO], rfl⟩

theorem put_body : bodyOK Tryz.prog 37 = true := by kernel_rfl
def pB (l : List Pay) : List UInt8 := l.flatMap payB
def hB (l : List Hol) : List UInt8 := l.flatMap holB
theorem pB_snoc (l : List Pay) (p : Pay) : pB (l ++ [p]) = pB l ++ payB p := by simp [pB]
theorem hB_snoc (l : List Hol) (p : Hol) : hB (l ++ [p]) = hB l ++ holB p := by simp [hB]
def headB (s : Sta) : List UInt8 := usB [s.num, s.h0, s.h1, (s.pays.length : Int)]
def midB (s : Sta) : List UInt8 := headB s ++ pB s.pays ++ usB [(s.holds.length : Int)]
theorem encS_eq (s : Sta) : encS s = midB s ++ hB s.holds := rfl

set_option maxHeartbeats 2000000 in
theorem Encode_ok (s : Sta) (hs : s.ok) (hm : s.small) : ECalls Tryz.prog 14 [SV s] [] fun y H' => H' = [] ∧ y = Bs (encS s) := by
  obtain ⟨ok1, ok2, ok3, ok4, ok5, ok6, ok7⟩ := id hs
  obtain ⟨m1, m2, m3⟩ := hm
  have lh : (headB s).length ≤ 36 := usB_len [s.num, s.h0, s.h1, (s.pays.length : Int)]
  have lp : ∀ i, (pB (s.pays.take i)).length ≤ 68000 := by
    intro i
    have h1 := flat_len (f := payB) (k := 68) (l := s.pays.take i) (fun p hp => payB_len (ok4 p (List.mem_of_mem_take hp)).2.2.2.2)
    have h2 : (s.pays.take i).length ≤ 1000 := by simp; omega
    unfold pB; omega
  have lq : (pB s.pays).length ≤ 68000 := by have := lp s.pays.length; rwa [List.take_length] at this
  have lm : (midB s).length ≤ 70000 := by
    have := usB_len [(s.holds.length : Int)]
    simp only [midB, List.length_append]
    simp only [List.length_cons, List.length_nil] at this
    omega
  have lk : ∀ i, (hB (s.holds.take i)).length ≤ 9100000 := by
    intro i
    have h1 := flat_len (f := holB) (k := 9100) (l := s.holds.take i) (fun p hp => holB_len (m3 p (List.mem_of_mem_take hp)))
    have h2 : (s.holds.take i).length ≤ 1000 := by simp; omega
    unfold hB; omega
  refine ecalls k_Encode ?_
  simp [c_Encode, SV, staC]
  refine call0 New_ok rfl ?_
  rintro y H' ⟨rfl, rfl⟩
  refine ⟨.inl rfl, le_ok rfl, ?_⟩
  simp [Ptr, WO, RO]
  refine ⟨put_body, ?_⟩
  refine callH [48, 32, 33] (put_ok [] [s.num, s.h0, s.h1, (s.pays.length : Int)] (by simp) (by simp)) (by simp [IL, intv, Ptr]) (by simp [PO, WO, RO]) (by simp) (by simp) (by simp) ?_
  rintro y H' ⟨rfl, rfl⟩
  refine ⟨.inl (by simp), le_ok rfl, ?_⟩
  simp [PO, WO, RO]
  refine eloop (α := Nat) (fun i => i ≤ s.pays.length) (fun i => s.pays.length - i)
    (fun i => [.any, Ptr 0, .any, Ptr 1, PutV 1, .any, .any, .any, .any, .any, .any, .any, .any, .any, .any, .any, .any, .any, .any, .any, .any, .any, .any, .any, .any, .any, PL s.pays, I .i64 s.pays.length, I .i64 i, .any, .any, .any, .any, .any, .any, .any, .any, .any, .any, .any, .any, .any, .any, .any, .any, .any, .any, .any, .any, .any, .any, .any, .any, .any, .any, .any, .any, .any, .any, .any, .any, .any, .any, .any, .any, .any, .any, .any, .any, .any, .any, .any, .any, .any, .any, .any, .any, .any]) (fun i => [some (.box 33 (staC s)), some (PO 2), some (WO 3 (headB s ++ pB (s.pays.take i))), some (RO (headB s ++ pB (s.pays.take i)))]) 0 [0, 48, 32, 320]
    (Nat.zero_le _) (by simp [Ptr, I, PL, PutV]) (by simp [PO, WO, RO, pB, headB, staC]) (by simp) (by simp) (by simp) ?_
  intro i hi
  have lpi := lp i
  simp [Ptr, I, PL, PutV, staC]
  refine alt (fun hlt => ?_) (fun hlt => ?_)
  · obtain ⟨p, hc⟩ : ∃ p, s.pays[i]? = some p := ⟨s.pays[i], by simp [hlt]⟩
    have hpo := ok4 p (List.mem_of_getElem? hc)
    have hl32 := hpo.2.2.2.2
    have ht : p.lock.take 32 = p.lock := List.take_of_length_le (by omega)
    have hcb := payv_get hc
    have w2 : IntKind.i64.wrap ((i : Int) + 1) = ((i + 1 : Nat) : Int) := wrap_i64 (by omega) (by omega)
    have l4 := usB_len [p.id, p.fr, p.am, p.af]
    simp only [List.length_cons, List.length_nil] at l4
    simp [hcb, payF, hl32, ht]
    refine ⟨put_body, ?_⟩
    refine callH [1, 2, 3] (put_ok (headB s ++ pB (s.pays.take i)) [p.id, p.fr, p.am, p.af] (by simp) (by simp; omega)) (by simp [IL, intv, Ptr]) (by simp [PO, WO, RO]) (by simp) (by simp [PO, WO]) (by simp) ?_
    rintro y H' ⟨rfl, rfl⟩
    refine ⟨.inl (by simp), le_ok rfl, ?_⟩
    simp [PO, WO, RO, hl32, ht]
    refine callH [2, 244] (WHash_ok (headB s ++ pB (s.pays.take i) ++ usB [p.id, p.fr, p.am, p.af]) p.lock (by simp; omega) hl32) (by simp [Ptr, Ag]) (by simp [WO, RO]) (by simp) (by simp) (by simp) ?_
    rintro y H' ⟨rfl, rfl⟩
    refine ⟨.inl (by simp), le_ok rfl, ?_⟩
    simp [w2, WO, RO, -Int.natCast_add]
    have hsn : pB (s.pays.take (i + 1)) = pB (s.pays.take i) ++ (usB [p.id, p.fr, p.am, p.af] ++ p.lock) := by rw [take_s hc, pB_snoc]; rfl
    exact round (i + 1) [0, 1, 2, 308] (by omega) (by omega) (by simp) (by simp [hsn, PO, WO, RO] <;> omega) (by simp) (by simp) (by simp)
  have hil : i = s.pays.length := by omega
  subst hil
  rw [List.take_length] at lpi ⊢
  simp
  refine ⟨put_body, ?_⟩
  have l1 := usB_len [(s.holds.length : Int)]
  simp only [List.length_cons, List.length_nil] at l1
  refine callH [1, 2, 3] (put_ok (headB s ++ pB s.pays) [(s.holds.length : Int)] (by simp) (by simp; omega)) (by simp [IL, intv, Ptr]) (by simp [PO, WO, RO]) (by simp) (by simp [PO, WO]) (by simp) ?_
  rintro y H' ⟨rfl, rfl⟩
  refine ⟨.inl (by simp), le_ok rfl, ?_⟩
  simp [PO, WO, RO]
  refine eloop (α := Nat) (fun i => i ≤ s.holds.length) (fun i => s.holds.length - i)
    (fun i => [.any, .any, .any, Ptr 0, PutV 0, .any, .any, .any, .any, .any, .any, .any, .any, .any, .any, .any, .any, .any, .any, .any, .any, .any, .any, .any, .any, .any, .any, .any, .any, .any, .any, .any, .any, .any, .any, .any, .any, .any, .any, .any, .any, .any, .any, .any, .any, .any, .any, .any, .any, .any, .any, .any, .any, .any, .any, HL s.holds, I .i64 s.holds.length, I .i64 i, .any, .any, .any, .any, .any, .any, .any, .any, .any, .any, .any, .any, .any, .any, .any, .any, .any, .any, .any, .any]) (fun i => [some (PO 1), some (WO 2 (midB s ++ hB (s.holds.take i))), some (RO (midB s ++ hB (s.holds.take i)))]) 0 [1, 2, 100]
    (Nat.zero_le _) (by simp [Ptr, I, HL, PutV]) (by simp [PO, WO, RO, hB, midB] <;> omega) (by simp) (by simp) (by simp) ?_
  intro i hi
  have lki := lk i
  simp [Ptr, I, HL, PutV]
  refine alt (fun hlt => ?_) (fun hlt => ?_)
  · obtain ⟨p, hc⟩ : ∃ p, s.holds[i]? = some p := ⟨s.holds[i], by simp [hlt]⟩
    have hk := m3 p (List.mem_of_getElem? hc)
    have hcb := holv_get hc
    have w2 : IntKind.i64.wrap ((i : Int) + 1) = ((i + 1 : Nat) : Int) := wrap_i64 (by omega) (by omega)
    have l3 := usB_len [p.id, p.am, (p.keys.length : Int)]
    have l5 := usB_len p.keys
    simp only [List.length_cons, List.length_nil] at l3
    simp [hcb, holF]
    refine ⟨put_body, ?_⟩
    refine callH [0, 1, 2] (put_ok (midB s ++ hB (s.holds.take i)) [p.id, p.am, (p.keys.length : Int)] (by simp) (by simp; omega)) (by simp [IL, intv, Ptr]) (by simp [PO, WO, RO]) (by simp) (by simp [PO, WO]) (by simp) ?_
    rintro y H' ⟨rfl, rfl⟩
    refine ⟨.inl (by simp), le_ok rfl, ?_⟩
    simp [PO, WO, RO]
    refine ⟨put_body, ?_⟩
    refine callH [0, 1, 227] (put_ok (midB s ++ hB (s.holds.take i) ++ usB [p.id, p.am, (p.keys.length : Int)]) p.keys (by omega) (by simp; omega)) (by simp [IL, Ptr]) (by simp [PO, WO, RO]) (by simp) (by simp [PO, WO]) (by simp) ?_
    rintro y H' ⟨rfl, rfl⟩
    refine ⟨.inl (by simp), le_ok rfl, ?_⟩
    simp [w2, PO, WO, RO, -Int.natCast_add]
    have hsn : hB (s.holds.take (i + 1)) = hB (s.holds.take i) ++ (usB [p.id, p.am, (p.keys.length : Int)] ++ usB p.keys) := by rw [take_s hc, hB_snoc]; rfl
    exact round (i + 1) [0, 1, 291] (by omega) (by omega) (by simp) (by simp [hsn, PO, WO, RO] <;> omega) (by simp) (by simp) (by simp)
  have hil : i = s.holds.length := by omega
  subst hil
  rw [List.take_length] at lki ⊢
  simp [PO, WO, RO]
  refine callH [1, 2] (WDone_ok (midB s ++ hB s.holds) (by simp; omega)) (by simp [Ptr]) (by simp [WO, RO]) (by simp) (by simp) (by simp) ?_
  rintro y H' ⟨rfl, rfl⟩
  refine ⟨.inl (by simp), le_ok rfl, ?_⟩
  simp [R, RO, WO]
  refine finW _ (weak_frz (o := 35) (ty := 5) (es := 1) (xs := bsv (midB s ++ hB s.holds)) rfl) ?_
  exact fin [] (by decide) rfl rfl rfl ⟨rfl, by simp [Bs, encS_eq, List.take_of_length_le]⟩

end Go.Proofs.YtpohjnhlhfbnaaaGreatDoor

namespace Go.Proofs.YtpohjnhlhfbnaaaGreatDoor
open Go Go.EW
set_option linter.unusedSimpArgs false

@[simp] def l_digits_1 (_ : Unit) : List EOp := [⟨0, (some 2), none, (.q (.mov (.k (.slice none 0 0)))), []⟩]
@[simp] def b_digits_2 (_ : Unit) : EB := reg0 (hid l_digits_1) 1
@[simp] def l_digits_3 (_ : Unit) : List EOp := [⟨0, (some 3), none, (.q (.mov (.k (.slice none 0 0)))), []⟩]
@[simp] def b_digits_4 (_ : Unit) : EB := reg0 (hid l_digits_3) 1
@[simp] def l_digits_5 (_ : Unit) : List EOp := [⟨0, (some 5), none, (.q (.mov (.t 0))), []⟩, ⟨1, (some 6), none, (.q (.bin .gtr (.t 5) (.k (.int .u64 0)))), []⟩]
@[simp] def b_digits_6 (_ : Unit) : EB := reg0 (hid l_digits_5) 2
@[simp] def b_digits_7 (_ : Unit) : EB := .cond (.t 6) .skip (.exit 0)
@[simp] def b_digits_8 (_ : Unit) : EB := .seq (hid b_digits_6) (hid b_digits_7)
@[simp] def l_digits_9 (_ : Unit) : List EOp := [⟨0, (some 4), none, (.q (.mov (.k (.slice none 0 0)))), []⟩]
@[simp] def b_digits_10 (_ : Unit) : EB := reg0 (hid l_digits_9) 1
@[simp] def l_digits_12 (_ : Unit) : List EOp := [⟨6, (some 13), none, (.q (.mov (.t 3))), []⟩, ⟨7, (some 14), none, (.app 5 1 1 (.t 12) (.t 13)), []⟩, ⟨8, (some 3), none, (.q (.mov (.t 14))), []⟩]
@[simp] def l_digits_11 (_ : Unit) : List EOp := ⟨0, (some 7), none, (.q (.mov (.t 4))), []⟩ :: ⟨1, (some 8), none, (.q (.mov (.t 0))), []⟩ :: ⟨2, (some 9), none, (.q (.bin .rem (.t 8) (.k (.int .u64 256)))), []⟩ :: ⟨3, (some 10), none, (.q (.cnv .u8 (.t 9))), []⟩ :: ⟨4, (some 11), none, (.q (.bsl 1 [(.int .u8 0)] 1 [(0, (.t 10))])), []⟩ :: ⟨5, (some 12), none, (.app 5 1 1 (.t 7) (.t 11)), []⟩ :: hid l_digits_12
@[simp] def b_digits_13 (_ : Unit) : EB := reg0 (hid l_digits_11) 9
@[simp] def l_digits_14 (_ : Unit) : List EOp := [⟨0, (some 15), none, (.q (.mov (.t 0))), []⟩, ⟨1, (some 16), none, (.q (.bin .quo (.t 15) (.k (.int .u64 256)))), []⟩, ⟨2, (some 0), none, (.q (.mov (.t 16))), []⟩]
@[simp] def b_digits_15 (_ : Unit) : EB := reg0 (hid l_digits_14) 3
@[simp] def b_digits_16 (_ : Unit) : EB := .seq (hid b_digits_13) (hid b_digits_15)
@[simp] def b_digits_17 (_ : Unit) : EB := .seq (hid b_digits_10) (hid b_digits_16)
@[simp] def b_digits_18 (_ : Unit) : EB := .block 1 (hid b_digits_17)
@[simp] def b_digits_19 (_ : Unit) : EB := .seq (hid b_digits_8) (hid b_digits_18)
@[simp] def b_digits_20 (_ : Unit) : EB := .loop (hid b_digits_19)
@[simp] def b_digits_21 (_ : Unit) : EB := .block 0 (hid b_digits_20)
@[simp] def l_digits_22 (_ : Unit) : List EOp := [⟨0, (some 17), none, (.q (.mov (.t 3))), []⟩, ⟨1, (some 2), none, (.q (.mov (.t 17))), []⟩]
@[simp] def b_digits_23 (_ : Unit) : EB := reg0 (hid l_digits_22) 2
@[simp] def b_digits_24 (_ : Unit) : EB := .seq (hid b_digits_23) .ret
@[simp] def b_digits_25 (_ : Unit) : EB := .seq (hid b_digits_21) (hid b_digits_24)
@[simp] def b_digits_26 (_ : Unit) : EB := .seq (hid b_digits_4) (hid b_digits_25)
@[simp] def b_digits_27 (_ : Unit) : EB := .seq (hid b_digits_2) (hid b_digits_26)
def c_digits : EB × List QOp × Nat := ((hid b_digits_27), [(.mov (.t 2))], 18)
theorem k_digits : cfun Tryz.prog 63 = some c_digits := by kernel_rfl

@[simp] def l_own_1 (_ : Unit) : List EOp := [⟨0, (some 2), none, (.q (.mov (.k (.slice none 0 0)))), []⟩]
@[simp] def b_own_2 (_ : Unit) : EB := reg0 (hid l_own_1) 1
@[simp] def l_own_3 (_ : Unit) : List EOp := [⟨0, (some 3), none, (.q (.mov (.k (.slice none 0 0)))), []⟩]
@[simp] def b_own_4 (_ : Unit) : EB := reg0 (hid l_own_3) 1
@[simp] def l_own_5 (_ : Unit) : List EOp := [⟨0, (some 4), none, (.q (.mov (.t 3))), []⟩, ⟨1, (some 5), none, (.q (.mov (.t 0))), []⟩, ⟨2, (some 6), none, (.app 5 1 1 (.t 4) (.t 5)), []⟩, ⟨3, (some 2), none, (.q (.mov (.t 6))), []⟩]
@[simp] def b_own_6 (_ : Unit) : EB := reg0 (hid l_own_5) 4
@[simp] def b_own_7 (_ : Unit) : EB := .seq (hid b_own_6) .ret
@[simp] def b_own_8 (_ : Unit) : EB := .seq (hid b_own_4) (hid b_own_7)
@[simp] def b_own_9 (_ : Unit) : EB := .seq (hid b_own_2) (hid b_own_8)
def c_own : EB × List QOp × Nat := ((hid b_own_9), [(.mov (.t 2))], 7)
theorem k_own : cfun Tryz.prog 64 = some c_own := by kernel_rfl

@[simp] def l_RUint_1 (_ : Unit) : List EOp := [⟨0, (some 4), none, (.q (.mov (.k (.slice none 0 0)))), []⟩]
@[simp] def b_RUint_2 (_ : Unit) : EB := reg0 (hid l_RUint_1) 1
@[simp] def l_RUint_3 (_ : Unit) : List EOp := [⟨0, (some 6), none, (.q (.mov (.t 1))), []⟩, ⟨1, (some 7), none, (.call 63 [(.t 6)]), []⟩, ⟨2, (some 5), none, (.q (.mov (.t 7))), []⟩]
@[simp] def b_RUint_4 (_ : Unit) : EB := reg0 (hid l_RUint_3) 3
@[simp] def l_RUint_6 (_ : Unit) : List EOp := [⟨6, (some 14), none, (.app 5 1 1 (.t 9) (.t 13)), []⟩, ⟨7, (some 15), none, (.q (.mov (.t 5))), []⟩, ⟨8, (some 16), none, (.app 5 1 1 (.t 14) (.t 15)), []⟩, ⟨9, (some 4), none, (.q (.mov (.t 16))), []⟩]
@[simp] def l_RUint_5 (_ : Unit) : List EOp := ⟨0, (some 8), none, (.q (.mov (.t 0))), []⟩ :: ⟨1, (some 9), none, (.call 64 [(.t 8)]), []⟩ :: ⟨2, (some 10), none, (.q (.mov (.t 5))), []⟩ :: ⟨3, (some 11), none, (.q (.len (.t 10))), []⟩ :: ⟨4, (some 12), none, (.q (.cnv .u8 (.t 11))), []⟩ :: ⟨5, (some 13), none, (.q (.bsl 1 [(.int .u8 0)] 1 [(0, (.t 12))])), []⟩ :: hid l_RUint_6
@[simp] def b_RUint_7 (_ : Unit) : EB := reg0 (hid l_RUint_5) 10
@[simp] def b_RUint_8 (_ : Unit) : EB := .seq (hid b_RUint_7) .ret
@[simp] def b_RUint_9 (_ : Unit) : EB := .seq (hid b_RUint_4) (hid b_RUint_8)
@[simp] def b_RUint_10 (_ : Unit) : EB := .seq (hid b_RUint_2) (hid b_RUint_9)
def c_RUint : EB × List QOp × Nat := ((hid b_RUint_10), [(.mov (.t 4))], 17)
theorem k_RUint : cfun Tryz.prog 41 = some c_RUint := by kernel_rfl

@[simp] def l_RHash_1 (_ : Unit) : List EOp := [⟨0, (some 3), none, (.q (.box 48 (.t 1))), []⟩, ⟨1, (some 4), none, (.q (.mov (.k (.slice none 0 0)))), []⟩]
@[simp] def b_RHash_2 (_ : Unit) : EB := reg0 (hid l_RHash_1) 2
@[simp] def l_RHash_3 (_ : Unit) : List EOp := [⟨0, (some 5), none, (.q (.mov (.t 0))), []⟩, ⟨2, (some 7), none, (.q (.sar 32 (.t 3) none none)), []⟩, ⟨1, (some 6), none, (.call 64 [(.t 5)]), [2]⟩, ⟨3, (some 8), none, (.app 5 1 1 (.t 6) (.t 7)), []⟩, ⟨4, (some 4), none, (.q (.mov (.t 8))), []⟩]
@[simp] def b_RHash_4 (_ : Unit) : EB := reg1 (hid l_RHash_3) 5
@[simp] def b_RHash_5 (_ : Unit) : EB := .seq (hid b_RHash_4) .ret
@[simp] def b_RHash_6 (_ : Unit) : EB := .seq (hid b_RHash_2) (hid b_RHash_5)
def c_RHash : EB × List QOp × Nat := ((hid b_RHash_6), [(.mov (.t 4))], 9)
theorem k_RHash : cfun Tryz.prog 42 = some c_RHash := by kernel_rfl


theorem digits_ok (n : Nat) (h : n < 18446744073709551616) : ECalls Tryz.prog 63 [I .u64 n] [] fun y H' => H' = [some (RO (dg n))] ∧ y = R 0 (dg n) := by
  refine ecalls k_digits ?_
  simp [c_digits, I]
  refine loopW _ (weak_nilR 3 5 1 rfl (by omega)) ?_
  refine eloop (α := Nat × List UInt8) (fun a => a.1 < 18446744073709551616 ∧ a.2.length ≤ 8 ∧ dg a.1 ++ a.2 = dg n) (fun a => a.1)
    (fun a => [I .u64 a.1, .any, .any, R 0 a.2, .any, .any, .any, .any, .any, .any, .any, .any, .any, .any, .any, .any, .any, .any]) (fun a => [some (RO a.2)]) (n, []) [32] ⟨h, by simp, by simp⟩ (by simp [R, I]) (by simp [RO]) (by simp) (by simp) (by simp) ?_
  rintro ⟨k, ds⟩ ⟨hk, hdl, hds⟩
  simp [I, R, RO] at hk hdl hds ⊢
  refine alt (fun hp => ?_) (fun hp => ?_)
  · have h8 := nb_8 h
    have hst := dg_step (n := k) (by omega)
    have hl := congrArg List.length hds
    rw [hst] at hds hl
    simp [dg_len] at hl
    have w1 : IntKind.u8.wrap ((k : Int).tmod 256) = ((b8 k).toNat : Int) := by
      rw [Int.tmod_eq_emod_of_nonneg (by omega), IntKind.wrap_u8, b8_nat]; omega
    have w2 : IntKind.u64.wrap ((k : Int) / 256) = ((k / 256 : Nat) : Int) := by
      rw [wrap_u64 (by omega) (by omega)]; rfl
    simp [w1, w2, -Int.natCast_ediv]
    exact ⟨by omega, round (k / 256, b8 k :: ds) [161] ⟨by simp; omega, by simp; omega, by simpa using hds⟩ (by simp; omega) (by simp; omega) (by simp [bsv, cb]) (by simp) (by simp) (by simp)⟩
  · have : k = 0 := by omega
    subst this
    simp [dg_zero] at hds
    subst hds
    simp
    exact fin [0] (by decide) rfl rfl rfl ⟨rfl, rfl⟩

theorem own_ok (b : List UInt8) (hb : b.length ≤ 1000000000) : ECalls Tryz.prog 64 [Bs b] [] fun y H' => H' = [some (RO b)] ∧ y = R 0 b := by
  refine ecalls k_own ?_
  simp [c_own, Bs]
  exact ⟨by omega, fin [64] (by decide) rfl rfl rfl ⟨rfl, rfl⟩⟩

theorem RUint_ok (b : List UInt8) (n : Nat) (h : n < 18446744073709551616) (hb : b.length ≤ 900000000) : ECalls Tryz.prog 41 [Bs b, I .u64 n] [] fun y H' => H' = [some (RO (b ++ uintB n))] ∧ y = R 0 (b ++ uintB n) := by
  have h8 := nb_8 h
  refine ecalls k_RUint ?_
  simp [c_RUint, I, Bs]
  refine call0 (digits_ok n h) rfl ?_
  rintro y H' ⟨rfl, rfl⟩
  refine ⟨.inl rfl, le_ok rfl, ?_⟩
  simp [R, RO]
  refine call0 (own_ok b (by omega)) rfl ?_
  rintro y H' ⟨rfl, rfl⟩
  refine ⟨.inl rfl, le_ok rfl, ?_⟩
  simp [R, RO]
  exact ⟨by omega, by simp [dg_len]; omega, fin [192] (by decide) rfl rfl rfl ⟨by simp [uintB, dg_len, wrap_u8_nat, bsv, cb], by simp [uintB]; omega⟩⟩

theorem RHash_ok (b h : List UInt8) (hb : b.length ≤ 900000000) (hl : h.length = 32) : ECalls Tryz.prog 42 [Bs b, Ag h] [] fun y H' => H' = [some (RO (b ++ h))] ∧ y = R 0 (b ++ h) := by
  refine ecalls k_RHash ?_
  have ht : h.take 32 = h := List.take_of_length_le (by omega)
  simp [c_RHash, Bs, Ag, ht]
  refine call0 (own_ok b (by omega)) rfl ?_
  rintro y H' ⟨rfl, rfl⟩
  refine ⟨.inl rfl, le_ok rfl, ?_⟩
  simp [R, RO, ht]
  exact ⟨by omega, by omega, fin [80] (by decide) rfl rfl rfl ⟨by simp, by simp⟩⟩

end Go.Proofs.YtpohjnhlhfbnaaaGreatDoor

namespace Go.Proofs.YtpohjnhlhfbnaaaGreatDoor
open Go Go.EW
set_option linter.unusedSimpArgs false
set_option linter.unusedVariables false

@[simp] def l_REncode_1 (_ : Unit) : List EOp := [⟨0, (some 1), none, (.q (.box 26 (.t 0))), []⟩, ⟨1, (some 2), none, (.q (.mov (.k (.slice none 0 0)))), []⟩]
@[simp] def b_REncode_2 (_ : Unit) : EB := reg0 (hid l_REncode_1) 2
@[simp] def l_REncode_5 (_ : Unit) : List EOp := [⟨8, (some 17), none, (.call 41 [(.t 12), (.t 16)]), [9, 10, 11, 12]⟩, ⟨13, (some 22), none, (.call 41 [(.t 17), (.t 21)]), []⟩, ⟨14, (some 3), none, (.q (.mov (.t 22))), []⟩]
@[simp] def l_REncode_4 (_ : Unit) : List EOp := ⟨7, (some 16), none, (.q (.cnv .u64 (.t 15))), []⟩ :: ⟨9, (some 18), none, (.q (.fad 1 (.t 1))), []⟩ :: ⟨10, (some 19), none, (.q (.iad 2 1 (.t 18) (.k (.int .i64 1)))), []⟩ :: ⟨11, (some 20), none, (.q (.ldc (.t 19))), []⟩ :: ⟨12, (some 21), none, (.q (.cnv .u64 (.t 20))), []⟩ :: ⟨3, (some 12), none, (.call 41 [(.k (.slice none 0 0)), (.t 11)]), [4, 5, 6, 7, 9, 10, 11, 12]⟩ :: hid l_REncode_5
@[simp] def l_REncode_3 (_ : Unit) : List EOp := ⟨0, (some 9), none, (.q (.fad 0 (.t 1))), []⟩ :: ⟨1, (some 10), none, (.q (.ldc (.t 9))), []⟩ :: ⟨2, (some 11), none, (.q (.cnv .u64 (.t 10))), []⟩ :: ⟨4, (some 13), none, (.q (.fad 1 (.t 1))), []⟩ :: ⟨5, (some 14), none, (.q (.iad 2 1 (.t 13) (.k (.int .i64 0)))), []⟩ :: ⟨6, (some 15), none, (.q (.ldc (.t 14))), []⟩ :: hid l_REncode_4
@[simp] def b_REncode_6 (_ : Unit) : EB := reg1 (hid l_REncode_3) 15
@[simp] def l_REncode_8 (_ : Unit) : List EOp := [⟨6, (some 3), none, (.q (.mov (.t 28))), []⟩]
@[simp] def l_REncode_7 (_ : Unit) : List EOp := ⟨0, (some 23), none, (.q (.mov (.t 3))), []⟩ :: ⟨1, (some 24), none, (.q (.fad 3 (.t 1))), []⟩ :: ⟨2, (some 25), none, (.q (.ldc (.t 24))), []⟩ :: ⟨3, (some 26), none, (.q (.len (.t 25))), []⟩ :: ⟨4, (some 27), none, (.q (.cnv .u64 (.t 26))), []⟩ :: ⟨5, (some 28), none, (.call 41 [(.t 23), (.t 27)]), []⟩ :: hid l_REncode_8
@[simp] def b_REncode_9 (_ : Unit) : EB := reg0 (hid l_REncode_7) 7
@[simp] def l_REncode_10 (_ : Unit) : List EOp := [⟨0, (some 4), none, (.q (.mov (.k (.int .i64 0)))), []⟩]
@[simp] def b_REncode_11 (_ : Unit) : EB := reg0 (hid l_REncode_10) 1
@[simp] def l_REncode_12 (_ : Unit) : List EOp := [⟨0, (some 29), none, (.q (.mov (.t 4))), []⟩, ⟨1, (some 30), none, (.q (.fad 3 (.t 1))), []⟩, ⟨2, (some 31), none, (.q (.ldc (.t 30))), []⟩, ⟨3, (some 32), none, (.q (.len (.t 31))), []⟩, ⟨4, (some 33), none, (.q (.bin .lss (.t 29) (.t 32))), []⟩]
@[simp] def b_REncode_13 (_ : Unit) : EB := reg0 (hid l_REncode_12) 5
@[simp] def b_REncode_14 (_ : Unit) : EB := .cond (.t 33) .skip (.exit 0)
@[simp] def b_REncode_15 (_ : Unit) : EB := .seq (hid b_REncode_13) (hid b_REncode_14)
@[simp] def l_REncode_17 (_ : Unit) : List EOp := [⟨6, none, none, (.sto 36 (.t 5) (.t 40)), []⟩]
@[simp] def l_REncode_16 (_ : Unit) : List EOp := ⟨0, (some 36), none, (.q (.fad 3 (.t 1))), []⟩ :: ⟨1, (some 37), none, (.q (.ldc (.t 36))), []⟩ :: ⟨2, (some 38), none, (.q (.mov (.t 4))), []⟩ :: ⟨3, (some 39), none, (.q (.isl 36 (.t 37) (.t 38))), []⟩ :: ⟨4, (some 40), none, (.q (.lda 36 (.t 39))), []⟩ :: ⟨5, (some 5), none, (.q (.alloc 74 (([(.int .i64 0), (.int .i64 0), (.int .i64 0), (.int .i64 0)] : List Value) ++ zU8))), []⟩ :: hid l_REncode_17
@[simp] def b_REncode_18 (_ : Unit) : EB := reg0 (hid l_REncode_16) 7
@[simp] def l_REncode_21 (_ : Unit) : List EOp := [⟨15, (some 56), none, (.q (.cnv .u64 (.t 55))), []⟩, ⟨4, (some 45), none, (.call 41 [(.t 41), (.t 44)]), [5, 6, 7, 9, 10, 11, 13, 14, 15]⟩, ⟨8, (some 49), none, (.call 41 [(.t 45), (.t 48)]), [9, 10, 11, 13, 14, 15]⟩, ⟨12, (some 53), none, (.call 41 [(.t 49), (.t 52)]), [13, 14, 15]⟩, ⟨16, (some 57), none, (.call 41 [(.t 53), (.t 56)]), []⟩, ⟨17, (some 3), none, (.q (.mov (.t 57))), []⟩]
@[simp] def l_REncode_20 (_ : Unit) : List EOp := ⟨7, (some 48), none, (.q (.cnv .u64 (.t 47))), []⟩ :: ⟨9, (some 50), none, (.q (.fad 2 (.t 5))), []⟩ :: ⟨10, (some 51), none, (.q (.ldc (.t 50))), []⟩ :: ⟨11, (some 52), none, (.q (.cnv .u64 (.t 51))), []⟩ :: ⟨13, (some 54), none, (.q (.fad 3 (.t 5))), []⟩ :: ⟨14, (some 55), none, (.q (.ldc (.t 54))), []⟩ :: hid l_REncode_21
@[simp] def l_REncode_19 (_ : Unit) : List EOp := ⟨0, (some 41), none, (.q (.mov (.t 3))), []⟩ :: ⟨1, (some 42), none, (.q (.fad 0 (.t 5))), []⟩ :: ⟨2, (some 43), none, (.q (.ldc (.t 42))), []⟩ :: ⟨3, (some 44), none, (.q (.cnv .u64 (.t 43))), []⟩ :: ⟨5, (some 46), none, (.q (.fad 1 (.t 5))), []⟩ :: ⟨6, (some 47), none, (.q (.ldc (.t 46))), []⟩ :: hid l_REncode_20
@[simp] def b_REncode_22 (_ : Unit) : EB := reg1 (hid l_REncode_19) 18
@[simp] def l_REncode_23 (_ : Unit) : List EOp := [⟨0, (some 58), none, (.q (.mov (.t 3))), []⟩, ⟨1, (some 59), none, (.q (.fad 4 (.t 5))), []⟩, ⟨2, (some 60), none, (.q (.lda 32 (.t 59))), []⟩, ⟨3, (some 61), none, (.call 42 [(.t 58), (.t 60)]), []⟩, ⟨4, (some 3), none, (.q (.mov (.t 61))), []⟩]
@[simp] def b_REncode_24 (_ : Unit) : EB := reg0 (hid l_REncode_23) 5
@[simp] def b_REncode_25 (_ : Unit) : EB := .seq (hid b_REncode_22) (hid b_REncode_24)
@[simp] def b_REncode_26 (_ : Unit) : EB := .seq (hid b_REncode_18) (hid b_REncode_25)
@[simp] def b_REncode_27 (_ : Unit) : EB := .block 1 (hid b_REncode_26)
@[simp] def l_REncode_28 (_ : Unit) : List EOp := [⟨0, (some 34), none, (.q (.mov (.t 4))), []⟩, ⟨1, (some 35), none, (.q (.bin .add (.t 34) (.k (.int .i64 1)))), []⟩, ⟨2, (some 4), none, (.q (.mov (.t 35))), []⟩]
@[simp] def b_REncode_29 (_ : Unit) : EB := reg0 (hid l_REncode_28) 3
@[simp] def b_REncode_30 (_ : Unit) : EB := .seq (hid b_REncode_27) (hid b_REncode_29)
@[simp] def b_REncode_31 (_ : Unit) : EB := .seq (hid b_REncode_15) (hid b_REncode_30)
@[simp] def b_REncode_32 (_ : Unit) : EB := .loop (hid b_REncode_31)
@[simp] def b_REncode_33 (_ : Unit) : EB := .block 0 (hid b_REncode_32)
@[simp] def b_REncode_34 (_ : Unit) : EB := .seq (hid b_REncode_11) (hid b_REncode_33)
@[simp] def l_REncode_36 (_ : Unit) : List EOp := [⟨6, (some 3), none, (.q (.mov (.t 67))), []⟩]
@[simp] def l_REncode_35 (_ : Unit) : List EOp := ⟨0, (some 62), none, (.q (.mov (.t 3))), []⟩ :: ⟨1, (some 63), none, (.q (.fad 4 (.t 1))), []⟩ :: ⟨2, (some 64), none, (.q (.ldc (.t 63))), []⟩ :: ⟨3, (some 65), none, (.q (.len (.t 64))), []⟩ :: ⟨4, (some 66), none, (.q (.cnv .u64 (.t 65))), []⟩ :: ⟨5, (some 67), none, (.call 41 [(.t 62), (.t 66)]), []⟩ :: hid l_REncode_36
@[simp] def b_REncode_37 (_ : Unit) : EB := reg0 (hid l_REncode_35) 7
@[simp] def l_REncode_38 (_ : Unit) : List EOp := [⟨0, (some 6), none, (.q (.mov (.k (.int .i64 0)))), []⟩]
@[simp] def b_REncode_39 (_ : Unit) : EB := reg0 (hid l_REncode_38) 1
@[simp] def l_REncode_40 (_ : Unit) : List EOp := [⟨0, (some 68), none, (.q (.mov (.t 6))), []⟩, ⟨1, (some 69), none, (.q (.fad 4 (.t 1))), []⟩, ⟨2, (some 70), none, (.q (.ldc (.t 69))), []⟩, ⟨3, (some 71), none, (.q (.len (.t 70))), []⟩, ⟨4, (some 72), none, (.q (.bin .lss (.t 68) (.t 71))), []⟩]
@[simp] def b_REncode_41 (_ : Unit) : EB := reg0 (hid l_REncode_40) 5
@[simp] def b_REncode_42 (_ : Unit) : EB := .cond (.t 72) .skip (.exit 2)
@[simp] def b_REncode_43 (_ : Unit) : EB := .seq (hid b_REncode_41) (hid b_REncode_42)
@[simp] def l_REncode_45 (_ : Unit) : List EOp := [⟨6, none, none, (.fz (.sto 3 (.t 7) (.t 79))), []⟩]
@[simp] def l_REncode_44 (_ : Unit) : List EOp := ⟨0, (some 75), none, (.q (.fad 4 (.t 1))), []⟩ :: ⟨1, (some 76), none, (.q (.ldc (.t 75))), []⟩ :: ⟨2, (some 77), none, (.q (.mov (.t 6))), []⟩ :: ⟨3, (some 78), none, (.q (.isl 3 (.t 76) (.t 77))), []⟩ :: ⟨4, (some 79), none, (.q (.lda 3 (.t 78))), []⟩ :: ⟨5, (some 7), none, (.q (.alloc 55 [(.int .i64 0), (.int .i64 0), (.slice none 0 0)])), []⟩ :: hid l_REncode_45
@[simp] def b_REncode_46 (_ : Unit) : EB := reg0 (hid l_REncode_44) 7
@[simp] def l_REncode_49 (_ : Unit) : List EOp := [⟨8, (some 88), none, (.call 41 [(.t 84), (.t 87)]), [9, 10, 11, 12]⟩, ⟨13, (some 93), none, (.call 41 [(.t 88), (.t 92)]), []⟩, ⟨14, (some 3), none, (.q (.mov (.t 93))), []⟩]
@[simp] def l_REncode_48 (_ : Unit) : List EOp := ⟨7, (some 87), none, (.q (.cnv .u64 (.t 86))), []⟩ :: ⟨9, (some 89), none, (.q (.fad 2 (.t 7))), []⟩ :: ⟨10, (some 90), none, (.q (.ldc (.t 89))), []⟩ :: ⟨11, (some 91), none, (.q (.len (.t 90))), []⟩ :: ⟨12, (some 92), none, (.q (.cnv .u64 (.t 91))), []⟩ :: ⟨4, (some 84), none, (.call 41 [(.t 80), (.t 83)]), [5, 6, 7, 9, 10, 11, 12]⟩ :: hid l_REncode_49
@[simp] def l_REncode_47 (_ : Unit) : List EOp := ⟨0, (some 80), none, (.q (.mov (.t 3))), []⟩ :: ⟨1, (some 81), none, (.q (.fad 0 (.t 7))), []⟩ :: ⟨2, (some 82), none, (.q (.ldc (.t 81))), []⟩ :: ⟨3, (some 83), none, (.q (.cnv .u64 (.t 82))), []⟩ :: ⟨5, (some 85), none, (.q (.fad 1 (.t 7))), []⟩ :: ⟨6, (some 86), none, (.q (.ldc (.t 85))), []⟩ :: hid l_REncode_48
@[simp] def b_REncode_50 (_ : Unit) : EB := reg1 (hid l_REncode_47) 15
@[simp] def l_REncode_51 (_ : Unit) : List EOp := [⟨0, (some 8), none, (.q (.mov (.k (.int .i64 0)))), []⟩]
@[simp] def b_REncode_52 (_ : Unit) : EB := reg0 (hid l_REncode_51) 1
@[simp] def l_REncode_53 (_ : Unit) : List EOp := [⟨0, (some 94), none, (.q (.mov (.t 8))), []⟩, ⟨1, (some 95), none, (.q (.fad 2 (.t 7))), []⟩, ⟨2, (some 96), none, (.q (.ldc (.t 95))), []⟩, ⟨3, (some 97), none, (.q (.len (.t 96))), []⟩, ⟨4, (some 98), none, (.q (.bin .lss (.t 94) (.t 97))), []⟩]
@[simp] def b_REncode_54 (_ : Unit) : EB := reg0 (hid l_REncode_53) 5
@[simp] def b_REncode_55 (_ : Unit) : EB := .cond (.t 98) .skip (.exit 4)
@[simp] def b_REncode_56 (_ : Unit) : EB := .seq (hid b_REncode_54) (hid b_REncode_55)
@[simp] def l_REncode_58 (_ : Unit) : List EOp := [⟨6, (some 107), none, (.q (.cnv .u64 (.t 106))), []⟩, ⟨7, (some 108), none, (.call 41 [(.t 101), (.t 107)]), []⟩, ⟨8, (some 3), none, (.q (.mov (.t 108))), []⟩]
@[simp] def l_REncode_57 (_ : Unit) : List EOp := ⟨0, (some 101), none, (.q (.mov (.t 3))), []⟩ :: ⟨1, (some 102), none, (.q (.fad 2 (.t 7))), []⟩ :: ⟨2, (some 103), none, (.q (.ldc (.t 102))), []⟩ :: ⟨3, (some 104), none, (.q (.mov (.t 8))), []⟩ :: ⟨4, (some 105), none, (.q (.isl 1 (.t 103) (.t 104))), []⟩ :: ⟨5, (some 106), none, (.q (.ldc (.t 105))), []⟩ :: hid l_REncode_58
@[simp] def b_REncode_59 (_ : Unit) : EB := reg0 (hid l_REncode_57) 9
@[simp] def b_REncode_60 (_ : Unit) : EB := .block 5 (hid b_REncode_59)
@[simp] def l_REncode_61 (_ : Unit) : List EOp := [⟨0, (some 99), none, (.q (.mov (.t 8))), []⟩, ⟨1, (some 100), none, (.q (.bin .add (.t 99) (.k (.int .i64 1)))), []⟩, ⟨2, (some 8), none, (.q (.mov (.t 100))), []⟩]
@[simp] def b_REncode_62 (_ : Unit) : EB := reg0 (hid l_REncode_61) 3
@[simp] def b_REncode_63 (_ : Unit) : EB := .seq (hid b_REncode_60) (hid b_REncode_62)
@[simp] def b_REncode_64 (_ : Unit) : EB := .seq (hid b_REncode_56) (hid b_REncode_63)
@[simp] def b_REncode_65 (_ : Unit) : EB := .loop (hid b_REncode_64)
@[simp] def b_REncode_66 (_ : Unit) : EB := .block 4 (hid b_REncode_65)
@[simp] def b_REncode_67 (_ : Unit) : EB := .seq (hid b_REncode_52) (hid b_REncode_66)
@[simp] def b_REncode_68 (_ : Unit) : EB := .seq (hid b_REncode_50) (hid b_REncode_67)
@[simp] def b_REncode_69 (_ : Unit) : EB := .seq (hid b_REncode_46) (hid b_REncode_68)
@[simp] def b_REncode_70 (_ : Unit) : EB := .block 3 (hid b_REncode_69)
@[simp] def l_REncode_71 (_ : Unit) : List EOp := [⟨0, (some 73), none, (.q (.mov (.t 6))), []⟩, ⟨1, (some 74), none, (.q (.bin .add (.t 73) (.k (.int .i64 1)))), []⟩, ⟨2, (some 6), none, (.q (.mov (.t 74))), []⟩]
@[simp] def b_REncode_72 (_ : Unit) : EB := reg0 (hid l_REncode_71) 3
@[simp] def b_REncode_73 (_ : Unit) : EB := .seq (hid b_REncode_70) (hid b_REncode_72)
@[simp] def b_REncode_74 (_ : Unit) : EB := .seq (hid b_REncode_43) (hid b_REncode_73)
@[simp] def b_REncode_75 (_ : Unit) : EB := .loop (hid b_REncode_74)
@[simp] def b_REncode_76 (_ : Unit) : EB := .block 2 (hid b_REncode_75)
@[simp] def b_REncode_77 (_ : Unit) : EB := .seq (hid b_REncode_39) (hid b_REncode_76)
@[simp] def l_REncode_78 (_ : Unit) : List EOp := [⟨0, (some 109), none, (.q (.mov (.t 3))), []⟩, ⟨1, (some 2), none, (.q (.mov (.t 109))), []⟩]
@[simp] def b_REncode_79 (_ : Unit) : EB := reg0 (hid l_REncode_78) 2
@[simp] def b_REncode_80 (_ : Unit) : EB := .seq (hid b_REncode_79) .ret
@[simp] def b_REncode_81 (_ : Unit) : EB := .seq (hid b_REncode_77) (hid b_REncode_80)
@[simp] def b_REncode_82 (_ : Unit) : EB := .seq (hid b_REncode_37) (hid b_REncode_81)
@[simp] def b_REncode_83 (_ : Unit) : EB := .seq (hid b_REncode_34) (hid b_REncode_82)
@[simp] def b_REncode_84 (_ : Unit) : EB := .seq (hid b_REncode_9) (hid b_REncode_83)
@[simp] def b_REncode_85 (_ : Unit) : EB := .seq (hid b_REncode_6) (hid b_REncode_84)
@[simp] def b_REncode_86 (_ : Unit) : EB := .seq (hid b_REncode_2) (hid b_REncode_85)
def c_REncode : EB × List QOp × Nat := ((hid b_REncode_86), [(.mov (.t 2))], 110)
theorem k_REncode : cfun Tryz.prog 15 = some c_REncode := by kernel_rfl


theorem RUint_nil (n : Nat) (h : n < 18446744073709551616) : ECalls Tryz.prog 41 [.v (.c (.fz (.lit (.slice none 0 0)))), I .u64 n] [] fun y H' => H' = [some (RO (uintB n))] ∧ y = R 0 (uintB n) := ecalls_nil (es := 1) (RUint_ok [] n h (by simp))
theorem usB_cons (n : Int) (l : List Int) : usB (n :: l) = uB n ++ usB l := by simp [usB]
theorem usB_nil : usB [] = [] := rfl
theorem uB_eq (n : Int) : uintB (u64n n) = uB n := rfl
theorem u64n_nat (n : Nat) : (n : Int) = ((n : Nat) : Int) := rfl

set_option maxHeartbeats 2000000 in
theorem REncode_ok (s : Sta) (hs : s.ok) (hm : s.small) : ECalls Tryz.prog 15 [SV s] [] fun y H' => H' = [] ∧ y = Bs (encS s) := by
  obtain ⟨ok1, ok2, ok3, ok4, ok5, ok6, ok7⟩ := id hs
  obtain ⟨m1, m2, m3⟩ := hm
  have lh : (headB s).length ≤ 36 := usB_len [s.num, s.h0, s.h1, (s.pays.length : Int)]
  have lp : ∀ i, (pB (s.pays.take i)).length ≤ 68000 := by
    intro i
    have h1 := flat_len (f := payB) (k := 68) (l := s.pays.take i) (fun p hp => payB_len (ok4 p (List.mem_of_mem_take hp)).2.2.2.2)
    have h2 : (s.pays.take i).length ≤ 1000 := by simp; omega
    unfold pB; omega
  have lq : (pB s.pays).length ≤ 68000 := by have := lp s.pays.length; rwa [List.take_length] at this
  have lm : (midB s).length ≤ 70000 := by
    have := usB_len [(s.holds.length : Int)]
    simp only [midB, List.length_append]
    simp only [List.length_cons, List.length_nil] at this
    omega
  have lk : ∀ i, (hB (s.holds.take i)).length ≤ 9100000 := by
    intro i
    have h1 := flat_len (f := holB) (k := 9100) (l := s.holds.take i) (fun p hp => holB_len (m3 p (List.mem_of_mem_take hp)))
    have h2 : (s.holds.take i).length ≤ 1000 := by simp; omega
    unfold hB; omega
  have hl : ∀ n, (uB n).length ≤ 9 := uB_len
  refine ecalls k_REncode ?_
  simp [c_REncode, SV, staC, wrap_u64n]
  refine call0 (RUint_nil (u64n s.num) (u64n_lt _)) (by simp [I]) ?_
  rintro y H' ⟨rfl, rfl⟩
  refine ⟨.inl (by simp), le_ok rfl, ?_⟩
  simp [R, RO, wrap_u64n, uB_eq]
  refine call0 (RUint_ok (uB s.num) (u64n s.h0) (u64n_lt _) (by have := hl s.num; omega)) (by simp [I, Bs]) ?_
  rintro y H' ⟨rfl, rfl⟩
  refine ⟨.inr ⟨rfl, by simp [RO, bsv, cb]⟩, le_ok rfl, ?_⟩
  simp [R, RO, wrap_u64n, uB_eq]
  refine call0 (RUint_ok (uB s.num ++ uB s.h0) (u64n s.h1) (u64n_lt _) (by have := hl s.num; have := hl s.h0; simp; omega)) (by simp [I, Bs, List.take_of_length_le]) ?_
  rintro y H' ⟨rfl, rfl⟩
  refine ⟨.inr ⟨rfl, by simp [RO, bsv, cb]⟩, le_ok rfl, ?_⟩
  simp [R, RO, wrap_u64n, uB_eq]
  refine call0 (RUint_ok (uB s.num ++ (uB s.h0 ++ uB s.h1)) (u64n (s.pays.length : Int)) (u64n_lt _) (by have := hl s.num; have := hl s.h0; have := hl s.h1; simp; omega)) (by simp [I, Bs, List.take_of_length_le]) ?_
  rintro y H' ⟨rfl, rfl⟩
  refine ⟨.inr ⟨rfl, by simp [RO, bsv, cb]⟩, le_ok rfl, ?_⟩
  have hhead : uB s.num ++ (uB s.h0 ++ (uB s.h1 ++ uB (s.pays.length : Int))) = headB s := by simp [headB, usB_cons, usB_nil]
  simp [R, RO, wrap_u64n, uB_eq, hhead]
  refine eloop (α := Nat) (fun i => i ≤ s.pays.length) (fun i => s.pays.length - i)
    (fun i => [.any, Ptr 0, .any, R 1 (headB s ++ pB (s.pays.take i)), I .i64 i, .any, .any, .any, .any, .any, .any, .any, .any, .any, .any, .any, .any, .any, .any, .any, .any, .any, .any, .any, .any, .any, .any, .any, .any, .any, .any, .any, .any, .any, .any, .any, .any, .any, .any, .any, .any, .any, .any, .any, .any, .any, .any, .any, .any, .any, .any, .any, .any, .any, .any, .any, .any, .any, .any, .any, .any, .any, .any, .any, .any, .any, .any, .any, .any, .any, .any, .any, .any, .any, .any, .any, .any, .any, .any, .any, .any, .any, .any, .any, .any, .any, .any, .any, .any, .any, .any, .any, .any, .any, .any, .any, .any, .any, .any, .any, .any, .any, .any, .any, .any, .any, .any, .any, .any, .any]) (fun i => [some (.box 26 (staC s)), some (RO (headB s ++ pB (s.pays.take i)))]) 0 [0, 352]
    (Nat.zero_le _) (by simp [Ptr, I, R, pB]) (by simp [RO, pB, staC]) (by simp) (by simp) (by simp) ?_
  intro i hi
  have lpi := lp i
  simp [Ptr, I, staC, R, RO]
  refine alt (fun hlt => ?_) (fun hlt => ?_)
  · obtain ⟨p, hc⟩ : ∃ p, s.pays[i]? = some p := ⟨s.pays[i], by simp [hlt]⟩
    have hpo := ok4 p (List.mem_of_getElem? hc)
    have hl32 := hpo.2.2.2.2
    have ht : p.lock.take 32 = p.lock := List.take_of_length_le (by omega)
    have hcb := payv_get hc
    have w2 : IntKind.i64.wrap ((i : Int) + 1) = ((i + 1 : Nat) : Int) := wrap_i64 (by omega) (by omega)
    have hl4 := hl p.id
    have hl5 := hl p.fr
    have hl6 := hl p.am
    have hl7 := hl p.af
    simp [hcb, payF, hl32, ht, wrap_u64n]
    refine call0 (RUint_ok (headB s ++ pB (s.pays.take i)) (u64n p.id) (u64n_lt _) (by simp; omega)) (by simp [I, Bs, Ag, List.take_of_length_le]) ?_
    rintro y H' ⟨rfl, rfl⟩
    refine ⟨.inr ⟨rfl, by simp [RO, bsv, cb]⟩, le_ok rfl, ?_⟩
    simp [R, RO, wrap_u64n, uB_eq]
    refine call0 (RUint_ok (headB s ++ pB (s.pays.take i) ++ uB p.id) (u64n p.fr) (u64n_lt _) (by simp; omega)) (by simp [I, Bs, Ag, List.take_of_length_le]) ?_
    rintro y H' ⟨rfl, rfl⟩
    refine ⟨.inr ⟨rfl, by simp [RO, bsv, cb]⟩, le_ok rfl, ?_⟩
    simp [R, RO, wrap_u64n, uB_eq]
    refine call0 (RUint_ok (headB s ++ pB (s.pays.take i) ++ uB p.id ++ uB p.fr) (u64n p.am) (u64n_lt _) (by simp; omega)) (by simp [I, Bs, Ag, List.take_of_length_le]) ?_
    rintro y H' ⟨rfl, rfl⟩
    refine ⟨.inr ⟨rfl, by simp [RO, bsv, cb]⟩, le_ok rfl, ?_⟩
    simp [R, RO, wrap_u64n, uB_eq]
    refine call0 (RUint_ok (headB s ++ pB (s.pays.take i) ++ uB p.id ++ uB p.fr ++ uB p.am) (u64n p.af) (u64n_lt _) (by simp; omega)) (by simp [I, Bs, Ag, List.take_of_length_le]) ?_
    rintro y H' ⟨rfl, rfl⟩
    refine ⟨.inr ⟨rfl, by simp [RO, bsv, cb]⟩, le_ok rfl, ?_⟩
    simp [R, RO, wrap_u64n, uB_eq]
    simp [hl32, ht]
    refine call0 (RHash_ok (headB s ++ pB (s.pays.take i) ++ uB p.id ++ uB p.fr ++ uB p.am ++ uB p.af) p.lock (by simp; omega) hl32) (by simp [I, Bs, Ag, ht, List.take_of_length_le]) ?_
    rintro y H' ⟨rfl, rfl⟩
    refine ⟨.inr ⟨rfl, by simp [RO, bsv, cb]⟩, le_ok rfl, ?_⟩
    simp [w2, R, RO, -Int.natCast_add]
    have hsn : pB (s.pays.take (i + 1)) = pB (s.pays.take i) ++ (uB p.id ++ (uB p.fr ++ (uB p.am ++ (uB p.af ++ p.lock)))) := by rw [take_s hc, pB_snoc]; simp [payB, usB_cons, usB_nil]
    exact round (i + 1) [0, 530] (by omega) (by omega) (by simp [hsn, R]) (by simp [hsn, RO]) (by simp) (by simp) (by simp)
  have hil : i = s.pays.length := by omega
  subst hil
  rw [List.take_length] at lpi ⊢
  simp [wrap_u64n]
  have hl8 := hl (s.holds.length : Int)
  refine call0 (RUint_ok (headB s ++ pB s.pays) (u64n (s.holds.length : Int)) (u64n_lt _) (by simp; omega)) (by simp [I, Bs, Ag, List.take_of_length_le]) ?_
  rintro y H' ⟨rfl, rfl⟩
  refine ⟨.inr ⟨rfl, by simp [RO, bsv, cb]⟩, le_ok rfl, ?_⟩
  simp [R, RO, wrap_u64n, uB_eq]
  have hmid : headB s ++ (pB s.pays ++ uB (s.holds.length : Int)) = midB s := by simp [midB, usB_cons, usB_nil]
  simp [hmid]
  refine eloop (α := Nat) (fun i => i ≤ s.holds.length) (fun i => s.holds.length - i)
    (fun i => [.any, Ptr 0, .any, R 1 (midB s ++ hB (s.holds.take i)), .any, .any, I .i64 i, .any, .any, .any, .any, .any, .any, .any, .any, .any, .any, .any, .any, .any, .any, .any, .any, .any, .any, .any, .any, .any, .any, .any, .any, .any, .any, .any, .any, .any, .any, .any, .any, .any, .any, .any, .any, .any, .any, .any, .any, .any, .any, .any, .any, .any, .any, .any, .any, .any, .any, .any, .any, .any, .any, .any, .any, .any, .any, .any, .any, .any, .any, .any, .any, .any, .any, .any, .any, .any, .any, .any, .any, .any, .any, .any, .any, .any, .any, .any, .any, .any, .any, .any, .any, .any, .any, .any, .any, .any, .any, .any, .any, .any, .any, .any, .any, .any, .any, .any, .any, .any, .any, .any]) (fun i => [some (.box 26 (staC s)), some (RO (midB s ++ hB (s.holds.take i)))]) 0 [0, 162]
    (Nat.zero_le _) (by simp [Ptr, I, R, hB, ← hmid]) (by simp [RO, hB, staC, ← hmid]) (by simp) (by simp) (by simp) ?_
  intro i hi
  have lki := lk i
  simp [Ptr, I, staC, R, RO]
  refine alt (fun hlt => ?_) (fun hlt => ?_)
  · obtain ⟨p, hc⟩ : ∃ p, s.holds[i]? = some p := ⟨s.holds[i], by simp [hlt]⟩
    have hk := m3 p (List.mem_of_getElem? hc)
    have hcb := holv_get hc
    have w2 : IntKind.i64.wrap ((i : Int) + 1) = ((i + 1 : Nat) : Int) := wrap_i64 (by omega) (by omega)
    have hl4 := hl p.id
    have hl5 := hl p.am
    have hl6 := hl (p.keys.length : Int)
    simp [hcb, holF, wrap_u64n]
    refine call0 (RUint_ok (midB s ++ hB (s.holds.take i)) (u64n p.id) (u64n_lt _) (by simp; omega)) (by simp [I, Bs, Ag, List.take_of_length_le]) ?_
    rintro y H' ⟨rfl, rfl⟩
    refine ⟨.inr ⟨rfl, by simp [RO, bsv, cb]⟩, le_ok rfl, ?_⟩
    simp [R, RO, wrap_u64n, uB_eq]
    refine call0 (RUint_ok (midB s ++ hB (s.holds.take i) ++ uB p.id) (u64n p.am) (u64n_lt _) (by simp; omega)) (by simp [I, Bs, Ag, List.take_of_length_le]) ?_
    rintro y H' ⟨rfl, rfl⟩
    refine ⟨.inr ⟨rfl, by simp [RO, bsv, cb]⟩, le_ok rfl, ?_⟩
    simp [R, RO, wrap_u64n, uB_eq]
    refine call0 (RUint_ok (midB s ++ hB (s.holds.take i) ++ uB p.id ++ uB p.am) (u64n (p.keys.length : Int)) (u64n_lt _) (by simp; omega)) (by simp [I, Bs, Ag, List.take_of_length_le]) ?_
    rintro y H' ⟨rfl, rfl⟩
    refine ⟨.inr ⟨rfl, by simp [RO, bsv, cb]⟩, le_ok rfl, ?_⟩
    simp [R, RO, wrap_u64n, uB_eq]
    refine eloop (α := Nat) (fun j => j ≤ p.keys.length) (fun j => p.keys.length - j)
      (fun j => [.any, Ptr 0, .any, R 2 (midB s ++ hB (s.holds.take i) ++ uB p.id ++ uB p.am ++ uB (p.keys.length : Int) ++ usB (p.keys.take j)), .any, .any, I .i64 i, Ptr 1, I .i64 j, .any, .any, .any, .any, .any, .any, .any, .any, .any, .any, .any, .any, .any, .any, .any, .any, .any, .any, .any, .any, .any, .any, .any, .any, .any, .any, .any, .any, .any, .any, .any, .any, .any, .any, .any, .any, .any, .any, .any, .any, .any, .any, .any, .any, .any, .any, .any, .any, .any, .any, .any, .any, .any, .any, .any, .any, .any, .any, .any, .any, .any, .any, .any, .any, .any, .any, .any, .any, .any, .any, .any, .any, .any, .any, .any, .any, .any, .any, .any, .any, .any, .any, .any, .any, .any, .any, .any, .any, .any, .any, .any, .any, .any, .any, .any, .any, .any, .any, .any, .any, .any])
      (fun j => [some (.box 26 (staC s)), some (.box 55 (holC p)), some (RO (midB s ++ hB (s.holds.take i) ++ uB p.id ++ uB p.am ++ uB (p.keys.length : Int) ++ usB (p.keys.take j)))]) 0 [0, 162, 402]
      (Nat.zero_le _) (by simp [Ptr, I, R, usB]) (by simp [RO, usB, staC, holC]) (by simp) (by simp) (by simp) ?_
    intro j hj
    have lkj := usB_len (p.keys.take j)
    have lkk : (p.keys.take j).length = j := by simp; omega
    simp [Ptr, I, staC, holC, R, RO]
    refine alt (fun hlt2 => ?_) (fun hlt2 => ?_)
    · obtain ⟨k, hc2⟩ : ∃ k, p.keys[j]? = some k := ⟨p.keys[j], by simp [hlt2]⟩
      have hcb2 := intv_get hc2
      have w3 : IntKind.i64.wrap ((j : Int) + 1) = ((j + 1 : Nat) : Int) := wrap_i64 (by omega) (by omega)
      have hts : p.keys.take (j + 1) = p.keys.take j ++ [k] := by rw [List.take_add_one, hc2]; rfl
      simp [hcb2, wrap_u64n]
      refine call0 (RUint_ok (midB s ++ hB (s.holds.take i) ++ uB p.id ++ uB p.am ++ uB (p.keys.length : Int) ++ usB (p.keys.take j)) (u64n k) (u64n_lt _) (by simp; omega)) (by simp [I, Bs, Ag, List.take_of_length_le]) ?_
      rintro y H' ⟨rfl, rfl⟩
      refine ⟨.inr ⟨rfl, by simp [RO, bsv, cb]⟩, le_ok rfl, ?_⟩
      simp [R, RO, wrap_u64n, uB_eq, w3, -Int.natCast_add]
      exact round (j + 1) [0, 1, 195] (by omega) (by omega) (by simp [hts, usB_snoc, R]) (by simp [hts, usB_snoc, RO]) (by simp) (by simp) (by simp)
    have hjl : j = p.keys.length := by omega
    subst hjl
    rw [List.take_length] at lkj ⊢
    have hsn : hB (s.holds.take (i + 1)) = hB (s.holds.take i) ++ (uB p.id ++ (uB p.am ++ (uB (p.keys.length : Int) ++ usB p.keys))) := by rw [take_s hc, hB_snoc]; simp [holB, usB_cons, usB_nil]
    simp [w2, -Int.natCast_add]
    exact round (i + 1) [0, 2] (by omega) (by omega) (by simp [hsn, R]) (by simp [hsn, RO]) (by simp) (by simp) (by simp)
  have hil : i = s.holds.length := by omega
  subst hil
  rw [List.take_length] at lki ⊢
  simp
  refine finW _ (weak_frz (o := 1) (ty := 5) (es := 1) (xs := bsv (midB s ++ hB s.holds)) rfl) ?_
  exact fin [] (by decide) rfl rfl rfl ⟨rfl, by simp [Bs, encS_eq, List.take_of_length_le]⟩

end Go.Proofs.YtpohjnhlhfbnaaaGreatDoor

namespace Go.Proofs.YtpohjnhlhfbnaaaGreatDoor
open Go Go.EW
set_option linter.unusedSimpArgs false
set_option linter.unusedVariables false

@[simp] def l_Total_1 (_ : Unit) : List EOp := [⟨0, (some 1), none, (.q (.box 33 (.t 0))), []⟩, ⟨1, (some 2), none, (.q (.mov (.k (.int .i64 0)))), []⟩]
@[simp] def b_Total_2 (_ : Unit) : EB := reg0 (hid l_Total_1) 2
@[simp] def l_Total_3 (_ : Unit) : List EOp := [⟨0, (some 8), none, (.q (.lda 5 (.t 1))), []⟩, ⟨1, (some 9), none, (.call 26 [(.t 8)]), []⟩, ⟨2, (some 10), none, (.q (.un .not (.t 9))), []⟩]
@[simp] def b_Total_4 (_ : Unit) : EB := reg0 (hid l_Total_3) 3
@[simp] def l_Total_5 (_ : Unit) : List EOp := [⟨0, (some 2), none, (.q (.mov (.k (.int .i64 0)))), []⟩]
@[simp] def b_Total_6 (_ : Unit) : EB := reg0 (hid l_Total_5) 1
@[simp] def b_Total_7 (_ : Unit) : EB := .seq (hid b_Total_6) .ret
@[simp] def b_Total_8 (_ : Unit) : EB := .cond (.t 10) (hid b_Total_7) .skip
@[simp] def b_Total_9 (_ : Unit) : EB := .seq (hid b_Total_4) (hid b_Total_8)
@[simp] def l_Total_11 (_ : Unit) : List EOp := [⟨6, (some 17), none, (.q (.bin .add (.t 13) (.t 16))), []⟩, ⟨7, (some 3), none, (.q (.mov (.t 17))), []⟩]
@[simp] def l_Total_10 (_ : Unit) : List EOp := ⟨0, (some 11), none, (.q (.fad 1 (.t 1))), []⟩ :: ⟨1, (some 12), none, (.q (.iad 2 1 (.t 11) (.k (.int .i64 0)))), []⟩ :: ⟨2, (some 13), none, (.q (.ldc (.t 12))), []⟩ :: ⟨3, (some 14), none, (.q (.fad 1 (.t 1))), []⟩ :: ⟨4, (some 15), none, (.q (.iad 2 1 (.t 14) (.k (.int .i64 1)))), []⟩ :: ⟨5, (some 16), none, (.q (.ldc (.t 15))), []⟩ :: hid l_Total_11
@[simp] def b_Total_12 (_ : Unit) : EB := reg0 (hid l_Total_10) 8
@[simp] def l_Total_13 (_ : Unit) : List EOp := [⟨0, (some 18), none, (.q (.fad 3 (.t 1))), []⟩, ⟨1, (some 19), none, (.q (.ldc (.t 18))), []⟩, ⟨2, (some 20), none, (.q (.len (.t 19))), []⟩, ⟨3, (some 21), none, (.q (.mov (.k (.int .i64 0)))), []⟩]
@[simp] def b_Total_14 (_ : Unit) : EB := reg0 (hid l_Total_13) 4
@[simp] def l_Total_15 (_ : Unit) : List EOp := [⟨0, (some 22), none, (.q (.bin .lss (.t 21) (.t 20))), []⟩]
@[simp] def b_Total_16 (_ : Unit) : EB := reg0 (hid l_Total_15) 1
@[simp] def b_Total_17 (_ : Unit) : EB := .cond (.t 22) .skip (.exit 0)
@[simp] def l_Total_18 (_ : Unit) : List EOp := [⟨0, (some 23), none, (.q (.isl 36 (.t 19) (.t 21))), []⟩, ⟨1, (some 24), none, (.q (.lda 36 (.t 23))), []⟩, ⟨2, (some 5), none, (.q (.alloc 65 (([(.int .i64 0), (.int .i64 0), (.int .i64 0), (.int .i64 0)] : List Value) ++ zU8))), []⟩, ⟨3, none, none, (.sto 36 (.t 5) (.t 24)), []⟩]
@[simp] def b_Total_19 (_ : Unit) : EB := reg0 (hid l_Total_18) 4
@[simp] def l_Total_20 (_ : Unit) : List EOp := [⟨0, (some 25), none, (.q (.mov (.t 3))), []⟩, ⟨1, (some 26), none, (.q (.fad 2 (.t 5))), []⟩, ⟨2, (some 27), none, (.q (.ldc (.t 26))), []⟩, ⟨3, (some 28), none, (.q (.bin .add (.t 25) (.t 27))), []⟩, ⟨4, (some 3), none, (.q (.mov (.t 28))), []⟩]
@[simp] def b_Total_21 (_ : Unit) : EB := reg0 (hid l_Total_20) 5
@[simp] def b_Total_22 (_ : Unit) : EB := .seq (hid b_Total_19) (hid b_Total_21)
@[simp] def b_Total_23 (_ : Unit) : EB := .block 1 (hid b_Total_22)
@[simp] def l_Total_24 (_ : Unit) : List EOp := [⟨0, (some 29), none, (.q (.bin .add (.t 21) (.k (.int .i64 1)))), []⟩, ⟨1, (some 21), none, (.q (.mov (.t 29))), []⟩]
@[simp] def b_Total_25 (_ : Unit) : EB := reg0 (hid l_Total_24) 2
@[simp] def b_Total_26 (_ : Unit) : EB := .seq (hid b_Total_23) (hid b_Total_25)
@[simp] def b_Total_27 (_ : Unit) : EB := .seq (hid b_Total_17) (hid b_Total_26)
@[simp] def b_Total_28 (_ : Unit) : EB := .seq (hid b_Total_16) (hid b_Total_27)
@[simp] def b_Total_29 (_ : Unit) : EB := .loop (hid b_Total_28)
@[simp] def b_Total_30 (_ : Unit) : EB := .block 0 (hid b_Total_29)
@[simp] def b_Total_31 (_ : Unit) : EB := .seq (hid b_Total_14) (hid b_Total_30)
@[simp] def l_Total_32 (_ : Unit) : List EOp := [⟨0, (some 30), none, (.q (.fad 4 (.t 1))), []⟩, ⟨1, (some 31), none, (.q (.ldc (.t 30))), []⟩, ⟨2, (some 32), none, (.q (.len (.t 31))), []⟩, ⟨3, (some 33), none, (.q (.mov (.k (.int .i64 0)))), []⟩]
@[simp] def b_Total_33 (_ : Unit) : EB := reg0 (hid l_Total_32) 4
@[simp] def l_Total_34 (_ : Unit) : List EOp := [⟨0, (some 34), none, (.q (.bin .lss (.t 33) (.t 32))), []⟩]
@[simp] def b_Total_35 (_ : Unit) : EB := reg0 (hid l_Total_34) 1
@[simp] def b_Total_36 (_ : Unit) : EB := .cond (.t 34) .skip (.exit 2)
@[simp] def l_Total_37 (_ : Unit) : List EOp := [⟨0, (some 35), none, (.q (.isl 3 (.t 31) (.t 33))), []⟩, ⟨1, (some 36), none, (.q (.lda 3 (.t 35))), []⟩, ⟨2, (some 7), none, (.q (.alloc 66 [(.int .i64 0), (.int .i64 0), (.slice none 0 0)])), []⟩, ⟨3, none, none, (.fz (.sto 3 (.t 7) (.t 36))), []⟩]
@[simp] def b_Total_38 (_ : Unit) : EB := reg0 (hid l_Total_37) 4
@[simp] def l_Total_39 (_ : Unit) : List EOp := [⟨0, (some 37), none, (.q (.mov (.t 3))), []⟩, ⟨1, (some 38), none, (.q (.fad 1 (.t 7))), []⟩, ⟨2, (some 39), none, (.q (.ldc (.t 38))), []⟩, ⟨3, (some 40), none, (.q (.bin .add (.t 37) (.t 39))), []⟩, ⟨4, (some 3), none, (.q (.mov (.t 40))), []⟩]
@[simp] def b_Total_40 (_ : Unit) : EB := reg0 (hid l_Total_39) 5
@[simp] def b_Total_41 (_ : Unit) : EB := .seq (hid b_Total_38) (hid b_Total_40)
@[simp] def b_Total_42 (_ : Unit) : EB := .block 3 (hid b_Total_41)
@[simp] def l_Total_43 (_ : Unit) : List EOp := [⟨0, (some 41), none, (.q (.bin .add (.t 33) (.k (.int .i64 1)))), []⟩, ⟨1, (some 33), none, (.q (.mov (.t 41))), []⟩]
@[simp] def b_Total_44 (_ : Unit) : EB := reg0 (hid l_Total_43) 2
@[simp] def b_Total_45 (_ : Unit) : EB := .seq (hid b_Total_42) (hid b_Total_44)
@[simp] def b_Total_46 (_ : Unit) : EB := .seq (hid b_Total_36) (hid b_Total_45)
@[simp] def b_Total_47 (_ : Unit) : EB := .seq (hid b_Total_35) (hid b_Total_46)
@[simp] def b_Total_48 (_ : Unit) : EB := .loop (hid b_Total_47)
@[simp] def b_Total_49 (_ : Unit) : EB := .block 2 (hid b_Total_48)
@[simp] def b_Total_50 (_ : Unit) : EB := .seq (hid b_Total_33) (hid b_Total_49)
@[simp] def l_Total_51 (_ : Unit) : List EOp := [⟨0, (some 42), none, (.q (.mov (.t 3))), []⟩, ⟨1, (some 2), none, (.q (.mov (.t 42))), []⟩]
@[simp] def b_Total_52 (_ : Unit) : EB := reg0 (hid l_Total_51) 2
@[simp] def b_Total_53 (_ : Unit) : EB := .seq (hid b_Total_52) .ret
@[simp] def b_Total_54 (_ : Unit) : EB := .seq (hid b_Total_50) (hid b_Total_53)
@[simp] def b_Total_55 (_ : Unit) : EB := .seq (hid b_Total_31) (hid b_Total_54)
@[simp] def b_Total_56 (_ : Unit) : EB := .seq (hid b_Total_12) (hid b_Total_55)
@[simp] def b_Total_57 (_ : Unit) : EB := .seq (hid b_Total_9) (hid b_Total_56)
@[simp] def b_Total_58 (_ : Unit) : EB := .seq (hid b_Total_2) (hid b_Total_57)
def c_Total : EB × List QOp × Nat := ((hid b_Total_58), [(.mov (.t 2))], 43)
theorem k_Total : cfun Tryz.prog 12 = some c_Total := by kernel_rfl

@[simp] def l_cloneP_1 (_ : Unit) : List EOp := [⟨0, (some 2), none, (.q (.mov (.k (.slice none 0 0)))), []⟩]
@[simp] def b_cloneP_2 (_ : Unit) : EB := reg0 (hid l_cloneP_1) 1
@[simp] def l_cloneP_3 (_ : Unit) : List EOp := [⟨0, (some 3), none, (.q (.mov (.t 0))), []⟩, ⟨1, (some 4), none, (.nild false (.t 3)), []⟩]
@[simp] def b_cloneP_4 (_ : Unit) : EB := reg0 (hid l_cloneP_3) 2
@[simp] def l_cloneP_5 (_ : Unit) : List EOp := [⟨0, (some 2), none, (.q (.mov (.k (.slice none 0 0)))), []⟩]
@[simp] def b_cloneP_6 (_ : Unit) : EB := reg0 (hid l_cloneP_5) 1
@[simp] def b_cloneP_7 (_ : Unit) : EB := .seq (hid b_cloneP_6) .ret
@[simp] def b_cloneP_8 (_ : Unit) : EB := .cond (.t 4) (hid b_cloneP_7) .skip
@[simp] def b_cloneP_9 (_ : Unit) : EB := .seq (hid b_cloneP_4) (hid b_cloneP_8)
@[simp] def l_cloneP_10 (_ : Unit) : List EOp := [⟨0, (some 5), none, (.q (.bsr 65 36 (([(.int .i64 0), (.int .i64 0), (.int .i64 0), (.int .i64 0)] : List Value) ++ zU8) 0 [])), []⟩, ⟨1, (some 6), none, (.q (.mov (.t 0))), []⟩, ⟨2, (some 7), none, (.app 65 36 64 (.t 5) (.t 6)), []⟩, ⟨3, (some 2), none, (.q (.mov (.t 7))), []⟩]
@[simp] def b_cloneP_11 (_ : Unit) : EB := reg0 (hid l_cloneP_10) 4
@[simp] def b_cloneP_12 (_ : Unit) : EB := .seq (hid b_cloneP_11) .ret
@[simp] def b_cloneP_13 (_ : Unit) : EB := .seq (hid b_cloneP_9) (hid b_cloneP_12)
@[simp] def b_cloneP_14 (_ : Unit) : EB := .seq (hid b_cloneP_2) (hid b_cloneP_13)
def c_cloneP : EB × List QOp × Nat := ((hid b_cloneP_14), [(.mov (.t 2))], 8)
theorem k_cloneP : cfun Tryz.prog 70 = some c_cloneP := by kernel_rfl

@[simp] def l_cloneH_1 (_ : Unit) : List EOp := [⟨0, (some 2), none, (.q (.mov (.k (.slice none 0 0)))), []⟩]
@[simp] def b_cloneH_2 (_ : Unit) : EB := reg0 (hid l_cloneH_1) 1
@[simp] def l_cloneH_3 (_ : Unit) : List EOp := [⟨0, (some 3), none, (.q (.mov (.t 0))), []⟩, ⟨1, (some 4), none, (.nild false (.t 3)), []⟩]
@[simp] def b_cloneH_4 (_ : Unit) : EB := reg0 (hid l_cloneH_3) 2
@[simp] def l_cloneH_5 (_ : Unit) : List EOp := [⟨0, (some 2), none, (.q (.mov (.k (.slice none 0 0)))), []⟩]
@[simp] def b_cloneH_6 (_ : Unit) : EB := reg0 (hid l_cloneH_5) 1
@[simp] def b_cloneH_7 (_ : Unit) : EB := .seq (hid b_cloneH_6) .ret
@[simp] def b_cloneH_8 (_ : Unit) : EB := .cond (.t 4) (hid b_cloneH_7) .skip
@[simp] def b_cloneH_9 (_ : Unit) : EB := .seq (hid b_cloneH_4) (hid b_cloneH_8)
@[simp] def l_cloneH_10 (_ : Unit) : List EOp := [⟨0, (some 5), none, (.q (.bsr 66 3 [(.int .i64 0), (.int .i64 0), (.slice none 0 0)] 0 [])), []⟩, ⟨1, (some 6), none, (.q (.mov (.t 0))), []⟩, ⟨2, (some 7), none, (.app 66 3 40 (.t 5) (.t 6)), []⟩, ⟨3, (some 2), none, (.q (.mov (.t 7))), []⟩]
@[simp] def b_cloneH_11 (_ : Unit) : EB := reg0 (hid l_cloneH_10) 4
@[simp] def b_cloneH_12 (_ : Unit) : EB := .seq (hid b_cloneH_11) .ret
@[simp] def b_cloneH_13 (_ : Unit) : EB := .seq (hid b_cloneH_9) (hid b_cloneH_12)
@[simp] def b_cloneH_14 (_ : Unit) : EB := .seq (hid b_cloneH_2) (hid b_cloneH_13)
def c_cloneH : EB × List QOp × Nat := ((hid b_cloneH_14), [(.mov (.t 2))], 8)
theorem k_cloneH : cfun Tryz.prog 71 = some c_cloneH := by kernel_rfl

@[simp] def l_cloneI_1 (_ : Unit) : List EOp := [⟨0, (some 2), none, (.q (.mov (.k (.slice none 0 0)))), []⟩]
@[simp] def b_cloneI_2 (_ : Unit) : EB := reg0 (hid l_cloneI_1) 1
@[simp] def l_cloneI_3 (_ : Unit) : List EOp := [⟨0, (some 3), none, (.q (.mov (.t 0))), []⟩, ⟨1, (some 4), none, (.nild false (.t 3)), []⟩]
@[simp] def b_cloneI_4 (_ : Unit) : EB := reg0 (hid l_cloneI_3) 2
@[simp] def l_cloneI_5 (_ : Unit) : List EOp := [⟨0, (some 2), none, (.q (.mov (.k (.slice none 0 0)))), []⟩]
@[simp] def b_cloneI_6 (_ : Unit) : EB := reg0 (hid l_cloneI_5) 1
@[simp] def b_cloneI_7 (_ : Unit) : EB := .seq (hid b_cloneI_6) .ret
@[simp] def b_cloneI_8 (_ : Unit) : EB := .cond (.t 4) (hid b_cloneI_7) .skip
@[simp] def b_cloneI_9 (_ : Unit) : EB := .seq (hid b_cloneI_4) (hid b_cloneI_8)
@[simp] def l_cloneI_10 (_ : Unit) : List EOp := [⟨0, (some 5), none, (.q (.bsr 3 1 [(.int .i64 0)] 0 [])), []⟩, ⟨1, (some 6), none, (.q (.mov (.t 0))), []⟩, ⟨2, (some 7), none, (.app 3 1 8 (.t 5) (.t 6)), []⟩, ⟨3, (some 2), none, (.q (.mov (.t 7))), []⟩]
@[simp] def b_cloneI_11 (_ : Unit) : EB := reg0 (hid l_cloneI_10) 4
@[simp] def b_cloneI_12 (_ : Unit) : EB := .seq (hid b_cloneI_11) .ret
@[simp] def b_cloneI_13 (_ : Unit) : EB := .seq (hid b_cloneI_9) (hid b_cloneI_12)
@[simp] def b_cloneI_14 (_ : Unit) : EB := .seq (hid b_cloneI_2) (hid b_cloneI_13)
def c_cloneI : EB × List QOp × Nat := ((hid b_cloneI_14), [(.mov (.t 2))], 8)
theorem k_cloneI : cfun Tryz.prog 72 = some c_cloneI := by kernel_rfl


theorem mayS_t {s : Sta} (h : mayS s = true) : (0 ≤ s.num ∧ s.num ≤ 1099511627776 ∧ 0 ≤ s.h0 ∧ s.h0 ≤ 1125899906842624 ∧ 0 ≤ s.h1 ∧ s.h1 ≤ 1125899906842624 ∧ s.pays.length ≤ 8 ∧ s.holds.length + s.pays.length ≤ 8) ∧ payL none s.pays = true ∧ holL none s.holds = true ∧ total s ≤ 1125899906842624 := by
  simp only [mayS, Bool.and_eq_true, decide_eq_true_eq] at h
  exact ⟨h.1.1.1, h.1.1.2, h.1.2, h.2⟩
theorem payL_am : ∀ {o : Option Int} {l : List Pay}, payL o l = true → ∀ p ∈ l, 10 ≤ p.am ∧ p.am ≤ 1125899906842624
  | _, [], _, p, hp => by simp at hp
  | o, q :: r, h, p, hp => by
    simp only [payL, Bool.and_eq_true] at h
    rcases List.mem_cons.1 hp with rfl | hp
    · exact mayP_am h.1.1
    · exact payL_am h.2 p hp
theorem holL_am : ∀ {o : Option Int} {l : List Hol}, holL o l = true → ∀ p ∈ l, 10 ≤ p.am ∧ p.am ≤ 1125899906842624
  | _, [], _, p, hp => by simp at hp
  | o, q :: r, h, p, hp => by
    simp only [holL, Bool.and_eq_true] at h
    rcases List.mem_cons.1 hp with rfl | hp
    · exact mayH_am h.1.1
    · exact holL_am h.2 p hp
def totS (s : Sta) : Int := if mayS s = true then total s else 0

set_option maxHeartbeats 1000000 in
theorem Total_ok (s : Sta) (hs : s.ok) : ECalls Tryz.prog 12 [SV s] [] fun y H' => H' = [] ∧ y = I .i64 (totS s) := by
  obtain ⟨ok1, ok2, ok3, ok4, ok5, ok6, ok7⟩ := id hs
  refine ecalls k_Total ?_
  simp [c_Total, SV, staC]
  refine call0 (Smay_ok s hs) (by simp [SV, staC]) ?_
  rintro y H' ⟨rfl, rfl⟩
  cases hm : mayS s
  · have ht : totS s = 0 := by simp [totS, hm]
    rw [ht]
    simp [EV.lit, I]
    exact fin [] (by decide) rfl rfl rfl ⟨rfl, rfl⟩
  have ht : totS s = total s := by simp [totS, hm]
  obtain ⟨hr, hp, hh, htot⟩ := mayS_t hm
  rw [ht]
  have w1 : IntKind.i64.wrap (s.h0 + s.h1) = s.h0 + s.h1 := wrap_i64 (by omega) (by omega)
  simp [EV.lit, w1]
  refine eloop (α := Nat × Int) (fun a => a.1 ≤ s.pays.length ∧ a.2 = s.h0 + s.h1 + sumP (s.pays.take a.1) ∧ 0 ≤ a.2 ∧ a.2 ≤ 2251799813685248 + (a.1 : Int) * 1125899906842624) (fun a => s.pays.length - a.1)
    (fun a => [.any, Ptr 0, .any, I .i64 a.2, .any, .any, .any, .any, .any, .any, .any, .any, .any, .any, .any, .any, .any, .any, .any, PL s.pays, I .i64 s.pays.length, I .i64 a.1, .any, .any, .any, .any, .any, .any, .any, .any, .any, .any, .any, .any, .any, .any, .any, .any, .any, .any, .any, .any, .any]) (fun a => [some (.box 33 (staC s))]) (0, s.h0 + s.h1) [0]
    ⟨by simp, by simp [sumP], by simp; omega, by simp; omega⟩ (by simp [Ptr, I, PL]) (by simp [staC]) (by simp) (by simp) (by simp) ?_
  rintro ⟨i, n⟩ ⟨hi1, hi3, hi4, hi5⟩
  simp [Ptr, I, PL, staC] at hi1 hi3 hi4 hi5 ⊢
  refine alt (fun hlt => ?_) (fun hlt => ?_)
  · obtain ⟨p, hc⟩ : ∃ p, s.pays[i]? = some p := ⟨s.pays[i], by simp [hlt]⟩
    have hl32 := (ok4 p (List.mem_of_getElem? hc)).2.2.2.2
    have ht : p.lock.take 32 = p.lock := List.take_of_length_le (by omega)
    have hcb := payv_get hc
    have ham := payL_am hp p (List.mem_of_getElem? hc)
    have w2 : IntKind.i64.wrap ((i : Int) + 1) = ((i + 1 : Nat) : Int) := wrap_i64 (by omega) (by omega)
    have w4 : IntKind.i64.wrap (n + p.am) = n + p.am := wrap_i64 (by omega) (by omega)
    simp [hcb, payF, hl32, ht, w2, w4, -Int.natCast_add]
    exact round (i + 1, n + p.am) [0] ⟨by omega, by rw [take_s hc, sumP_snoc]; omega, by simp; omega, by simp; omega⟩ (by simp; omega) (by simp) (by simp) (by simp) (by simp) (by simp)
  have hil : i = s.pays.length := by omega
  subst hil
  rw [List.take_length] at hi3
  simp
  refine eloop (α := Nat × Int) (fun a => a.1 ≤ s.holds.length ∧ a.2 = s.h0 + s.h1 + sumP s.pays + sumH (s.holds.take a.1) ∧ 0 ≤ a.2 ∧ a.2 ≤ 22517998136852480 + (a.1 : Int) * 1125899906842624) (fun a => s.holds.length - a.1)
    (fun a => [.any, .any, .any, I .i64 a.2, .any, .any, .any, .any, .any, .any, .any, .any, .any, .any, .any, .any, .any, .any, .any, .any, .any, .any, .any, .any, .any, .any, .any, .any, .any, .any, .any, HL s.holds, I .i64 s.holds.length, I .i64 a.1, .any, .any, .any, .any, .any, .any, .any, .any, .any]) (fun a => []) (0, n) []
    ⟨by simp, by simp [sumH]; omega, hi4, by simp; omega⟩ (by simp [Ptr, I, HL]) (by simp [staC]) (by simp) (by simp) (by simp) ?_
  clear hi1 hi3 hi4 hi5 hlt
  clear n
  rintro ⟨i, n⟩ ⟨hi1, hi3, hi4, hi5⟩
  simp [Ptr, I, HL, staC] at hi1 hi3 hi4 hi5 ⊢
  refine alt (fun hlt => ?_) (fun hlt => ?_)
  · obtain ⟨p, hc⟩ : ∃ p, s.holds[i]? = some p := ⟨s.holds[i], by simp [hlt]⟩
    have hcb := holv_get hc
    have ham := holL_am hh p (List.mem_of_getElem? hc)
    have w2 : IntKind.i64.wrap ((i : Int) + 1) = ((i + 1 : Nat) : Int) := wrap_i64 (by omega) (by omega)
    have w4 : IntKind.i64.wrap (n + p.am) = n + p.am := wrap_i64 (by omega) (by omega)
    simp [hcb, holF, w2, w4, -Int.natCast_add]
    exact round (i + 1, n + p.am) [] ⟨by omega, by rw [take_s hc, sumH_snoc]; omega, by simp; omega, by simp; omega⟩ (by simp; omega) (by simp) (by simp) (by simp) (by simp) (by simp)
  have hil : i = s.holds.length := by omega
  subst hil
  rw [List.take_length] at hi3
  simp
  exact fin [] (by decide) rfl rfl rfl ⟨rfl, by rw [hi3]; rfl⟩

theorem cloneP_ok (l : List Pay) (hl : l.length ≤ 100000000) : ECalls Tryz.prog 70 [PL l] [] fun y H' => H' = [some (.row 65 36 (payv l))] ∧ y = .v (.c (.row 0 l.length)) := by
  refine ecalls k_cloneP ?_
  simp [c_cloneP, PL]
  refine both (fun h => ?_) (fun _ => ?_)
  · simp
    refine finW _ (weak_nilR 2 65 36 rfl (by omega)) ?_
    have hn : l = [] := by cases l <;> simp_all
    subst hn
    exact fin [64] (by decide) rfl rfl rfl ⟨rfl, rfl⟩
  · simp
    exact ⟨by omega, fin [80] (by decide) rfl rfl rfl ⟨rfl, by simp⟩⟩

theorem cloneH_ok (l : List Hol) (hl : l.length ≤ 100000000) : ECalls Tryz.prog 71 [HL l] [] fun y H' => H' = [some (.row 66 3 (holv l))] ∧ y = .v (.c (.row 0 l.length)) := by
  refine ecalls k_cloneH ?_
  simp [c_cloneH, HL]
  refine both (fun h => ?_) (fun _ => ?_)
  · simp
    refine finW _ (weak_nilR 2 66 3 rfl (by omega)) ?_
    have hn : l = [] := by cases l <;> simp_all
    subst hn
    exact fin [64] (by decide) rfl rfl rfl ⟨rfl, rfl⟩
  · simp
    exact ⟨by omega, fin [80] (by decide) rfl rfl rfl ⟨rfl, by simp⟩⟩

theorem cloneI_ok (l : List Int) (hl : l.length ≤ 100000000) : ECalls Tryz.prog 72 [IL l] [] fun y H' => H' = [some (.row 3 1 (intv l))] ∧ y = .v (.c (.row 0 l.length)) := by
  refine ecalls k_cloneI ?_
  simp [c_cloneI, IL]
  refine both (fun h => ?_) (fun _ => ?_)
  · simp
    refine finW _ (weak_nilR 2 3 1 rfl (by omega)) ?_
    have hn : l = [] := by cases l <;> simp_all
    subst hn
    exact fin [64] (by decide) rfl rfl rfl ⟨rfl, rfl⟩
  · simp
    exact ⟨by omega, fin [80] (by decide) rfl rfl rfl ⟨rfl, by simp⟩⟩

end Go.Proofs.YtpohjnhlhfbnaaaGreatDoor
