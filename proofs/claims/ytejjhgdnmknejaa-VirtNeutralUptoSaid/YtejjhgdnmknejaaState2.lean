import Derived.Test.YtejjhgdnmknejaaState1
namespace Go.Proofs.Ytejjhgdnmknejaa
open Go Go.EW
set_option linter.unusedSimpArgs false
set_option linter.unusedVariables false

@[simp] def l_Smay_1 (_ : Unit) : List EOp := [⟨0, (some 1), none, (.q (.box 37 (.t 0))), []⟩, ⟨1, (some 2), none, (.q (.mov (.k (.bool false)))), []⟩]
@[simp] def b_Smay_2 (_ : Unit) : EB := reg0 (hid l_Smay_1) 2
@[simp] def l_Smay_9 (_ : Unit) : List EOp := [⟨36, (some 44), (some (36, false)), (.q (.bin .gtr (.t 39) (.t 43))), []⟩, ⟨37, (some 45), none, (.q (.pick (.t 36) (.k (.bool true)) (.t 44))), []⟩]
@[simp] def l_Smay_8 (_ : Unit) : List EOp := ⟨30, (some 38), (some (36, false)), (.q (.ldc (.t 37))), []⟩ :: ⟨31, (some 39), (some (36, false)), (.q (.len (.t 38))), []⟩ :: ⟨32, (some 40), (some (36, false)), (.q (.fad 3 (.t 1))), []⟩ :: ⟨33, (some 41), (some (36, false)), (.q (.ldc (.t 40))), []⟩ :: ⟨34, (some 42), (some (36, false)), (.q (.len (.t 41))), []⟩ :: ⟨35, (some 43), (some (36, false)), (.q (.bin .sub (.k (.int .i64 8)) (.t 42))), []⟩ :: hid l_Smay_9
@[simp] def l_Smay_7 (_ : Unit) : List EOp := ⟨24, (some 32), (some (30, false)), (.q (.ldc (.t 31))), []⟩ :: ⟨25, (some 33), (some (30, false)), (.q (.len (.t 32))), []⟩ :: ⟨26, (some 34), (some (30, false)), (.q (.bin .gtr (.t 33) (.k (.int .i64 8)))), []⟩ :: ⟨27, (some 35), none, (.q (.pick (.t 30) (.k (.bool true)) (.t 34))), []⟩ :: ⟨28, (some 36), none, (.q (.mov (.t 35))), []⟩ :: ⟨29, (some 37), (some (36, false)), (.q (.fad 4 (.t 1))), []⟩ :: hid l_Smay_8
@[simp] def l_Smay_6 (_ : Unit) : List EOp := ⟨18, (some 26), (some (23, false)), (.q (.ldc (.t 25))), []⟩ :: ⟨19, (some 27), (some (23, false)), (.call 33 [(.t 26), (.k (.int .i64 0))]), []⟩ :: ⟨20, (some 28), (some (23, false)), (.q (.un .not (.t 27))), []⟩ :: ⟨21, (some 29), none, (.q (.pick (.t 23) (.k (.bool true)) (.t 28))), []⟩ :: ⟨22, (some 30), none, (.q (.mov (.t 29))), []⟩ :: ⟨23, (some 31), (some (30, false)), (.q (.fad 3 (.t 1))), []⟩ :: hid l_Smay_7
@[simp] def l_Smay_5 (_ : Unit) : List EOp := ⟨12, (some 20), (some (16, false)), (.call 33 [(.t 19), (.k (.int .i64 0))]), []⟩ :: ⟨13, (some 21), (some (16, false)), (.q (.un .not (.t 20))), []⟩ :: ⟨14, (some 22), none, (.q (.pick (.t 16) (.k (.bool true)) (.t 21))), []⟩ :: ⟨15, (some 23), none, (.q (.mov (.t 22))), []⟩ :: ⟨16, (some 24), (some (23, false)), (.q (.fad 1 (.t 1))), []⟩ :: ⟨17, (some 25), (some (23, false)), (.q (.iad 2 1 (.t 24) (.k (.int .i64 1)))), []⟩ :: hid l_Smay_6
@[simp] def l_Smay_4 (_ : Unit) : List EOp := ⟨6, (some 14), (some (11, false)), (.q (.bin .gtr (.t 13) (.k (.int .i64 1099511627776)))), []⟩ :: ⟨7, (some 15), none, (.q (.pick (.t 11) (.k (.bool true)) (.t 14))), []⟩ :: ⟨8, (some 16), none, (.q (.mov (.t 15))), []⟩ :: ⟨9, (some 17), (some (16, false)), (.q (.fad 1 (.t 1))), []⟩ :: ⟨10, (some 18), (some (16, false)), (.q (.iad 2 1 (.t 17) (.k (.int .i64 0)))), []⟩ :: ⟨11, (some 19), (some (16, false)), (.q (.ldc (.t 18))), []⟩ :: hid l_Smay_5
@[simp] def l_Smay_3 (_ : Unit) : List EOp := ⟨0, (some 8), none, (.q (.fad 0 (.t 1))), []⟩ :: ⟨1, (some 9), none, (.q (.ldc (.t 8))), []⟩ :: ⟨2, (some 10), none, (.q (.bin .lss (.t 9) (.k (.int .i64 0)))), []⟩ :: ⟨3, (some 11), none, (.q (.mov (.t 10))), []⟩ :: ⟨4, (some 12), (some (11, false)), (.q (.fad 0 (.t 1))), []⟩ :: ⟨5, (some 13), (some (11, false)), (.q (.ldc (.t 12))), []⟩ :: hid l_Smay_4
@[simp] def b_Smay_10 (_ : Unit) : EB := reg0 (hid l_Smay_3) 38
@[simp] def l_Smay_11 (_ : Unit) : List EOp := [⟨0, (some 2), none, (.q (.mov (.k (.bool false)))), []⟩]
@[simp] def b_Smay_12 (_ : Unit) : EB := reg0 (hid l_Smay_11) 1
@[simp] def b_Smay_13 (_ : Unit) : EB := .seq (hid b_Smay_12) .ret
@[simp] def b_Smay_14 (_ : Unit) : EB := .cond (.t 45) (hid b_Smay_13) .skip
@[simp] def b_Smay_15 (_ : Unit) : EB := .seq (hid b_Smay_10) (hid b_Smay_14)
@[simp] def l_Smay_17 (_ : Unit) : List EOp := [⟨6, (some 52), none, (.q (.bin .add (.t 48) (.t 51))), []⟩, ⟨7, (some 3), none, (.q (.mov (.t 52))), []⟩]
@[simp] def l_Smay_16 (_ : Unit) : List EOp := ⟨0, (some 46), none, (.q (.fad 1 (.t 1))), []⟩ :: ⟨1, (some 47), none, (.q (.iad 2 1 (.t 46) (.k (.int .i64 0)))), []⟩ :: ⟨2, (some 48), none, (.q (.ldc (.t 47))), []⟩ :: ⟨3, (some 49), none, (.q (.fad 1 (.t 1))), []⟩ :: ⟨4, (some 50), none, (.q (.iad 2 1 (.t 49) (.k (.int .i64 1)))), []⟩ :: ⟨5, (some 51), none, (.q (.ldc (.t 50))), []⟩ :: hid l_Smay_17
@[simp] def b_Smay_18 (_ : Unit) : EB := reg0 (hid l_Smay_16) 8
@[simp] def l_Smay_19 (_ : Unit) : List EOp := [⟨0, (some 53), none, (.q (.fad 3 (.t 1))), []⟩, ⟨1, (some 54), none, (.q (.ldc (.t 53))), []⟩, ⟨2, (some 55), none, (.q (.len (.t 54))), []⟩, ⟨3, (some 56), none, (.q (.mov (.k (.int .i64 0)))), []⟩]
@[simp] def b_Smay_20 (_ : Unit) : EB := reg0 (hid l_Smay_19) 4
@[simp] def l_Smay_21 (_ : Unit) : List EOp := [⟨0, (some 57), none, (.q (.bin .lss (.t 56) (.t 55))), []⟩]
@[simp] def b_Smay_22 (_ : Unit) : EB := reg0 (hid l_Smay_21) 1
@[simp] def b_Smay_23 (_ : Unit) : EB := .cond (.t 57) .skip (.exit 0)
@[simp] def l_Smay_24 (_ : Unit) : List EOp := [⟨0, (some 58), none, (.q (.mov (.t 56))), []⟩, ⟨1, (some 59), none, (.q (.isl 36 (.t 54) (.t 56))), []⟩, ⟨2, (some 60), none, (.q (.lda 36 (.t 59))), []⟩, ⟨3, (some 5), none, (.q (.alloc 63 (([(.int .i64 0), (.int .i64 0), (.int .i64 0), (.int .i64 0)] : List Value) ++ zU8))), []⟩, ⟨4, (some 4), none, (.q (.mov (.t 58))), []⟩, ⟨5, none, none, (.sto 36 (.t 5) (.t 60)), []⟩]
@[simp] def b_Smay_25 (_ : Unit) : EB := reg0 (hid l_Smay_24) 6
@[simp] def l_Smay_29 (_ : Unit) : List EOp := [⟨18, (some 79), none, (.q (.pick (.t 64) (.k (.bool true)) (.t 78))), []⟩]
@[simp] def l_Smay_28 (_ : Unit) : List EOp := ⟨12, (some 73), (some (67, true)), (.q (.fad 0 (.t 72))), []⟩ :: ⟨13, (some 74), (some (67, true)), (.q (.ldc (.t 73))), []⟩ :: ⟨14, (some 75), (some (67, true)), (.q (.fad 0 (.t 5))), []⟩ :: ⟨15, (some 76), (some (67, true)), (.q (.ldc (.t 75))), []⟩ :: ⟨16, (some 77), (some (67, true)), (.q (.bin .geq (.t 74) (.t 76))), []⟩ :: ⟨17, (some 78), (some (64, false)), (.q (.pick (.t 67) (.t 77) (.k (.bool false)))), []⟩ :: hid l_Smay_29
@[simp] def l_Smay_27 (_ : Unit) : List EOp := ⟨6, (some 67), (some (64, false)), (.q (.mov (.t 66))), []⟩ :: ⟨7, (some 68), (some (67, true)), (.q (.fad 3 (.t 1))), []⟩ :: ⟨8, (some 69), (some (67, true)), (.q (.ldc (.t 68))), []⟩ :: ⟨9, (some 70), (some (67, true)), (.q (.mov (.t 4))), []⟩ :: ⟨10, (some 71), (some (67, true)), (.q (.bin .sub (.t 70) (.k (.int .i64 1)))), []⟩ :: ⟨11, (some 72), (some (67, true)), (.q (.isl 36 (.t 69) (.t 71))), []⟩ :: hid l_Smay_28
@[simp] def l_Smay_26 (_ : Unit) : List EOp := ⟨0, (some 61), none, (.q (.lda 36 (.t 5))), []⟩ :: ⟨1, (some 62), none, (.call 34 [(.t 61)]), []⟩ :: ⟨2, (some 63), none, (.q (.un .not (.t 62))), []⟩ :: ⟨3, (some 64), none, (.q (.mov (.t 63))), []⟩ :: ⟨4, (some 65), (some (64, false)), (.q (.mov (.t 4))), []⟩ :: ⟨5, (some 66), (some (64, false)), (.q (.bin .gtr (.t 65) (.k (.int .i64 0)))), []⟩ :: hid l_Smay_27
@[simp] def b_Smay_30 (_ : Unit) : EB := reg0 (hid l_Smay_26) 19
@[simp] def l_Smay_31 (_ : Unit) : List EOp := [⟨0, (some 2), none, (.q (.mov (.k (.bool false)))), []⟩]
@[simp] def b_Smay_32 (_ : Unit) : EB := reg0 (hid l_Smay_31) 1
@[simp] def b_Smay_33 (_ : Unit) : EB := .seq (hid b_Smay_32) .ret
@[simp] def b_Smay_34 (_ : Unit) : EB := .cond (.t 79) (hid b_Smay_33) .skip
@[simp] def b_Smay_35 (_ : Unit) : EB := .seq (hid b_Smay_30) (hid b_Smay_34)
@[simp] def l_Smay_36 (_ : Unit) : List EOp := [⟨0, (some 80), none, (.q (.mov (.t 3))), []⟩, ⟨1, (some 81), none, (.q (.fad 2 (.t 5))), []⟩, ⟨2, (some 82), none, (.q (.ldc (.t 81))), []⟩, ⟨3, (some 83), none, (.q (.bin .add (.t 80) (.t 82))), []⟩, ⟨4, (some 3), none, (.q (.mov (.t 83))), []⟩]
@[simp] def b_Smay_37 (_ : Unit) : EB := reg0 (hid l_Smay_36) 5
@[simp] def b_Smay_38 (_ : Unit) : EB := .seq (hid b_Smay_35) (hid b_Smay_37)
@[simp] def b_Smay_39 (_ : Unit) : EB := .seq (hid b_Smay_25) (hid b_Smay_38)
@[simp] def b_Smay_40 (_ : Unit) : EB := .block 1 (hid b_Smay_39)
@[simp] def l_Smay_41 (_ : Unit) : List EOp := [⟨0, (some 84), none, (.q (.bin .add (.t 56) (.k (.int .i64 1)))), []⟩, ⟨1, (some 56), none, (.q (.mov (.t 84))), []⟩]
@[simp] def b_Smay_42 (_ : Unit) : EB := reg0 (hid l_Smay_41) 2
@[simp] def b_Smay_43 (_ : Unit) : EB := .seq (hid b_Smay_40) (hid b_Smay_42)
@[simp] def b_Smay_44 (_ : Unit) : EB := .seq (hid b_Smay_23) (hid b_Smay_43)
@[simp] def b_Smay_45 (_ : Unit) : EB := .seq (hid b_Smay_22) (hid b_Smay_44)
@[simp] def b_Smay_46 (_ : Unit) : EB := .loop (hid b_Smay_45)
@[simp] def b_Smay_47 (_ : Unit) : EB := .block 0 (hid b_Smay_46)
@[simp] def b_Smay_48 (_ : Unit) : EB := .seq (hid b_Smay_20) (hid b_Smay_47)
@[simp] def l_Smay_49 (_ : Unit) : List EOp := [⟨0, (some 85), none, (.q (.fad 4 (.t 1))), []⟩, ⟨1, (some 86), none, (.q (.ldc (.t 85))), []⟩, ⟨2, (some 87), none, (.q (.len (.t 86))), []⟩, ⟨3, (some 88), none, (.q (.mov (.k (.int .i64 0)))), []⟩]
@[simp] def b_Smay_50 (_ : Unit) : EB := reg0 (hid l_Smay_49) 4
@[simp] def l_Smay_51 (_ : Unit) : List EOp := [⟨0, (some 89), none, (.q (.bin .lss (.t 88) (.t 87))), []⟩]
@[simp] def b_Smay_52 (_ : Unit) : EB := reg0 (hid l_Smay_51) 1
@[simp] def b_Smay_53 (_ : Unit) : EB := .cond (.t 89) .skip (.exit 2)
@[simp] def l_Smay_54 (_ : Unit) : List EOp := [⟨0, (some 90), none, (.q (.mov (.t 88))), []⟩, ⟨1, (some 91), none, (.q (.isl 3 (.t 86) (.t 88))), []⟩, ⟨2, (some 92), none, (.q (.lda 3 (.t 91))), []⟩, ⟨3, (some 7), none, (.q (.alloc 57 [(.int .i64 0), (.int .i64 0), (.slice none 0 0)])), []⟩, ⟨4, (some 6), none, (.q (.mov (.t 90))), []⟩, ⟨5, none, none, (.fz (.sto 3 (.t 7) (.t 92))), []⟩]
@[simp] def b_Smay_55 (_ : Unit) : EB := reg0 (hid l_Smay_54) 6
@[simp] def l_Smay_59 (_ : Unit) : List EOp := [⟨18, (some 111), none, (.q (.pick (.t 96) (.k (.bool true)) (.t 110))), []⟩]
@[simp] def l_Smay_58 (_ : Unit) : List EOp := ⟨12, (some 105), (some (99, true)), (.q (.fad 0 (.t 104))), []⟩ :: ⟨13, (some 106), (some (99, true)), (.q (.ldc (.t 105))), []⟩ :: ⟨14, (some 107), (some (99, true)), (.q (.fad 0 (.t 7))), []⟩ :: ⟨15, (some 108), (some (99, true)), (.q (.ldc (.t 107))), []⟩ :: ⟨16, (some 109), (some (99, true)), (.q (.bin .geq (.t 106) (.t 108))), []⟩ :: ⟨17, (some 110), (some (96, false)), (.q (.pick (.t 99) (.t 109) (.k (.bool false)))), []⟩ :: hid l_Smay_59
@[simp] def l_Smay_57 (_ : Unit) : List EOp := ⟨6, (some 99), (some (96, false)), (.q (.mov (.t 98))), []⟩ :: ⟨7, (some 100), (some (99, true)), (.q (.fad 4 (.t 1))), []⟩ :: ⟨8, (some 101), (some (99, true)), (.q (.ldc (.t 100))), []⟩ :: ⟨9, (some 102), (some (99, true)), (.q (.mov (.t 6))), []⟩ :: ⟨10, (some 103), (some (99, true)), (.q (.bin .sub (.t 102) (.k (.int .i64 1)))), []⟩ :: ⟨11, (some 104), (some (99, true)), (.q (.isl 3 (.t 101) (.t 103))), []⟩ :: hid l_Smay_58
@[simp] def l_Smay_56 (_ : Unit) : List EOp := ⟨0, (some 93), none, (.q (.lda 3 (.t 7))), []⟩ :: ⟨1, (some 94), none, (.call 24 [(.t 93)]), []⟩ :: ⟨2, (some 95), none, (.q (.un .not (.t 94))), []⟩ :: ⟨3, (some 96), none, (.q (.mov (.t 95))), []⟩ :: ⟨4, (some 97), (some (96, false)), (.q (.mov (.t 6))), []⟩ :: ⟨5, (some 98), (some (96, false)), (.q (.bin .gtr (.t 97) (.k (.int .i64 0)))), []⟩ :: hid l_Smay_57
@[simp] def b_Smay_60 (_ : Unit) : EB := reg0 (hid l_Smay_56) 19
@[simp] def l_Smay_61 (_ : Unit) : List EOp := [⟨0, (some 2), none, (.q (.mov (.k (.bool false)))), []⟩]
@[simp] def b_Smay_62 (_ : Unit) : EB := reg0 (hid l_Smay_61) 1
@[simp] def b_Smay_63 (_ : Unit) : EB := .seq (hid b_Smay_62) .ret
@[simp] def b_Smay_64 (_ : Unit) : EB := .cond (.t 111) (hid b_Smay_63) .skip
@[simp] def b_Smay_65 (_ : Unit) : EB := .seq (hid b_Smay_60) (hid b_Smay_64)
@[simp] def l_Smay_66 (_ : Unit) : List EOp := [⟨0, (some 112), none, (.q (.mov (.t 3))), []⟩, ⟨1, (some 113), none, (.q (.fad 1 (.t 7))), []⟩, ⟨2, (some 114), none, (.q (.ldc (.t 113))), []⟩, ⟨3, (some 115), none, (.q (.bin .add (.t 112) (.t 114))), []⟩, ⟨4, (some 3), none, (.q (.mov (.t 115))), []⟩]
@[simp] def b_Smay_67 (_ : Unit) : EB := reg0 (hid l_Smay_66) 5
@[simp] def b_Smay_68 (_ : Unit) : EB := .seq (hid b_Smay_65) (hid b_Smay_67)
@[simp] def b_Smay_69 (_ : Unit) : EB := .seq (hid b_Smay_55) (hid b_Smay_68)
@[simp] def b_Smay_70 (_ : Unit) : EB := .block 3 (hid b_Smay_69)
@[simp] def l_Smay_71 (_ : Unit) : List EOp := [⟨0, (some 116), none, (.q (.bin .add (.t 88) (.k (.int .i64 1)))), []⟩, ⟨1, (some 88), none, (.q (.mov (.t 116))), []⟩]
@[simp] def b_Smay_72 (_ : Unit) : EB := reg0 (hid l_Smay_71) 2
@[simp] def b_Smay_73 (_ : Unit) : EB := .seq (hid b_Smay_70) (hid b_Smay_72)
@[simp] def b_Smay_74 (_ : Unit) : EB := .seq (hid b_Smay_53) (hid b_Smay_73)
@[simp] def b_Smay_75 (_ : Unit) : EB := .seq (hid b_Smay_52) (hid b_Smay_74)
@[simp] def b_Smay_76 (_ : Unit) : EB := .loop (hid b_Smay_75)
@[simp] def b_Smay_77 (_ : Unit) : EB := .block 2 (hid b_Smay_76)
@[simp] def b_Smay_78 (_ : Unit) : EB := .seq (hid b_Smay_50) (hid b_Smay_77)
@[simp] def l_Smay_79 (_ : Unit) : List EOp := [⟨0, (some 117), none, (.q (.mov (.t 3))), []⟩, ⟨1, (some 118), none, (.q (.bin .leq (.t 117) (.k (.int .i64 1125899906842624)))), []⟩, ⟨2, (some 2), none, (.q (.mov (.t 118))), []⟩]
@[simp] def b_Smay_80 (_ : Unit) : EB := reg0 (hid l_Smay_79) 3
@[simp] def b_Smay_81 (_ : Unit) : EB := .seq (hid b_Smay_80) .ret
@[simp] def b_Smay_82 (_ : Unit) : EB := .seq (hid b_Smay_78) (hid b_Smay_81)
@[simp] def b_Smay_83 (_ : Unit) : EB := .seq (hid b_Smay_48) (hid b_Smay_82)
@[simp] def b_Smay_84 (_ : Unit) : EB := .seq (hid b_Smay_18) (hid b_Smay_83)
@[simp] def b_Smay_85 (_ : Unit) : EB := .seq (hid b_Smay_15) (hid b_Smay_84)
@[simp] def b_Smay_86 (_ : Unit) : EB := .seq (hid b_Smay_2) (hid b_Smay_85)
def c_Smay : EB × List QOp × Nat := ((hid b_Smay_86), [(.mov (.t 2))], 119)
theorem k_Smay : cfun Try.prog 16 = some c_Smay := by kernel_rfl


theorem mayS_f {s : Sta} (q : ¬ (0 ≤ s.num ∧ s.num ≤ 1099511627776 ∧ 0 ≤ s.h0 ∧ s.h0 ≤ 1125899906842624 ∧ 0 ≤ s.h1 ∧ s.h1 ≤ 1125899906842624 ∧ s.pays.length ≤ 8 ∧ s.holds.length + s.pays.length ≤ 8)) : mayS s = false := by simp only [mayS, decide_eq_false q, Bool.false_and]
theorem mayS_p {s : Sta} (q : payL none s.pays = false) : mayS s = false := by simp only [mayS, q, Bool.and_false, Bool.false_and]
theorem mayS_h {s : Sta} (q : holL none s.holds = false) : mayS s = false := by simp only [mayS, q, Bool.and_false, Bool.false_and]
def prevP (l : List Pay) (i : Nat) : Option Int := if i = 0 then none else (l[i - 1]?).map (·.id)
def prevH (l : List Hol) (i : Nat) : Option Int := if i = 0 then none else (l[i - 1]?).map (·.id)
def PL (l : List Pay) : EV := .v (.c (.fz (.sl 36 (payv l))))
def HL (l : List Hol) : EV := .v (.c (.fz (.sl 3 (holv l))))
theorem sumP_snoc (l : List Pay) (p : Pay) : sumP (l ++ [p]) = sumP l + p.am := by simp [sumP]
theorem sumH_snoc (l : List Hol) (p : Hol) : sumH (l ++ [p]) = sumH l + p.am := by simp [sumH]
theorem take_s {α : Type} {l : List α} {i : Nat} {c : α} (h : l[i]? = some c) : l.take (i + 1) = l.take i ++ [c] := by rw [List.take_add_one, h]; rfl
theorem mayP_am {p : Pay} (h : mayP p = true) : 10 ≤ p.am ∧ p.am ≤ 1125899906842624 := by
  have := of_decide_eq_true h
  omega
theorem mayH_am {p : Hol} (h : mayH p = true) : 10 ≤ p.am ∧ p.am ≤ 1125899906842624 := by
  simp only [mayH, Bool.and_eq_true, decide_eq_true_eq] at h
  omega
theorem holF_fz (h : Hol) : (holF h).map EC.fz = holC h := rfl
theorem holC_take (h : Hol) : (holC h).take 3 = holC h := rfl

set_option maxHeartbeats 2000000 in
theorem Smay_ok (s : Sta) (hs : s.ok) : ECalls Try.prog 16 [SV s] [] fun y H' => H' = [] ∧ y = .lit (.bool (mayS s)) := by
  obtain ⟨ok1, ok2, ok3, ok4, ok5, ok6, ok7⟩ := hs
  refine ecalls k_Smay ?_
  simp [c_Smay, SV, staC]
  refine alt (fun a1 => ?_) (fun a1 => ?_)
  rotate_left
  · (first | simp [I, EV.lit, a1, Int.not_le.2 a1] | simp [I, EV.lit, a1, Int.not_lt.2 a1] | simp [I, EV.lit, a1, Int.not_lt.1 a1] | simp [I, EV.lit, a1, Int.not_le.1 a1] | simp [I, EV.lit, a1])
    exact fin [] (by decide) rfl rfl rfl ⟨rfl, by rw [mayS_f (by omega)]⟩
  (first | simp [I, EV.lit, a1, Int.not_le.2 a1] | simp [I, EV.lit, a1, Int.not_lt.2 a1] | simp [I, EV.lit, a1, Int.not_lt.1 a1] | simp [I, EV.lit, a1, Int.not_le.1 a1] | simp [I, EV.lit, a1])
  refine alt (fun a2 => ?_) (fun a2 => ?_)
  rotate_left
  · (first | simp [I, EV.lit, a2, Int.not_le.2 a2] | simp [I, EV.lit, a2, Int.not_lt.2 a2] | simp [I, EV.lit, a2, Int.not_lt.1 a2] | simp [I, EV.lit, a2, Int.not_le.1 a2] | simp [I, EV.lit, a2])
    exact fin [] (by decide) rfl rfl rfl ⟨rfl, by rw [mayS_f (by omega)]⟩
  (first | simp [I, EV.lit, a2, Int.not_le.2 a2] | simp [I, EV.lit, a2, Int.not_lt.2 a2] | simp [I, EV.lit, a2, Int.not_lt.1 a2] | simp [I, EV.lit, a2, Int.not_le.1 a2] | simp [I, EV.lit, a2])
  refine call0 (amount_ok s.h0 0) (by simp [I, EV.lit]) ?_
  rintro y H' ⟨rfl, rfl⟩
  refine ⟨.inl (by simp [I, EV.lit]), le_ok rfl, ?_⟩
  cases hb3 : decide (0 ≤ s.h0 ∧ s.h0 ≤ 1125899906842624)
  · have a3 := of_decide_eq_false hb3
    simp [EV.lit]
    exact fin [] (by decide) rfl rfl rfl ⟨rfl, by rw [mayS_f (by omega)]⟩
  have a3 := of_decide_eq_true hb3
  simp [EV.lit]
  refine call0 (amount_ok s.h1 0) (by simp [I, EV.lit]) ?_
  rintro y H' ⟨rfl, rfl⟩
  refine ⟨.inl (by simp [I, EV.lit]), le_ok rfl, ?_⟩
  cases hb4 : decide (0 ≤ s.h1 ∧ s.h1 ≤ 1125899906842624)
  · have a4 := of_decide_eq_false hb4
    simp [EV.lit]
    exact fin [] (by decide) rfl rfl rfl ⟨rfl, by rw [mayS_f (by omega)]⟩
  have a4 := of_decide_eq_true hb4
  simp [EV.lit]
  refine alt (fun a5 => ?_) (fun a5 => ?_)
  rotate_left
  · (first | simp [I, EV.lit, a5, Int.not_le.2 a5] | simp [I, EV.lit, a5, Int.not_lt.2 a5] | simp [I, EV.lit, a5, Int.not_lt.1 a5] | simp [I, EV.lit, a5, Int.not_le.1 a5] | simp [I, EV.lit, a5])
    exact fin [] (by decide) rfl rfl rfl ⟨rfl, by rw [mayS_f (by omega)]⟩
  (first | simp [I, EV.lit, a5, Int.not_le.2 a5] | simp [I, EV.lit, a5, Int.not_lt.2 a5] | simp [I, EV.lit, a5, Int.not_lt.1 a5] | simp [I, EV.lit, a5, Int.not_le.1 a5] | simp [I, EV.lit, a5])
  have w0 : IntKind.i64.wrap (8 - (s.pays.length : Int)) = 8 - (s.pays.length : Int) := wrap_i64 (by omega) (by omega)
  have w1 : IntKind.i64.wrap (s.h0 + s.h1) = s.h0 + s.h1 := wrap_i64 (by omega) (by omega)
  rw [w0]
  refine alt (fun a6 => ?_) (fun a6 => ?_)
  · simp
    exact fin [] (by decide) rfl rfl rfl ⟨rfl, by rw [mayS_f (by omega)]⟩
  simp [w1]
  refine eloop (α := Nat × Int) (fun a => a.1 ≤ s.pays.length ∧ payL none s.pays = payL (prevP s.pays a.1) (s.pays.drop a.1) ∧ a.2 = s.h0 + s.h1 + sumP (s.pays.take a.1) ∧ 0 ≤ a.2 ∧ a.2 ≤ 2251799813685248 + (a.1 : Int) * 1125899906842624) (fun a => s.pays.length - a.1)
    (fun a => [.any, Ptr 0, .any, I .i64 a.2, .any, .any, .any, .any, .any, .any, .any, .any, .any, .any, .any, .any, .any, .any, .any, .any, .any, .any, .any, .any, .any, .any, .any, .any, .any, .any, .any, .any, .any, .any, .any, .any, .any, .any, .any, .any, .any, .any, .any, .any, .any, .any, .any, .any, .any, .any, .any, .any, .any, .any, PL s.pays, I .i64 s.pays.length, I .i64 a.1, .any, .any, .any, .any, .any, .any, .any, .any, .any, .any, .any, .any, .any, .any, .any, .any, .any, .any, .any, .any, .any, .any, .any, .any, .any, .any, .any, .any, .any, .any, .any, .any, .any, .any, .any, .any, .any, .any, .any, .any, .any, .any, .any, .any, .any, .any, .any, .any, .any, .any, .any, .any, .any, .any, .any, .any, .any, .any, .any, .any, .any, .any]) (fun a => [some (.box 37 (staC s))]) (0, s.h0 + s.h1) [0]
    ⟨by simp, by simp [prevP], by simp [sumP], by simp; omega, by simp; omega⟩ (by simp [Ptr, I, PL]) (by simp [staC]) (by simp) (by simp) (by simp) ?_
  rintro ⟨i, n⟩ ⟨hi1, hi2, hi3, hi4, hi5⟩
  simp [Ptr, I, PL, staC] at hi1 hi2 hi3 hi4 hi5 ⊢
  refine alt (fun hlt => ?_) (fun hlt => ?_)
  · obtain ⟨p, hc⟩ : ∃ p, s.pays[i]? = some p := ⟨s.pays[i], by simp [hlt]⟩
    have hpo := ok4 p (List.mem_of_getElem? hc)
    have hl32 := hpo.2.2.2.2
    have ht : p.lock.take 32 = p.lock := List.take_of_length_le (by omega)
    have hcb := payv_get hc
    rw [drop_cons hc] at hi2
    have w2 : IntKind.i64.wrap ((i : Int) + 1) = ((i + 1 : Nat) : Int) := wrap_i64 (by omega) (by omega)
    have w3 : IntKind.i64.wrap ((i : Int) - 1) = (i : Int) - 1 := wrap_i64 (by omega) (by omega)
    simp [hcb, payF, hl32, ht]
    refine call0 (Pmay_ok p hl32) (by simp [payC]) ?_
    rintro y H' ⟨rfl, rfl⟩
    refine ⟨.inl (by simp), le_ok rfl, ?_⟩
    cases hm : mayP p
    · simp [EV.lit]
      exact fin [] (by decide) rfl rfl rfl ⟨rfl, by rw [mayS_p (by rw [hi2, payL, hm]; simp)]⟩
    have ham := mayP_am hm
    have w4 : IntKind.i64.wrap (n + p.am) = n + p.am := wrap_i64 (by omega) (by omega)
    have hnx : ∀ (q : aft (prevP s.pays i) p.id = true), payL none s.pays = payL (prevP s.pays (i + 1)) (s.pays.drop (i + 1)) := by
      intro q
      rw [hi2, payL, hm, q]
      simp [prevP, hc]
    have hsum : n + p.am = s.h0 + s.h1 + sumP (s.pays.take (i + 1)) := by rw [take_s hc, sumP_snoc]; omega
    simp [EV.lit]
    refine alt (fun h0 => ?_) (fun h0 => ?_)
    · obtain ⟨q, hq⟩ : ∃ q, s.pays[i - 1]? = some q := ⟨s.pays[i - 1]'(by omega), by simp⟩
      have hqb := payv_get hq
      have hti : ((i : Int) - 1).toNat = i - 1 := by omega
      have hpv : prevP s.pays i = some q.id := by simp [prevP, hq, show i ≠ 0 by omega]
      have h1 : (1 : Int) ≤ (i : Int) := by omega
      simp [h0, w3, hqb, hti, payF, h1]
      refine alt (fun c1 => ?_) (fun c1 => ?_)
      · simp
        exact fin [] (by decide) rfl rfl rfl ⟨rfl, by rw [mayS_p (by rw [hi2, payL, hm, hpv]; simp [aft, decide_eq_false (show ¬ q.id < p.id by omega)])]⟩
      simp [w2, w4, -Int.natCast_add]
      exact round (i + 1, n + p.am) [0] ⟨by omega, hnx (by rw [hpv]; exact decide_eq_true (by omega)), hsum, by simp; omega, by simp; omega⟩ (by simp; omega) (by simp) (by simp) (by simp) (by simp) (by simp)
    · have hi0 : i = 0 := by omega
      subst hi0
      simp [w4, IntKind.wrap_i64]
      exact round (1, n + p.am) [0] ⟨by omega, hnx (by simp [prevP, aft]), hsum, by simp; omega, by simp; omega⟩ (by simp; omega) (by simp) (by simp) (by simp) (by simp) (by simp)
  have hil : i = s.pays.length := by omega
  subst hil
  have hps : payL none s.pays = true := by rw [hi2]; simp [payL]
  rw [List.take_length] at hi3
  simp
  refine eloop (α := Nat × Int) (fun a => a.1 ≤ s.holds.length ∧ holL none s.holds = holL (prevH s.holds a.1) (s.holds.drop a.1) ∧ a.2 = s.h0 + s.h1 + sumP s.pays + sumH (s.holds.take a.1) ∧ 0 ≤ a.2 ∧ a.2 ≤ 22517998136852480 + (a.1 : Int) * 1125899906842624) (fun a => s.holds.length - a.1)
    (fun a => [.any, Ptr 0, .any, I .i64 a.2, .any, .any, .any, .any, .any, .any, .any, .any, .any, .any, .any, .any, .any, .any, .any, .any, .any, .any, .any, .any, .any, .any, .any, .any, .any, .any, .any, .any, .any, .any, .any, .any, .any, .any, .any, .any, .any, .any, .any, .any, .any, .any, .any, .any, .any, .any, .any, .any, .any, .any, .any, .any, .any, .any, .any, .any, .any, .any, .any, .any, .any, .any, .any, .any, .any, .any, .any, .any, .any, .any, .any, .any, .any, .any, .any, .any, .any, .any, .any, .any, .any, .any, HL s.holds, I .i64 s.holds.length, I .i64 a.1, .any, .any, .any, .any, .any, .any, .any, .any, .any, .any, .any, .any, .any, .any, .any, .any, .any, .any, .any, .any, .any, .any, .any, .any, .any, .any, .any, .any, .any, .any]) (fun a => [some (.box 37 (staC s))]) (0, n) [0]
    ⟨by simp, by simp [prevH], by simp [sumH]; omega, hi4, by simp; omega⟩ (by simp [Ptr, I, HL]) (by simp [staC]) (by simp) (by simp) (by simp) ?_
  clear hi1 hi2 hi3 hi4 hi5 hlt
  clear n
  rintro ⟨i, n⟩ ⟨hi1, hi2, hi3, hi4, hi5⟩
  simp [Ptr, I, HL, staC] at hi1 hi2 hi3 hi4 hi5 ⊢
  refine alt (fun hlt => ?_) (fun hlt => ?_)
  · obtain ⟨p, hc⟩ : ∃ p, s.holds[i]? = some p := ⟨s.holds[i], by simp [hlt]⟩
    have hpo := ok5 p (List.mem_of_getElem? hc)
    have hcb := holv_get hc
    rw [drop_cons hc] at hi2
    have w2 : IntKind.i64.wrap ((i : Int) + 1) = ((i + 1 : Nat) : Int) := wrap_i64 (by omega) (by omega)
    have w3 : IntKind.i64.wrap ((i : Int) - 1) = (i : Int) - 1 := wrap_i64 (by omega) (by omega)
    simp [hcb, holF]
    refine call0 (Hmay_ok p hpo.2.2.2) (by simp [holC]) ?_
    rintro y H' ⟨rfl, rfl⟩
    refine ⟨.inl (by simp), le_ok rfl, ?_⟩
    cases hm : mayH p
    · simp [EV.lit]
      exact fin [] (by decide) rfl rfl rfl ⟨rfl, by rw [mayS_h (by rw [hi2, holL, hm]; simp)]⟩
    have ham := mayH_am hm
    have w4 : IntKind.i64.wrap (n + p.am) = n + p.am := wrap_i64 (by omega) (by omega)
    have hnx : ∀ (q : aft (prevH s.holds i) p.id = true), holL none s.holds = holL (prevH s.holds (i + 1)) (s.holds.drop (i + 1)) := by
      intro q
      rw [hi2, holL, hm, q]
      simp [prevH, hc]
    have hsum : n + p.am = s.h0 + s.h1 + sumP s.pays + sumH (s.holds.take (i + 1)) := by rw [take_s hc, sumH_snoc]; omega
    simp [EV.lit]
    refine alt (fun h0 => ?_) (fun h0 => ?_)
    · obtain ⟨q, hq⟩ : ∃ q, s.holds[i - 1]? = some q := ⟨s.holds[i - 1]'(by omega), by simp⟩
      have hqb := holv_get hq
      have hti : ((i : Int) - 1).toNat = i - 1 := by omega
      have hpv : prevH s.holds i = some q.id := by simp [prevH, hq, show i ≠ 0 by omega]
      have h1 : (1 : Int) ≤ (i : Int) := by omega
      simp [h0, w3, hqb, hti, holF, h1]
      refine alt (fun c1 => ?_) (fun c1 => ?_)
      · simp
        exact fin [] (by decide) rfl rfl rfl ⟨rfl, by rw [mayS_h (by rw [hi2, holL, hm, hpv]; simp [aft, decide_eq_false (show ¬ q.id < p.id by omega)])]⟩
      simp [w2, w4, -Int.natCast_add]
      exact round (i + 1, n + p.am) [0] ⟨by omega, hnx (by rw [hpv]; exact decide_eq_true (by omega)), hsum, by simp; omega, by simp; omega⟩ (by simp; omega) (by simp) (by simp) (by simp) (by simp) (by simp)
    · have hi0 : i = 0 := by omega
      subst hi0
      simp [w4, IntKind.wrap_i64]
      exact round (1, n + p.am) [0] ⟨by omega, hnx (by simp [prevH, aft]), hsum, by simp; omega, by simp; omega⟩ (by simp; omega) (by simp) (by simp) (by simp) (by simp) (by simp)
  have hil : i = s.holds.length := by omega
  subst hil
  have hhs : holL none s.holds = true := by rw [hi2]; simp [holL]
  rw [List.take_length] at hi3
  have hS : mayS s = decide (n ≤ 1125899906842624) := by
    simp only [mayS, hps, hhs, Bool.and_true]
    rw [decide_eq_true (show 0 ≤ s.num ∧ s.num ≤ 1099511627776 ∧ 0 ≤ s.h0 ∧ s.h0 ≤ 1125899906842624 ∧ 0 ≤ s.h1 ∧ s.h1 ≤ 1125899906842624 ∧ s.pays.length ≤ 8 ∧ s.holds.length + s.pays.length ≤ 8 by omega), Bool.true_and, hi3]
    rfl
  simp
  exact fin [] (by decide) rfl rfl rfl ⟨rfl, by rw [hS]⟩

end Go.Proofs.Ytejjhgdnmknejaa
