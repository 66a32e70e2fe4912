import Derived.Test.YtoomdgmggkcgfaaDoorTreeA
namespace Go.Proofs.YtoomdgmggkcgfaaDoor
open Go Go.EW
set_option linter.unusedSimpArgs false
set_option linter.unusedVariables false

@[simp] def l_small_1 (_ : Unit) : List EOp := [⟨0, (some 1), none, (.q (.box 28 (.t 0))), []⟩, ⟨1, (some 2), none, (.q (.alloc 31 (zU8 ++ [(.int .i64 0), (.int .i64 0), (.slice none 0 0), (.int .i64 0), (.int .i64 0), (.int .i64 0), (.int .i64 0), (.int .i64 0)]))), []⟩]
@[simp] def b_small_2 (_ : Unit) : EB := reg0 (hid l_small_1) 2
@[simp] def l_small_7 (_ : Unit) : List EOp := [⟨24, (some 27), none, (.q (.build (zU8 ++ [(.int .i64 0), (.int .i64 0), (.slice none 0 0), (.int .i64 0), (.int .i64 0), (.int .i64 0), (.int .i64 0), (.int .i64 0)]) [(33, 1, (.k (.int .i64 1000))), (34, 1, (.t 3)), (35, 1, (.t 9)), (36, 1, (.k (.int .i64 40))), (37, 1, (.t 15)), (38, 1, (.t 21)), (39, 1, (.t 26))])), []⟩, ⟨25, none, none, (.fz (.sto 40 (.t 2) (.t 27))), []⟩]
@[simp] def l_small_6 (_ : Unit) : List EOp := ⟨18, (some 21), none, (.q (.bin .add (.k (.int .i64 1)) (.t 20))), []⟩ :: ⟨19, (some 22), none, (.q (.fad 39 (.t 1))), []⟩ :: ⟨20, (some 23), none, (.q (.ldc (.t 22))), []⟩ :: ⟨21, (some 24), none, (.q (.cnv .u64 (.t 23))), []⟩ :: ⟨22, (some 25), none, (.q (.bin .rem (.t 24) (.k (.int .u64 20)))), []⟩ :: ⟨23, (some 26), none, (.q (.cnv .i64 (.t 25))), []⟩ :: hid l_small_7
@[simp] def l_small_5 (_ : Unit) : List EOp := ⟨12, (some 15), none, (.q (.bin .sub (.k (.int .i64 40)) (.t 14))), []⟩ :: ⟨13, (some 16), none, (.q (.fad 38 (.t 1))), []⟩ :: ⟨14, (some 17), none, (.q (.ldc (.t 16))), []⟩ :: ⟨15, (some 18), none, (.q (.cnv .u64 (.t 17))), []⟩ :: ⟨16, (some 19), none, (.q (.bin .rem (.t 18) (.k (.int .u64 9)))), []⟩ :: ⟨17, (some 20), none, (.q (.cnv .i64 (.t 19))), []⟩ :: hid l_small_6
@[simp] def l_small_4 (_ : Unit) : List EOp := ⟨6, (some 9), none, (.q (.bin .add (.k (.int .i64 1)) (.t 8))), []⟩ :: ⟨7, (some 10), none, (.q (.fad 37 (.t 1))), []⟩ :: ⟨8, (some 11), none, (.q (.ldc (.t 10))), []⟩ :: ⟨9, (some 12), none, (.q (.cnv .u64 (.t 11))), []⟩ :: ⟨10, (some 13), none, (.q (.bin .rem (.t 12) (.k (.int .u64 20)))), []⟩ :: ⟨11, (some 14), none, (.q (.cnv .i64 (.t 13))), []⟩ :: hid l_small_5
@[simp] def l_small_3 (_ : Unit) : List EOp := ⟨0, (some 3), none, (.q (.bsl 1 [(.int .i64 0)] 3 [(0, (.k (.int .i64 0))), (1, (.k (.int .i64 1))), (2, (.k (.int .i64 2)))])), []⟩ :: ⟨1, (some 4), none, (.q (.fad 35 (.t 1))), []⟩ :: ⟨2, (some 5), none, (.q (.ldc (.t 4))), []⟩ :: ⟨3, (some 6), none, (.q (.cnv .u64 (.t 5))), []⟩ :: ⟨4, (some 7), none, (.q (.bin .rem (.t 6) (.k (.int .u64 3)))), []⟩ :: ⟨5, (some 8), none, (.q (.cnv .i64 (.t 7))), []⟩ :: hid l_small_4
@[simp] def b_small_8 (_ : Unit) : EB := reg0 (hid l_small_3) 26
@[simp] def b_small_9 (_ : Unit) : EB := .seq (hid b_small_8) .ret
@[simp] def b_small_10 (_ : Unit) : EB := .seq (hid b_small_2) (hid b_small_9)
def c_small : EB × List QOp × Nat := ((hid b_small_10), [(.lda 40 (.t 2))], 28)
theorem k_small : cfun Tryd.prog 8 = some c_small := by kernel_rfl

@[simp] def l_TreeNewer_1 (_ : Unit) : List EOp := [⟨0, (some 1), none, (.q (.box 28 (.t 0))), []⟩, ⟨1, (some 2), none, (.q (.mov (.k (.bool false)))), []⟩]
@[simp] def b_TreeNewer_2 (_ : Unit) : EB := reg0 (hid l_TreeNewer_1) 2
@[simp] def l_TreeNewer_3 (_ : Unit) : List EOp := [⟨0, (some 15), none, (.q (.lda 40 (.t 1))), []⟩, ⟨1, (some 16), none, (.call 8 [(.t 15)]), []⟩, ⟨2, (some 3), none, (.q (.alloc 31 (zU8 ++ [(.int .i64 0), (.int .i64 0), (.slice none 0 0), (.int .i64 0), (.int .i64 0), (.int .i64 0), (.int .i64 0), (.int .i64 0)]))), []⟩, ⟨3, none, none, (.fz (.sto 40 (.t 3) (.t 16))), []⟩]
@[simp] def b_TreeNewer_4 (_ : Unit) : EB := reg0 (hid l_TreeNewer_3) 4
@[simp] def l_TreeNewer_6 (_ : Unit) : List EOp := [⟨6, (some 5), none, (.q (.mov (.t 21))), []⟩]
@[simp] def l_TreeNewer_5 (_ : Unit) : List EOp := ⟨0, (some 18), none, (.q (.lda 40 (.t 3))), []⟩ :: ⟨1, (some 19), none, (.call 9 [(.t 18)]), []⟩ :: ⟨2, (some 17), none, (.q (.mov (.t 19))), []⟩ :: ⟨3, (some 20), none, (.q (.ext 0 (.t 17))), []⟩ :: ⟨4, (some 21), none, (.q (.ext 1 (.t 17))), []⟩ :: ⟨5, (some 4), none, (.q (.mov (.t 20))), []⟩ :: hid l_TreeNewer_6
@[simp] def b_TreeNewer_7 (_ : Unit) : EB := reg0 (hid l_TreeNewer_5) 7
@[simp] def l_TreeNewer_9 (_ : Unit) : List EOp := [⟨6, (some 6), none, (.q (.mov (.t 26))), []⟩, ⟨7, (some 7), none, (.q (.mov (.t 27))), []⟩]
@[simp] def l_TreeNewer_8 (_ : Unit) : List EOp := ⟨0, (some 23), none, (.q (.lda 40 (.t 3))), []⟩ :: ⟨1, (some 24), none, (.q (.mov (.t 4))), []⟩ :: ⟨2, (some 25), none, (.call 10 [(.t 23), (.t 24)]), []⟩ :: ⟨3, (some 22), none, (.q (.mov (.t 25))), []⟩ :: ⟨4, (some 26), none, (.q (.ext 0 (.t 22))), []⟩ :: ⟨5, (some 27), none, (.q (.ext 1 (.t 22))), []⟩ :: hid l_TreeNewer_9
@[simp] def b_TreeNewer_10 (_ : Unit) : EB := reg0 (hid l_TreeNewer_8) 8
@[simp] def l_TreeNewer_11 (_ : Unit) : List EOp := [⟨0, (some 28), none, (.q (.mov (.t 5))), []⟩, ⟨1, (some 29), none, (.q (.eqi true (.t 28))), []⟩, ⟨2, (some 30), none, (.q (.mov (.t 29))), []⟩, ⟨3, (some 31), (some (30, false)), (.q (.mov (.t 7))), []⟩, ⟨4, (some 32), (some (30, false)), (.q (.eqi true (.t 31))), []⟩, ⟨5, (some 33), none, (.q (.pick (.t 30) (.k (.bool true)) (.t 32))), []⟩]
@[simp] def b_TreeNewer_12 (_ : Unit) : EB := reg0 (hid l_TreeNewer_11) 6
@[simp] def l_TreeNewer_13 (_ : Unit) : List EOp := [⟨0, (some 2), none, (.q (.mov (.k (.bool false)))), []⟩]
@[simp] def b_TreeNewer_14 (_ : Unit) : EB := reg0 (hid l_TreeNewer_13) 1
@[simp] def b_TreeNewer_15 (_ : Unit) : EB := .seq (hid b_TreeNewer_14) .ret
@[simp] def b_TreeNewer_16 (_ : Unit) : EB := .cond (.t 33) (hid b_TreeNewer_15) .skip
@[simp] def b_TreeNewer_17 (_ : Unit) : EB := .seq (hid b_TreeNewer_12) (hid b_TreeNewer_16)
@[simp] def l_TreeNewer_18 (_ : Unit) : List EOp := [⟨0, (some 8), none, (.q (.mov (.k (.slice none 0 0)))), []⟩]
@[simp] def b_TreeNewer_19 (_ : Unit) : EB := reg0 (hid l_TreeNewer_18) 1
@[simp] def l_TreeNewer_20 (_ : Unit) : List EOp := [⟨0, (some 9), none, (.q (.mov (.k (.int .i64 0)))), []⟩]
@[simp] def b_TreeNewer_21 (_ : Unit) : EB := reg0 (hid l_TreeNewer_20) 1
@[simp] def l_TreeNewer_23 (_ : Unit) : List EOp := [⟨6, (some 40), none, (.q (.pick (.t 37) (.t 39) (.k (.bool false)))), []⟩]
@[simp] def l_TreeNewer_22 (_ : Unit) : List EOp := ⟨0, (some 34), none, (.q (.mov (.t 9))), []⟩ :: ⟨1, (some 35), none, (.q (.mov (.t 6))), []⟩ :: ⟨2, (some 36), none, (.q (.bin .leq (.t 34) (.t 35))), []⟩ :: ⟨3, (some 37), none, (.q (.mov (.t 36))), []⟩ :: ⟨4, (some 38), (some (37, true)), (.q (.mov (.t 9))), []⟩ :: ⟨5, (some 39), (some (37, true)), (.q (.bin .lss (.t 38) (.k (.int .i64 120)))), []⟩ :: hid l_TreeNewer_23
@[simp] def b_TreeNewer_24 (_ : Unit) : EB := reg0 (hid l_TreeNewer_22) 7
@[simp] def b_TreeNewer_25 (_ : Unit) : EB := .cond (.t 40) .skip (.exit 0)
@[simp] def b_TreeNewer_26 (_ : Unit) : EB := .seq (hid b_TreeNewer_24) (hid b_TreeNewer_25)
@[simp] def l_TreeNewer_28 (_ : Unit) : List EOp := [⟨6, (some 10), none, (.q (.mov (.t 47))), []⟩, ⟨7, (some 11), none, (.q (.mov (.t 48))), []⟩]
@[simp] def l_TreeNewer_27 (_ : Unit) : List EOp := ⟨0, (some 44), none, (.q (.lda 40 (.t 3))), []⟩ :: ⟨1, (some 45), none, (.q (.mov (.t 4))), []⟩ :: ⟨2, (some 46), none, (.call 10 [(.t 44), (.t 45)]), []⟩ :: ⟨3, (some 43), none, (.q (.mov (.t 46))), []⟩ :: ⟨4, (some 47), none, (.q (.ext 0 (.t 43))), []⟩ :: ⟨5, (some 48), none, (.q (.ext 1 (.t 43))), []⟩ :: hid l_TreeNewer_28
@[simp] def b_TreeNewer_29 (_ : Unit) : EB := reg0 (hid l_TreeNewer_27) 8
@[simp] def l_TreeNewer_31 (_ : Unit) : List EOp := [⟨6, (some 55), (some (51, false)), (.q (.bin .sub (.t 53) (.t 54))), []⟩, ⟨7, (some 56), (some (51, false)), (.q (.bin .neq (.t 52) (.t 55))), []⟩, ⟨8, (some 57), none, (.q (.pick (.t 51) (.k (.bool true)) (.t 56))), []⟩]
@[simp] def l_TreeNewer_30 (_ : Unit) : List EOp := ⟨0, (some 49), none, (.q (.mov (.t 11))), []⟩ :: ⟨1, (some 50), none, (.q (.eqi true (.t 49))), []⟩ :: ⟨2, (some 51), none, (.q (.mov (.t 50))), []⟩ :: ⟨3, (some 52), (some (51, false)), (.q (.mov (.t 10))), []⟩ :: ⟨4, (some 53), (some (51, false)), (.q (.mov (.t 6))), []⟩ :: ⟨5, (some 54), (some (51, false)), (.q (.mov (.t 9))), []⟩ :: hid l_TreeNewer_31
@[simp] def b_TreeNewer_32 (_ : Unit) : EB := reg0 (hid l_TreeNewer_30) 9
@[simp] def l_TreeNewer_33 (_ : Unit) : List EOp := [⟨0, (some 2), none, (.q (.mov (.k (.bool false)))), []⟩]
@[simp] def b_TreeNewer_34 (_ : Unit) : EB := reg0 (hid l_TreeNewer_33) 1
@[simp] def b_TreeNewer_35 (_ : Unit) : EB := .seq (hid b_TreeNewer_34) .ret
@[simp] def b_TreeNewer_36 (_ : Unit) : EB := .cond (.t 57) (hid b_TreeNewer_35) .skip
@[simp] def b_TreeNewer_37 (_ : Unit) : EB := .seq (hid b_TreeNewer_32) (hid b_TreeNewer_36)
@[simp] def l_TreeNewer_38 (_ : Unit) : List EOp := [⟨0, (some 12), none, (.q (.mov (.k (.int .i64 0)))), []⟩]
@[simp] def b_TreeNewer_39 (_ : Unit) : EB := reg0 (hid l_TreeNewer_38) 1
@[simp] def l_TreeNewer_40 (_ : Unit) : List EOp := [⟨0, (some 58), none, (.q (.mov (.t 12))), []⟩, ⟨1, (some 59), none, (.q (.mov (.t 8))), []⟩, ⟨2, (some 60), none, (.q (.len (.t 59))), []⟩, ⟨3, (some 61), none, (.q (.bin .lss (.t 58) (.t 60))), []⟩]
@[simp] def b_TreeNewer_41 (_ : Unit) : EB := reg0 (hid l_TreeNewer_40) 4
@[simp] def b_TreeNewer_42 (_ : Unit) : EB := .cond (.t 61) .skip (.exit 2)
@[simp] def b_TreeNewer_43 (_ : Unit) : EB := .seq (hid b_TreeNewer_41) (hid b_TreeNewer_42)
@[simp] def l_TreeNewer_46 (_ : Unit) : List EOp := [⟨12, (some 76), (some (72, false)), (.q (.isl 1 (.t 74) (.t 75))), []⟩, ⟨13, (some 77), (some (72, false)), (.q (.ldc (.t 76))), []⟩, ⟨14, (some 78), (some (72, false)), (.q (.mov (.t 4))), []⟩, ⟨15, (some 79), (some (72, false)), (.call 11 [(.t 73), (.t 77), (.t 78)]), []⟩, ⟨16, (some 80), none, (.q (.pick (.t 72) (.k (.bool true)) (.t 79))), []⟩]
@[simp] def l_TreeNewer_45 (_ : Unit) : List EOp := ⟨6, (some 70), none, (.call 11 [(.t 64), (.t 65), (.t 69)]), []⟩ :: ⟨7, (some 71), none, (.q (.un .not (.t 70))), []⟩ :: ⟨8, (some 72), none, (.q (.mov (.t 71))), []⟩ :: ⟨9, (some 73), (some (72, false)), (.q (.lda 40 (.t 3))), []⟩ :: ⟨10, (some 74), (some (72, false)), (.q (.mov (.t 8))), []⟩ :: ⟨11, (some 75), (some (72, false)), (.q (.mov (.t 12))), []⟩ :: hid l_TreeNewer_46
@[simp] def l_TreeNewer_44 (_ : Unit) : List EOp := ⟨0, (some 64), none, (.q (.lda 40 (.t 3))), []⟩ :: ⟨1, (some 65), none, (.q (.mov (.t 4))), []⟩ :: ⟨2, (some 66), none, (.q (.mov (.t 8))), []⟩ :: ⟨3, (some 67), none, (.q (.mov (.t 12))), []⟩ :: ⟨4, (some 68), none, (.q (.isl 1 (.t 66) (.t 67))), []⟩ :: ⟨5, (some 69), none, (.q (.ldc (.t 68))), []⟩ :: hid l_TreeNewer_45
@[simp] def b_TreeNewer_47 (_ : Unit) : EB := reg0 (hid l_TreeNewer_44) 17
@[simp] def l_TreeNewer_48 (_ : Unit) : List EOp := [⟨0, (some 2), none, (.q (.mov (.k (.bool false)))), []⟩]
@[simp] def b_TreeNewer_49 (_ : Unit) : EB := reg0 (hid l_TreeNewer_48) 1
@[simp] def b_TreeNewer_50 (_ : Unit) : EB := .seq (hid b_TreeNewer_49) .ret
@[simp] def b_TreeNewer_51 (_ : Unit) : EB := .cond (.t 80) (hid b_TreeNewer_50) .skip
@[simp] def b_TreeNewer_52 (_ : Unit) : EB := .seq (hid b_TreeNewer_47) (hid b_TreeNewer_51)
@[simp] def b_TreeNewer_53 (_ : Unit) : EB := .block 3 (hid b_TreeNewer_52)
@[simp] def l_TreeNewer_54 (_ : Unit) : List EOp := [⟨0, (some 62), none, (.q (.mov (.t 12))), []⟩, ⟨1, (some 63), none, (.q (.bin .add (.t 62) (.k (.int .i64 1)))), []⟩, ⟨2, (some 12), none, (.q (.mov (.t 63))), []⟩]
@[simp] def b_TreeNewer_55 (_ : Unit) : EB := reg0 (hid l_TreeNewer_54) 3
@[simp] def b_TreeNewer_56 (_ : Unit) : EB := .seq (hid b_TreeNewer_53) (hid b_TreeNewer_55)
@[simp] def b_TreeNewer_57 (_ : Unit) : EB := .seq (hid b_TreeNewer_43) (hid b_TreeNewer_56)
@[simp] def b_TreeNewer_58 (_ : Unit) : EB := .loop (hid b_TreeNewer_57)
@[simp] def b_TreeNewer_59 (_ : Unit) : EB := .block 2 (hid b_TreeNewer_58)
@[simp] def b_TreeNewer_60 (_ : Unit) : EB := .seq (hid b_TreeNewer_39) (hid b_TreeNewer_59)
@[simp] def l_TreeNewer_61 (_ : Unit) : List EOp := [⟨0, (some 81), none, (.q (.mov (.t 9))), []⟩, ⟨1, (some 82), none, (.q (.bin .rem (.t 81) (.k (.int .i64 7)))), []⟩, ⟨2, (some 83), none, (.q (.bin .eql (.t 82) (.k (.int .i64 0)))), []⟩]
@[simp] def b_TreeNewer_62 (_ : Unit) : EB := reg0 (hid l_TreeNewer_61) 3
@[simp] def l_TreeNewer_63 (_ : Unit) : List EOp := [⟨0, (some 84), none, (.q (.mov (.t 8))), []⟩, ⟨1, (some 85), none, (.q (.mov (.t 4))), []⟩, ⟨2, (some 86), none, (.fz (.q (.bsl 1 [(.slice none 0 0)] 1 [(0, (.t 85))]))), []⟩, ⟨3, (some 87), none, (.app 33 1 24 (.t 84) (.t 86)), []⟩, ⟨4, (some 8), none, (.q (.mov (.t 87))), []⟩]
@[simp] def b_TreeNewer_64 (_ : Unit) : EB := reg0 (hid l_TreeNewer_63) 5
@[simp] def b_TreeNewer_65 (_ : Unit) : EB := .cond (.t 83) (hid b_TreeNewer_64) .skip
@[simp] def b_TreeNewer_66 (_ : Unit) : EB := .seq (hid b_TreeNewer_62) (hid b_TreeNewer_65)
@[simp] def l_TreeNewer_68 (_ : Unit) : List EOp := [⟨6, (some 13), none, (.q (.mov (.t 92))), []⟩, ⟨7, (some 14), none, (.q (.mov (.t 93))), []⟩]
@[simp] def l_TreeNewer_67 (_ : Unit) : List EOp := ⟨0, (some 89), none, (.q (.lda 40 (.t 3))), []⟩ :: ⟨1, (some 90), none, (.q (.mov (.t 4))), []⟩ :: ⟨2, (some 91), none, (.call 12 [(.t 89), (.t 90)]), []⟩ :: ⟨3, (some 88), none, (.q (.mov (.t 91))), []⟩ :: ⟨4, (some 92), none, (.q (.ext 0 (.t 88))), []⟩ :: ⟨5, (some 93), none, (.q (.ext 1 (.t 88))), []⟩ :: hid l_TreeNewer_68
@[simp] def b_TreeNewer_69 (_ : Unit) : EB := reg0 (hid l_TreeNewer_67) 8
@[simp] def l_TreeNewer_72 (_ : Unit) : List EOp := [⟨12, (some 106), (some (104, true)), (.call 13 [(.t 105)]), []⟩, ⟨13, (some 107), (some (104, true)), (.q (.bin .neq (.t 106) (.k (.int .i64 30)))), []⟩, ⟨14, (some 108), (some (100, false)), (.q (.pick (.t 104) (.t 107) (.k (.bool false)))), []⟩, ⟨15, (some 109), none, (.q (.pick (.t 100) (.k (.bool true)) (.t 108))), []⟩]
@[simp] def l_TreeNewer_71 (_ : Unit) : List EOp := ⟨6, (some 100), none, (.q (.mov (.t 99))), []⟩ :: ⟨7, (some 101), (some (100, false)), (.q (.mov (.t 9))), []⟩ :: ⟨8, (some 102), (some (100, false)), (.q (.mov (.t 6))), []⟩ :: ⟨9, (some 103), (some (100, false)), (.q (.bin .eql (.t 101) (.t 102))), []⟩ :: ⟨10, (some 104), (some (100, false)), (.q (.mov (.t 103))), []⟩ :: ⟨11, (some 105), (some (104, true)), (.q (.mov (.t 14))), []⟩ :: hid l_TreeNewer_72
@[simp] def l_TreeNewer_70 (_ : Unit) : List EOp := ⟨0, (some 94), none, (.q (.mov (.t 14))), []⟩ :: ⟨1, (some 95), none, (.q (.eqi false (.t 94))), []⟩ :: ⟨2, (some 96), none, (.q (.mov (.t 9))), []⟩ :: ⟨3, (some 97), none, (.q (.mov (.t 6))), []⟩ :: ⟨4, (some 98), none, (.q (.bin .lss (.t 96) (.t 97))), []⟩ :: ⟨5, (some 99), none, (.q (.eqb true (.t 95) (.t 98))), []⟩ :: hid l_TreeNewer_71
@[simp] def b_TreeNewer_73 (_ : Unit) : EB := reg0 (hid l_TreeNewer_70) 16
@[simp] def l_TreeNewer_74 (_ : Unit) : List EOp := [⟨0, (some 2), none, (.q (.mov (.k (.bool false)))), []⟩]
@[simp] def b_TreeNewer_75 (_ : Unit) : EB := reg0 (hid l_TreeNewer_74) 1
@[simp] def b_TreeNewer_76 (_ : Unit) : EB := .seq (hid b_TreeNewer_75) .ret
@[simp] def b_TreeNewer_77 (_ : Unit) : EB := .cond (.t 109) (hid b_TreeNewer_76) .skip
@[simp] def b_TreeNewer_78 (_ : Unit) : EB := .seq (hid b_TreeNewer_73) (hid b_TreeNewer_77)
@[simp] def l_TreeNewer_79 (_ : Unit) : List EOp := [⟨0, (some 110), none, (.q (.mov (.t 13))), []⟩, ⟨1, (some 4), none, (.q (.mov (.t 110))), []⟩]
@[simp] def b_TreeNewer_80 (_ : Unit) : EB := reg0 (hid l_TreeNewer_79) 2
@[simp] def b_TreeNewer_81 (_ : Unit) : EB := .seq (hid b_TreeNewer_78) (hid b_TreeNewer_80)
@[simp] def b_TreeNewer_82 (_ : Unit) : EB := .seq (hid b_TreeNewer_69) (hid b_TreeNewer_81)
@[simp] def b_TreeNewer_83 (_ : Unit) : EB := .seq (hid b_TreeNewer_66) (hid b_TreeNewer_82)
@[simp] def b_TreeNewer_84 (_ : Unit) : EB := .seq (hid b_TreeNewer_60) (hid b_TreeNewer_83)
@[simp] def b_TreeNewer_85 (_ : Unit) : EB := .seq (hid b_TreeNewer_37) (hid b_TreeNewer_84)
@[simp] def b_TreeNewer_86 (_ : Unit) : EB := .seq (hid b_TreeNewer_29) (hid b_TreeNewer_85)
@[simp] def b_TreeNewer_87 (_ : Unit) : EB := .block 1 (hid b_TreeNewer_86)
@[simp] def l_TreeNewer_88 (_ : Unit) : List EOp := [⟨0, (some 41), none, (.q (.mov (.t 9))), []⟩, ⟨1, (some 42), none, (.q (.bin .add (.t 41) (.k (.int .i64 1)))), []⟩, ⟨2, (some 9), none, (.q (.mov (.t 42))), []⟩]
@[simp] def b_TreeNewer_89 (_ : Unit) : EB := reg0 (hid l_TreeNewer_88) 3
@[simp] def b_TreeNewer_90 (_ : Unit) : EB := .seq (hid b_TreeNewer_87) (hid b_TreeNewer_89)
@[simp] def b_TreeNewer_91 (_ : Unit) : EB := .seq (hid b_TreeNewer_26) (hid b_TreeNewer_90)
@[simp] def b_TreeNewer_92 (_ : Unit) : EB := .loop (hid b_TreeNewer_91)
@[simp] def b_TreeNewer_93 (_ : Unit) : EB := .block 0 (hid b_TreeNewer_92)
@[simp] def b_TreeNewer_94 (_ : Unit) : EB := .seq (hid b_TreeNewer_21) (hid b_TreeNewer_93)
@[simp] def l_TreeNewer_95 (_ : Unit) : List EOp := [⟨0, (some 111), none, (.call 14 []), []⟩, ⟨1, (some 2), none, (.q (.mov (.t 111))), []⟩]
@[simp] def b_TreeNewer_96 (_ : Unit) : EB := reg0 (hid l_TreeNewer_95) 2
@[simp] def b_TreeNewer_97 (_ : Unit) : EB := .seq (hid b_TreeNewer_96) .ret
@[simp] def b_TreeNewer_98 (_ : Unit) : EB := .seq (hid b_TreeNewer_94) (hid b_TreeNewer_97)
@[simp] def b_TreeNewer_99 (_ : Unit) : EB := .seq (hid b_TreeNewer_19) (hid b_TreeNewer_98)
@[simp] def b_TreeNewer_100 (_ : Unit) : EB := .seq (hid b_TreeNewer_17) (hid b_TreeNewer_99)
@[simp] def b_TreeNewer_101 (_ : Unit) : EB := .seq (hid b_TreeNewer_10) (hid b_TreeNewer_100)
@[simp] def b_TreeNewer_102 (_ : Unit) : EB := .seq (hid b_TreeNewer_7) (hid b_TreeNewer_101)
@[simp] def b_TreeNewer_103 (_ : Unit) : EB := .seq (hid b_TreeNewer_4) (hid b_TreeNewer_102)
@[simp] def b_TreeNewer_104 (_ : Unit) : EB := .seq (hid b_TreeNewer_2) (hid b_TreeNewer_103)
def c_TreeNewer : EB × List QOp × Nat := ((hid b_TreeNewer_104), [(.mov (.t 2))], 112)
theorem k_TreeNewer : cfun Tryd.prog 3 = some c_TreeNewer := by kernel_rfl


/-! ### plain: paths that follow one another -/
theorem has_of {c : Cfg} {p : List Int} (h : chkT c = 0) (hl : (p.length : Int) = c.dep) (ho : ∀ x ∈ p, oddT c x = false) : hasT c p = 0 := by
  have : p.any (oddT c) = false := by
    rw [List.any_eq_false]
    intro x hx
    simp [ho x hx]
  simp [hasT, h, hl, this]
theorem odd_of {c : Cfg} {x : Int} (h : c.lst ≤ x ∧ x ≤ c.fst ∧ (c.fst - x) % c.stp = 0) : oddT c x = false := by
  unfold oddT
  exact decide_eq_false (fun n => n h)
theorem dT_fst (c : Cfg) : dT c c.fst = versT c := rfl
theorem dT_less {c : Cfg} {x : Int} (h : okR c) : dT c (x - c.stp) = dT c x - 1 := by
  have hs := h.2.2.1
  unfold dT
  rw [show x - c.stp - c.lst = (x - c.lst) + (-1) * c.stp by omega, Int.add_mul_ediv_right _ _ (by omega)]
  omega
theorem dT_lt {c : Cfg} {x y : Int} (h : okR c) (hx : oddT c x = false) (hy : oddT c y = false) : x < y ↔ dT c x < dT c y := by
  have hs := h.2.2.1
  obtain ⟨a1, a2, a3⟩ := ok_of_odd hx
  obtain ⟨b1, b2, b3⟩ := ok_of_odd hy
  have e1 := (dT_eq h hx).1
  have e2 := (dT_eq h hy).1
  have q1 : (c.fst - x) / c.stp * c.stp = c.fst - x := Int.ediv_mul_cancel (Int.dvd_of_emod_eq_zero a3)
  have q2 : (c.fst - y) / c.stp * c.stp = c.fst - y := Int.ediv_mul_cancel (Int.dvd_of_emod_eq_zero b3)
  generalize (c.fst - x) / c.stp = u at *
  generalize (c.fst - y) / c.stp = v at *
  constructor
  · intro hlt
    have : v < u := by
      apply Int.lt_of_mul_lt_mul_right (a := c.stp) _ (by omega)
      omega
    omega
  · intro hlt
    have h1 : v < u := by omega
    have : v * c.stp < u * c.stp := Int.mul_lt_mul_of_pos_right h1 (by omega)
    omega
def FA (c : Cfg) (a : Int) (p : List Int) : Int := p.foldl (fun n x => n * (versT c + 1) + dT c x) a
theorem FA_lt {c : Cfg} (h : okR c) (hv : 0 ≤ versT c) : ∀ (p q : List Int) (a b : Int), p.length = q.length → (∀ x ∈ p, oddT c x = false) → (∀ x ∈ q, oddT c x = false) → a < b → FA c a p < FA c b q
  | [], [], a, b, _, _, _, hab => hab
  | x :: p, y :: q, a, b, hl, hp, hq, hab => by
    have d1 := dT_eq h (hp x (by simp))
    have d2 := dT_eq h (hq y (by simp))
    refine FA_lt h hv p q _ _ (by simpa using hl) (fun z hz => hp z (by simp [hz])) (fun z hz => hq z (by simp [hz])) ?_
    have : (a + 1) * (versT c + 1) ≤ b * (versT c + 1) := Int.mul_le_mul_of_nonneg_right (by omega) (by omega)
    rw [Int.add_mul] at this
    show a * (versT c + 1) + dT c x < b * (versT c + 1) + dT c y
    omega
  | [], _ :: _, _, _, hl, _, _, _ => by simp at hl
  | _ :: _, [], _, _, hl, _, _, _ => by simp at hl
theorem ltL_FA {c : Cfg} (h : okR c) (hv : 0 ≤ versT c) : ∀ (p q : List Int) (a : Int), p.length = q.length → (∀ x ∈ p, oddT c x = false) → (∀ x ∈ q, oddT c x = false) → (ltL p q = true ↔ FA c a p < FA c a q)
  | [], [], a, _, _, _ => by simp [ltL, FA]
  | x :: p, y :: q, a, hl, hp, hq => by
    have hl2 : p.length = q.length := by simpa using hl
    have hp2 : ∀ z ∈ p, oddT c z = false := fun z hz => hp z (by simp [hz])
    have hq2 : ∀ z ∈ q, oddT c z = false := fun z hz => hq z (by simp [hz])
    have hlt := dT_lt h (hp x (by simp)) (hq y (by simp))
    have hgt := dT_lt h (hq y (by simp)) (hp x (by simp))
    show _ ↔ FA c (a * (versT c + 1) + dT c x) p < FA c (a * (versT c + 1) + dT c y) q
    by_cases e : x = y
    · subst e
      simp only [ltL, if_true]
      exact ltL_FA h hv p q _ hl2 hp2 hq2
    · simp only [ltL, e, if_false, decide_eq_true_eq]
      by_cases hxy : x < y
      · have := FA_lt h hv p q (a * (versT c + 1) + dT c x) (a * (versT c + 1) + dT c y) hl2 hp2 hq2 (by have := hlt.1 hxy; omega)
        simp [hxy, this]
      · have := FA_lt h hv q p (a * (versT c + 1) + dT c y) (a * (versT c + 1) + dT c x) hl2.symm hq2 hp2 (by have := hgt.1 (by omega); omega)
        simp [hxy]
        omega
  | [], _ :: _, _, hl, _, _ => by simp at hl
  | _ :: _, [], _, hl, _, _ => by simp at hl
theorem newT_LT {c : Cfg} {p q : List Int} (hp : hasT c p = 0) (hq : hasT c q = 0) : newT c p q = decide (LT c p < LT c q) := by
  obtain ⟨k1, l1, o1⟩ := has_all hp
  obtain ⟨k2, l2, o2⟩ := has_all hq
  obtain ⟨hR, hA, -, -⟩ := chk_okR k1
  have h := ltL_FA hR (vers_b hR hA).1 p q 0 (by omega) o1 o2
  have hn : newT c p q = ltL p q := by simp [newT, hp, hq]
  rw [hn]
  have e : (FA c 0 p < FA c 0 q) = (LT c p < LT c q) := rfl
  rw [e] at h
  cases hb : ltL p q
  · rw [hb] at h; simp at h; simp; exact h
  · rw [hb] at h; simp at h; simp; exact h
theorem LT_nn {c : Cfg} {p : List Int} (hR : okR c) (hv : 0 ≤ versT c) (ho : ∀ x ∈ p, oddT c x = false) (k : Nat) (hk : k ≤ p.length) : 0 ≤ LT c (p.take k) := by
  induction k with
  | zero => simp [LT]
  | succ k ih =>
    obtain ⟨x, hx⟩ : ∃ x, p[k]? = some x := ⟨p[k], by simp⟩
    rw [take_s hx, LT_snoc]
    have := dT_eq hR (ho x (List.mem_of_getElem? hx))
    have := Int.mul_nonneg (ih (by omega)) (show 0 ≤ versT c + 1 by omega)
    omega
/-- What lastT says. -/
theorem last_none {c : Cfg} {p : List Int} (hR : okR c) (ho : ∀ x ∈ p, oddT c x = false) : ∀ k, k ≤ p.length → lastT c p k < 0 → LT c (p.take k) = 0
  | 0, _, _ => by simp [LT]
  | k + 1, hk, hl => by
    obtain ⟨x, hx⟩ : ∃ x, p[k]? = some x := ⟨p[k], by simp⟩
    unfold lastT at hl
    rw [hx] at hl
    simp only [Option.getD_some] at hl
    split at hl
    · omega
    rename_i hle
    rw [take_s hx, LT_snoc, last_none hR ho k (by omega) hl, (dT_eq hR (ho x (List.mem_of_getElem? hx))).2.2.2.2.2 (by omega)]
    simp
theorem upTo_take (p : List Int) : ∀ k, k ≤ p.length → upTo k (fun j => (p[j]?).getD 0) = p.take k
  | 0, _ => by simp [upTo]
  | k + 1, hk => by
    obtain ⟨x, hx⟩ : ∃ x, p[k]? = some x := ⟨p[k], by simp⟩
    rw [upTo_succ, take_s hx, upTo_take p k (by omega), hx]
    rfl
theorem last_some {c : Cfg} {p : List Int} (hR : okR c) (hv : 0 ≤ versT c) (ho : ∀ x ∈ p, oddT c x = false) : ∀ k, k ≤ p.length → ∀ a : Nat, lastT c p k = a → a < k ∧ c.lst ≤ (p[a]?).getD 0 - c.stp ∧ LT c (upTo k (nxT c p a)) = LT c (p.take k) - 1
  | 0, _, a, h => by simp [lastT] at h
  | k + 1, hk, a, h => by
    obtain ⟨x, hx⟩ : ∃ x, p[k]? = some x := ⟨p[k], by simp⟩
    have hox := ho x (List.mem_of_getElem? hx)
    unfold lastT at h
    split at h
    · rename_i hle
      have hak : a = k := by omega
      subst hak
      refine ⟨by omega, hle, ?_⟩
      have e1 : upTo a (nxT c p a) = p.take a := by
        rw [← upTo_take p a (by omega)]
        exact upTo_eq (fun j hj => by unfold nxT; rw [if_pos (by omega)])
      have e2 : nxT c p a a = x - c.stp := by unfold nxT; rw [if_neg (by omega), if_pos rfl, hx]; rfl
      rw [upTo_succ, e1, e2, take_s hx, LT_snoc, LT_snoc, dT_less hR]
      omega
    · rename_i hle
      obtain ⟨h1, h2, h3⟩ := last_some hR hv ho k (by omega) a h
      refine ⟨by omega, h2, ?_⟩
      have e2 : nxT c p a k = c.fst := by unfold nxT; rw [if_neg (by omega), if_neg (by omega)]
      rw [hx] at hle
      simp only [Option.getD_some] at hle
      rw [upTo_succ, e2, take_s hx, LT_snoc, LT_snoc, h3, dT_fst, (dT_eq hR hox).2.2.2.2.2 (by omega), Int.sub_mul]
      omega
theorem next_odd {c : Cfg} {p : List Int} (hR : okR c) (ho : ∀ x ∈ p, oddT c x = false) (a : Nat) (ha : a < p.length) (hle : c.lst ≤ (p[a]?).getD 0 - c.stp) : ∀ x ∈ upTo p.length (nxT c p a), oddT c x = false := by
  intro x hx
  obtain ⟨r1, r2, r3, r4, r5, r6, r7⟩ := id hR
  unfold upTo at hx
  obtain ⟨j, hj, rfl⟩ := List.mem_map.1 hx
  have hj := List.mem_range.1 hj
  obtain ⟨y, hy⟩ : ∃ y, p[j]? = some y := ⟨p[j], by simp [hj]⟩
  have hoy := ho y (List.mem_of_getElem? hy)
  unfold nxT
  rw [hy]
  simp only [Option.getD_some]
  by_cases h1 : j < a
  · rw [if_pos (by omega)]; exact hoy
  rw [if_neg (by omega)]
  by_cases h2 : j = a
  · rw [if_pos (by omega)]
    subst h2
    rw [hy] at hle
    simp only [Option.getD_some] at hle
    obtain ⟨q1, q2, q3⟩ := ok_of_odd hoy
    refine odd_of ⟨hle, by omega, ?_⟩
    rw [show c.fst - (y - c.stp) = (c.fst - y) + c.stp by omega, Int.add_emod_right, q3]
  · rw [if_neg (by omega)]
    exact odd_of ⟨r5, Int.le_refl _, by simp⟩
theorem nextT_0 {c : Cfg} {p : List Int} (hp : hasT c p = 0) (h0 : LT c p = 0) : nextT c p = ([], 30) := by
  obtain ⟨k1, l1, o1⟩ := has_all hp
  obtain ⟨hR, hA, -, -⟩ := chk_okR k1
  have hv := (vers_b hR hA).1
  by_cases hn : lastT c p p.length < 0
  · simp [nextT, hp, hn]
  · obtain ⟨a, ha⟩ : ∃ a : Nat, lastT c p p.length = a := ⟨(lastT c p p.length).toNat, by omega⟩
    obtain ⟨h1, h2, h3⟩ := last_some hR hv o1 p.length (Nat.le_refl _) a ha
    rw [List.take_length, h0] at h3
    have := LT_nn hR hv (next_odd hR o1 a h1 h2) p.length (by rw [upTo_len]; exact Nat.le_refl _)
    rw [List.take_of_length_le (by rw [upTo_len]; exact Nat.le_refl _)] at this
    omega
theorem nextT_s {c : Cfg} {p : List Int} (hp : hasT c p = 0) (h0 : LT c p ≠ 0) : ∃ q, nextT c p = (q, 0) ∧ hasT c q = 0 ∧ LT c q = LT c p - 1 := by
  obtain ⟨k1, l1, o1⟩ := has_all hp
  obtain ⟨hR, hA, -, -⟩ := chk_okR k1
  have hv := (vers_b hR hA).1
  by_cases hn : lastT c p p.length < 0
  · have := last_none hR o1 p.length (Nat.le_refl _) hn
    rw [List.take_length] at this
    exact absurd this h0
  · obtain ⟨a, ha⟩ : ∃ a : Nat, lastT c p p.length = a := ⟨(lastT c p p.length).toNat, by omega⟩
    obtain ⟨h1, h2, h3⟩ := last_some hR hv o1 p.length (Nat.le_refl _) a ha
    rw [List.take_length] at h3
    refine ⟨upTo p.length (nxT c p a), by simp [nextT, hp, hn, ha], has_of k1 (by rw [upTo_len]; exact l1) (next_odd hR o1 a h1 h2), h3⟩
theorem begT_s {c : Cfg} (h : chkT c = 0) (h3 : c.dep ≤ 3) (hv : versT c ≤ 19) : begT c = ((begT c).1, 0) ∧ hasT c (begT c).1 = 0 ∧ 0 ≤ LT c (begT c).1 ∧ LT c (begT c).1 ≤ 8000 := by
  obtain ⟨hR, hA, -, -⟩ := chk_okR h
  have hv0 := (vers_b hR hA).1
  obtain ⟨r1, r2, r3, r4, r5, r6, r7⟩ := id hR
  have hb : begT c = (List.replicate c.dep.toNat c.fst, 0) := by simp [begT, h]
  rw [hb]
  have ho : ∀ x ∈ List.replicate c.dep.toNat c.fst, oddT c x = false := by
    intro x hx
    rw [List.eq_of_mem_replicate hx]
    exact odd_of ⟨r5, Int.le_refl _, by simp⟩
  refine ⟨rfl, has_of h (by simp; omega) ho, ?_, ?_⟩
  · have := LT_nn hR hv0 ho (List.replicate c.dep.toNat c.fst).length (Nat.le_refl _)
    rwa [List.take_length] at this
  · have m1 : versT c * (versT c + 1) ≤ 19 * 20 := Int.le_trans (Int.mul_le_mul_of_nonneg_right hv (by omega)) (Int.mul_le_mul_of_nonneg_left (by omega) (by omega))
    have m0 : 0 ≤ versT c * (versT c + 1) := Int.mul_nonneg hv0 (by omega)
    have m2 : (versT c * (versT c + 1) + versT c) * (versT c + 1) ≤ (19 * 20 + 19) * 20 := Int.le_trans (Int.mul_le_mul_of_nonneg_right (show versT c * (versT c + 1) + versT c ≤ 19 * 20 + 19 by omega) (by omega)) (Int.mul_le_mul_of_nonneg_left (by omega) (by omega))
    rcases (show c.dep = 1 ∨ c.dep = 2 ∨ c.dep = 3 by omega) with e | e | e
    · rw [e]; simp [LT, List.replicate, dT_fst]; omega
    · rw [e]; simp [LT, List.replicate, dT_fst]; omega
    · rw [e]; simp [LT, List.replicate, dT_fst]; omega

/-! ### the walk -/
def smC (c : Cfg) : Cfg := ⟨hz, 0, 1000, [0, 1, 2], 1 + (IntKind.u64.wrap c.dep).tmod 3, 40, 40 - (IntKind.u64.wrap c.lst).tmod 20, 1 + (IntKind.u64.wrap c.stp).tmod 9, (IntKind.u64.wrap c.fee).tmod 20⟩
theorem u64_b (x : Int) : 0 ≤ IntKind.u64.wrap x := by
  simp [IntKind.wrap, IntKind.bits, IntKind.signed]; omega
theorem tm_b (x m : Int) (h : 0 < m) : 0 ≤ (IntKind.u64.wrap x).tmod m ∧ (IntKind.u64.wrap x).tmod m < m := by
  have := u64_b x
  exact ⟨Int.tmod_nonneg _ this, Int.tmod_lt_of_pos _ h⟩

set_option maxRecDepth 8000 in
set_option maxHeartbeats 4000000 in
theorem small_ok (c : Cfg) (hc : c.ok) : ECalls Tryd.prog 8 [CV c] [] fun y H' => H' = [] ∧ y = CV (smC c) := by
  have h32 := hc.1
  have t40 := tk40 h32
  have g33 := tkG hz_len 1 33 rfl
  have f33 := drG hz_len 1 33 rfl
  have g34 := tkG hz_len 2 34 rfl
  have f34 := drG hz_len 2 34 rfl
  have g35 := tkG hz_len 3 35 rfl
  have f35 := drG hz_len 3 35 rfl
  have g36 := tkG hz_len 4 36 rfl
  have f36 := drG hz_len 4 36 rfl
  have g37 := tkG hz_len 5 37 rfl
  have f37 := drG hz_len 5 37 rfl
  have g38 := tkG hz_len 6 38 rfl
  have f38 := drG hz_len 6 38 rfl
  have g39 := tkG hz_len 7 39 rfl
  have f39 := drG hz_len 7 39 rfl
  have g40 := tkG hz_len 8 40 rfl
  have f40 := drG hz_len 8 40 rfl
  obtain ⟨a1, a2⟩ := tm_b c.dep 3 (by omega)
  obtain ⟨b1, b2⟩ := tm_b c.lst 20 (by omega)
  obtain ⟨c1, c2⟩ := tm_b c.stp 9 (by omega)
  obtain ⟨d1, d2⟩ := tm_b c.fee 20 (by omega)
  unfold smC
  obtain ⟨a, ha⟩ : ∃ a, (IntKind.u64.wrap c.dep).tmod 3 = a := ⟨_, rfl⟩
  obtain ⟨b, hb⟩ : ∃ a, (IntKind.u64.wrap c.lst).tmod 20 = a := ⟨_, rfl⟩
  obtain ⟨s, hs⟩ : ∃ a, (IntKind.u64.wrap c.stp).tmod 9 = a := ⟨_, rfl⟩
  obtain ⟨f, hf⟩ : ∃ a, (IntKind.u64.wrap c.fee).tmod 20 = a := ⟨_, rfl⟩
  rw [ha] at a1 a2 ⊢
  rw [hb] at b1 b2 ⊢
  rw [hs] at c1 c2 ⊢
  rw [hf] at d1 d2 ⊢
  have wa : IntKind.i64.wrap a = a := wrap_i64 (by omega) (by omega)
  have wb : IntKind.i64.wrap b = b := wrap_i64 (by omega) (by omega)
  have ws : IntKind.i64.wrap s = s := wrap_i64 (by omega) (by omega)
  have wf : IntKind.i64.wrap f = f := wrap_i64 (by omega) (by omega)
  have wa1 : IntKind.i64.wrap (1 + a) = 1 + a := wrap_i64 (by omega) (by omega)
  have wb1 : IntKind.i64.wrap (40 - b) = 40 - b := wrap_i64 (by omega) (by omega)
  have ws1 : IntKind.i64.wrap (1 + s) = 1 + s := wrap_i64 (by omega) (by omega)
  refine ecalls k_small ?_
  simp [c_small, CV, cfgC, cfgT, IL, h32, hz_len, ha, hb, hs, hf, wa, wb, ws, wf, wa1, wb1, ws1, g33, f33, g34, f34, g35, f35, g36, f36, g37, f37, g38, f38, g39, f39, g40, f40]
  exact fin [] (by decide) (v := CV ⟨hz, 0, 1000, [0, 1, 2], 1 + a, 40, 40 - b, 1 + s, f⟩) (by simp [resV, resT, evT, asT, CV, cfgC, cfgT, hz_len, g40, intv]) (by simp [conR, conTs, conT, CV, cfgC, cfgT]) rfl ⟨rfl, rfl⟩

theorem smC_ok (c : Cfg) : (smC c).ok ∧ chkT (smC c) = 0 ∧ (smC c).dep ≤ 3 ∧ versT (smC c) ≤ 19 := by
  obtain ⟨a1, a2⟩ := tm_b c.dep 3 (by omega)
  obtain ⟨b1, b2⟩ := tm_b c.lst 20 (by omega)
  obtain ⟨c1, c2⟩ := tm_b c.stp 9 (by omega)
  obtain ⟨d1, d2⟩ := tm_b c.fee 20 (by omega)
  unfold smC
  generalize (IntKind.u64.wrap c.dep).tmod 3 = a at *
  generalize (IntKind.u64.wrap c.lst).tmod 20 = b at *
  generalize (IntKind.u64.wrap c.stp).tmod 9 = s at *
  generalize (IntKind.u64.wrap c.fee).tmod 20 = f at *
  have hv : (40 - (40 - b)) / (1 + s) ≤ 19 := by
    rw [show 40 - (40 - b) = b by omega]
    exact Int.le_trans (Int.ediv_le_self _ b1) (by omega)
  have hm : 0 ≤ (1 + a) * f ∧ (1 + a) * f ≤ 3 * 19 := ⟨Int.mul_nonneg (by omega) d1, Int.le_trans (Int.mul_le_mul_of_nonneg_right (show 1 + a ≤ 3 by omega) d1) (Int.mul_le_mul_of_nonneg_left (show f ≤ 19 by omega) (by omega))⟩
  have hm2 : 0 ≤ (1 + a) * (40 - (40 - b) + 1) ∧ (1 + a) * (40 - (40 - b) + 1) ≤ 3 * 20 := ⟨Int.mul_nonneg (by omega) (by omega), Int.le_trans (Int.mul_le_mul_of_nonneg_right (show 1 + a ≤ 3 by omega) (by omega)) (Int.mul_le_mul_of_nonneg_left (show 40 - (40 - b) + 1 ≤ 20 by omega) (by omega))⟩
  refine ⟨⟨hz_len, by unfold i64; simp, by unfold i64; simp, by simp [i64], by unfold i64; simp; omega, by unfold i64; simp, by unfold i64; simp; omega, by unfold i64; simp; omega, by unfold i64; simp; omega, by simp⟩, ?_, by simp; omega, hv⟩
  refine chk_0 ⟨?_, ?_, ?_, ?_, ?_, ?_, ?_⟩ ⟨?_, ?_, ?_, ?_, ?_⟩ ⟨by simp [keysS], by simp⟩ ?_ <;> simp only <;> omega

set_option maxRecDepth 8000 in
set_option maxHeartbeats 8000000 in
theorem TreeNewer_ok (c0 : Cfg) (hc0 : c0.ok) : ECalls Tryd.prog 3 [CV c0] [] fun y H' => H' = [] ∧ y = .lit (.bool true) := by
  have h32 := hc0.1
  have t40 := tk40 h32
  obtain ⟨hc, hk, hd3, hv19⟩ := smC_ok c0
  obtain ⟨hb1, hb2, hb3, hb4⟩ := begT_s hk hd3 hv19
  have hsm := small_ok c0 hc0
  generalize smC c0 = c at *
  generalize (begT c).1 = p0 at *
  have hp0 : p0.length ≤ 8 := by
    obtain ⟨k1, k2, -⟩ := has_all hb2
    omega
  have g32 := hc.1
  have u40 := tk40 g32
  refine ecalls k_TreeNewer ?_
  simp [c_TreeNewer, CV, cfgC, cfgT, IL, h32, t40]
  refine call0 hsm (by simp [CV, cfgC, cfgT, t40]) ?_
  rintro y H' ⟨rfl, rfl⟩
  refine ⟨.inl (by simp [t40]), le_ok rfl, ?_⟩
  simp [drG hz_len 8 40 rfl, CV, cfgC, cfgT, g32, u40]
  refine call0 (TBegin_ok c hc) (by simp [CV, cfgC, cfgT, u40]) ?_
  rintro y H' ⟨rfl, rfl⟩
  refine ⟨.inl (by simp [u40]), le_ok rfl, ?_⟩
  rw [hb1]
  have hl0 : leftT c p0 = (LT c p0, 0) := by simp [leftT, hb2]; omega
  simp [PE, g32, u40]
  refine call0 (TLeft_ok c p0 hc (by omega)) (by simp [CV, cfgC, cfgT, IL, u40]) ?_
  rintro y H' ⟨rfl, rfl⟩
  refine ⟨.inl (by simp [u40]), le_ok rfl, ?_⟩
  rw [hl0]
  simp [g32, u40]
  refine loopW _ (weak_nilR 8 33 1 rfl (by omega)) ?_
  refine eloop (α := Nat × List Int × List (List Int)) (fun a => a.1 ≤ 120 ∧ ((a.1 : Int) ≤ LT c p0 → hasT c a.2.1 = 0 ∧ LT c a.2.1 = LT c p0 - a.1) ∧ (∀ s ∈ a.2.2, hasT c s = 0 ∧ LT c p0 - a.1 < LT c s) ∧ a.2.2.length ≤ a.1) (fun a => 120 - a.1)
    (fun a => [.any, .any, .any, Ptr 0, IL a.2.1, .any, I .i64 (LT c p0), .any, .v (.c (.row 1 a.2.2.length)), I .i64 a.1, .any, .any, .any, .any, .any, .any, .any, .any, .any, .any, .any, .any, .any, .any, .any, .any, .any, .any, .any, .any, .any, .any, .any, .any, .any, .any, .any, .any, .any, .any, .any, .any, .any, .any, .any, .any, .any, .any, .any, .any, .any, .any, .any, .any, .any, .any, .any, .any, .any, .any, .any, .any, .any, .any, .any, .any, .any, .any, .any, .any, .any, .any, .any, .any, .any, .any, .any, .any, .any, .any, .any, .any, .any, .any, .any, .any, .any, .any, .any, .any, .any, .any, .any, .any, .any, .any, .any, .any, .any, .any, .any, .any, .any, .any, .any, .any, .any, .any, .any, .any, .any, .any]) (fun a => [some (.box 31 (cfgC c)), some (.row 33 1 (a.2.2.map fun s => [.sl 1 (intv s)]))]) (0, p0, []) [64, 464]
    ⟨by simp, fun _ => ⟨hb2, by simp⟩, by simp, by simp⟩ (by simp [I, IL, Ptr]) (by simp [cfgC, cfgT]) (by simp) (by simp) (by simp) ?_
  rintro ⟨i, p, S⟩ ⟨hi, hp, hS, hSl⟩
  simp only at hi hp hS hSl
  by_cases n1 : (i : Int) ≤ LT c p0
  rotate_left
  · simp [I, IL, Ptr, n1]
    refine call0 (sure_ok) (by simp [I, EV.lit, Ptr, IL, CV, cfgC, cfgT, h32, tk40 h32, PE, PI]) ?_
    rintro y H' ⟨rfl, rfl⟩
    refine ⟨.inl (by simp [I, EV.lit, Ptr, IL, CV, cfgC, cfgT, h32, tk40 h32, PE, PI]), le_ok rfl, ?_⟩
    simp [I, EV.lit, Ptr, IL, CV, cfgC, cfgT, h32, tk40 h32, PE, PI]
    exact fin [] (by decide) rfl rfl rfl ⟨rfl, rfl⟩
  by_cases n2 : (i : Int) < 120
  rotate_left
  · simp [I, IL, Ptr, n1, n2]
    refine call0 (sure_ok) (by simp [I, EV.lit, Ptr, IL, CV, cfgC, cfgT, h32, tk40 h32, PE, PI]) ?_
    rintro y H' ⟨rfl, rfl⟩
    refine ⟨.inl (by simp [I, EV.lit, Ptr, IL, CV, cfgC, cfgT, h32, tk40 h32, PE, PI]), le_ok rfl, ?_⟩
    simp [I, EV.lit, Ptr, IL, CV, cfgC, cfgT, h32, tk40 h32, PE, PI]
    exact fin [] (by decide) rfl rfl rfl ⟨rfl, rfl⟩
  obtain ⟨hp1, hp2⟩ := hp n1
  have hpl : p.length ≤ 8 := by
    obtain ⟨k1, k2, -⟩ := has_all hp1
    omega
  have hl1 : leftT c p = (LT c p0 - i, 0) := by simp [leftT, hp1, hp2]; omega
  have ws : IntKind.i64.wrap (LT c p0 - i) = LT c p0 - i := wrap_i64 (by omega) (by omega)
  simp [I, IL, Ptr, cfgC, cfgT, n1, n2, g32, u40]
  refine call0 (TLeft_ok c p hc (by omega)) (by simp [CV, cfgC, cfgT, IL, u40]) ?_
  rintro y H' ⟨rfl, rfl⟩
  refine ⟨.inl (by simp [u40]), le_ok rfl, ?_⟩
  rw [hl1]
  simp [ws, g32, u40]
  refine eloop (α := Nat) (fun j => j ≤ S.length) (fun j => S.length - j)
    (fun j => [.any, .any, .any, Ptr 0, IL p, .any, I .i64 (LT c p0), .any, .v (.c (.row 1 S.length)), I .i64 i, .any, .any, I .i64 j, .any, .any, .any, .any, .any, .any, .any, .any, .any, .any, .any, .any, .any, .any, .any, .any, .any, .any, .any, .any, .any, .any, .any, .any, .any, .any, .any, .any, .any, .any, .any, .any, .any, .any, .any, .any, .any, .any, .any, .any, .any, .any, .any, .any, .any, .any, .any, .any, .any, .any, .any, .any, .any, .any, .any, .any, .any, .any, .any, .any, .any, .any, .any, .any, .any, .any, .any, .any, .any, .any, .any, .any, .any, .any, .any, .any, .any, .any, .any, .any, .any, .any, .any, .any, .any, .any, .any, .any, .any, .any, .any, .any, .any, .any, .any, .any, .any, .any, .any]) (fun _ => [some (.box 31 (cfgC c)), some (.row 33 1 (S.map fun s => [.sl 1 (intv s)]))]) 0 [0, 1]
    (Nat.zero_le _) (by simp [I, IL, Ptr]) (by simp [cfgC, cfgT]) (by simp) (by simp) (by simp) ?_
  intro j hj
  by_cases hjl : j < S.length
  · obtain ⟨s, hs⟩ : ∃ s, S[j]? = some s := ⟨S[j], by simp [hjl]⟩
    obtain ⟨hs1, hs2⟩ := hS s (List.mem_of_getElem? hs)
    have hsl : s.length ≤ 8 := by
      obtain ⟨k1, k2, -⟩ := has_all hs1
      omega
    have e1 : newT c p s = true := by rw [newT_LT hp1 hs1, hp2]; simp; omega
    have e2 : newT c s p = false := by rw [newT_LT hs1 hp1, hp2]; simp; omega
    have hg : (S.map fun s => [FV.sl 1 (intv s)])[j]? = some [.sl 1 (intv s)] := by simp [hs]
    have hg2 : ∀ h, (S.map fun s => [FV.sl 1 (intv s)])[j]'h = [.sl 1 (intv s)] := fun h => by
      have := hg
      rw [List.getElem?_eq_getElem h] at this
      exact Option.some.inj this
    have hg3 : S[j] = s := by
      have := hs
      rw [List.getElem?_eq_getElem hjl] at this
      exact Option.some.inj this
    have wj : IntKind.i64.wrap ((j : Int) + 1) = ((j + 1 : Nat) : Int) := wrap_i64 (by omega) (by omega)
    simp [I, IL, Ptr, cfgC, cfgT, hjl, hg3, g32, u40]
    refine call0 (TNewer_ok c p s hc (by omega) (by omega)) (by simp [CV, cfgC, cfgT, IL, u40]) ?_
    rintro y H' ⟨rfl, rfl⟩
    refine ⟨.inl (by simp [u40]), le_ok rfl, ?_⟩
    rw [e1]
    simp [EV.lit, hjl, hg3, g32, u40]
    refine call0 (TNewer_ok c s p hc (by omega) (by omega)) (by simp [CV, cfgC, cfgT, IL, u40]) ?_
    rintro y H' ⟨rfl, rfl⟩
    refine ⟨.inl (by simp [u40]), le_ok rfl, ?_⟩
    rw [e2]
    simp [EV.lit, wj, -Int.natCast_add]
    exact round (j + 1) [0, 1] (by omega) (by omega) (by simp [I]) (by simp [cfgC, cfgT]) (by simp) (by simp) (by simp)
  have hjS : j = S.length := by omega
  subst hjS
  have wi : IntKind.i64.wrap ((i : Int) + 1) = ((i + 1 : Nat) : Int) := wrap_i64 (by omega) (by omega)
  by_cases h7 : (i : Int).tmod 7 = 0
  · simp [I, IL, Ptr, cfgC, cfgT, g32, u40, h7]
    refine ⟨by omega, ?_⟩

    have hS2 : (∀ s ∈ S ++ [p], hasT c s = 0 ∧ LT c p0 - ((i + 1 : Nat) : Int) < LT c s) ∧ (S ++ [p]).length ≤ i + 1 := by
      refine ⟨fun s hs => ?_, by simp; omega⟩
      rcases List.mem_append.1 hs with h | h
      · obtain ⟨u1, u2⟩ := hS s h
        exact ⟨u1, by omega⟩
      · rw [List.mem_singleton.1 h]
        exact ⟨hp1, by omega⟩
    by_cases hN : (i : Int) = LT c p0
    · have hx := nextT_0 hp1 (by omega)
      have m1 : ¬ (i : Int) < LT c p0 := by omega
      refine call0 (TNext_ok c p hc (by omega)) (by simp [CV, cfgC, cfgT, IL, u40]) ?_
      rintro y H' ⟨rfl, rfl⟩
      refine ⟨.inl (by simp [u40]), le_ok rfl, ?_⟩
      rw [hx]
      simp [PE, eq_true hN, m1]
      refine call0 (num_e 30) (by simp [EV.lit]) ?_
      rintro y H' ⟨rfl, rfl⟩
      refine ⟨.inl (by simp), le_ok rfl, ?_⟩
      simp [I, wi, -Int.natCast_add]
      exact round (i + 1, [], S ++ [p]) [0, 162] ⟨by simp; omega, fun h => absurd h (by simp; omega), hS2⟩ (by simp; omega) (by simp [I]) (by simp [cfgC, cfgT]) (by simp) (by simp) (by simp)
    · obtain ⟨q, hx, hq1, hq2⟩ := nextT_s hp1 (by omega)
      have m1 : (i : Int) < LT c p0 := by omega
      refine call0 (TNext_ok c p hc (by omega)) (by simp [CV, cfgC, cfgT, IL, u40]) ?_
      rintro y H' ⟨rfl, rfl⟩
      refine ⟨.inl (by simp [u40]), le_ok rfl, ?_⟩
      rw [hx]
      simp [PE, hN, m1, wi, -Int.natCast_add]
      exact round (i + 1, q, S ++ [p]) [0, 162] ⟨by simp; omega, fun h => ⟨hq1, by simp only; rw [hq2, hp2]; omega⟩, hS2⟩ (by simp; omega) (by simp [I]) (by simp [cfgC, cfgT]) (by simp) (by simp) (by simp)
  · simp [I, IL, Ptr, cfgC, cfgT, g32, u40, h7]

    have hS2 : (∀ s ∈ S, hasT c s = 0 ∧ LT c p0 - ((i + 1 : Nat) : Int) < LT c s) ∧ (S).length ≤ i + 1 := ⟨fun s hs => by obtain ⟨u1, u2⟩ := hS s hs; exact ⟨u1, by omega⟩, by omega⟩
    by_cases hN : (i : Int) = LT c p0
    · have hx := nextT_0 hp1 (by omega)
      have m1 : ¬ (i : Int) < LT c p0 := by omega
      refine call0 (TNext_ok c p hc (by omega)) (by simp [CV, cfgC, cfgT, IL, u40]) ?_
      rintro y H' ⟨rfl, rfl⟩
      refine ⟨.inl (by simp [u40]), le_ok rfl, ?_⟩
      rw [hx]
      simp [PE, eq_true hN, m1]
      refine call0 (num_e 30) (by simp [EV.lit]) ?_
      rintro y H' ⟨rfl, rfl⟩
      refine ⟨.inl (by simp), le_ok rfl, ?_⟩
      simp [I, wi, -Int.natCast_add]
      exact round (i + 1, [], S) [0, 1] ⟨by simp; omega, fun h => absurd h (by simp; omega), hS2⟩ (by simp; omega) (by simp [I]) (by simp [cfgC, cfgT]) (by simp) (by simp) (by simp)
    · obtain ⟨q, hx, hq1, hq2⟩ := nextT_s hp1 (by omega)
      have m1 : (i : Int) < LT c p0 := by omega
      refine call0 (TNext_ok c p hc (by omega)) (by simp [CV, cfgC, cfgT, IL, u40]) ?_
      rintro y H' ⟨rfl, rfl⟩
      refine ⟨.inl (by simp [u40]), le_ok rfl, ?_⟩
      rw [hx]
      simp [PE, hN, m1, wi, -Int.natCast_add]
      exact round (i + 1, q, S) [0, 1] ⟨by simp; omega, fun h => ⟨hq1, by simp only; rw [hq2, hp2]; omega⟩, hS2⟩ (by simp; omega) (by simp [I]) (by simp [cfgC, cfgT]) (by simp) (by simp) (by simp)

end Go.Proofs.YtoomdgmggkcgfaaDoor
