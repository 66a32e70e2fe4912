import Derived.Test.YtpohjnhlhfbnaaaGreatDoorAll13
import Derived.Test.YtpohjnhlhfbnaaaGreatDoorAll11
namespace Go.Proofs.YtpohjnhlhfbnaaaGreatDoor
open Go Go.EW
set_option linter.unusedSimpArgs false
set_option linter.unusedVariables false

@[simp] def l_BKeyed_1 (_ : Unit) : List EOp := [⟨0, (some 4), none, (.q (.alloc 48 zU8)), []⟩, ⟨1, (some 5), none, (.q (.mov (.k (.int .i64 0)))), []⟩]
@[simp] def b_BKeyed_2 (_ : Unit) : EB := reg0 (hid l_BKeyed_1) 2
@[simp] def l_BKeyed_3 (_ : Unit) : List EOp := [⟨0, (some 6), none, (.q (.alloc 48 zU8)), []⟩]
@[simp] def b_BKeyed_4 (_ : Unit) : EB := reg0 (hid l_BKeyed_3) 1
@[simp] def l_BKeyed_5 (_ : Unit) : List EOp := [⟨0, (some 12), none, (.q (.mov (.t 0))), []⟩, ⟨1, (some 13), none, (.q (.len (.t 12))), []⟩, ⟨2, (some 14), none, (.q (.bin .gtr (.t 13) (.k (.int .i64 32)))), []⟩]
@[simp] def b_BKeyed_6 (_ : Unit) : EB := reg0 (hid l_BKeyed_5) 3
@[simp] def l_BKeyed_7 (_ : Unit) : List EOp := [⟨0, (some 15), none, (.q (.lda 32 (.t 6))), []⟩, ⟨1, none, none, (.sto 32 (.t 4) (.t 15)), []⟩, ⟨2, (some 5), none, (.q (.mov (.k (.int .i64 2)))), []⟩]
@[simp] def b_BKeyed_8 (_ : Unit) : EB := reg0 (hid l_BKeyed_7) 3
@[simp] def b_BKeyed_9 (_ : Unit) : EB := .seq (hid b_BKeyed_8) .ret
@[simp] def b_BKeyed_10 (_ : Unit) : EB := .cond (.t 14) (hid b_BKeyed_9) .skip
@[simp] def b_BKeyed_11 (_ : Unit) : EB := .seq (hid b_BKeyed_6) (hid b_BKeyed_10)
@[simp] def l_BKeyed_12 (_ : Unit) : List EOp := [⟨0, (some 16), none, (.call 68 []), []⟩, ⟨1, (some 7), none, (.q (.mov (.t 16))), []⟩]
@[simp] def b_BKeyed_13 (_ : Unit) : EB := reg0 (hid l_BKeyed_12) 2
@[simp] def l_BKeyed_15 (_ : Unit) : List EOp := [⟨6, (some 23), none, (.q (.len (.t 22))), []⟩, ⟨7, (some 24), none, (.q (.bin .mul (.k (.int .i64 256)) (.t 23))), []⟩, ⟨8, (some 25), none, (.q (.cnv .u32 (.t 24))), []⟩, ⟨9, (some 26), none, (.q (.bin .xor (.t 21) (.t 25))), []⟩, ⟨10, (some 27), none, (.q (.isl 1 (.t 17) (.k (.int .i64 0)))), []⟩, ⟨11, none, none, (.sto 1 (.t 27) (.t 26)), []⟩]
@[simp] def l_BKeyed_14 (_ : Unit) : List EOp := ⟨0, (some 17), none, (.q (.mov (.t 7))), []⟩ :: ⟨1, (some 18), none, (.q (.mov (.t 7))), []⟩ :: ⟨2, (some 19), none, (.q (.isl 1 (.t 18) (.k (.int .i64 0)))), []⟩ :: ⟨3, (some 20), none, (.q (.ldc (.t 19))), []⟩ :: ⟨4, (some 21), none, (.q (.bin .xor (.t 20) (.k (.int .u32 16842784)))), []⟩ :: ⟨5, (some 22), none, (.q (.mov (.t 0))), []⟩ :: hid l_BKeyed_15
@[simp] def b_BKeyed_16 (_ : Unit) : EB := reg0 (hid l_BKeyed_14) 12
@[simp] def l_BKeyed_17 (_ : Unit) : List EOp := [⟨0, (some 8), none, (.q (.mov (.k (.slice none 0 0)))), []⟩]
@[simp] def b_BKeyed_18 (_ : Unit) : EB := reg0 (hid l_BKeyed_17) 1
@[simp] def l_BKeyed_19 (_ : Unit) : List EOp := [⟨0, (some 28), none, (.q (.mov (.t 0))), []⟩, ⟨1, (some 29), none, (.q (.len (.t 28))), []⟩, ⟨2, (some 30), none, (.q (.bin .gtr (.t 29) (.k (.int .i64 0)))), []⟩]
@[simp] def b_BKeyed_20 (_ : Unit) : EB := reg0 (hid l_BKeyed_19) 3
@[simp] def l_BKeyed_21 (_ : Unit) : List EOp := [⟨0, (some 31), none, (.q (.mov (.t 8))), []⟩, ⟨1, (some 32), none, (.q (.mov (.t 0))), []⟩, ⟨2, (some 33), none, (.app 5 1 1 (.t 31) (.t 32)), []⟩, ⟨3, (some 8), none, (.q (.mov (.t 33))), []⟩]
@[simp] def b_BKeyed_22 (_ : Unit) : EB := reg0 (hid l_BKeyed_21) 4
@[simp] def l_BKeyed_23 (_ : Unit) : List EOp := [⟨0, (some 34), none, (.q (.mov (.t 8))), []⟩, ⟨1, (some 35), none, (.q (.len (.t 34))), []⟩, ⟨2, (some 36), none, (.q (.bin .lss (.t 35) (.k (.int .i64 64)))), []⟩]
@[simp] def b_BKeyed_24 (_ : Unit) : EB := reg0 (hid l_BKeyed_23) 3
@[simp] def b_BKeyed_25 (_ : Unit) : EB := .cond (.t 36) .skip (.exit 0)
@[simp] def b_BKeyed_26 (_ : Unit) : EB := .seq (hid b_BKeyed_24) (hid b_BKeyed_25)
@[simp] def l_BKeyed_27 (_ : Unit) : List EOp := [⟨0, (some 37), none, (.q (.mov (.t 8))), []⟩, ⟨1, (some 38), none, (.q (.bsl 1 [(.int .u8 0)] 1 [(0, (.k (.int .u8 0)))])), []⟩, ⟨2, (some 39), none, (.app 5 1 1 (.t 37) (.t 38)), []⟩, ⟨3, (some 8), none, (.q (.mov (.t 39))), []⟩]
@[simp] def b_BKeyed_28 (_ : Unit) : EB := reg0 (hid l_BKeyed_27) 4
@[simp] def b_BKeyed_29 (_ : Unit) : EB := .block 1 (hid b_BKeyed_28)
@[simp] def b_BKeyed_30 (_ : Unit) : EB := .seq (hid b_BKeyed_26) (hid b_BKeyed_29)
@[simp] def b_BKeyed_31 (_ : Unit) : EB := .loop (hid b_BKeyed_30)
@[simp] def b_BKeyed_32 (_ : Unit) : EB := .block 0 (hid b_BKeyed_31)
@[simp] def b_BKeyed_33 (_ : Unit) : EB := .seq (hid b_BKeyed_22) (hid b_BKeyed_32)
@[simp] def b_BKeyed_34 (_ : Unit) : EB := .cond (.t 30) (hid b_BKeyed_33) .skip
@[simp] def b_BKeyed_35 (_ : Unit) : EB := .seq (hid b_BKeyed_20) (hid b_BKeyed_34)
@[simp] def l_BKeyed_36 (_ : Unit) : List EOp := [⟨0, (some 40), none, (.q (.mov (.t 8))), []⟩, ⟨1, (some 41), none, (.q (.mov (.t 1))), []⟩, ⟨2, (some 42), none, (.app 5 1 1 (.t 40) (.t 41)), []⟩, ⟨3, (some 8), none, (.q (.mov (.t 42))), []⟩]
@[simp] def b_BKeyed_37 (_ : Unit) : EB := reg0 (hid l_BKeyed_36) 4
@[simp] def l_BKeyed_38 (_ : Unit) : List EOp := [⟨0, (some 43), none, (.q (.mov (.t 8))), []⟩, ⟨1, (some 44), none, (.q (.len (.t 43))), []⟩, ⟨2, (some 9), none, (.q (.mov (.t 44))), []⟩]
@[simp] def b_BKeyed_39 (_ : Unit) : EB := reg0 (hid l_BKeyed_38) 3
@[simp] def l_BKeyed_41 (_ : Unit) : List EOp := [⟨6, (some 51), (some (49, false)), (.q (.len (.t 50))), []⟩, ⟨7, (some 52), (some (49, false)), (.q (.bin .eql (.t 51) (.k (.int .i64 0)))), []⟩, ⟨8, (some 53), none, (.q (.pick (.t 49) (.k (.bool true)) (.t 52))), []⟩]
@[simp] def l_BKeyed_40 (_ : Unit) : List EOp := ⟨0, (some 45), none, (.q (.mov (.t 8))), []⟩ :: ⟨1, (some 46), none, (.q (.len (.t 45))), []⟩ :: ⟨2, (some 47), none, (.q (.bin .rem (.t 46) (.k (.int .i64 64)))), []⟩ :: ⟨3, (some 48), none, (.q (.bin .neq (.t 47) (.k (.int .i64 0)))), []⟩ :: ⟨4, (some 49), none, (.q (.mov (.t 48))), []⟩ :: ⟨5, (some 50), (some (49, false)), (.q (.mov (.t 8))), []⟩ :: hid l_BKeyed_41
@[simp] def b_BKeyed_42 (_ : Unit) : EB := reg0 (hid l_BKeyed_40) 9
@[simp] def b_BKeyed_43 (_ : Unit) : EB := .cond (.t 53) .skip (.exit 2)
@[simp] def b_BKeyed_44 (_ : Unit) : EB := .seq (hid b_BKeyed_42) (hid b_BKeyed_43)
@[simp] def l_BKeyed_45 (_ : Unit) : List EOp := [⟨0, (some 54), none, (.q (.mov (.t 8))), []⟩, ⟨1, (some 55), none, (.q (.bsl 1 [(.int .u8 0)] 1 [(0, (.k (.int .u8 0)))])), []⟩, ⟨2, (some 56), none, (.app 5 1 1 (.t 54) (.t 55)), []⟩, ⟨3, (some 8), none, (.q (.mov (.t 56))), []⟩]
@[simp] def b_BKeyed_46 (_ : Unit) : EB := reg0 (hid l_BKeyed_45) 4
@[simp] def b_BKeyed_47 (_ : Unit) : EB := .block 3 (hid b_BKeyed_46)
@[simp] def b_BKeyed_48 (_ : Unit) : EB := .seq (hid b_BKeyed_44) (hid b_BKeyed_47)
@[simp] def b_BKeyed_49 (_ : Unit) : EB := .loop (hid b_BKeyed_48)
@[simp] def b_BKeyed_50 (_ : Unit) : EB := .block 2 (hid b_BKeyed_49)
@[simp] def l_BKeyed_51 (_ : Unit) : List EOp := [⟨0, (some 10), none, (.q (.mov (.k (.int .i64 0)))), []⟩]
@[simp] def b_BKeyed_52 (_ : Unit) : EB := reg0 (hid l_BKeyed_51) 1
@[simp] def l_BKeyed_53 (_ : Unit) : List EOp := [⟨0, (some 57), none, (.q (.mov (.t 10))), []⟩, ⟨1, (some 58), none, (.q (.mov (.t 8))), []⟩, ⟨2, (some 59), none, (.q (.len (.t 58))), []⟩, ⟨3, (some 60), none, (.q (.bin .lss (.t 57) (.t 59))), []⟩]
@[simp] def b_BKeyed_54 (_ : Unit) : EB := reg0 (hid l_BKeyed_53) 4
@[simp] def b_BKeyed_55 (_ : Unit) : EB := .cond (.t 60) .skip (.exit 4)
@[simp] def b_BKeyed_56 (_ : Unit) : EB := .seq (hid b_BKeyed_54) (hid b_BKeyed_55)
@[simp] def l_BKeyed_59 (_ : Unit) : List EOp := [⟨12, (some 75), none, (.q (.bin .add (.t 74) (.k (.int .i64 64)))), []⟩, ⟨13, (some 76), none, (.q (.mov (.t 8))), []⟩, ⟨14, (some 77), none, (.q (.len (.t 76))), []⟩, ⟨15, (some 78), none, (.q (.bin .eql (.t 75) (.t 77))), []⟩, ⟨16, (some 79), none, (.call 69 [(.t 63), (.t 68), (.t 73), (.t 78)]), []⟩, ⟨17, (some 7), none, (.q (.mov (.t 79))), []⟩]
@[simp] def l_BKeyed_58 (_ : Unit) : List EOp := ⟨6, (some 69), none, (.q (.mov (.t 9))), []⟩ :: ⟨7, (some 70), none, (.q (.mov (.t 10))), []⟩ :: ⟨8, (some 71), none, (.q (.bin .add (.t 70) (.k (.int .i64 64)))), []⟩ :: ⟨9, (some 72), none, (.q (.minmax false [(.t 69), (.t 71)])), []⟩ :: ⟨10, (some 73), none, (.q (.cnv .u64 (.t 72))), []⟩ :: ⟨11, (some 74), none, (.q (.mov (.t 10))), []⟩ :: hid l_BKeyed_59
@[simp] def l_BKeyed_57 (_ : Unit) : List EOp := ⟨0, (some 63), none, (.q (.mov (.t 7))), []⟩ :: ⟨1, (some 64), none, (.q (.mov (.t 8))), []⟩ :: ⟨2, (some 65), none, (.q (.mov (.t 10))), []⟩ :: ⟨3, (some 66), none, (.q (.mov (.t 10))), []⟩ :: ⟨4, (some 67), none, (.q (.bin .add (.t 66) (.k (.int .i64 64)))), []⟩ :: ⟨5, (some 68), none, (.q (.ssl 1 (.t 64) (some (.t 65)) (some (.t 67)))), []⟩ :: hid l_BKeyed_58
@[simp] def b_BKeyed_60 (_ : Unit) : EB := reg0 (hid l_BKeyed_57) 18
@[simp] def b_BKeyed_61 (_ : Unit) : EB := .block 5 (hid b_BKeyed_60)
@[simp] def l_BKeyed_62 (_ : Unit) : List EOp := [⟨0, (some 61), none, (.q (.mov (.t 10))), []⟩, ⟨1, (some 62), none, (.q (.bin .add (.t 61) (.k (.int .i64 64)))), []⟩, ⟨2, (some 10), none, (.q (.mov (.t 62))), []⟩]
@[simp] def b_BKeyed_63 (_ : Unit) : EB := reg0 (hid l_BKeyed_62) 3
@[simp] def b_BKeyed_64 (_ : Unit) : EB := .seq (hid b_BKeyed_61) (hid b_BKeyed_63)
@[simp] def b_BKeyed_65 (_ : Unit) : EB := .seq (hid b_BKeyed_56) (hid b_BKeyed_64)
@[simp] def b_BKeyed_66 (_ : Unit) : EB := .loop (hid b_BKeyed_65)
@[simp] def b_BKeyed_67 (_ : Unit) : EB := .block 4 (hid b_BKeyed_66)
@[simp] def b_BKeyed_68 (_ : Unit) : EB := .seq (hid b_BKeyed_52) (hid b_BKeyed_67)
@[simp] def l_BKeyed_69 (_ : Unit) : List EOp := [⟨0, (some 11), none, (.q (.mov (.k (.int .i64 0)))), []⟩]
@[simp] def b_BKeyed_70 (_ : Unit) : EB := reg0 (hid l_BKeyed_69) 1
@[simp] def l_BKeyed_71 (_ : Unit) : List EOp := [⟨0, (some 80), none, (.q (.mov (.t 11))), []⟩, ⟨1, (some 81), none, (.q (.bin .lss (.t 80) (.k (.int .i64 32)))), []⟩]
@[simp] def b_BKeyed_72 (_ : Unit) : EB := reg0 (hid l_BKeyed_71) 2
@[simp] def b_BKeyed_73 (_ : Unit) : EB := .cond (.t 81) .skip (.exit 6)
@[simp] def b_BKeyed_74 (_ : Unit) : EB := .seq (hid b_BKeyed_72) (hid b_BKeyed_73)
@[simp] def l_BKeyed_77 (_ : Unit) : List EOp := [⟨12, none, none, (.sto 1 (.t 95) (.t 94)), []⟩]
@[simp] def l_BKeyed_76 (_ : Unit) : List EOp := ⟨6, (some 90), none, (.q (.mov (.t 11))), []⟩ :: ⟨7, (some 91), none, (.q (.bin .rem (.t 90) (.k (.int .i64 4)))), []⟩ :: ⟨8, (some 92), none, (.q (.bin .mul (.k (.int .i64 8)) (.t 91))), []⟩ :: ⟨9, (some 93), none, (.q (.bin .shr (.t 89) (.t 92))), []⟩ :: ⟨10, (some 94), none, (.q (.cnv .u8 (.t 93))), []⟩ :: ⟨11, (some 95), none, (.q (.iad 32 1 (.t 6) (.t 84))), []⟩ :: hid l_BKeyed_77
@[simp] def l_BKeyed_75 (_ : Unit) : List EOp := ⟨0, (some 84), none, (.q (.mov (.t 11))), []⟩ :: ⟨1, (some 85), none, (.q (.mov (.t 7))), []⟩ :: ⟨2, (some 86), none, (.q (.mov (.t 11))), []⟩ :: ⟨3, (some 87), none, (.q (.bin .quo (.t 86) (.k (.int .i64 4)))), []⟩ :: ⟨4, (some 88), none, (.q (.isl 1 (.t 85) (.t 87))), []⟩ :: ⟨5, (some 89), none, (.q (.ldc (.t 88))), []⟩ :: hid l_BKeyed_76
@[simp] def b_BKeyed_78 (_ : Unit) : EB := reg0 (hid l_BKeyed_75) 13
@[simp] def b_BKeyed_79 (_ : Unit) : EB := .block 7 (hid b_BKeyed_78)
@[simp] def l_BKeyed_80 (_ : Unit) : List EOp := [⟨0, (some 82), none, (.q (.mov (.t 11))), []⟩, ⟨1, (some 83), none, (.q (.bin .add (.t 82) (.k (.int .i64 1)))), []⟩, ⟨2, (some 11), none, (.q (.mov (.t 83))), []⟩]
@[simp] def b_BKeyed_81 (_ : Unit) : EB := reg0 (hid l_BKeyed_80) 3
@[simp] def b_BKeyed_82 (_ : Unit) : EB := .seq (hid b_BKeyed_79) (hid b_BKeyed_81)
@[simp] def b_BKeyed_83 (_ : Unit) : EB := .seq (hid b_BKeyed_74) (hid b_BKeyed_82)
@[simp] def b_BKeyed_84 (_ : Unit) : EB := .loop (hid b_BKeyed_83)
@[simp] def b_BKeyed_85 (_ : Unit) : EB := .block 6 (hid b_BKeyed_84)
@[simp] def b_BKeyed_86 (_ : Unit) : EB := .seq (hid b_BKeyed_70) (hid b_BKeyed_85)
@[simp] def l_BKeyed_87 (_ : Unit) : List EOp := [⟨0, (some 96), none, (.q (.lda 32 (.t 6))), []⟩, ⟨1, none, none, (.sto 32 (.t 4) (.t 96)), []⟩, ⟨2, (some 5), none, (.q (.mov (.k (.int .i64 0)))), []⟩]
@[simp] def b_BKeyed_88 (_ : Unit) : EB := reg0 (hid l_BKeyed_87) 3
@[simp] def b_BKeyed_89 (_ : Unit) : EB := .seq (hid b_BKeyed_88) .ret
@[simp] def b_BKeyed_90 (_ : Unit) : EB := .seq (hid b_BKeyed_86) (hid b_BKeyed_89)
@[simp] def b_BKeyed_91 (_ : Unit) : EB := .seq (hid b_BKeyed_68) (hid b_BKeyed_90)
@[simp] def b_BKeyed_92 (_ : Unit) : EB := .seq (hid b_BKeyed_50) (hid b_BKeyed_91)
@[simp] def b_BKeyed_93 (_ : Unit) : EB := .seq (hid b_BKeyed_39) (hid b_BKeyed_92)
@[simp] def b_BKeyed_94 (_ : Unit) : EB := .seq (hid b_BKeyed_37) (hid b_BKeyed_93)
@[simp] def b_BKeyed_95 (_ : Unit) : EB := .seq (hid b_BKeyed_35) (hid b_BKeyed_94)
@[simp] def b_BKeyed_96 (_ : Unit) : EB := .seq (hid b_BKeyed_18) (hid b_BKeyed_95)
@[simp] def b_BKeyed_97 (_ : Unit) : EB := .seq (hid b_BKeyed_16) (hid b_BKeyed_96)
@[simp] def b_BKeyed_98 (_ : Unit) : EB := .seq (hid b_BKeyed_13) (hid b_BKeyed_97)
@[simp] def b_BKeyed_99 (_ : Unit) : EB := .seq (hid b_BKeyed_11) (hid b_BKeyed_98)
@[simp] def b_BKeyed_100 (_ : Unit) : EB := .seq (hid b_BKeyed_4) (hid b_BKeyed_99)
@[simp] def b_BKeyed_101 (_ : Unit) : EB := .seq (hid b_BKeyed_2) (hid b_BKeyed_100)
def c_BKeyed : EB × List QOp × Nat := ((hid b_BKeyed_101), [(.lda 32 (.t 4)), (.mov (.t 5))], 97)
theorem k_BKeyed : cfun Tryz.prog 44 = some c_BKeyed := by kernel_rfl

@[simp] def l_RSum_1 (_ : Unit) : List EOp := [⟨0, (some 2), none, (.q (.alloc 48 zU8)), []⟩]
@[simp] def b_RSum_2 (_ : Unit) : EB := reg0 (hid l_RSum_1) 1
@[simp] def l_RSum_4 (_ : Unit) : List EOp := [⟨6, none, none, (.sto 32 (.t 3) (.t 8)), []⟩, ⟨7, (some 4), none, (.q (.mov (.t 9))), []⟩]
@[simp] def l_RSum_3 (_ : Unit) : List EOp := ⟨0, (some 6), none, (.q (.mov (.t 0))), []⟩ :: ⟨1, (some 7), none, (.call 44 [(.k (.slice none 0 0)), (.t 6)]), []⟩ :: ⟨2, (some 5), none, (.q (.mov (.t 7))), []⟩ :: ⟨3, (some 8), none, (.q (.ext 0 (.t 5))), []⟩ :: ⟨4, (some 9), none, (.q (.ext 1 (.t 5))), []⟩ :: ⟨5, (some 3), none, (.q (.alloc 48 zU8)), []⟩ :: hid l_RSum_4
@[simp] def b_RSum_5 (_ : Unit) : EB := reg0 (hid l_RSum_3) 8
@[simp] def l_RSum_6 (_ : Unit) : List EOp := [⟨0, (some 10), none, (.q (.lda 32 (.t 3))), []⟩, ⟨1, none, none, (.sto 32 (.t 2) (.t 10)), []⟩]
@[simp] def b_RSum_7 (_ : Unit) : EB := reg0 (hid l_RSum_6) 2
@[simp] def b_RSum_8 (_ : Unit) : EB := .seq (hid b_RSum_7) .ret
@[simp] def b_RSum_9 (_ : Unit) : EB := .seq (hid b_RSum_5) (hid b_RSum_8)
@[simp] def b_RSum_10 (_ : Unit) : EB := .seq (hid b_RSum_2) (hid b_RSum_9)
def c_RSum : EB × List QOp × Nat := ((hid b_RSum_10), [(.lda 32 (.t 2))], 11)
theorem k_RSum : cfun Tryz.prog 17 = some c_RSum := by kernel_rfl


set_option maxRecDepth 8000 in
set_option maxHeartbeats 8000000 in
theorem BKeyed_ok (b : List UInt8) (hb : b.length ≤ 100000000) : ECalls Tryz.prog 44 [.lit (.slice none 0 0), Bs b] [] fun y H' => H' = [] ∧ y = .tup [.agg (hc (sumS b)), .c (.fz (.lit (.int .i64 0)))] := by
  have fl : firstW.length = 8 := rfl
  have hx : ibit .xor .u32 (wi (g firstW 0)) 16842784 = wi (g firstW 0 ^^^ 0x01010020) := wi_xor (g firstW 0) 0x01010020
  have hx2 : ibit .xor .u32 (wi (g firstW 0 ^^^ 0x01010020)) 0 = wi (g firstW 0 ^^^ 0x01010020) := by
    have := wi_xor (g firstW 0 ^^^ 0x01010020) 0
    rw [show wi 0 = 0 from rfl] at this
    rw [this, UInt32.xor_zero]
  have hi8 : firstW.set 0 (g firstW 0 ^^^ 0x01010020) = ini8 := rfl
  refine ecalls k_BKeyed ?_
  simp [c_BKeyed, Bs]
  refine call0 Bbegin_ok (by simp) ?_
  rintro y H' ⟨rfl, rfl⟩
  refine ⟨.inl (by simp), by simp, ?_⟩
  have w0 : IntKind.i64.wrap 0 = 0 := by decide +kernel
  have w1 : IntKind.u32.wrap 0 = 0 := by decide +kernel
  simp [fl, wrw_gE', wrw_set, hx, hx2, hi8, w0, w1]
  have hg0 := tgt_ge b.length
  have hg1 := tgt_pos b.length
  have hg2 := tgt_mod b.length
  have hg3 := tgt_le b.length
  refine ⟨by omega, ?_⟩
  refine eloop (α := Nat) (fun k => b.length ≤ k ∧ k ≤ tgt b.length) (fun k => tgt b.length - k)
    (fun k => [.any, .any, .any, .any, .v (.c (.ptr 0 0)), .any, .v (.c (.ptr 1 0)), .v (.c (.row 2 8)), .v (.c (.row 3 k)), NV b.length, .any, .any, .any, .any, .any, .any, .any, .any, .any, .any, .any, .any, .any, .any, .any, .any, .any, .any, .any, .any, .any, .any, .any, .any, .any, .any, .any, .any, .any, .any, .any, .any, .any, .any, .any, .any, .any, .any, .any, .any, .any, .any, .any, .any, .any, .any, .any, .any, .any, .any, .any, .any, .any, .any, .any, .any, .any, .any, .any, .any, .any, .any, .any, .any, .any, .any, .any, .any, .any, .any, .any, .any, .any, .any, .any, .any, .any, .any, .any, .any, .any, .any, .any, .any, .any, .any, .any])
    (fun k => [some (.box 48 (hc hz)), some (.box 48 (hc hz)), some (.row 123 1 (wrw ini8)), some (.row 5 1 (bsv (padK b k)))]) b.length [0, 32, 96, 416]
    ⟨Nat.le_refl _, hg0⟩ (by simp [NV]) (by simp [padK_0]) (by simp) (by simp) (by simp) ?_
  rintro k ⟨hk, hkt⟩
  have hpl := padK_len hk
  have tm : (k : Int).tmod 64 = ((k % 64 : Nat) : Int) := rfl
  by_cases hlt : k < tgt b.length
  · have hc := tgt_lt hk hlt
    have hps := padK_succ hk
    have hpb : bsv (padK b k) ++ [[.lit (.int .u8 0)]] = bsv (padK b (k + 1)) := by rw [← hps]; simp [bsv, cb]
    by_cases hm : k % 64 = 0
    · have hm' : (k : Int) % 64 = 0 := by omega
      have hk0 : k = 0 := by omega
      subst hk0
      simp [NV, hpl, hps]
      exact round 1 [0, 1, 2, 180] ⟨by omega, by omega⟩ (by omega) (by simp [NV]) (by simp [hpb]) (by simp) (by simp) (by simp)
    · have hm' : ¬ (k : Int) % 64 = 0 := by omega
      simp [NV, hpl, tm, hm', hps, -Int.natCast_add]
      refine ⟨by omega, ?_⟩
      exact round (k + 1) [0, 1, 2, 180] ⟨by omega, by omega⟩ (by omega) (by simp [NV]) (by simp [hpb]) (by simp) (by simp) (by simp)
  · have hkt2 : k = tgt b.length := by omega
    subst hkt2
    have hn0 : ¬ tgt b.length = 0 := by omega
    simp [NV, hpl, tm, hg2, hn0]
    refine loopW _ (weak_frz (o := 2) (ty := 123) (es := 1) (xs := wrw ini8) rfl) (loopW _ (weak_frz (o := 3) (ty := 5) (es := 1) (xs := bsv (padK b (tgt b.length))) rfl) ?_)
    have tf8 : List.take 8 (wrw ini8) = wrw ini8 := List.take_of_length_le (by simp; decide)
    have tfb : List.take (tgt b.length) (bsv (padK b (tgt b.length))) = bsv (padK b (tgt b.length)) := List.take_of_length_le (by simp [hpl])
    have fz2 : List.map (fzE 3 1 (bsv (padK b (tgt b.length))) ∘ fzE 2 1 (wrw ini8)) (hc hz) = hc hz := by rw [← List.map_map]; rfl
    obtain ⟨A, hA⟩ : ∃ A, kS (tgt b.length / 64 - 1) ini8 0 b = A := ⟨_, rfl⟩
    have A8 : A.length = 8 := by rw [← hA, kS_len]; rfl
    have hs : sumS b = outS A := by rw [sumS_kS, hA]
    refine eloop (α := List UInt32 × Nat) (fun a => a.1.length = 8 ∧ 64 * a.2 ≤ tgt b.length ∧ (64 * a.2 < tgt b.length → kS (tgt b.length / 64 - 1 - a.2) a.1 (64 * a.2) (b.drop (64 * a.2)) = A) ∧ (64 * a.2 = tgt b.length → a.1 = A)) (fun a => tgt b.length - 64 * a.2)
      (fun a => [.any, .any, .any, .any, .v (.c (.ptr 0 0)), .any, .v (.c (.ptr 1 0)), FW a.1, Bs (padK b (tgt b.length)), NV b.length, NV ((64 * a.2 : Nat) : Int), .any, .any, .any, .any, .any, .any, .any, .any, .any, .any, .any, .any, .any, .any, .any, .any, .any, .any, .any, .any, .any, .any, .any, .any, .any, .any, .any, .any, .any, .any, .any, .any, .any, .any, .any, .any, .any, .any, .any, .any, .any, .any, .any, .any, .any, .any, .any, .any, .any, .any, .any, .any, .any, .any, .any, .any, .any, .any, .any, .any, .any, .any, .any, .any, .any, .any, .any, .any, .any, .any, .any, .any, .any, .any, .any, .any, .any, .any, .any, .any, .any, .any, .any, .any, .any, .any])
      (fun _ => [some (.box 48 (hc hz)), some (.box 48 (hc hz))]) (ini8, 0) [0, 1]
      ⟨rfl, by omega, fun _ => by simpa using hA, fun h => absurd h (by dsimp only; omega)⟩ (by simp [NV, FW, Bs, fzEO, hpl, tf8, tfb]) (by simp [fz2]) (by simp) (by simp) (by simp) ?_
    rintro ⟨h, j⟩ ⟨h8, hj, hA1, hA2⟩
    dsimp only at h8 hj hA1 hA2
    by_cases hlt2 : 64 * j < tgt b.length
    · have htl := tgt_last hlt2
      obtain ⟨J, hJ⟩ : ∃ J, 64 * j = J := ⟨_, rfl⟩
      have hcj : ((64 : Int) * (j : Int)) = (J : Int) := by omega
      have wJ : IntKind.i64.wrap ((J : Int) + 64) = ((J + 64 : Nat) : Int) := by rw [wrap_i64 (by omega) (by omega)]; omega
      have hmn := i64_min (J + 64) b.length
      obtain ⟨t', ht'⟩ : ∃ t', min b.length (J + 64) = t' := ⟨_, rfl⟩
      rw [ht'] at hmn
      have wt : IntKind.u64.wrap (t' : Int) = (t' : Int) := u64_nat (by omega)
      obtain ⟨B, hB⟩ : ∃ B, List.drop J (List.take (J + 64) (padK b (tgt b.length))) = B := ⟨_, rfl⟩
      have hB2 : ((padK b (tgt b.length)).drop J).take 64 = B := by rw [← hB, List.drop_take]; congr 1; omega
      have hB64 : B.length = 64 := by rw [← hB2, List.length_take, List.length_drop, hpl]; omega
      obtain ⟨L, hL⟩ : ∃ L, decide (((J + 64 : Nat) : Int) = ((tgt b.length : Nat) : Int)) = L := ⟨_, rfl⟩
      have e8 : (wrw (takeS h B t' L)).length = 8 := by rw [wrw_len, takeS_len]; exact h8
      have hk1 := Btk_ok h B t' L h8 hB64 (by omega)
      rw [← e8] at hk1
      have hk2 := ecalls_frz hk1
      rw [hJ] at hA1 htl
      have hnext : (64 * (j + 1) < tgt b.length → kS (tgt b.length / 64 - 1 - (j + 1)) (takeS h B t' L) (64 * (j + 1)) (b.drop (64 * (j + 1))) = A) ∧ (64 * (j + 1) = tgt b.length → takeS h B t' L = A) := by
        have ha := hA1 (by omega)
        rcases Nat.lt_or_ge (J + 64) b.length with hq | hq
        · have hLf : L = false := by rw [← hL]; exact decide_eq_false (by omega)
          have htt : t' = J + 64 := by omega
          have hBm : B = (b.drop J).take 64 := by
            have := blk_mid (b := b) (j := j) (by omega) (tgt b.length)
            rw [hJ, hB2] at this
            exact this
          obtain ⟨K, hK⟩ : ∃ K, tgt b.length / 64 - 1 - j = K + 1 := ⟨tgt b.length / 64 - 1 - j - 1, by omega⟩
          rw [hK, kS, if_neg (by rw [List.length_drop]; omega), List.drop_drop, ← hBm] at ha
          rw [hLf, htt]
          refine ⟨fun _ => ?_, fun h => by omega⟩
          rw [show tgt b.length / 64 - 1 - (j + 1) = K by omega, show 64 * (j + 1) = J + 64 by omega]
          exact ha
        · have he := htl.2 hq
          have hLt : L = true := by rw [← hL]; exact decide_eq_true (by omega)
          have hBl := blk_last (b := b) (j := j) hlt2 (by omega)
          rw [hJ, hB2] at hBl
          have hz0 : tgt b.length / 64 - 1 - j = 0 := by omega
          rw [hz0, kS, List.length_drop, ← hBl, ← hLt] at ha
          refine ⟨fun h => by omega, fun _ => ?_⟩
          by_cases hJn : J ≤ b.length
          · rw [show t' = J + (b.length - J) by omega]
            exact ha
          · exfalso
            unfold tgt at he hlt2
            split at he <;> omega
      simp [NV, FW, Bs, hpl, hcj, wJ, hmn, wt, hB, hL, show J < tgt b.length by omega, -Int.natCast_add]
      refine ⟨by omega, ?_⟩
      refine call0 hk2 (by simp [FW, Bs]) ?_
      rintro y H' ⟨rfl, rfl⟩
      refine ⟨.inl (by simp), le_ok rfl, ?_⟩
      have wJ2 : ((J + 64 : Nat) : Int) = 64 * ((j + 1 : Nat) : Int) := by omega
      simp [NV, FW, Bs, hpl, hcj, wJ, -Int.natCast_add]
      exact round (takeS h B t' L, j + 1) [0, 1] ⟨by dsimp only; rw [takeS_len]; exact h8, by dsimp only; omega, hnext.1, hnext.2⟩ (by dsimp only; omega) (by simp [NV, FW, Bs, wJ2]) (by simp) (by simp) (by simp) (by simp)
    · have he : 64 * j = tgt b.length := by omega
      have hh := hA2 he
      have hcj : ((64 : Int) * (j : Int)) = ((tgt b.length : Nat) : Int) := by omega
      subst hh
      simp [NV, FW, Bs, hpl, hcj]
      refine eloop (α := Nat) (fun i => i ≤ 32) (fun i => 32 - i)
        (fun i => [.any, .any, .any, .any, .v (.c (.ptr 0 0)), .any, .v (.c (.ptr 1 0)), FW h, .any, .any, .any, NV i, .any, .any, .any, .any, .any, .any, .any, .any, .any, .any, .any, .any, .any, .any, .any, .any, .any, .any, .any, .any, .any, .any, .any, .any, .any, .any, .any, .any, .any, .any, .any, .any, .any, .any, .any, .any, .any, .any, .any, .any, .any, .any, .any, .any, .any, .any, .any, .any, .any, .any, .any, .any, .any, .any, .any, .any, .any, .any, .any, .any, .any, .any, .any, .any, .any, .any, .any, .any, .any, .any, .any, .any, .any, .any, .any, .any, .any, .any, .any, .any, .any, .any, .any, .any, .any])
        (fun i => [some (.box 48 (hc hz)), some (.box 48 (hc (oI h i)))]) 0 [0, 1]
        (by omega) (by simp [NV, FW]) (by simp [oI_0]) (by simp) (by simp) (by simp) ?_
      intro i hi
      simp [NV, FW]
      refine alt (fun hp => ?_) (fun hp => ?_)
      · have il : i < 32 := by omega
        have q1 : i / 4 < 8 := by omega
        have q1' : i / 4 ≤ 7 := by omega
        have q2 : (i : Int).tdiv 4 = ((i / 4 : Nat) : Int) := rfl
        have q3 : (i : Int).tmod 4 = ((i % 4 : Nat) : Int) := rfl
        have q4 : IntKind.i64.wrap ((i / 4 : Nat) : Int) = ((i / 4 : Nat) : Int) := wrap_i64 (by omega) (by omega)
        have q5 : IntKind.i64.wrap (8 * ((i % 4 : Nat) : Int)) = ((8 * (i % 4) : Nat) : Int) := by rw [wrap_i64 (by omega) (by omega)]; omega
        have wi1 : IntKind.i64.wrap ((i : Int) + 1) = ((i + 1 : Nat) : Int) := wrap_i64 (by omega) (by omega)
        obtain ⟨d, hd⟩ : ∃ d, i / 4 = d := ⟨_, rfl⟩
        obtain ⟨k, hk⟩ : ∃ k, 8 * (i % 4) = k := ⟨_, rfl⟩
        rw [hd] at q1 q1' q2 q4
        rw [hk] at q5
        have d8 : (d : Int) < 8 := by omega
        have sh := wi_shr (g h d) k (by omega)
        have ou : IntKind.u8.wrap (wi (shr (g h d) k)) = ((outB h i).toNat : Int) := by unfold outB; rw [hd, hk]; exact u8_shr _ _
        simp [q2, q3, q4, q5, wi1, q1, q1', d8, A8, wrw_gE', sh, ou, oI_len, il, hc_put, -Int.natCast_add, -Int.natCast_mul, -Int.natCast_ediv, -Int.natCast_emod]
        exact ⟨by omega, by omega, round (i + 1) [0, 1] (by omega) (by omega) (by simp [NV, FW]) (by simp [oI_set h il]) (by simp) (by simp) (by simp)⟩
      · have h32 : i = 32 := by omega
        subst h32
        have ol := outS_len h
        obtain ⟨O, hO⟩ : ∃ O, outS h = O := ⟨_, rfl⟩
        rw [hO] at hs ol
        simp [oI_32, hO, ol, hs]
        have ot : List.take 32 O = O := List.take_of_length_le (by omega)
        exact fin [] (by decide) (v := .tup [.agg (hc O), .c (.fz (.lit (.int .i64 0)))]) (by simp [resV, resT, evT, asT, fzEO, ot, ol]) (by simp [conR, conTs, conT, ot, ol]) rfl ⟨rfl, rfl⟩

theorem RSum_ok (b : List UInt8) (hb : b.length ≤ 100000000) : ECalls Tryz.prog 17 [Bs b] [] fun y H' => H' = [] ∧ y = .v (.agg (hc (sumS b))) := by
  have hl := hc_tk (show (sumS b).length ≤ 32 by rw [sumS_len]; omega)
  refine ecalls k_RSum ?_
  simp [c_RSum, Bs]
  refine call0 (BKeyed_ok b hb) (by simp [Bs]) ?_
  rintro y H' ⟨rfl, rfl⟩
  refine ⟨.inl (by simp), le_ok rfl, ?_⟩
  simp [hl, sumS_len]
  exact fin [] (by decide) rfl rfl rfl ⟨rfl, rfl⟩

end Go.Proofs.YtpohjnhlhfbnaaaGreatDoor

namespace Go.Proofs.YtpohjnhlhfbnaaaGreatDoor
open Go Go.EW
set_option linter.unusedSimpArgs false
set_option linter.unusedVariables false

@[simp] def l_StateChecks_1 (_ : Unit) : List EOp := [⟨0, (some 2), none, (.q (.box 26 (.t 0))), []⟩, ⟨1, (some 4), none, (.q (.mov (.k (.bool false)))), []⟩]
@[simp] def b_StateChecks_2 (_ : Unit) : EB := reg0 (hid l_StateChecks_1) 2
@[simp] def l_StateChecks_3 (_ : Unit) : List EOp := [⟨0, (some 10), none, (.q (.lda 5 (.t 2))), []⟩, ⟨1, (some 11), none, (.call 4 [(.t 10)]), []⟩]
@[simp] def b_StateChecks_4 (_ : Unit) : EB := reg0 (hid l_StateChecks_3) 2
@[simp] def l_StateChecks_5 (_ : Unit) : List EOp := [⟨0, (some 12), none, (.call 5 []), []⟩, ⟨1, (some 4), none, (.q (.mov (.t 12))), []⟩]
@[simp] def b_StateChecks_6 (_ : Unit) : EB := reg0 (hid l_StateChecks_5) 2
@[simp] def b_StateChecks_7 (_ : Unit) : EB := .seq (hid b_StateChecks_6) .ret
@[simp] def b_StateChecks_8 (_ : Unit) : EB := .cond (.t 11) (hid b_StateChecks_7) .skip
@[simp] def b_StateChecks_9 (_ : Unit) : EB := .seq (hid b_StateChecks_4) (hid b_StateChecks_8)
@[simp] def l_StateChecks_11 (_ : Unit) : List EOp := [⟨6, none, none, (.fz (.sto 5 (.t 5) (.t 16))), []⟩, ⟨7, (some 6), none, (.q (.mov (.t 17))), []⟩]
@[simp] def l_StateChecks_10 (_ : Unit) : List EOp := ⟨0, (some 14), none, (.q (.mov (.t 1))), []⟩ :: ⟨1, (some 15), none, (.call 6 [(.t 14)]), []⟩ :: ⟨2, (some 13), none, (.q (.mov (.t 15))), []⟩ :: ⟨3, (some 16), none, (.q (.ext 0 (.t 13))), []⟩ :: ⟨4, (some 17), none, (.q (.ext 1 (.t 13))), []⟩ :: ⟨5, (some 5), none, (.q (.alloc 33 [(.int .i64 0), (.int .i64 0), (.int .i64 0), (.slice none 0 0), (.slice none 0 0)])), []⟩ :: hid l_StateChecks_11
@[simp] def b_StateChecks_12 (_ : Unit) : EB := reg0 (hid l_StateChecks_10) 8
@[simp] def l_StateChecks_14 (_ : Unit) : List EOp := [⟨6, none, none, (.fz (.sto 5 (.t 7) (.t 21))), []⟩, ⟨7, (some 8), none, (.q (.mov (.t 22))), []⟩]
@[simp] def l_StateChecks_13 (_ : Unit) : List EOp := ⟨0, (some 19), none, (.q (.mov (.t 1))), []⟩ :: ⟨1, (some 20), none, (.call 7 [(.t 19)]), []⟩ :: ⟨2, (some 18), none, (.q (.mov (.t 20))), []⟩ :: ⟨3, (some 21), none, (.q (.ext 0 (.t 18))), []⟩ :: ⟨4, (some 22), none, (.q (.ext 1 (.t 18))), []⟩ :: ⟨5, (some 7), none, (.q (.alloc 26 [(.int .i64 0), (.int .i64 0), (.int .i64 0), (.slice none 0 0), (.slice none 0 0)])), []⟩ :: hid l_StateChecks_14
@[simp] def b_StateChecks_15 (_ : Unit) : EB := reg0 (hid l_StateChecks_13) 8
@[simp] def l_StateChecks_16 (_ : Unit) : List EOp := [⟨0, (some 23), none, (.q (.lda 5 (.t 2))), []⟩, ⟨1, (some 24), none, (.call 8 [(.t 23)]), []⟩, ⟨2, (some 9), none, (.q (.alloc 33 [(.int .i64 0), (.int .i64 0), (.int .i64 0), (.slice none 0 0), (.slice none 0 0)])), []⟩, ⟨3, none, none, (.fz (.sto 5 (.t 9) (.t 24))), []⟩]
@[simp] def b_StateChecks_17 (_ : Unit) : EB := reg0 (hid l_StateChecks_16) 4
@[simp] def l_StateChecks_24 (_ : Unit) : List EOp := [⟨36, (some 61), none, (.q (.pick (.t 55) (.t 60) (.k (.bool false)))), []⟩, ⟨37, (some 62), none, (.q (.mov (.t 61))), []⟩, ⟨38, (some 63), (some (62, true)), (.call 5 []), []⟩, ⟨39, (some 64), none, (.q (.pick (.t 62) (.t 63) (.k (.bool false)))), []⟩, ⟨40, (some 4), none, (.q (.mov (.t 64))), []⟩]
@[simp] def l_StateChecks_23 (_ : Unit) : List EOp := ⟨30, (some 55), none, (.q (.mov (.t 54))), []⟩ :: ⟨31, (some 56), (some (55, true)), (.q (.lda 5 (.t 5))), []⟩ :: ⟨32, (some 57), (some (55, true)), (.q (.mov (.t 6))), []⟩ :: ⟨33, (some 58), (some (55, true)), (.q (.lda 5 (.t 7))), []⟩ :: ⟨34, (some 59), (some (55, true)), (.q (.mov (.t 8))), []⟩ :: ⟨35, (some 60), (some (55, true)), (.call 18 [(.t 56), (.t 57), (.t 58), (.t 59)]), []⟩ :: hid l_StateChecks_24
@[simp] def l_StateChecks_22 (_ : Unit) : List EOp := ⟨25, (some 50), (some (47, true)), (.q (.lda 5 (.t 2))), []⟩ :: ⟨24, (some 49), (some (47, true)), (.call 16 [(.t 48)]), [25]⟩ :: ⟨26, (some 51), (some (47, true)), (.call 15 [(.t 50)]), []⟩ :: ⟨27, (some 52), (some (47, true)), (.call 17 [(.t 51)]), []⟩ :: ⟨28, (some 53), (some (47, true)), (.q (.eqa false 32 .u8 (.t 49) (.t 52))), []⟩ :: ⟨29, (some 54), none, (.q (.pick (.t 47) (.t 53) (.k (.bool false)))), []⟩ :: hid l_StateChecks_23
@[simp] def l_StateChecks_21 (_ : Unit) : List EOp := ⟨18, (some 43), (some (38, true)), (.call 15 [(.t 42)]), [16]⟩ :: ⟨19, (some 44), (some (38, true)), (.q (.b2s (.t 43))), []⟩ :: ⟨20, (some 45), (some (38, true)), (.q (.bin .eql (.t 41) (.t 44))), []⟩ :: ⟨21, (some 46), none, (.q (.pick (.t 38) (.t 45) (.k (.bool false)))), []⟩ :: ⟨22, (some 47), none, (.q (.mov (.t 46))), []⟩ :: ⟨23, (some 48), (some (47, true)), (.q (.lda 5 (.t 9))), []⟩ :: hid l_StateChecks_22
@[simp] def l_StateChecks_20 (_ : Unit) : List EOp := ⟨12, (some 37), none, (.q (.pick (.t 31) (.t 36) (.k (.bool false)))), []⟩ :: ⟨13, (some 38), none, (.q (.mov (.t 37))), []⟩ :: ⟨14, (some 39), (some (38, true)), (.q (.lda 5 (.t 9))), []⟩ :: ⟨17, (some 42), (some (38, true)), (.q (.lda 5 (.t 2))), []⟩ :: ⟨15, (some 40), (some (38, true)), (.call 14 [(.t 39)]), [17]⟩ :: ⟨16, (some 41), (some (38, true)), (.q (.b2s (.t 40))), []⟩ :: hid l_StateChecks_21
@[simp] def l_StateChecks_19 (_ : Unit) : List EOp := ⟨6, (some 31), none, (.q (.mov (.t 30))), []⟩ :: ⟨7, (some 32), (some (31, true)), (.q (.lda 5 (.t 9))), []⟩ :: ⟨9, (some 34), (some (31, true)), (.q (.lda 5 (.t 2))), []⟩ :: ⟨8, (some 33), (some (31, true)), (.call 12 [(.t 32)]), [9]⟩ :: ⟨10, (some 35), (some (31, true)), (.call 13 [(.t 34)]), []⟩ :: ⟨11, (some 36), (some (31, true)), (.q (.bin .eql (.t 33) (.t 35))), []⟩ :: hid l_StateChecks_20
@[simp] def l_StateChecks_18 (_ : Unit) : List EOp := ⟨0, (some 25), none, (.q (.lda 5 (.t 9))), []⟩ :: ⟨3, (some 28), none, (.q (.lda 5 (.t 2))), []⟩ :: ⟨1, (some 26), none, (.call 10 [(.t 25)]), [3]⟩ :: ⟨2, (some 27), none, (.call 9 [(.t 26)]), [3]⟩ :: ⟨4, (some 29), none, (.call 11 [(.t 28)]), []⟩ :: ⟨5, (some 30), none, (.q (.bin .eql (.t 27) (.t 29))), []⟩ :: hid l_StateChecks_19
@[simp] def b_StateChecks_25 (_ : Unit) : EB := reg1 (hid l_StateChecks_18) 41
@[simp] def b_StateChecks_26 (_ : Unit) : EB := .seq (hid b_StateChecks_25) .ret
@[simp] def b_StateChecks_27 (_ : Unit) : EB := .seq (hid b_StateChecks_17) (hid b_StateChecks_26)
@[simp] def b_StateChecks_28 (_ : Unit) : EB := .seq (hid b_StateChecks_15) (hid b_StateChecks_27)
@[simp] def b_StateChecks_29 (_ : Unit) : EB := .seq (hid b_StateChecks_12) (hid b_StateChecks_28)
@[simp] def b_StateChecks_30 (_ : Unit) : EB := .seq (hid b_StateChecks_9) (hid b_StateChecks_29)
@[simp] def b_StateChecks_31 (_ : Unit) : EB := .seq (hid b_StateChecks_2) (hid b_StateChecks_30)
def c_StateChecks : EB × List QOp × Nat := ((hid b_StateChecks_31), [(.mov (.t 4))], 65)
theorem k_StateChecks : cfun Tryz.prog 3 = some c_StateChecks := by kernel_rfl


set_option maxHeartbeats 4000000 in
theorem StateChecks_ok (s : Sta) (b : List UInt8) (hs : s.ok) (hbl : b.length ≤ 100000000) : ECalls Tryz.prog 3 [SV s, Bs b] [] fun y H' => H' = [] ∧ y = .lit (.bool true) := by
  refine ecalls k_StateChecks ?_
  simp [c_StateChecks, SV, staC, Bs]
  refine call0 (longState_ok s hs) (by simp [Ptr, I, EV.lit, Bs, SV, staC, SE, RE]) ?_
  rintro y H' ⟨rfl, rfl⟩
  refine ⟨.inl (by simp [Ptr, I, EV.lit, Bs, SV, staC, SE, RE]), le_ok rfl, ?_⟩
  simp [Ptr, I, EV.lit, Bs, SV, staC, SE, RE]
  cases hl : longS s with
  | true =>
    simp
    refine call0 (sure_ok) (by simp [Ptr, I, EV.lit, Bs, SV, staC, SE, RE]) ?_
    rintro y H' ⟨rfl, rfl⟩
    refine ⟨.inl (by simp [Ptr, I, EV.lit, Bs, SV, staC, SE, RE]), le_ok rfl, ?_⟩
    simp [Ptr, I, EV.lit, Bs, SV, staC, SE, RE]
    exact fin [] (by decide) rfl rfl rfl ⟨rfl, rfl⟩
  | false =>
  obtain ⟨hm, _⟩ := longS_small hl
  have hel := encS_len hs hm
  obtain ⟨q1, q2⟩ := decS_p b
  simp
  refine call0 (Decode_ok b hbl) (by simp [Ptr, I, EV.lit, Bs, SV, staC, SE, RE]) ?_
  rintro y H' ⟨rfl, rfl⟩
  refine ⟨.inl (by simp [Ptr, I, EV.lit, Bs, SV, staC, SE, RE]), le_ok rfl, ?_⟩
  simp [Ptr, I, EV.lit, Bs, SV, staC, SE, RE]
  refine call0 (RDecode_ok b hbl) (by simp [Ptr, I, EV.lit, Bs, SV, staC, SE, RE]) ?_
  rintro y H' ⟨rfl, rfl⟩
  refine ⟨.inl (by simp [Ptr, I, EV.lit, Bs, SV, staC, SE, RE]), le_ok rfl, ?_⟩
  simp [Ptr, I, EV.lit, Bs, SV, staC, SE, RE]
  refine call0 (giveState_ok s hs hm) (by simp [Ptr, I, EV.lit, Bs, SV, staC, SE, RE]) ?_
  rintro y H' ⟨rfl, rfl⟩
  refine ⟨.inl (by simp [Ptr, I, EV.lit, Bs, SV, staC, SE, RE]), le_ok rfl, ?_⟩
  simp [Ptr, I, EV.lit, Bs, SV, staC, SE, RE]
  refine call0 (SCheck_ok s hs) (by simp [Ptr, I, EV.lit, Bs, SV, staC, SE, RE]) ?_
  rintro y H' ⟨rfl, rfl⟩
  refine ⟨.inl (by simp [Ptr, I, EV.lit, Bs, SV, staC, SE, RE]), le_ok rfl, ?_⟩
  simp [Ptr, I, EV.lit, Bs, SV, staC, SE, RE]
  have hn : ECalls Tryz.prog 9 [.lit (if mayS s = true then errV 0 else errV 1)] [] fun y H' => H' = [] ∧ y = I .i64 (chkS s) := by
    cases hy : mayS s with
    | true =>
      have h := num_e 0
      simpa [chkS, hy] using h
    | false =>
      have h := num_e 1
      simpa [chkS, hy] using h
  refine call0 (hn) (by simp [Ptr, I, EV.lit, Bs, SV, staC, SE, RE]) ?_
  rintro y H' ⟨rfl, rfl⟩
  refine ⟨.inl (by simp [Ptr, I, EV.lit, Bs, SV, staC, SE, RE]), le_ok rfl, ?_⟩
  simp [Ptr, I, EV.lit, Bs, SV, staC, SE, RE]
  refine call0 (RCheck_ok s hs) (by simp [Ptr, I, EV.lit, Bs, SV, staC, SE, RE]) ?_
  rintro y H' ⟨rfl, rfl⟩
  refine ⟨.inl (by simp [Ptr, I, EV.lit, Bs, SV, staC, SE, RE]), le_ok rfl, ?_⟩
  simp [Ptr, I, EV.lit, Bs, SV, staC, SE, RE]
  refine call0 (Total_ok s hs) (by simp [Ptr, I, EV.lit, Bs, SV, staC, SE, RE]) ?_
  rintro y H' ⟨rfl, rfl⟩
  refine ⟨.inl (by simp [Ptr, I, EV.lit, Bs, SV, staC, SE, RE]), le_ok rfl, ?_⟩
  simp [Ptr, I, EV.lit, Bs, SV, staC, SE, RE]
  refine call0 (RTotal_ok s hs) (by simp [Ptr, I, EV.lit, Bs, SV, staC, SE, RE]) ?_
  rintro y H' ⟨rfl, rfl⟩
  refine ⟨.inl (by simp [Ptr, I, EV.lit, Bs, SV, staC, SE, RE]), le_ok rfl, ?_⟩
  simp [Ptr, I, EV.lit, Bs, SV, staC, SE, RE]
  refine call0 (Encode_ok s hs hm) (by simp [Ptr, I, EV.lit, Bs, SV, staC, SE, RE]) ?_
  rintro y H' ⟨rfl, rfl⟩
  refine ⟨.inl (by simp [Ptr, I, EV.lit, Bs, SV, staC, SE, RE]), le_ok rfl, ?_⟩
  simp [Ptr, I, EV.lit, Bs, SV, staC, SE, RE]
  refine call0 (REncode_ok s hs hm) (by simp [Ptr, I, EV.lit, Bs, SV, staC, SE, RE]) ?_
  rintro y H' ⟨rfl, rfl⟩
  refine ⟨.inl (by simp [Ptr, I, EV.lit, Bs, SV, staC, SE, RE]), le_ok rfl, ?_⟩
  simp [Ptr, I, EV.lit, Bs, SV, staC, SE, RE]
  refine call0 (SSum_ok s hs hm) (by simp [Ptr, I, EV.lit, Bs, SV, staC, SE, RE]) ?_
  rintro y H' ⟨rfl, rfl⟩
  refine ⟨.inl (by simp [Ptr, I, EV.lit, Bs, SV, staC, SE, RE]), le_ok rfl, ?_⟩
  simp [Ptr, I, EV.lit, Bs, SV, staC, SE, RE]
  refine call0 (REncode_ok s hs hm) (by simp [Ptr, I, EV.lit, Bs, SV, staC, SE, RE]) ?_
  rintro y H' ⟨rfl, rfl⟩
  refine ⟨.inl (by simp [Ptr, I, EV.lit, Bs, SV, staC, SE, RE]), le_ok rfl, ?_⟩
  simp [Ptr, I, EV.lit, Bs, SV, staC, SE, RE]
  refine call0 (RSum_ok (encS s) hel) (by simp [Ptr, I, EV.lit, Bs, SV, staC, SE, RE]) ?_
  rintro y H' ⟨rfl, rfl⟩
  refine ⟨.inl (by simp [Ptr, I, EV.lit, Bs, SV, staC, SE, RE]), le_ok rfl, ?_⟩
  simp [Ptr, I, EV.lit, Bs, SV, staC, SE, RE]
  simp [sumS_len]
  refine call0 (same_ok (decS b).1 (decS b).2 q1 q2) (by simp [Ptr, I, EV.lit, Bs, SV, staC, SE, RE]) ?_
  rintro y H' ⟨rfl, rfl⟩
  refine ⟨.inl (by simp [Ptr, I, EV.lit, Bs, SV, staC, SE, RE]), le_ok rfl, ?_⟩
  simp [Ptr, I, EV.lit, Bs, SV, staC, SE, RE]
  refine call0 (sure_ok) (by simp [Ptr, I, EV.lit, Bs, SV, staC, SE, RE]) ?_
  rintro y H' ⟨rfl, rfl⟩
  refine ⟨.inl (by simp [Ptr, I, EV.lit, Bs, SV, staC, SE, RE]), le_ok rfl, ?_⟩
  simp [Ptr, I, EV.lit, Bs, SV, staC, SE, RE]
  exact fin [] (by decide) rfl rfl rfl ⟨rfl, rfl⟩

end Go.Proofs.YtpohjnhlhfbnaaaGreatDoor
