import Derived.Test.YtpilpjameifcfaaGreatDoorAll9
namespace Go.Proofs.YtpilpjameifcfaaGreatDoor
open Go Go.EW
set_option linter.unusedSimpArgs false
set_option linter.unusedVariables false

@[simp] def l_btake_1 (_ : Unit) : List EOp := [⟨0, (some 5), none, (.q (.box 197 (.t 1))), []⟩]
@[simp] def b_btake_2 (_ : Unit) : EB := reg0 (hid l_btake_1) 1
@[simp] def l_btake_3 (_ : Unit) : List EOp := [⟨0, (some 8), none, (.q (.alloc 203 (List.replicate 16 (.int .u32 0)))), []⟩, ⟨1, (some 9), none, (.q (.alloc 203 (List.replicate 16 (.int .u32 0)))), []⟩]
@[simp] def b_btake_4 (_ : Unit) : EB := reg0 (hid l_btake_3) 2
@[simp] def l_btake_5 (_ : Unit) : List EOp := [⟨0, (some 17), none, (.q (.mov (.k (.int .i64 0)))), []⟩]
@[simp] def b_btake_6 (_ : Unit) : EB := reg0 (hid l_btake_5) 1
@[simp] def l_btake_7 (_ : Unit) : List EOp := [⟨0, (some 18), none, (.q (.bin .lss (.t 17) (.k (.int .i64 16)))), []⟩]
@[simp] def b_btake_8 (_ : Unit) : EB := reg0 (hid l_btake_7) 1
@[simp] def b_btake_9 (_ : Unit) : EB := .cond (.t 18) .skip (.exit 0)
@[simp] def l_btake_10 (_ : Unit) : List EOp := [⟨0, (some 19), none, (.q (.mov (.t 17))), []⟩, ⟨1, (some 10), none, (.q (.mov (.t 19))), []⟩]
@[simp] def b_btake_11 (_ : Unit) : EB := reg0 (hid l_btake_10) 2
@[simp] def l_btake_17 (_ : Unit) : List EOp := [⟨30, (some 50), none, (.q (.iad 16 1 (.t 8) (.t 20))), []⟩, ⟨31, none, none, (.sto 1 (.t 50) (.t 49)), []⟩]
@[simp] def l_btake_16 (_ : Unit) : List EOp := ⟨24, (some 44), none, (.q (.bin .add (.t 43) (.k (.int .i64 3)))), []⟩ :: ⟨25, (some 45), none, (.q (.iad 64 1 (.t 5) (.t 44))), []⟩ :: ⟨26, (some 46), none, (.q (.ldc (.t 45))), []⟩ :: ⟨27, (some 47), none, (.q (.cnv .u32 (.t 46))), []⟩ :: ⟨28, (some 48), none, (.q (.bin .shl (.t 47) (.k (.int .u64 24)))), []⟩ :: ⟨29, (some 49), none, (.q (.bin .or (.t 41) (.t 48))), []⟩ :: hid l_btake_17
@[simp] def l_btake_15 (_ : Unit) : List EOp := ⟨18, (some 38), none, (.q (.ldc (.t 37))), []⟩ :: ⟨19, (some 39), none, (.q (.cnv .u32 (.t 38))), []⟩ :: ⟨20, (some 40), none, (.q (.bin .shl (.t 39) (.k (.int .u64 16)))), []⟩ :: ⟨21, (some 41), none, (.q (.bin .or (.t 33) (.t 40))), []⟩ :: ⟨22, (some 42), none, (.q (.mov (.t 10))), []⟩ :: ⟨23, (some 43), none, (.q (.bin .mul (.k (.int .i64 4)) (.t 42))), []⟩ :: hid l_btake_16
@[simp] def l_btake_14 (_ : Unit) : List EOp := ⟨12, (some 32), none, (.q (.bin .shl (.t 31) (.k (.int .u64 8)))), []⟩ :: ⟨13, (some 33), none, (.q (.bin .or (.t 25) (.t 32))), []⟩ :: ⟨14, (some 34), none, (.q (.mov (.t 10))), []⟩ :: ⟨15, (some 35), none, (.q (.bin .mul (.k (.int .i64 4)) (.t 34))), []⟩ :: ⟨16, (some 36), none, (.q (.bin .add (.t 35) (.k (.int .i64 2)))), []⟩ :: ⟨17, (some 37), none, (.q (.iad 64 1 (.t 5) (.t 36))), []⟩ :: hid l_btake_15
@[simp] def l_btake_13 (_ : Unit) : List EOp := ⟨6, (some 26), none, (.q (.mov (.t 10))), []⟩ :: ⟨7, (some 27), none, (.q (.bin .mul (.k (.int .i64 4)) (.t 26))), []⟩ :: ⟨8, (some 28), none, (.q (.bin .add (.t 27) (.k (.int .i64 1)))), []⟩ :: ⟨9, (some 29), none, (.q (.iad 64 1 (.t 5) (.t 28))), []⟩ :: ⟨10, (some 30), none, (.q (.ldc (.t 29))), []⟩ :: ⟨11, (some 31), none, (.q (.cnv .u32 (.t 30))), []⟩ :: hid l_btake_14
@[simp] def l_btake_12 (_ : Unit) : List EOp := ⟨0, (some 20), none, (.q (.mov (.t 10))), []⟩ :: ⟨1, (some 21), none, (.q (.mov (.t 10))), []⟩ :: ⟨2, (some 22), none, (.q (.bin .mul (.k (.int .i64 4)) (.t 21))), []⟩ :: ⟨3, (some 23), none, (.q (.iad 64 1 (.t 5) (.t 22))), []⟩ :: ⟨4, (some 24), none, (.q (.ldc (.t 23))), []⟩ :: ⟨5, (some 25), none, (.q (.cnv .u32 (.t 24))), []⟩ :: hid l_btake_13
@[simp] def b_btake_18 (_ : Unit) : EB := reg0 (hid l_btake_12) 32
@[simp] def b_btake_19 (_ : Unit) : EB := .seq (hid b_btake_11) (hid b_btake_18)
@[simp] def b_btake_20 (_ : Unit) : EB := .block 1 (hid b_btake_19)
@[simp] def l_btake_21 (_ : Unit) : List EOp := [⟨0, (some 51), none, (.q (.bin .add (.t 17) (.k (.int .i64 1)))), []⟩, ⟨1, (some 17), none, (.q (.mov (.t 51))), []⟩]
@[simp] def b_btake_22 (_ : Unit) : EB := reg0 (hid l_btake_21) 2
@[simp] def b_btake_23 (_ : Unit) : EB := .seq (hid b_btake_20) (hid b_btake_22)
@[simp] def b_btake_24 (_ : Unit) : EB := .seq (hid b_btake_9) (hid b_btake_23)
@[simp] def b_btake_25 (_ : Unit) : EB := .seq (hid b_btake_8) (hid b_btake_24)
@[simp] def b_btake_26 (_ : Unit) : EB := .loop (hid b_btake_25)
@[simp] def b_btake_27 (_ : Unit) : EB := .block 0 (hid b_btake_26)
@[simp] def b_btake_28 (_ : Unit) : EB := .seq (hid b_btake_6) (hid b_btake_27)
@[simp] def l_btake_29 (_ : Unit) : List EOp := [⟨0, (some 52), none, (.q (.sar 16 (.t 9) none none)), []⟩, ⟨1, (some 53), none, (.q (.mov (.t 0))), []⟩, ⟨2, (some 54), none, (.q (.nilc (.t 53))), []⟩, ⟨3, (some 55), none, (.q (.sar 8 (.t 54) none none)), []⟩, ⟨4, (some 56), none, (.cpy 1 (.t 52) (.t 55)), []⟩]
@[simp] def b_btake_30 (_ : Unit) : EB := reg0 (hid l_btake_29) 5
@[simp] def l_btake_31 (_ : Unit) : List EOp := [⟨0, (some 57), none, (.call 101 []), []⟩, ⟨1, (some 11), none, (.q (.alloc 176 [(.int .u32 0), (.int .u32 0), (.int .u32 0), (.int .u32 0), (.int .u32 0), (.int .u32 0), (.int .u32 0), (.int .u32 0)])), []⟩, ⟨2, none, none, (.sto 8 (.t 11) (.t 57)), []⟩]
@[simp] def b_btake_32 (_ : Unit) : EB := reg0 (hid l_btake_31) 3
@[simp] def l_btake_33 (_ : Unit) : List EOp := [⟨0, (some 58), none, (.q (.sar 16 (.t 9) (some (.k (.int .i64 8))) none)), []⟩, ⟨1, (some 59), none, (.q (.sar 8 (.t 11) none none)), []⟩, ⟨2, (some 60), none, (.cpy 1 (.t 58) (.t 59)), []⟩]
@[simp] def b_btake_34 (_ : Unit) : EB := reg0 (hid l_btake_33) 3
@[simp] def l_btake_36 (_ : Unit) : List EOp := [⟨6, none, none, (.sto 1 (.t 66) (.t 65)), []⟩]
@[simp] def l_btake_35 (_ : Unit) : List EOp := ⟨0, (some 61), none, (.q (.iad 16 1 (.t 9) (.k (.int .i64 12)))), []⟩ :: ⟨1, (some 62), none, (.q (.ldc (.t 61))), []⟩ :: ⟨2, (some 63), none, (.q (.mov (.t 2))), []⟩ :: ⟨3, (some 64), none, (.q (.cnv .u32 (.t 63))), []⟩ :: ⟨4, (some 65), none, (.q (.bin .xor (.t 62) (.t 64))), []⟩ :: ⟨5, (some 66), none, (.q (.iad 16 1 (.t 9) (.k (.int .i64 12)))), []⟩ :: hid l_btake_36
@[simp] def b_btake_37 (_ : Unit) : EB := reg0 (hid l_btake_35) 7
@[simp] def l_btake_39 (_ : Unit) : List EOp := [⟨6, (some 73), none, (.q (.iad 16 1 (.t 9) (.k (.int .i64 13)))), []⟩, ⟨7, none, none, (.sto 1 (.t 73) (.t 72)), []⟩]
@[simp] def l_btake_38 (_ : Unit) : List EOp := ⟨0, (some 67), none, (.q (.iad 16 1 (.t 9) (.k (.int .i64 13)))), []⟩ :: ⟨1, (some 68), none, (.q (.ldc (.t 67))), []⟩ :: ⟨2, (some 69), none, (.q (.mov (.t 2))), []⟩ :: ⟨3, (some 70), none, (.q (.bin .shr (.t 69) (.k (.int .u64 32)))), []⟩ :: ⟨4, (some 71), none, (.q (.cnv .u32 (.t 70))), []⟩ :: ⟨5, (some 72), none, (.q (.bin .xor (.t 68) (.t 71))), []⟩ :: hid l_btake_39
@[simp] def b_btake_40 (_ : Unit) : EB := reg0 (hid l_btake_38) 8
@[simp] def l_btake_41 (_ : Unit) : List EOp := [⟨0, (some 74), none, (.q (.mov (.t 3))), []⟩]
@[simp] def b_btake_42 (_ : Unit) : EB := reg0 (hid l_btake_41) 1
@[simp] def l_btake_43 (_ : Unit) : List EOp := [⟨0, (some 75), none, (.q (.iad 16 1 (.t 9) (.k (.int .i64 14)))), []⟩, ⟨1, (some 76), none, (.q (.ldc (.t 75))), []⟩, ⟨2, (some 77), none, (.q (.un .xor (.t 76))), []⟩, ⟨3, (some 78), none, (.q (.iad 16 1 (.t 9) (.k (.int .i64 14)))), []⟩, ⟨4, none, none, (.sto 1 (.t 78) (.t 77)), []⟩]
@[simp] def b_btake_44 (_ : Unit) : EB := reg0 (hid l_btake_43) 5
@[simp] def b_btake_45 (_ : Unit) : EB := .cond (.t 74) (hid b_btake_44) .skip
@[simp] def b_btake_46 (_ : Unit) : EB := .seq (hid b_btake_42) (hid b_btake_45)
@[simp] def l_btake_47 (_ : Unit) : List EOp := [⟨0, (some 79), none, (.q (.mov (.k (.int .i64 0)))), []⟩]
@[simp] def b_btake_48 (_ : Unit) : EB := reg0 (hid l_btake_47) 1
@[simp] def l_btake_49 (_ : Unit) : List EOp := [⟨0, (some 80), none, (.q (.bin .lss (.t 79) (.k (.int .i64 10)))), []⟩]
@[simp] def b_btake_50 (_ : Unit) : EB := reg0 (hid l_btake_49) 1
@[simp] def b_btake_51 (_ : Unit) : EB := .cond (.t 80) .skip (.exit 2)
@[simp] def l_btake_52 (_ : Unit) : List EOp := [⟨0, (some 81), none, (.q (.mov (.t 79))), []⟩, ⟨1, (some 12), none, (.q (.mov (.t 81))), []⟩]
@[simp] def b_btake_53 (_ : Unit) : EB := reg0 (hid l_btake_52) 2
@[simp] def l_btake_54 (_ : Unit) : List EOp := [⟨0, (some 82), none, (.q (.mov (.t 12))), []⟩, ⟨1, (some 83), none, (.q (.iad 10 16 (.k (.pointer (some ⟨1, 0, none⟩))) (.t 82))), []⟩, ⟨2, (some 84), none, (.q (.lda 16 (.t 83))), []⟩, ⟨3, (some 13), none, (.q (.alloc 204 (List.replicate 16 (.int .u8 0)))), []⟩, ⟨4, none, none, (.sto 16 (.t 13) (.t 84)), []⟩]
@[simp] def b_btake_55 (_ : Unit) : EB := reg0 (hid l_btake_54) 5
@[simp] def l_btake_56 (_ : Unit) : List EOp := [⟨0, (some 85), none, (.q (.mov (.k (.int .i64 0)))), []⟩]
@[simp] def b_btake_57 (_ : Unit) : EB := reg0 (hid l_btake_56) 1
@[simp] def l_btake_58 (_ : Unit) : List EOp := [⟨0, (some 86), none, (.q (.bin .lss (.t 85) (.k (.int .i64 4)))), []⟩]
@[simp] def b_btake_59 (_ : Unit) : EB := reg0 (hid l_btake_58) 1
@[simp] def b_btake_60 (_ : Unit) : EB := .cond (.t 86) .skip (.exit 4)
@[simp] def l_btake_61 (_ : Unit) : List EOp := [⟨0, (some 87), none, (.q (.mov (.t 85))), []⟩, ⟨1, (some 14), none, (.q (.mov (.t 87))), []⟩]
@[simp] def b_btake_62 (_ : Unit) : EB := reg0 (hid l_btake_61) 2
@[simp] def l_btake_66 (_ : Unit) : List EOp := [⟨18, (some 106), none, (.q (.iad 16 1 (.t 8) (.t 105))), []⟩, ⟨19, (some 107), none, (.q (.ldc (.t 106))), []⟩, ⟨20, (some 108), none, (.call 115 [(.t 9), (.t 88), (.t 90), (.t 92), (.t 94), (.t 100), (.t 107)]), []⟩]
@[simp] def l_btake_65 (_ : Unit) : List EOp := ⟨12, (some 100), none, (.q (.ldc (.t 99))), []⟩ :: ⟨13, (some 101), none, (.q (.mov (.t 14))), []⟩ :: ⟨14, (some 102), none, (.q (.bin .mul (.k (.int .i64 2)) (.t 101))), []⟩ :: ⟨15, (some 103), none, (.q (.bin .add (.t 102) (.k (.int .i64 1)))), []⟩ :: ⟨16, (some 104), none, (.q (.iad 16 1 (.t 13) (.t 103))), []⟩ :: ⟨17, (some 105), none, (.q (.ldc (.t 104))), []⟩ :: hid l_btake_66
@[simp] def l_btake_64 (_ : Unit) : List EOp := ⟨6, (some 94), none, (.q (.bin .add (.k (.int .i64 12)) (.t 93))), []⟩ :: ⟨7, (some 95), none, (.q (.mov (.t 14))), []⟩ :: ⟨8, (some 96), none, (.q (.bin .mul (.k (.int .i64 2)) (.t 95))), []⟩ :: ⟨9, (some 97), none, (.q (.iad 16 1 (.t 13) (.t 96))), []⟩ :: ⟨10, (some 98), none, (.q (.ldc (.t 97))), []⟩ :: ⟨11, (some 99), none, (.q (.iad 16 1 (.t 8) (.t 98))), []⟩ :: hid l_btake_65
@[simp] def l_btake_63 (_ : Unit) : List EOp := ⟨0, (some 88), none, (.q (.mov (.t 14))), []⟩ :: ⟨1, (some 89), none, (.q (.mov (.t 14))), []⟩ :: ⟨2, (some 90), none, (.q (.bin .add (.k (.int .i64 4)) (.t 89))), []⟩ :: ⟨3, (some 91), none, (.q (.mov (.t 14))), []⟩ :: ⟨4, (some 92), none, (.q (.bin .add (.k (.int .i64 8)) (.t 91))), []⟩ :: ⟨5, (some 93), none, (.q (.mov (.t 14))), []⟩ :: hid l_btake_64
@[simp] def b_btake_67 (_ : Unit) : EB := reg0 (hid l_btake_63) 21
@[simp] def b_btake_68 (_ : Unit) : EB := .seq (hid b_btake_62) (hid b_btake_67)
@[simp] def b_btake_69 (_ : Unit) : EB := .block 5 (hid b_btake_68)
@[simp] def l_btake_70 (_ : Unit) : List EOp := [⟨0, (some 109), none, (.q (.bin .add (.t 85) (.k (.int .i64 1)))), []⟩, ⟨1, (some 85), none, (.q (.mov (.t 109))), []⟩]
@[simp] def b_btake_71 (_ : Unit) : EB := reg0 (hid l_btake_70) 2
@[simp] def b_btake_72 (_ : Unit) : EB := .seq (hid b_btake_69) (hid b_btake_71)
@[simp] def b_btake_73 (_ : Unit) : EB := .seq (hid b_btake_60) (hid b_btake_72)
@[simp] def b_btake_74 (_ : Unit) : EB := .seq (hid b_btake_59) (hid b_btake_73)
@[simp] def b_btake_75 (_ : Unit) : EB := .loop (hid b_btake_74)
@[simp] def b_btake_76 (_ : Unit) : EB := .block 4 (hid b_btake_75)
@[simp] def b_btake_77 (_ : Unit) : EB := .seq (hid b_btake_57) (hid b_btake_76)
@[simp] def l_btake_78 (_ : Unit) : List EOp := [⟨0, (some 110), none, (.q (.mov (.k (.int .i64 0)))), []⟩]
@[simp] def b_btake_79 (_ : Unit) : EB := reg0 (hid l_btake_78) 1
@[simp] def l_btake_80 (_ : Unit) : List EOp := [⟨0, (some 111), none, (.q (.bin .lss (.t 110) (.k (.int .i64 4)))), []⟩]
@[simp] def b_btake_81 (_ : Unit) : EB := reg0 (hid l_btake_80) 1
@[simp] def b_btake_82 (_ : Unit) : EB := .cond (.t 111) .skip (.exit 6)
@[simp] def l_btake_83 (_ : Unit) : List EOp := [⟨0, (some 112), none, (.q (.mov (.t 110))), []⟩, ⟨1, (some 15), none, (.q (.mov (.t 112))), []⟩]
@[simp] def b_btake_84 (_ : Unit) : EB := reg0 (hid l_btake_83) 2
@[simp] def l_btake_89 (_ : Unit) : List EOp := [⟨24, (some 137), none, (.q (.ldc (.t 136))), []⟩, ⟨25, (some 138), none, (.q (.iad 16 1 (.t 8) (.t 137))), []⟩, ⟨26, (some 139), none, (.q (.ldc (.t 138))), []⟩, ⟨27, (some 140), none, (.call 115 [(.t 9), (.t 113), (.t 117), (.t 121), (.t 125), (.t 132), (.t 139)]), []⟩]
@[simp] def l_btake_88 (_ : Unit) : List EOp := ⟨18, (some 131), none, (.q (.iad 16 1 (.t 8) (.t 130))), []⟩ :: ⟨19, (some 132), none, (.q (.ldc (.t 131))), []⟩ :: ⟨20, (some 133), none, (.q (.mov (.t 15))), []⟩ :: ⟨21, (some 134), none, (.q (.bin .mul (.k (.int .i64 2)) (.t 133))), []⟩ :: ⟨22, (some 135), none, (.q (.bin .add (.k (.int .i64 9)) (.t 134))), []⟩ :: ⟨23, (some 136), none, (.q (.iad 16 1 (.t 13) (.t 135))), []⟩ :: hid l_btake_89
@[simp] def l_btake_87 (_ : Unit) : List EOp := ⟨12, (some 125), none, (.q (.bin .add (.k (.int .i64 12)) (.t 124))), []⟩ :: ⟨13, (some 126), none, (.q (.mov (.t 15))), []⟩ :: ⟨14, (some 127), none, (.q (.bin .mul (.k (.int .i64 2)) (.t 126))), []⟩ :: ⟨15, (some 128), none, (.q (.bin .add (.k (.int .i64 8)) (.t 127))), []⟩ :: ⟨16, (some 129), none, (.q (.iad 16 1 (.t 13) (.t 128))), []⟩ :: ⟨17, (some 130), none, (.q (.ldc (.t 129))), []⟩ :: hid l_btake_88
@[simp] def l_btake_86 (_ : Unit) : List EOp := ⟨6, (some 119), none, (.q (.bin .add (.t 118) (.k (.int .i64 2)))), []⟩ :: ⟨7, (some 120), none, (.q (.bin .rem (.t 119) (.k (.int .i64 4)))), []⟩ :: ⟨8, (some 121), none, (.q (.bin .add (.k (.int .i64 8)) (.t 120))), []⟩ :: ⟨9, (some 122), none, (.q (.mov (.t 15))), []⟩ :: ⟨10, (some 123), none, (.q (.bin .add (.t 122) (.k (.int .i64 3)))), []⟩ :: ⟨11, (some 124), none, (.q (.bin .rem (.t 123) (.k (.int .i64 4)))), []⟩ :: hid l_btake_87
@[simp] def l_btake_85 (_ : Unit) : List EOp := ⟨0, (some 113), none, (.q (.mov (.t 15))), []⟩ :: ⟨1, (some 114), none, (.q (.mov (.t 15))), []⟩ :: ⟨2, (some 115), none, (.q (.bin .add (.t 114) (.k (.int .i64 1)))), []⟩ :: ⟨3, (some 116), none, (.q (.bin .rem (.t 115) (.k (.int .i64 4)))), []⟩ :: ⟨4, (some 117), none, (.q (.bin .add (.k (.int .i64 4)) (.t 116))), []⟩ :: ⟨5, (some 118), none, (.q (.mov (.t 15))), []⟩ :: hid l_btake_86
@[simp] def b_btake_90 (_ : Unit) : EB := reg0 (hid l_btake_85) 28
@[simp] def b_btake_91 (_ : Unit) : EB := .seq (hid b_btake_84) (hid b_btake_90)
@[simp] def b_btake_92 (_ : Unit) : EB := .block 7 (hid b_btake_91)
@[simp] def l_btake_93 (_ : Unit) : List EOp := [⟨0, (some 141), none, (.q (.bin .add (.t 110) (.k (.int .i64 1)))), []⟩, ⟨1, (some 110), none, (.q (.mov (.t 141))), []⟩]
@[simp] def b_btake_94 (_ : Unit) : EB := reg0 (hid l_btake_93) 2
@[simp] def b_btake_95 (_ : Unit) : EB := .seq (hid b_btake_92) (hid b_btake_94)
@[simp] def b_btake_96 (_ : Unit) : EB := .seq (hid b_btake_82) (hid b_btake_95)
@[simp] def b_btake_97 (_ : Unit) : EB := .seq (hid b_btake_81) (hid b_btake_96)
@[simp] def b_btake_98 (_ : Unit) : EB := .loop (hid b_btake_97)
@[simp] def b_btake_99 (_ : Unit) : EB := .block 6 (hid b_btake_98)
@[simp] def b_btake_100 (_ : Unit) : EB := .seq (hid b_btake_79) (hid b_btake_99)
@[simp] def b_btake_101 (_ : Unit) : EB := .seq (hid b_btake_77) (hid b_btake_100)
@[simp] def b_btake_102 (_ : Unit) : EB := .seq (hid b_btake_55) (hid b_btake_101)
@[simp] def b_btake_103 (_ : Unit) : EB := .seq (hid b_btake_53) (hid b_btake_102)
@[simp] def b_btake_104 (_ : Unit) : EB := .block 3 (hid b_btake_103)
@[simp] def l_btake_105 (_ : Unit) : List EOp := [⟨0, (some 142), none, (.q (.bin .add (.t 79) (.k (.int .i64 1)))), []⟩, ⟨1, (some 79), none, (.q (.mov (.t 142))), []⟩]
@[simp] def b_btake_106 (_ : Unit) : EB := reg0 (hid l_btake_105) 2
@[simp] def b_btake_107 (_ : Unit) : EB := .seq (hid b_btake_104) (hid b_btake_106)
@[simp] def b_btake_108 (_ : Unit) : EB := .seq (hid b_btake_51) (hid b_btake_107)
@[simp] def b_btake_109 (_ : Unit) : EB := .seq (hid b_btake_50) (hid b_btake_108)
@[simp] def b_btake_110 (_ : Unit) : EB := .loop (hid b_btake_109)
@[simp] def b_btake_111 (_ : Unit) : EB := .block 2 (hid b_btake_110)
@[simp] def b_btake_112 (_ : Unit) : EB := .seq (hid b_btake_48) (hid b_btake_111)
@[simp] def l_btake_113 (_ : Unit) : List EOp := [⟨0, (some 143), none, (.q (.mov (.k (.int .i64 0)))), []⟩]
@[simp] def b_btake_114 (_ : Unit) : EB := reg0 (hid l_btake_113) 1
@[simp] def l_btake_115 (_ : Unit) : List EOp := [⟨0, (some 144), none, (.q (.bin .lss (.t 143) (.k (.int .i64 8)))), []⟩]
@[simp] def b_btake_116 (_ : Unit) : EB := reg0 (hid l_btake_115) 1
@[simp] def b_btake_117 (_ : Unit) : EB := .cond (.t 144) .skip (.exit 8)
@[simp] def l_btake_118 (_ : Unit) : List EOp := [⟨0, (some 145), none, (.q (.mov (.t 143))), []⟩, ⟨1, (some 16), none, (.q (.mov (.t 145))), []⟩]
@[simp] def b_btake_119 (_ : Unit) : EB := reg0 (hid l_btake_118) 2
@[simp] def l_btake_122 (_ : Unit) : List EOp := [⟨12, (some 158), none, (.q (.bin .xor (.t 153) (.t 157))), []⟩, ⟨13, (some 159), none, (.q (.bin .xor (.t 150) (.t 158))), []⟩, ⟨14, (some 160), none, (.q (.nilc (.t 146))), []⟩, ⟨15, (some 161), none, (.q (.iad 8 1 (.t 160) (.t 147))), []⟩, ⟨16, none, none, (.sto 1 (.t 161) (.t 159)), []⟩]
@[simp] def l_btake_121 (_ : Unit) : List EOp := ⟨6, (some 152), none, (.q (.iad 16 1 (.t 9) (.t 151))), []⟩ :: ⟨7, (some 153), none, (.q (.ldc (.t 152))), []⟩ :: ⟨8, (some 154), none, (.q (.mov (.t 16))), []⟩ :: ⟨9, (some 155), none, (.q (.bin .add (.k (.int .i64 8)) (.t 154))), []⟩ :: ⟨10, (some 156), none, (.q (.iad 16 1 (.t 9) (.t 155))), []⟩ :: ⟨11, (some 157), none, (.q (.ldc (.t 156))), []⟩ :: hid l_btake_122
@[simp] def l_btake_120 (_ : Unit) : List EOp := ⟨0, (some 146), none, (.q (.mov (.t 0))), []⟩ :: ⟨1, (some 147), none, (.q (.mov (.t 16))), []⟩ :: ⟨2, (some 148), none, (.q (.nilc (.t 146))), []⟩ :: ⟨3, (some 149), none, (.q (.iad 8 1 (.t 148) (.t 147))), []⟩ :: ⟨4, (some 150), none, (.q (.ldc (.t 149))), []⟩ :: ⟨5, (some 151), none, (.q (.mov (.t 16))), []⟩ :: hid l_btake_121
@[simp] def b_btake_123 (_ : Unit) : EB := reg0 (hid l_btake_120) 17
@[simp] def b_btake_124 (_ : Unit) : EB := .seq (hid b_btake_119) (hid b_btake_123)
@[simp] def b_btake_125 (_ : Unit) : EB := .block 9 (hid b_btake_124)
@[simp] def l_btake_126 (_ : Unit) : List EOp := [⟨0, (some 162), none, (.q (.bin .add (.t 143) (.k (.int .i64 1)))), []⟩, ⟨1, (some 143), none, (.q (.mov (.t 162))), []⟩]
@[simp] def b_btake_127 (_ : Unit) : EB := reg0 (hid l_btake_126) 2
@[simp] def b_btake_128 (_ : Unit) : EB := .seq (hid b_btake_125) (hid b_btake_127)
@[simp] def b_btake_129 (_ : Unit) : EB := .seq (hid b_btake_117) (hid b_btake_128)
@[simp] def b_btake_130 (_ : Unit) : EB := .seq (hid b_btake_116) (hid b_btake_129)
@[simp] def b_btake_131 (_ : Unit) : EB := .loop (hid b_btake_130)
@[simp] def b_btake_132 (_ : Unit) : EB := .block 8 (hid b_btake_131)
@[simp] def b_btake_133 (_ : Unit) : EB := .seq (hid b_btake_114) (hid b_btake_132)
@[simp] def b_btake_134 (_ : Unit) : EB := .seq (hid b_btake_112) (hid b_btake_133)
@[simp] def b_btake_135 (_ : Unit) : EB := .seq (hid b_btake_46) (hid b_btake_134)
@[simp] def b_btake_136 (_ : Unit) : EB := .seq (hid b_btake_40) (hid b_btake_135)
@[simp] def b_btake_137 (_ : Unit) : EB := .seq (hid b_btake_37) (hid b_btake_136)
@[simp] def b_btake_138 (_ : Unit) : EB := .seq (hid b_btake_34) (hid b_btake_137)
@[simp] def b_btake_139 (_ : Unit) : EB := .seq (hid b_btake_32) (hid b_btake_138)
@[simp] def b_btake_140 (_ : Unit) : EB := .seq (hid b_btake_30) (hid b_btake_139)
@[simp] def b_btake_141 (_ : Unit) : EB := .seq (hid b_btake_28) (hid b_btake_140)
@[simp] def b_btake_142 (_ : Unit) : EB := .seq (hid b_btake_4) (hid b_btake_141)
@[simp] def b_btake_143 (_ : Unit) : EB := .seq (hid b_btake_2) (hid b_btake_142)
def c_btake : EB × List QOp × Nat := ((hid b_btake_143), [], 163)
theorem k_btake : cfun Tryz.prog 111 = some c_btake := by kernel_rfl


/-! ### a block into eight words -/
def bw (b : UInt8) : UInt32 := UInt32.ofNat b.toNat
def g8 (b : List UInt8) (i : Nat) : UInt8 := (b[i]?).getD 0
def wordS (b : List UInt8) (i : Nat) : UInt32 := ((bw (g8 b (4 * i)) ||| shl (bw (g8 b (4 * i + 1))) 8) ||| shl (bw (g8 b (4 * i + 2))) 16) ||| shl (bw (g8 b (4 * i + 3))) 24
def upW (n : Nat) (f : Nat → UInt32) : List UInt32 := (List.range n).map f
theorem upW_len (n : Nat) (f : Nat → UInt32) : (upW n f).length = n := by simp [upW]
theorem upW_set {n : Nat} (f h : Nat → UInt32) {i : Nat} (x : UInt32) (he : ∀ j, j < n → h j = if j = i then x else f j) : (upW n f).set i x = upW n h := by
  apply List.ext_getElem?
  intro j
  by_cases hj : j < n
  · rw [List.getElem?_set]
    by_cases hi : i = j
    · subst hi
      simp [upW, hj, he i hj]
    · simp [upW, hj, he j hj, hi]
      intro e
      exact absurd e.symm hi
  · rw [List.getElem?_eq_none (by simp [upW]; omega), List.getElem?_eq_none (by simp [upW]; omega)]
def mI (b : List UInt8) (i : Nat) : List UInt32 := upW 16 fun j => if j < i then wordS b j else 0
theorem mI_set (b : List UInt8) (i : Nat) : (mI b i).set i (wordS b i) = mI b (i + 1) := by
  refine upW_set _ _ _ (fun j _ => ?_)
  by_cases h1 : j = i
  · subst h1; simp
  · by_cases h2 : j < i
    · rw [if_neg h1, if_pos h2, if_pos (by omega)]
    · rw [if_neg h1, if_neg h2, if_neg (by omega)]
def lo32 (t : Nat) : UInt32 := UInt32.ofNat t
def hi32 (t : Nat) : UInt32 := UInt32.ofNat (t / 4294967296)
def iniS (h : List UInt32) (t : Nat) (last : Bool) : List UInt32 :=
  let v := h ++ firstW
  let v := v.set 12 (g v 12 ^^^ lo32 t)
  let v := v.set 13 (g v 13 ^^^ hi32 t)
  if last then v.set 14 (~~~ g v 14) else v
theorem wi_lo (t : Nat) : IntKind.u32.wrap (t : Int) = wi (lo32 t) := by
  rw [u32_mod]
  unfold lo32
  rw [wi_ofNat]
theorem wi_hi (t : Nat) : IntKind.u32.wrap ((t : Int) / 4294967296) = wi (hi32 t) := by
  rw [u32_mod]
  unfold hi32
  rw [wi_ofNat]
  omega
theorem wi_bw (b : UInt8) : IntKind.u32.wrap (b.toNat : Int) = wi (bw b) := by
  rw [u32_mod]
  unfold bw
  rw [wi_ofNat]
theorem hc_gE {b : List UInt8} {i : Nat} (h : i < b.length) (h2 : i < (hc b).length) : (hc b)[i]'h2 = .fz (.lit (.int .u8 ((g8 b i).toNat : Int))) := by
  simp [hc, g8, h]
theorem hc_d0 {b : List UInt8} {i : Nat} (h : i < b.length) : (hc (List.drop i b))[0]? = some (.fz (.lit (.int .u8 ((g8 b i).toNat : Int)))) := by
  simp [hc, g8, h]
def wf (l : List UInt32) : List FV := l.map fun x => .lit (.int .u32 (wi x))
@[simp] theorem frz_wl (l : List UInt32) : frzAll (wl l) = some (wf l) := by
  induction l with
  | nil => rfl
  | cons b r ih => simp only [wl, List.map_cons, frzAll] at *; rw [ih]; rfl
theorem wf_flat (l : List UInt32) (n : Nat) (h : l.length ≤ n) : (List.take n (List.map (List.map EC.fz ∘ fun x => [x]) (wf l))).flatten = wl l := by
  rw [List.take_of_length_le (by simp [wf]; exact h)]
  clear h
  induction l with
  | nil => rfl
  | cons b r ih => simp only [wf, wl, List.map_cons, List.flatten_cons] at *; rw [ih]; rfl
theorem wf_sum (l : List UInt32) (n : Nat) (h : l.length ≤ n) : (List.take n (List.map (List.length ∘ fun x => [x]) (wf l))).sum = l.length := by
  rw [List.take_of_length_le (by simp [wf]; exact h)]
  clear h
  induction l with
  | nil => rfl
  | cons b r ih => simp only [wf, List.map_cons, List.sum_cons, List.length_cons] at *; rw [ih]; simp [Function.comp]; omega
def Z16 : List UInt32 := List.replicate 16 0
theorem wl_take (l : List UInt32) (n : Nat) : (wl l).take n = wl (l.take n) := by simp [wl]
theorem wl_drop (l : List UInt32) (n : Nat) : (wl l).drop n = wl (l.drop n) := by simp [wl]
theorem wl_app (l r : List UInt32) : wl l ++ wl r = wl (l ++ r) := by simp [wl]
/-! rounds -/
def sN (r j : Nat) : Nat := ((ordN[16 * r + j]?).getD 0).toNat
def colS (m : List UInt32) (r i : Nat) (v : List UInt32) : List UInt32 := mixS v i (4 + i) (8 + i) (12 + i) (g m (sN r (2 * i))) (g m (sN r (2 * i + 1)))
def diaS (m : List UInt32) (r i : Nat) (v : List UInt32) : List UInt32 := mixS v i (4 + (i + 1) % 4) (8 + (i + 2) % 4) (12 + (i + 3) % 4) (g m (sN r (8 + 2 * i))) (g m (sN r (9 + 2 * i)))
def colsS (m : List UInt32) (r : Nat) (v : List UInt32) : Nat → List UInt32
  | 0 => v
  | k + 1 => colS m r k (colsS m r v k)
def diasS (m : List UInt32) (r : Nat) (v : List UInt32) : Nat → List UInt32
  | 0 => v
  | k + 1 => diaS m r k (diasS m r v k)
def rndsS (m : List UInt32) (v : List UInt32) : Nat → List UInt32
  | 0 => v
  | r + 1 => diasS m r (colsS m r (rndsS m v r) 4) 4
theorem mixS_len (v : List UInt32) (a b c d : Nat) (x y : UInt32) : (mixS v a b c d x y).length = v.length := by simp [mixS]
theorem colsS_len (m : List UInt32) (r : Nat) (v : List UInt32) : ∀ k, (colsS m r v k).length = v.length
  | 0 => rfl
  | k + 1 => by unfold colsS colS; rw [mixS_len, colsS_len m r v k]
theorem diasS_len (m : List UInt32) (r : Nat) (v : List UInt32) : ∀ k, (diasS m r v k).length = v.length
  | 0 => rfl
  | k + 1 => by unfold diasS diaS; rw [mixS_len, diasS_len m r v k]
theorem rndsS_len (m : List UInt32) (v : List UInt32) : ∀ r, (rndsS m v r).length = v.length
  | 0 => rfl
  | r + 1 => by unfold rndsS; rw [diasS_len, colsS_len, rndsS_len m v r]
def ocB (r : Nat) : List UInt8 := (List.range 16).map fun j => UInt8.ofNat (sN r j)
theorem ocB_len (r : Nat) : (ocB r).length = 16 := by simp [ocB]
theorem ordN_len : ordN.length = 160 := by decide +kernel
theorem sN_lt : ∀ r, r < 10 → ∀ j, j < 16 → sN r j < 16 := by decide +kernel
theorem ordN_get : ∀ r, r < 10 → ∀ j, j < 16 → ordN[16 * r + j]? = some (sN r j : Int) := by decide +kernel
theorem ocB_get {r j : Nat} (hr : r < 10) (h : j < 16) : ((g8 (ocB r) j).toNat : Int) = (sN r j : Int) := by
  have := sN_lt r hr j h
  simp [g8, ocB, h]
  omega
theorem oc_eq (r : Nat) (h : r < 10) : List.take 16 (List.drop (r * 16) (List.map (EC.fz ∘ fun n => FV.lit (Value.int .u8 n)) ordN)) = hc (ocB r) := by
  apply List.ext_getElem?
  intro j
  by_cases hj : j < 16
  · have h1 := ordN_get r h j hj
    have h2 := ocB_get h hj
    have h3 : (hc (ocB r))[j]? = some (.fz (.lit (.int .u8 ((g8 (ocB r) j).toNat : Int)))) := by simp [hc, g8, ocB, hj]
    rw [List.getElem?_take, if_pos hj, List.getElem?_drop, List.getElem?_map, show r * 16 + j = 16 * r + j by omega, h1, h3, h2]
    rfl
  · rw [List.getElem?_eq_none (by simp; omega), List.getElem?_eq_none (by simp [ocB]; omega)]
def xorS (h v : List UInt32) : Nat → List UInt32
  | 0 => h
  | k + 1 => (xorS h v k).set k (g (xorS h v k) k ^^^ (g v k ^^^ g v (8 + k)))
theorem xorS_len (h v : List UInt32) : ∀ k, (xorS h v k).length = h.length
  | 0 => rfl
  | k + 1 => by unfold xorS; rw [List.length_set, xorS_len h v k]
def takeS (h : List UInt32) (b : List UInt8) (t : Nat) (last : Bool) : List UInt32 := xorS h (rndsS (mI b 16) (iniS h t last) 10) 8
def HO (h : List UInt32) : EO := .box 176 (wl h)
def BV (b : List UInt8) : EV := .v (.agg (hc b))

/-! the loops, each by itself -/
def wB (v : List UInt32) : Option EO := some (.box 203 (wl v))
def hB2 (h : List UInt32) : Option EO := some (.box 176 (wl h))
def tk0 (t : Nat) (last : Bool) (i : Nat) (e : EV) : List EV := [.v (.c (.ptr 0 0)), .any, .lit (.int .u64 t), .lit (.bool last), .any, .v (.c (.ptr 1 0)), .any, .any, .v (.c (.ptr 2 0)), .v (.c (.ptr 3 0)), .any, .any, .any, .any, .any, .any, .any, NV i, e, .any, .any, .any, .any, .any, .any, .any, .any, .any, .any, .any, .any, .any, .any, .any, .any, .any, .any, .any, .any, .any, .any, .any, .any, .any, .any, .any, .any, .any, .any, .any, .any, .any, .any, .any, .any, .any, .any, .any, .any, .any, .any, .any, .any, .any, .any, .any, .any, .any, .any, .any, .any, .any, .any, .any, .any, .any, .any, .any, .any, .any, .any, .any, .any, .any, .any, .any, .any, .any, .any, .any, .any, .any, .any, .any, .any, .any, .any, .any, .any, .any, .any, .any, .any, .any, .any, .any, .any, .any, .any, .any, .any, .any, .any, .any, .any, .any, .any, .any, .any, .any, .any, .any, .any, .any, .any, .any, .any, .any, .any, .any, .any, .any, .any, .any, .any, .any, .any, .any, .any, .any, .any, .any, .any, .any, .any, .any, .any, .any, .any, .any, .any, .any, .any, .any, .any, .any, .any, .any, .any, .any, .any, .any, .any]
def hk0 (h : List UInt32) (b : List UInt8) (i : Nat) : List (Option EO) := [hB2 h, some (.box 197 (hc b)), wB (mI b i), wB Z16]
@[simp] theorem hk0_len (h : List UInt32) (b : List UInt8) (i : Nat) : (hk0 h b i).length = 4 := rfl

set_option maxRecDepth 8000 in
set_option maxHeartbeats 8000000 in
theorem take_words (h : List UInt32) (b : List UInt8) (t : Nat) (last : Bool) (hb : b.length = 64) (Q : Exit → St → Go.EW.Tok → Prop) (hQ : ∀ n, Q (.exit 0) ⟨tk0 t last 16 (.lit (.bool false)), ofO (hk0 h b 16), n⟩ .on) :
    LoopT Tryz.prog 1 (hid b_btake_25) Q ⟨tk0 t last 0 .any, ofO (hk0 h b 0), 4⟩ := by
  refine eloop (α := Nat) (fun i => i ≤ 16) (fun i => 16 - i) (fun i => tk0 t last i .any) (fun i => hk0 h b i) 0 [0, 1, 2, 3]
    (by omega) (by simp [tk0, NV]) (by simp [hk0, hB2, wB]) (by simp [hk0, hB2, wB]) (by simp) (by simp [hk0]) ?_
  intro i hi
  have hml : (mI b i).length = 16 := upW_len _ _
  by_cases hlt : i < 16
  · have il : (i : Int) < 16 := by omega
    have xl : i ≤ 15 := by omega
    obtain ⟨k, hk⟩ : ∃ k, k = 4 * i := ⟨_, rfl⟩
    have w0 : IntKind.i64.wrap (4 * (i : Int)) = (k : Int) := by rw [wrap_i64 (by omega) (by omega)]; omega
    have w1 : IntKind.i64.wrap ((k : Int) + 1) = ((k + 1 : Nat) : Int) := wrap_i64 (by omega) (by omega)
    have w2 : IntKind.i64.wrap ((k : Int) + 2) = ((k + 2 : Nat) : Int) := wrap_i64 (by omega) (by omega)
    have w3 : IntKind.i64.wrap ((k : Int) + 3) = ((k + 3 : Nat) : Int) := wrap_i64 (by omega) (by omega)
    have wi1 : IntKind.i64.wrap ((i : Int) + 1) = ((i + 1 : Nat) : Int) := wrap_i64 (by omega) (by omega)
    have k0 : k < 64 := by omega
    have k1 : k + 1 < 64 := by omega
    have k2 : k + 2 < 64 := by omega
    have k3 : k + 3 < 64 := by omega
    have j0 : (k : Int) < 64 := by omega
    have j1 : ((k + 1 : Nat) : Int) < 64 := by omega
    have j2 : ((k + 2 : Nat) : Int) < 64 := by omega
    have j3 : ((k + 3 : Nat) : Int) < 64 := by omega
    have s8 : ∀ x, ishl .u32 (wi x) 8 = wi (shl x 8) := fun x => wi_shl x 8 (by omega)
    have s16 : ∀ x, ishl .u32 (wi x) 16 = wi (shl x 16) := fun x => wi_shl x 16 (by omega)
    have s24 : ∀ x, ishl .u32 (wi x) 24 = wi (shl x 24) := fun x => wi_shl x 24 (by omega)
    have hw : ((bw (g8 b k) ||| shl (bw (g8 b (k + 1))) 8) ||| shl (bw (g8 b (k + 2))) 16) ||| shl (bw (g8 b (k + 3))) 24 = wordS b i := by rw [hk]; rfl
    simp [tk0, hk0, wB, hB2, NV, il, xl, w0, w1, w2, w3, wi1, hb, k0, k1, k2, k3, j0, j1, j2, j3, s8, s16, s24, hc_gE, hc_d0, wi_bw, wi_or, hw, hml, hlt, wl_put, mI_set, -Int.natCast_add]
    exact round (i + 1) [0, 1, 2, 3] (by omega) (by omega) (by simp [tk0, NV]) (by simp [hk0, hB2, wB]) (by simp [hk0, hB2, wB]) (by simp) (by simp [hk0])
  · have hi16 : i = 16 := by omega
    subst hi16
    simp [tk0, hk0, NV]
    exact hQ _

def tk4 (r i : Nat) (e : EV) : List EV := [.v (.c (.ptr 0 0)), .any, .any, .any, .any, .any, .any, .any, .v (.c (.ptr 1 0)), .v (.c (.ptr 2 0)), .any, .any, .any, .v (.c (.ptr 3 0)), .any, .any, .any, .any, .any, .any, .any, .any, .any, .any, .any, .any, .any, .any, .any, .any, .any, .any, .any, .any, .any, .any, .any, .any, .any, .any, .any, .any, .any, .any, .any, .any, .any, .any, .any, .any, .any, .any, .any, .any, .any, .any, .any, .any, .any, .any, .any, .any, .any, .any, .any, .any, .any, .any, .any, .any, .any, .any, .any, .any, .any, .any, .any, .any, .any, NV r, .any, .any, .any, .any, .any, NV i, e, .any, .any, .any, .any, .any, .any, .any, .any, .any, .any, .any, .any, .any, .any, .any, .any, .any, .any, .any, .any, .any, .any, .any, .any, .any, .any, .any, .any, .any, .any, .any, .any, .any, .any, .any, .any, .any, .any, .any, .any, .any, .any, .any, .any, .any, .any, .any, .any, .any, .any, .any, .any, .any, .any, .any, .any, .any, .any, .any, .any, .any, .any, .any, .any, .any, .any, .any, .any, .any, .any, .any, .any, .any, .any, .any, .any]
def hk4 (h m v : List UInt32) (r : Nat) : List (Option EO) := [hB2 h, wB m, wB v, some (.box 204 (hc (ocB r)))]
@[simp] theorem hk4_len (h m v : List UInt32) (r : Nat) : (hk4 h m v r).length = 4 := rfl
set_option maxRecDepth 8000 in
set_option maxHeartbeats 8000000 in
theorem take_cols (h m V : List UInt32) (r : Nat) (hlr : r < 10) (hml : m.length = 16) (er : V.length = 16) (Q : Exit → St → Go.EW.Tok → Prop) (hQ : ∀ n, Q (.exit 4) ⟨tk4 r 4 (.lit (.bool false)), ofO (hk4 h m (colsS m r V 4) r), n⟩ .on) :
    LoopT Tryz.prog 1 (hid b_btake_74) Q ⟨tk4 r 0 .any, ofO (hk4 h m V r), 4⟩ := by
  refine eloop (α := Nat) (fun i => i ≤ 4) (fun i => 4 - i) (fun i => tk4 r i .any) (fun i => hk4 h m (colsS m r V i) r) 0 [0, 1, 2, 3]
    (by omega) (by simp [tk4, NV]) (by simp [hk4, hB2, wB, colsS]) (by simp [hk4, hB2, wB]) (by simp) (by simp [hk4]) ?_
  intro i hi
  have ei : (colsS m r V i).length = 16 := by rw [colsS_len]; exact er
  by_cases hli : i < 4
  · have ii : (i : Int) < 4 := by omega
    have wi1 : IntKind.i64.wrap ((i : Int) + 1) = ((i + 1 : Nat) : Int) := wrap_i64 (by omega) (by omega)
    have w4 : IntKind.i64.wrap (4 + (i : Int)) = ((4 + i : Nat) : Int) := by rw [wrap_i64 (by omega) (by omega)]; omega
    have w8 : IntKind.i64.wrap (8 + (i : Int)) = ((8 + i : Nat) : Int) := by rw [wrap_i64 (by omega) (by omega)]; omega
    have w12 : IntKind.i64.wrap (12 + (i : Int)) = ((12 + i : Nat) : Int) := by rw [wrap_i64 (by omega) (by omega)]; omega
    have wa : IntKind.i64.wrap (2 * (i : Int)) = ((2 * i : Nat) : Int) := by rw [wrap_i64 (by omega) (by omega)]; omega
    have wb : IntKind.i64.wrap (((2 * i : Nat) : Int) + 1) = ((2 * i + 1 : Nat) : Int) := wrap_i64 (by omega) (by omega)
    have xa : ((2 * i : Nat) : Int) < 16 := by omega
    have xb : ((2 * i + 1 : Nat) : Int) < 16 := by omega
    have ol := ocB_len r
    have oa := ocB_get hlr (show 2 * i < 16 by omega)
    have ob := ocB_get hlr (show 2 * i + 1 < 16 by omega)
    have la : 2 * i < 16 := by omega
    have lb : 2 * i + 1 < 16 := by omega
    have sa := sN_lt r hlr (2 * i) (by omega)
    have sb := sN_lt r hlr (2 * i + 1) (by omega)
    have ta : (sN r (2 * i) : Int) < 16 := by omega
    have tb : (sN r (2 * i + 1) : Int) < 16 := by omega
    simp [tk4, hk4, wB, hB2, NV, ii, w4, w8, w12, wa, wb, xa, xb, ol, la, lb, hc_d0, hc_gE, oa, ob, sa, sb, ta, tb, hml, wl_gE, -Int.natCast_add, -Int.natCast_mul]
    refine callH [2] (mix_ok (colsS m r V i) i (4 + i) (8 + i) (12 + i) (g m (sN r (2 * i))) (g m (sN r (2 * i + 1))) ei (by omega) (by omega) (by omega) (by omega)) (by simp [NV, WV]) (by simp [VO]) (by simp) (by simp) (by simp) ?_
    rintro y H' ⟨rfl, rfl⟩
    refine ⟨.inl (by simp), by simp, ?_⟩
    simp [VO, wi1, -Int.natCast_add]
    exact round (i + 1) [0, 1, 2, 3] (by omega) (by omega) (by simp [tk4, NV]) (by simp [hk4, hB2, wB, colsS, colS]) (by simp [hk4, hB2, wB]) (by simp) (by simp [hk4])
  · have h4 : i = 4 := by omega
    subst h4
    simp [tk4, hk4, NV]
    exact hQ _

def tk6 (r i : Nat) (e : EV) : List EV := [.v (.c (.ptr 0 0)), .any, .any, .any, .any, .any, .any, .any, .v (.c (.ptr 1 0)), .v (.c (.ptr 2 0)), .any, .any, .any, .v (.c (.ptr 3 0)), .any, .any, .any, .any, .any, .any, .any, .any, .any, .any, .any, .any, .any, .any, .any, .any, .any, .any, .any, .any, .any, .any, .any, .any, .any, .any, .any, .any, .any, .any, .any, .any, .any, .any, .any, .any, .any, .any, .any, .any, .any, .any, .any, .any, .any, .any, .any, .any, .any, .any, .any, .any, .any, .any, .any, .any, .any, .any, .any, .any, .any, .any, .any, .any, .any, NV r, .any, .any, .any, .any, .any, .any, .any, .any, .any, .any, .any, .any, .any, .any, .any, .any, .any, .any, .any, .any, .any, .any, .any, .any, .any, .any, .any, .any, .any, .any, NV i, e, .any, .any, .any, .any, .any, .any, .any, .any, .any, .any, .any, .any, .any, .any, .any, .any, .any, .any, .any, .any, .any, .any, .any, .any, .any, .any, .any, .any, .any, .any, .any, .any, .any, .any, .any, .any, .any, .any, .any, .any, .any, .any, .any, .any, .any, .any, .any, .any, .any, .any, .any]
set_option maxRecDepth 8000 in
set_option maxHeartbeats 8000000 in
theorem take_dias (h m W : List UInt32) (r : Nat) (hlr : r < 10) (hml : m.length = 16) (er : W.length = 16) (Q : Exit → St → Go.EW.Tok → Prop) (hQ : ∀ n, Q (.exit 6) ⟨tk6 r 4 (.lit (.bool false)), ofO (hk4 h m (diasS m r W 4) r), n⟩ .on) :
    LoopT Tryz.prog 1 (hid b_btake_97) Q ⟨tk6 r 0 .any, ofO (hk4 h m W r), 4⟩ := by
  refine eloop (α := Nat) (fun i => i ≤ 4) (fun i => 4 - i) (fun i => tk6 r i .any) (fun i => hk4 h m (diasS m r W i) r) 0 [0, 1, 2, 3]
    (by omega) (by simp [tk6, NV]) (by simp [hk4, hB2, wB, diasS]) (by simp [hk4, hB2, wB]) (by simp) (by simp [hk4]) ?_
  intro i hi
  have ei2 : (diasS m r W i).length = 16 := by rw [diasS_len]; exact er
  by_cases hli : i < 4
  · have ii : (i : Int) < 4 := by omega
    have wi1 : IntKind.i64.wrap ((i : Int) + 1) = ((i + 1 : Nat) : Int) := wrap_i64 (by omega) (by omega)
    have wi2 : IntKind.i64.wrap ((i : Int) + 2) = ((i + 2 : Nat) : Int) := wrap_i64 (by omega) (by omega)
    have wi3 : IntKind.i64.wrap ((i : Int) + 3) = ((i + 3 : Nat) : Int) := wrap_i64 (by omega) (by omega)
    obtain ⟨a1, ha1⟩ : ∃ a, (i + 1) % 4 = a := ⟨_, rfl⟩
    obtain ⟨a2, ha2⟩ : ∃ a, (i + 2) % 4 = a := ⟨_, rfl⟩
    obtain ⟨a3, ha3⟩ : ∃ a, (i + 3) % 4 = a := ⟨_, rfl⟩
    have m1 : ((i + 1 : Nat) : Int).tmod 4 = (a1 : Int) := by rw [← ha1]; rfl
    have m2 : ((i + 2 : Nat) : Int).tmod 4 = (a2 : Int) := by rw [← ha2]; rfl
    have m3 : ((i + 3 : Nat) : Int).tmod 4 = (a3 : Int) := by rw [← ha3]; rfl
    have w4 : IntKind.i64.wrap (4 + (a1 : Int)) = ((4 + a1 : Nat) : Int) := by rw [wrap_i64 (by omega) (by omega)]; omega
    have w8 : IntKind.i64.wrap (8 + (a2 : Int)) = ((8 + a2 : Nat) : Int) := by rw [wrap_i64 (by omega) (by omega)]; omega
    have w12 : IntKind.i64.wrap (12 + (a3 : Int)) = ((12 + a3 : Nat) : Int) := by rw [wrap_i64 (by omega) (by omega)]; omega
    have wc : IntKind.i64.wrap (2 * (i : Int)) = ((2 * i : Nat) : Int) := by rw [wrap_i64 (by omega) (by omega)]; omega
    have wa : IntKind.i64.wrap (8 + ((2 * i : Nat) : Int)) = ((8 + 2 * i : Nat) : Int) := by rw [wrap_i64 (by omega) (by omega)]; omega
    have wb : IntKind.i64.wrap (9 + ((2 * i : Nat) : Int)) = ((9 + 2 * i : Nat) : Int) := by rw [wrap_i64 (by omega) (by omega)]; omega
    have xa : ((8 + 2 * i : Nat) : Int) < 16 := by omega
    have xb : ((9 + 2 * i : Nat) : Int) < 16 := by omega
    have ol := ocB_len r
    have oa := ocB_get hlr (show 8 + 2 * i < 16 by omega)
    have ob := ocB_get hlr (show 9 + 2 * i < 16 by omega)
    have la : 8 + 2 * i < 16 := by omega
    have lb : 9 + 2 * i < 16 := by omega
    have sa := sN_lt r hlr (8 + 2 * i) (by omega)
    have sb := sN_lt r hlr (9 + 2 * i) (by omega)
    have ta : (sN r (8 + 2 * i) : Int) < 16 := by omega
    have tb : (sN r (9 + 2 * i) : Int) < 16 := by omega
    simp [tk6, hk4, wB, hB2, NV, ii, wi1, wi2, wi3, m1, m2, m3, w4, w8, w12, wc, wa, wb, xa, xb, ol, la, lb, hc_d0, hc_gE, oa, ob, sa, sb, ta, tb, hml, wl_gE, -Int.natCast_add, -Int.natCast_mul]
    refine callH [2] (mix_ok (diasS m r W i) i (4 + a1) (8 + a2) (12 + a3) (g m (sN r (8 + 2 * i))) (g m (sN r (9 + 2 * i))) ei2 (by omega) (by omega) (by omega) (by omega)) (by simp [NV, WV]) (by simp [VO]) (by simp) (by simp) (by simp) ?_
    rintro y H' ⟨rfl, rfl⟩
    refine ⟨.inl (by simp), by simp, ?_⟩
    simp [VO, wi1, -Int.natCast_add]
    exact round (i + 1) [0, 1, 2, 3] (by omega) (by omega) (by simp [tk6, NV]) (by simp [hk4, hB2, wB, diasS, diaS, ha1, ha2, ha3]) (by simp [hk4, hB2, wB]) (by simp) (by simp [hk4])
  · have h4 : i = 4 := by omega
    subst h4
    simp [tk6, hk4, NV]
    exact hQ _

def tk2 (r : Nat) (e : EV) : List EV := [.v (.c (.ptr 0 0)), .any, .any, .any, .any, .any, .any, .any, .v (.c (.ptr 1 0)), .v (.c (.ptr 2 0)), .any, .any, .any, .any, .any, .any, .any, .any, .any, .any, .any, .any, .any, .any, .any, .any, .any, .any, .any, .any, .any, .any, .any, .any, .any, .any, .any, .any, .any, .any, .any, .any, .any, .any, .any, .any, .any, .any, .any, .any, .any, .any, .any, .any, .any, .any, .any, .any, .any, .any, .any, .any, .any, .any, .any, .any, .any, .any, .any, .any, .any, .any, .any, .any, .any, .any, .any, .any, .any, NV r, e, .any, .any, .any, .any, .any, .any, .any, .any, .any, .any, .any, .any, .any, .any, .any, .any, .any, .any, .any, .any, .any, .any, .any, .any, .any, .any, .any, .any, .any, .any, .any, .any, .any, .any, .any, .any, .any, .any, .any, .any, .any, .any, .any, .any, .any, .any, .any, .any, .any, .any, .any, .any, .any, .any, .any, .any, .any, .any, .any, .any, .any, .any, .any, .any, .any, .any, .any, .any, .any, .any, .any, .any, .any, .any, .any, .any, .any, .any, .any, .any, .any, .any]
def hk2 (h m v : List UInt32) : List (Option EO) := [hB2 h, wB m, wB v]
@[simp] theorem hk2_len (h m v : List UInt32) : (hk2 h m v).length = 3 := rfl
set_option maxRecDepth 8000 in
set_option maxHeartbeats 8000000 in
theorem take_rnds (h m v3 : List UInt32) (hml : m.length = 16) (e3 : v3.length = 16) (Q : Exit → St → Go.EW.Tok → Prop) (hQ : ∀ n, Q (.exit 2) ⟨tk2 10 (.lit (.bool false)), ofO (hk2 h m (rndsS m v3 10)), n⟩ .on) :
    LoopT Tryz.prog 1 (hid b_btake_109) Q ⟨tk2 0 .any, ofO (hk2 h m v3), 3⟩ := by
  refine eloop (α := Nat) (fun r => r ≤ 10) (fun r => 10 - r) (fun r => tk2 r .any) (fun r => hk2 h m (rndsS m v3 r)) 0 [0, 1, 2]
    (by omega) (by simp [tk2, NV]) (by simp [hk2, hB2, wB, rndsS]) (by simp [hk2, hB2, wB]) (by simp) (by simp [hk2]) ?_
  intro r hr
  have er : (rndsS m v3 r).length = 16 := by rw [rndsS_len]; exact e3
  by_cases hlr : r < 10
  · have ir : (r : Int) < 10 := by omega
    have wr : IntKind.i64.wrap ((r : Int) + 1) = ((r + 1 : Nat) : Int) := wrap_i64 (by omega) (by omega)
    have lr : 16 ≤ 160 - r * 16 := by omega
    have hoc := oc_eq r hlr
    simp [tk2, hk2, wB, hB2, NV, hlr, ir, lr, hoc, ordN_len, ocB_len r]
    obtain ⟨V, hV⟩ : ∃ V, rndsS m v3 r = V := ⟨_, rfl⟩
    rw [hV] at er
    refine loopW _ (weak_norm [0, 1, 2, 99] (tk4 r 0 .any) (hk4 h m V r) (by simp [tk4, NV]) (by simp [hk4, hB2, wB, hV, hoc]) (by simp [hk4, hB2, wB]) (by simp) (by simp [hk4])) (take_cols h m V r hlr hml er _ fun n => ?_)
    simp [tk4, hk4, NV]
    obtain ⟨W, hW⟩ : ∃ W, colsS m r V 4 = W := ⟨_, rfl⟩
    have ei : W.length = 16 := by rw [← hW, colsS_len]; exact er
    refine loopW _ (weak_norm [0, 1, 2, 3] (tk6 r 0 .any) (hk4 h m W r) (by simp [tk6, NV]) (by simp [hk4, hB2, wB, hW]) (by simp [hk4, hB2, wB]) (by simp) (by simp [hk4])) (take_dias h m W r hlr hml ei _ fun n => ?_)
    simp [tk6, hk4, wB, hB2, NV, wr, -Int.natCast_add]
    exact round (r + 1) [0, 1, 2] (by omega) (by omega) (by simp [tk2, NV]) (by simp [hk2, hB2, wB, rndsS, hV, hW]) (by simp [hk2, hB2, wB]) (by simp) (by simp [hk2])
  · have h10 : r = 10 := by omega
    subst h10
    simp [tk2, hk2, NV]
    exact hQ _

def tk8 (i : Nat) (e : EV) : List EV := [.v (.c (.ptr 0 0)), .any, .any, .any, .any, .any, .any, .any, .any, .v (.c (.ptr 1 0)), .any, .any, .any, .any, .any, .any, .any, .any, .any, .any, .any, .any, .any, .any, .any, .any, .any, .any, .any, .any, .any, .any, .any, .any, .any, .any, .any, .any, .any, .any, .any, .any, .any, .any, .any, .any, .any, .any, .any, .any, .any, .any, .any, .any, .any, .any, .any, .any, .any, .any, .any, .any, .any, .any, .any, .any, .any, .any, .any, .any, .any, .any, .any, .any, .any, .any, .any, .any, .any, .any, .any, .any, .any, .any, .any, .any, .any, .any, .any, .any, .any, .any, .any, .any, .any, .any, .any, .any, .any, .any, .any, .any, .any, .any, .any, .any, .any, .any, .any, .any, .any, .any, .any, .any, .any, .any, .any, .any, .any, .any, .any, .any, .any, .any, .any, .any, .any, .any, .any, .any, .any, .any, .any, .any, .any, .any, .any, .any, .any, .any, .any, .any, .any, NV i, e, .any, .any, .any, .any, .any, .any, .any, .any, .any, .any, .any, .any, .any, .any, .any, .any, .any, .any]
set_option maxRecDepth 8000 in
set_option maxHeartbeats 8000000 in
theorem take_xor (h V : List UInt32) (hh : h.length = 8) (er : V.length = 16) (Q : Exit → St → Go.EW.Tok → Prop) (hQ : ∀ n, Q (.exit 8) ⟨tk8 8 (.lit (.bool false)), ofO [hB2 (xorS h V 8), wB V], n⟩ .on) :
    LoopT Tryz.prog 1 (hid b_btake_130) Q ⟨tk8 0 .any, ofO [hB2 h, wB V], 2⟩ := by
  refine eloop (α := Nat) (fun i => i ≤ 8) (fun i => 8 - i) (fun i => tk8 i .any) (fun i => [hB2 (xorS h V i), wB V]) 0 [0, 1]
    (by omega) (by simp [tk8, NV]) (by simp [hB2, wB, xorS]) (by simp [hB2, wB]) (by simp) (by simp) ?_
  intro i hi
  have ei : (xorS h V i).length = 8 := by rw [xorS_len]; exact hh
  by_cases hli : i < 8
  · have ii : (i : Int) < 8 := by omega
    have ij : (i : Int) < 16 := by omega
    have xl : i ≤ 7 := by omega
    have l16 : i < 16 := by omega
    have l8 : 8 + i < 16 := by omega
    have wi1 : IntKind.i64.wrap ((i : Int) + 1) = ((i + 1 : Nat) : Int) := wrap_i64 (by omega) (by omega)
    have w8 : IntKind.i64.wrap (8 + (i : Int)) = ((8 + i : Nat) : Int) := by rw [wrap_i64 (by omega) (by omega)]; omega
    have j8 : ((8 + i : Nat) : Int) < 16 := by omega
    simp [tk8, hB2, wB, NV, ii, ij, xl, l16, l8, hli, wi1, w8, j8, ei, er, wl_gE, wl_put, wi_xor, -Int.natCast_add]
    exact round (i + 1) [0, 1] (by omega) (by omega) (by simp [tk8, NV]) (by simp [hB2, wB, xorS]) (by simp [hB2, wB]) (by simp) (by simp)
  · have h8 : i = 8 := by omega
    subst h8
    simp [tk8, NV]
    exact hQ _

set_option maxRecDepth 8000 in
set_option maxHeartbeats 8000000 in
theorem btake_ok (h : List UInt32) (b : List UInt8) (t : Nat) (last : Bool) (hh : h.length = 8) (hb : b.length = 64) (ht : t < 18446744073709551616) :
    ECalls Tryz.prog 111 [.v (.c (.ptr 0 0)), BV b, .lit (.int .u64 t), .lit (.bool last)] [HO h] fun y H' => H' = [some (HO (takeS h b t last))] ∧ y = .tup [] := by
  have z16 : wl (mI b 0) = List.replicate 16 (EC.fz (.lit (.int .u32 0))) := by simp [mI, upW]; rfl
  have zz : wl Z16 = List.replicate 16 (EC.fz (.lit (.int .u32 0))) := by simp [wl, Z16]; rfl
  have th : List.take 8 (wl h) = wl h := List.take_of_length_le (by simp [hh])
  have f1 := wf_flat h 16 (by omega)
  have f2 := wf_sum h 16 (by omega)
  refine ecalls k_btake ?_
  simp [c_btake, BV, HO, hb, hh]
  refine loopW _ (weak_norm [0, 1, 17, 33] (tk0 t last 0 .any) (hk0 h b 0) (by simp [tk0, NV]) (by simp [hk0, hB2, wB, z16, zz]) (by simp [hk0, hB2, wB]) (by simp) (by simp [hk0])) (take_words h b t last hb _ fun n => ?_)
  have hml : (mI b 16).length = 16 := upW_len _ _
  have z16l : Z16.length = 16 := rfl
  have dz : List.drop 8 (wl Z16) = wl (Z16.drop 8) := wl_drop _ _
  simp [tk0, hk0, wB, hB2, NV, hb, hh, th, f1, f2, dz, wl_app, z16l]
  have tf : List.take 8 (wl firstW) = wl firstW := List.take_of_length_le (by simp; decide)
  have ff1 := wf_flat firstW 8 (by decide)
  have ff2 := wf_sum firstW 8 (by decide)
  have fl : firstW.length = 8 := rfl
  have tk : List.take 8 (wl (h ++ List.drop 8 Z16)) = wl h := by rw [wl_take, List.take_left' hh]
  have dk : List.drop 16 (wl (h ++ List.drop 8 Z16)) = [] := List.drop_of_length_le (by simp [hh, z16l])
  obtain ⟨v0, h0⟩ : ∃ w, h ++ firstW = w := ⟨_, rfl⟩
  have e0 : v0.length = 16 := by rw [← h0, List.length_append, hh, fl]
  obtain ⟨v1, h1⟩ : ∃ w, v0.set 12 (g v0 12 ^^^ lo32 t) = w := ⟨_, rfl⟩
  have e1 : v1.length = 16 := by rw [← h1, List.length_set]; exact e0
  obtain ⟨v2, h2⟩ : ∃ w, v1.set 13 (g v1 13 ^^^ hi32 t) = w := ⟨_, rfl⟩
  have e2 : v2.length = 16 := by rw [← h2, List.length_set]; exact e1
  have hini : iniS h t last = if last then v2.set 14 (~~~ g v2 14) else v2 := by unfold iniS; simp only [h0, h1, h2]
  have p12 : ∀ x, List.take 12 (wl v0) ++ .fz (.lit (.int .u32 (wi x))) :: List.drop 13 (wl v0) = wl (v0.set 12 x) := fun x => wl_put (by omega)
  have p13 : ∀ x, List.take 13 (wl v1) ++ .fz (.lit (.int .u32 (wi x))) :: List.drop 14 (wl v1) = wl (v1.set 13 x) := fun x => wl_put (by omega)
  have p14 : ∀ x, List.take 14 (wl v2) ++ .fz (.lit (.int .u32 (wi x))) :: List.drop 15 (wl v2) = wl (v2.set 14 x) := fun x => wl_put (by omega)
  refine call0 first_ok (by simp) ?_
  rintro y H' ⟨rfl, rfl⟩
  refine ⟨.inl (by simp), le_ok rfl, ?_⟩
  simp [NV, hb, hh, tf, ff1, ff2, fl, z16l, wl_app, tk, dk, h0, e0, e1, e2, wl_g, wl_gE, wi_xor, wi_lo, wi_hi, p12, p13, h1, h2]
  obtain ⟨v3, h3⟩ : ∃ w, iniS h t last = w := ⟨_, rfl⟩
  have e3 : v3.length = 16 := by rw [← h3, hini]; split <;> simp [e2]
  obtain ⟨m, hm⟩ : ∃ m, mI b 16 = m := ⟨_, rfl⟩
  rw [hm] at hml
  have er : (rndsS m v3 10).length = 16 := by rw [rndsS_len]; exact e3
  obtain ⟨V, hV⟩ : ∃ V, rndsS m v3 10 = V := ⟨_, rfl⟩
  rw [hV] at er
  have ht2 : takeS h b t last = xorS h V 8 := by unfold takeS; rw [hm, h3, hV]
  rw [ht2]
  refine alt (fun hl => ?_) (fun hl => ?_)
  case' refine_1 =>
    have h14 : v2.set 14 (~~~ g v2 14) = v3 := by rw [← h3, hini, if_pos hl]
    simp [e2, wl_g, wl_gE, pun_x32, p14, h14]
  case' refine_2 =>
    have h14 : v2 = v3 := by rw [← h3, hini, if_neg (by simpa using hl)]
    simp [h14]
  all_goals
    refine loopW _ (weak_norm [0, 2, 3] (tk2 0 .any) (hk2 h m v3) (by simp [tk2, NV]) (by simp [hk2, hB2, wB, hm]) (by simp [hk2, hB2, wB]) (by simp) (by simp [hk2])) (take_rnds h m v3 hml e3 _ fun n => ?_)
    simp [tk2, hk2, wB, hB2, NV]
    refine loopW _ (weak_norm [0, 2] (tk8 0 .any) [hB2 h, wB V] (by simp [tk8, NV]) (by simp [hB2, wB, hV]) (by simp [hB2, wB]) (by simp) (by simp)) (take_xor h V hh er _ fun n => ?_)
    simp [tk8, wB, hB2, NV]
    exact fin [] (by decide) rfl rfl (by simp [objsOut]) ⟨rfl, rfl⟩

end Go.Proofs.YtpilpjameifcfaaGreatDoor

namespace Go.Proofs.YtpilpjameifcfaaGreatDoor
open Go Go.EW
set_option linter.unusedSimpArgs false
set_option linter.unusedVariables false

/-! the loops, each by itself -/
def SO (r : Nat) (h : List UInt32) (n tt nn : Nat) : EO := .box 179 (wl h ++ [.row r n, .fz (.lit (.int .u64 tt)), .fz (.lit (.int .i64 nn))])
def RB (w : List UInt8) : EO := .row 5 1 (bsv w)
def hSB (h : List UInt32) (tt nn : Nat) : Option EO := some (SO 1 h 64 tt nn)
theorem wl_putR {v : List UInt32} {i : Nat} {x : UInt32} {r : List EC} (h : i < v.length) : List.take i (wl v ++ r) ++ .fz (.lit (.int .u32 (wi x))) :: List.drop (i + 1) (wl v ++ r) = wl (v.set i x) ++ r := by
  rw [List.take_append_of_le_length (by simp; omega), List.drop_append_of_le_length (by simp; omega), ← wl_put h]
  simp
theorem wl_gER {v : List UInt32} {i : Nat} {r : List EC} (h : i < v.length) (h2 : i < (wl v ++ r).length) : (wl v ++ r)[i]'h2 = .fz (.lit (.int .u32 (wi (g v i)))) := by
  rw [List.getElem_append_left (by simpa using h), wl_gE h]
theorem wl_gR {v : List UInt32} {i : Nat} {r : List EC} (h : i < v.length) : (wl v ++ r)[i]? = some (.fz (.lit (.int .u32 (wi (g v i))))) := by
  rw [List.getElem?_append_left (by simpa using h), wl_g h]
@[simp] theorem strAll_wlR (ids : List Nat) (l : List UInt32) (r : List EC) : strAll ids (wl l ++ r) = (strAll ids r).map (wl l ++ ·) := by
  induction l with
  | nil => simp [wl]
  | cons b t ih =>
    have e : wl (b :: t) ++ r = .fz (.lit (.int .u32 (wi b))) :: (wl t ++ r) := rfl
    rw [e]
    simp only [strAll, ih]
    cases strAll ids r <;> rfl
theorem wl_t8 {v : List UInt32} {r : List EC} (h : v.length = 8) : List.take 8 (wl v ++ r) = wl v := List.take_left' (by simpa using h)
def tb0 (t : Nat) (last : Bool) (i : Nat) (e : EV) : List EV := [.v (.c (.ptr 0 0)), .any, .lit (.int .u64 t), .lit (.bool last), .any, .v (.c (.ptr 2 0)), .any, .any, .v (.c (.ptr 3 0)), .v (.c (.ptr 4 0)), .any, .any, .any, .any, .any, .any, .any, NV i, e, .any, .any, .any, .any, .any, .any, .any, .any, .any, .any, .any, .any, .any, .any, .any, .any, .any, .any, .any, .any, .any, .any, .any, .any, .any, .any, .any, .any, .any, .any, .any, .any, .any, .any, .any, .any, .any, .any, .any, .any, .any, .any, .any, .any, .any, .any, .any, .any, .any, .any, .any, .any, .any, .any, .any, .any, .any, .any, .any, .any, .any, .any, .any, .any, .any, .any, .any, .any, .any, .any, .any, .any, .any, .any, .any, .any, .any, .any, .any, .any, .any, .any, .any, .any, .any, .any, .any, .any, .any, .any, .any, .any, .any, .any, .any, .any, .any, .any, .any, .any, .any, .any, .any, .any, .any, .any, .any, .any, .any, .any, .any, .any, .any, .any, .any, .any, .any, .any, .any, .any, .any, .any, .any, .any, .any, .any, .any, .any, .any, .any, .any, .any, .any, .any, .any, .any, .any, .any, .any, .any, .any, .any, .any, .any]
def hb0 (tt nn : Nat) (w : List UInt8) (h : List UInt32) (b : List UInt8) (i : Nat) : List (Option EO) := [hSB h tt nn, some (RB w), some (.box 197 (hc b)), wB (mI b i), wB Z16]
@[simp] theorem hb0_len (tt nn : Nat) (w : List UInt8) (h : List UInt32) (b : List UInt8) (i : Nat) : (hb0 tt nn w h b i).length = 5 := rfl

set_option maxRecDepth 8000 in
set_option maxHeartbeats 8000000 in
theorem takeB_words (tt nn : Nat) (w : List UInt8) (h : List UInt32) (b : List UInt8) (t : Nat) (last : Bool) (hb : b.length = 64) (Q : Exit → St → Go.EW.Tok → Prop) (hQ : ∀ n, Q (.exit 0) ⟨tb0 t last 16 (.lit (.bool false)), ofO (hb0 tt nn w h b 16), n⟩ .on) :
    LoopT Tryz.prog 2 (hid b_btake_25) Q ⟨tb0 t last 0 .any, ofO (hb0 tt nn w h b 0), 5⟩ := by
  refine eloop (α := Nat) (fun i => i ≤ 16) (fun i => 16 - i) (fun i => tb0 t last i .any) (fun i => hb0 tt nn w h b i) 0 [0, 1, 2, 3, 4]
    (by omega) (by simp [tb0, NV]) (by simp [hb0, hSB, SO, RB, wB]) (by simp [hb0, hSB, SO, RB, wB]) (by decide) (by simp [hb0]) ?_
  intro i hi
  have hml : (mI b i).length = 16 := upW_len _ _
  by_cases hlt : i < 16
  · have il : (i : Int) < 16 := by omega
    have xl : i ≤ 15 := by omega
    obtain ⟨k, hk⟩ : ∃ k, k = 4 * i := ⟨_, rfl⟩
    have w0 : IntKind.i64.wrap (4 * (i : Int)) = (k : Int) := by rw [wrap_i64 (by omega) (by omega)]; omega
    have w1 : IntKind.i64.wrap ((k : Int) + 1) = ((k + 1 : Nat) : Int) := wrap_i64 (by omega) (by omega)
    have w2 : IntKind.i64.wrap ((k : Int) + 2) = ((k + 2 : Nat) : Int) := wrap_i64 (by omega) (by omega)
    have w3 : IntKind.i64.wrap ((k : Int) + 3) = ((k + 3 : Nat) : Int) := wrap_i64 (by omega) (by omega)
    have wi1 : IntKind.i64.wrap ((i : Int) + 1) = ((i + 1 : Nat) : Int) := wrap_i64 (by omega) (by omega)
    have k0 : k < 64 := by omega
    have k1 : k + 1 < 64 := by omega
    have k2 : k + 2 < 64 := by omega
    have k3 : k + 3 < 64 := by omega
    have j0 : (k : Int) < 64 := by omega
    have j1 : ((k + 1 : Nat) : Int) < 64 := by omega
    have j2 : ((k + 2 : Nat) : Int) < 64 := by omega
    have j3 : ((k + 3 : Nat) : Int) < 64 := by omega
    have s8 : ∀ x, ishl .u32 (wi x) 8 = wi (shl x 8) := fun x => wi_shl x 8 (by omega)
    have s16 : ∀ x, ishl .u32 (wi x) 16 = wi (shl x 16) := fun x => wi_shl x 16 (by omega)
    have s24 : ∀ x, ishl .u32 (wi x) 24 = wi (shl x 24) := fun x => wi_shl x 24 (by omega)
    have hw : ((bw (g8 b k) ||| shl (bw (g8 b (k + 1))) 8) ||| shl (bw (g8 b (k + 2))) 16) ||| shl (bw (g8 b (k + 3))) 24 = wordS b i := by rw [hk]; rfl
    simp [tb0, hb0, wB, hSB, SO, RB, NV, il, xl, w0, w1, w2, w3, wi1, hb, k0, k1, k2, k3, j0, j1, j2, j3, s8, s16, s24, hc_gE, hc_d0, wi_bw, wi_or, hw, hml, hlt, wl_put, wl_putR, wl_gER, wl_gR, mI_set, -Int.natCast_add]
    exact round (i + 1) [0, 1, 2, 3, 4] (by omega) (by omega) (by simp [tb0, NV]) (by simp [hb0, hSB, SO, RB, wB]) (by simp [hb0, hSB, SO, RB, wB]) (by decide) (by simp [hb0])
  · have hi16 : i = 16 := by omega
    subst hi16
    simp [tb0, hb0, NV]
    exact hQ _

def tb4 (r i : Nat) (e : EV) : List EV := [.v (.c (.ptr 0 0)), .any, .any, .any, .any, .any, .any, .any, .v (.c (.ptr 2 0)), .v (.c (.ptr 3 0)), .any, .any, .any, .v (.c (.ptr 4 0)), .any, .any, .any, .any, .any, .any, .any, .any, .any, .any, .any, .any, .any, .any, .any, .any, .any, .any, .any, .any, .any, .any, .any, .any, .any, .any, .any, .any, .any, .any, .any, .any, .any, .any, .any, .any, .any, .any, .any, .any, .any, .any, .any, .any, .any, .any, .any, .any, .any, .any, .any, .any, .any, .any, .any, .any, .any, .any, .any, .any, .any, .any, .any, .any, .any, NV r, .any, .any, .any, .any, .any, NV i, e, .any, .any, .any, .any, .any, .any, .any, .any, .any, .any, .any, .any, .any, .any, .any, .any, .any, .any, .any, .any, .any, .any, .any, .any, .any, .any, .any, .any, .any, .any, .any, .any, .any, .any, .any, .any, .any, .any, .any, .any, .any, .any, .any, .any, .any, .any, .any, .any, .any, .any, .any, .any, .any, .any, .any, .any, .any, .any, .any, .any, .any, .any, .any, .any, .any, .any, .any, .any, .any, .any, .any, .any, .any, .any, .any, .any]
def hb4 (tt nn : Nat) (w : List UInt8) (h m v : List UInt32) (r : Nat) : List (Option EO) := [hSB h tt nn, some (RB w), wB m, wB v, some (.box 204 (hc (ocB r)))]
@[simp] theorem hb4_len (tt nn : Nat) (w : List UInt8) (h m v : List UInt32) (r : Nat) : (hb4 tt nn w h m v r).length = 5 := rfl
set_option maxRecDepth 8000 in
set_option maxHeartbeats 8000000 in
theorem takeB_cols (tt nn : Nat) (w : List UInt8) (h m V : List UInt32) (r : Nat) (hlr : r < 10) (hml : m.length = 16) (er : V.length = 16) (Q : Exit → St → Go.EW.Tok → Prop) (hQ : ∀ n, Q (.exit 4) ⟨tb4 r 4 (.lit (.bool false)), ofO (hb4 tt nn w h m (colsS m r V 4) r), n⟩ .on) :
    LoopT Tryz.prog 2 (hid b_btake_74) Q ⟨tb4 r 0 .any, ofO (hb4 tt nn w h m V r), 5⟩ := by
  refine eloop (α := Nat) (fun i => i ≤ 4) (fun i => 4 - i) (fun i => tb4 r i .any) (fun i => hb4 tt nn w h m (colsS m r V i) r) 0 [0, 1, 2, 3, 4]
    (by omega) (by simp [tb4, NV]) (by simp [hb4, hSB, SO, RB, wB, colsS]) (by simp [hb4, hSB, SO, RB, wB]) (by decide) (by simp [hb4]) ?_
  intro i hi
  have ei : (colsS m r V i).length = 16 := by rw [colsS_len]; exact er
  by_cases hli : i < 4
  · have ii : (i : Int) < 4 := by omega
    have wi1 : IntKind.i64.wrap ((i : Int) + 1) = ((i + 1 : Nat) : Int) := wrap_i64 (by omega) (by omega)
    have w4 : IntKind.i64.wrap (4 + (i : Int)) = ((4 + i : Nat) : Int) := by rw [wrap_i64 (by omega) (by omega)]; omega
    have w8 : IntKind.i64.wrap (8 + (i : Int)) = ((8 + i : Nat) : Int) := by rw [wrap_i64 (by omega) (by omega)]; omega
    have w12 : IntKind.i64.wrap (12 + (i : Int)) = ((12 + i : Nat) : Int) := by rw [wrap_i64 (by omega) (by omega)]; omega
    have wa : IntKind.i64.wrap (2 * (i : Int)) = ((2 * i : Nat) : Int) := by rw [wrap_i64 (by omega) (by omega)]; omega
    have wb : IntKind.i64.wrap (((2 * i : Nat) : Int) + 1) = ((2 * i + 1 : Nat) : Int) := wrap_i64 (by omega) (by omega)
    have xa : ((2 * i : Nat) : Int) < 16 := by omega
    have xb : ((2 * i + 1 : Nat) : Int) < 16 := by omega
    have ol := ocB_len r
    have oa := ocB_get hlr (show 2 * i < 16 by omega)
    have ob := ocB_get hlr (show 2 * i + 1 < 16 by omega)
    have la : 2 * i < 16 := by omega
    have lb : 2 * i + 1 < 16 := by omega
    have sa := sN_lt r hlr (2 * i) (by omega)
    have sb := sN_lt r hlr (2 * i + 1) (by omega)
    have ta : (sN r (2 * i) : Int) < 16 := by omega
    have tb : (sN r (2 * i + 1) : Int) < 16 := by omega
    simp [tb4, hb4, wB, hSB, SO, RB, NV, ii, w4, w8, w12, wa, wb, xa, xb, ol, la, lb, hc_d0, hc_gE, oa, ob, sa, sb, ta, tb, hml, wl_gE, -Int.natCast_add, -Int.natCast_mul]
    refine callH [3] (mix_ok (colsS m r V i) i (4 + i) (8 + i) (12 + i) (g m (sN r (2 * i))) (g m (sN r (2 * i + 1))) ei (by omega) (by omega) (by omega) (by omega)) (by simp [NV, WV]) (by simp [VO]) (by simp) (by simp) (by simp) ?_
    rintro y H' ⟨rfl, rfl⟩
    refine ⟨.inl (by simp), by simp, ?_⟩
    simp [VO, wi1, -Int.natCast_add]
    exact round (i + 1) [0, 1, 2, 3, 4] (by omega) (by omega) (by simp [tb4, NV]) (by simp [hb4, hSB, SO, RB, wB, colsS, colS]) (by simp [hb4, hSB, SO, RB, wB]) (by decide) (by simp [hb4])
  · have h4 : i = 4 := by omega
    subst h4
    simp [tb4, hb4, NV]
    exact hQ _

def tb6 (r i : Nat) (e : EV) : List EV := [.v (.c (.ptr 0 0)), .any, .any, .any, .any, .any, .any, .any, .v (.c (.ptr 2 0)), .v (.c (.ptr 3 0)), .any, .any, .any, .v (.c (.ptr 4 0)), .any, .any, .any, .any, .any, .any, .any, .any, .any, .any, .any, .any, .any, .any, .any, .any, .any, .any, .any, .any, .any, .any, .any, .any, .any, .any, .any, .any, .any, .any, .any, .any, .any, .any, .any, .any, .any, .any, .any, .any, .any, .any, .any, .any, .any, .any, .any, .any, .any, .any, .any, .any, .any, .any, .any, .any, .any, .any, .any, .any, .any, .any, .any, .any, .any, NV r, .any, .any, .any, .any, .any, .any, .any, .any, .any, .any, .any, .any, .any, .any, .any, .any, .any, .any, .any, .any, .any, .any, .any, .any, .any, .any, .any, .any, .any, .any, NV i, e, .any, .any, .any, .any, .any, .any, .any, .any, .any, .any, .any, .any, .any, .any, .any, .any, .any, .any, .any, .any, .any, .any, .any, .any, .any, .any, .any, .any, .any, .any, .any, .any, .any, .any, .any, .any, .any, .any, .any, .any, .any, .any, .any, .any, .any, .any, .any, .any, .any, .any, .any]
set_option maxRecDepth 8000 in
set_option maxHeartbeats 8000000 in
theorem takeB_dias (tt nn : Nat) (w : List UInt8) (h m W : List UInt32) (r : Nat) (hlr : r < 10) (hml : m.length = 16) (er : W.length = 16) (Q : Exit → St → Go.EW.Tok → Prop) (hQ : ∀ n, Q (.exit 6) ⟨tb6 r 4 (.lit (.bool false)), ofO (hb4 tt nn w h m (diasS m r W 4) r), n⟩ .on) :
    LoopT Tryz.prog 2 (hid b_btake_97) Q ⟨tb6 r 0 .any, ofO (hb4 tt nn w h m W r), 5⟩ := by
  refine eloop (α := Nat) (fun i => i ≤ 4) (fun i => 4 - i) (fun i => tb6 r i .any) (fun i => hb4 tt nn w h m (diasS m r W i) r) 0 [0, 1, 2, 3, 4]
    (by omega) (by simp [tb6, NV]) (by simp [hb4, hSB, SO, RB, wB, diasS]) (by simp [hb4, hSB, SO, RB, wB]) (by decide) (by simp [hb4]) ?_
  intro i hi
  have ei2 : (diasS m r W i).length = 16 := by rw [diasS_len]; exact er
  by_cases hli : i < 4
  · have ii : (i : Int) < 4 := by omega
    have wi1 : IntKind.i64.wrap ((i : Int) + 1) = ((i + 1 : Nat) : Int) := wrap_i64 (by omega) (by omega)
    have wi2 : IntKind.i64.wrap ((i : Int) + 2) = ((i + 2 : Nat) : Int) := wrap_i64 (by omega) (by omega)
    have wi3 : IntKind.i64.wrap ((i : Int) + 3) = ((i + 3 : Nat) : Int) := wrap_i64 (by omega) (by omega)
    obtain ⟨a1, ha1⟩ : ∃ a, (i + 1) % 4 = a := ⟨_, rfl⟩
    obtain ⟨a2, ha2⟩ : ∃ a, (i + 2) % 4 = a := ⟨_, rfl⟩
    obtain ⟨a3, ha3⟩ : ∃ a, (i + 3) % 4 = a := ⟨_, rfl⟩
    have m1 : ((i + 1 : Nat) : Int).tmod 4 = (a1 : Int) := by rw [← ha1]; rfl
    have m2 : ((i + 2 : Nat) : Int).tmod 4 = (a2 : Int) := by rw [← ha2]; rfl
    have m3 : ((i + 3 : Nat) : Int).tmod 4 = (a3 : Int) := by rw [← ha3]; rfl
    have w4 : IntKind.i64.wrap (4 + (a1 : Int)) = ((4 + a1 : Nat) : Int) := by rw [wrap_i64 (by omega) (by omega)]; omega
    have w8 : IntKind.i64.wrap (8 + (a2 : Int)) = ((8 + a2 : Nat) : Int) := by rw [wrap_i64 (by omega) (by omega)]; omega
    have w12 : IntKind.i64.wrap (12 + (a3 : Int)) = ((12 + a3 : Nat) : Int) := by rw [wrap_i64 (by omega) (by omega)]; omega
    have wc : IntKind.i64.wrap (2 * (i : Int)) = ((2 * i : Nat) : Int) := by rw [wrap_i64 (by omega) (by omega)]; omega
    have wa : IntKind.i64.wrap (8 + ((2 * i : Nat) : Int)) = ((8 + 2 * i : Nat) : Int) := by rw [wrap_i64 (by omega) (by omega)]; omega
    have wb : IntKind.i64.wrap (9 + ((2 * i : Nat) : Int)) = ((9 + 2 * i : Nat) : Int) := by rw [wrap_i64 (by omega) (by omega)]; omega
    have xa : ((8 + 2 * i : Nat) : Int) < 16 := by omega
    have xb : ((9 + 2 * i : Nat) : Int) < 16 := by omega
    have ol := ocB_len r
    have oa := ocB_get hlr (show 8 + 2 * i < 16 by omega)
    have ob := ocB_get hlr (show 9 + 2 * i < 16 by omega)
    have la : 8 + 2 * i < 16 := by omega
    have lb : 9 + 2 * i < 16 := by omega
    have sa := sN_lt r hlr (8 + 2 * i) (by omega)
    have sb := sN_lt r hlr (9 + 2 * i) (by omega)
    have ta : (sN r (8 + 2 * i) : Int) < 16 := by omega
    have tb : (sN r (9 + 2 * i) : Int) < 16 := by omega
    simp [tb6, hb4, wB, hSB, SO, RB, NV, ii, wi1, wi2, wi3, m1, m2, m3, w4, w8, w12, wc, wa, wb, xa, xb, ol, la, lb, hc_d0, hc_gE, oa, ob, sa, sb, ta, tb, hml, wl_gE, -Int.natCast_add, -Int.natCast_mul]
    refine callH [3] (mix_ok (diasS m r W i) i (4 + a1) (8 + a2) (12 + a3) (g m (sN r (8 + 2 * i))) (g m (sN r (9 + 2 * i))) ei2 (by omega) (by omega) (by omega) (by omega)) (by simp [NV, WV]) (by simp [VO]) (by simp) (by simp) (by simp) ?_
    rintro y H' ⟨rfl, rfl⟩
    refine ⟨.inl (by simp), by simp, ?_⟩
    simp [VO, wi1, -Int.natCast_add]
    exact round (i + 1) [0, 1, 2, 3, 4] (by omega) (by omega) (by simp [tb6, NV]) (by simp [hb4, hSB, SO, RB, wB, diasS, diaS, ha1, ha2, ha3]) (by simp [hb4, hSB, SO, RB, wB]) (by decide) (by simp [hb4])
  · have h4 : i = 4 := by omega
    subst h4
    simp [tb6, hb4, NV]
    exact hQ _

def tb2 (r : Nat) (e : EV) : List EV := [.v (.c (.ptr 0 0)), .any, .any, .any, .any, .any, .any, .any, .v (.c (.ptr 2 0)), .v (.c (.ptr 3 0)), .any, .any, .any, .any, .any, .any, .any, .any, .any, .any, .any, .any, .any, .any, .any, .any, .any, .any, .any, .any, .any, .any, .any, .any, .any, .any, .any, .any, .any, .any, .any, .any, .any, .any, .any, .any, .any, .any, .any, .any, .any, .any, .any, .any, .any, .any, .any, .any, .any, .any, .any, .any, .any, .any, .any, .any, .any, .any, .any, .any, .any, .any, .any, .any, .any, .any, .any, .any, .any, NV r, e, .any, .any, .any, .any, .any, .any, .any, .any, .any, .any, .any, .any, .any, .any, .any, .any, .any, .any, .any, .any, .any, .any, .any, .any, .any, .any, .any, .any, .any, .any, .any, .any, .any, .any, .any, .any, .any, .any, .any, .any, .any, .any, .any, .any, .any, .any, .any, .any, .any, .any, .any, .any, .any, .any, .any, .any, .any, .any, .any, .any, .any, .any, .any, .any, .any, .any, .any, .any, .any, .any, .any, .any, .any, .any, .any, .any, .any, .any, .any, .any, .any, .any]
def hb2 (tt nn : Nat) (w : List UInt8) (h m v : List UInt32) : List (Option EO) := [hSB h tt nn, some (RB w), wB m, wB v]
@[simp] theorem hb2_len (tt nn : Nat) (w : List UInt8) (h m v : List UInt32) : (hb2 tt nn w h m v).length = 4 := rfl
set_option maxRecDepth 8000 in
set_option maxHeartbeats 8000000 in
theorem takeB_rnds (tt nn : Nat) (w : List UInt8) (h m v3 : List UInt32) (hml : m.length = 16) (e3 : v3.length = 16) (Q : Exit → St → Go.EW.Tok → Prop) (hQ : ∀ n, Q (.exit 2) ⟨tb2 10 (.lit (.bool false)), ofO (hb2 tt nn w h m (rndsS m v3 10)), n⟩ .on) :
    LoopT Tryz.prog 2 (hid b_btake_109) Q ⟨tb2 0 .any, ofO (hb2 tt nn w h m v3), 4⟩ := by
  refine eloop (α := Nat) (fun r => r ≤ 10) (fun r => 10 - r) (fun r => tb2 r .any) (fun r => hb2 tt nn w h m (rndsS m v3 r)) 0 [0, 1, 2, 3]
    (by omega) (by simp [tb2, NV]) (by simp [hb2, hSB, SO, RB, wB, rndsS]) (by simp [hb2, hSB, SO, RB, wB]) (by decide) (by simp [hb2]) ?_
  intro r hr
  have er : (rndsS m v3 r).length = 16 := by rw [rndsS_len]; exact e3
  by_cases hlr : r < 10
  · have ir : (r : Int) < 10 := by omega
    have wr : IntKind.i64.wrap ((r : Int) + 1) = ((r + 1 : Nat) : Int) := wrap_i64 (by omega) (by omega)
    have lr : 16 ≤ 160 - r * 16 := by omega
    have hoc := oc_eq r hlr
    simp [tb2, hb2, wB, hSB, SO, RB, NV, hlr, ir, lr, hoc, ordN_len, ocB_len r]
    obtain ⟨V, hV⟩ : ∃ V, rndsS m v3 r = V := ⟨_, rfl⟩
    rw [hV] at er
    refine loopW _ (weak_norm [0, 1, 2, 3, 100] (tb4 r 0 .any) (hb4 tt nn w h m V r) (by simp [tb4, NV]) (by simp [hb4, hSB, SO, RB, wB, hV, hoc]) (by simp [hb4, hSB, SO, RB, wB]) (by decide) (by simp [hb4])) (takeB_cols tt nn w h m V r hlr hml er _ fun n => ?_)
    simp [tb4, hb4, NV]
    obtain ⟨W, hW⟩ : ∃ W, colsS m r V 4 = W := ⟨_, rfl⟩
    have ei : W.length = 16 := by rw [← hW, colsS_len]; exact er
    refine loopW _ (weak_norm [0, 1, 2, 3, 4] (tb6 r 0 .any) (hb4 tt nn w h m W r) (by simp [tb6, NV]) (by simp [hb4, hSB, SO, RB, wB, hW]) (by simp [hb4, hSB, SO, RB, wB]) (by decide) (by simp [hb4])) (takeB_dias tt nn w h m W r hlr hml ei _ fun n => ?_)
    simp [tb6, hb4, wB, hSB, SO, RB, NV, wr, -Int.natCast_add]
    exact round (r + 1) [0, 1, 2, 3] (by omega) (by omega) (by simp [tb2, NV]) (by simp [hb2, hSB, SO, RB, wB, rndsS, hV, hW]) (by simp [hb2, hSB, SO, RB, wB]) (by decide) (by simp [hb2])
  · have h10 : r = 10 := by omega
    subst h10
    simp [tb2, hb2, NV]
    exact hQ _

def tb8 (i : Nat) (e : EV) : List EV := [.v (.c (.ptr 0 0)), .any, .any, .any, .any, .any, .any, .any, .any, .v (.c (.ptr 2 0)), .any, .any, .any, .any, .any, .any, .any, .any, .any, .any, .any, .any, .any, .any, .any, .any, .any, .any, .any, .any, .any, .any, .any, .any, .any, .any, .any, .any, .any, .any, .any, .any, .any, .any, .any, .any, .any, .any, .any, .any, .any, .any, .any, .any, .any, .any, .any, .any, .any, .any, .any, .any, .any, .any, .any, .any, .any, .any, .any, .any, .any, .any, .any, .any, .any, .any, .any, .any, .any, .any, .any, .any, .any, .any, .any, .any, .any, .any, .any, .any, .any, .any, .any, .any, .any, .any, .any, .any, .any, .any, .any, .any, .any, .any, .any, .any, .any, .any, .any, .any, .any, .any, .any, .any, .any, .any, .any, .any, .any, .any, .any, .any, .any, .any, .any, .any, .any, .any, .any, .any, .any, .any, .any, .any, .any, .any, .any, .any, .any, .any, .any, .any, .any, NV i, e, .any, .any, .any, .any, .any, .any, .any, .any, .any, .any, .any, .any, .any, .any, .any, .any, .any, .any]
set_option maxRecDepth 8000 in
set_option maxHeartbeats 8000000 in
theorem takeB_xor (tt nn : Nat) (w : List UInt8) (h V : List UInt32) (hh : h.length = 8) (er : V.length = 16) (Q : Exit → St → Go.EW.Tok → Prop) (hQ : ∀ n, Q (.exit 8) ⟨tb8 8 (.lit (.bool false)), ofO [hSB (xorS h V 8) tt nn, some (RB w), wB V], n⟩ .on) :
    LoopT Tryz.prog 2 (hid b_btake_130) Q ⟨tb8 0 .any, ofO [hSB h tt nn, some (RB w), wB V], 3⟩ := by
  refine eloop (α := Nat) (fun i => i ≤ 8) (fun i => 8 - i) (fun i => tb8 i .any) (fun i => [hSB (xorS h V i) tt nn, some (RB w), wB V]) 0 [0, 1, 2]
    (by omega) (by simp [tb8, NV]) (by simp [hSB, SO, RB, wB, xorS]) (by simp [hSB, SO, RB, wB]) (by decide) (by simp) ?_
  intro i hi
  have ei : (xorS h V i).length = 8 := by rw [xorS_len]; exact hh
  by_cases hli : i < 8
  · have ii : (i : Int) < 8 := by omega
    have ij : (i : Int) < 16 := by omega
    have xl : i ≤ 7 := by omega
    have xl2 : i ≤ 10 := by omega
    have l16 : i < 16 := by omega
    have l8 : 8 + i < 16 := by omega
    have wi1 : IntKind.i64.wrap ((i : Int) + 1) = ((i + 1 : Nat) : Int) := wrap_i64 (by omega) (by omega)
    have w8 : IntKind.i64.wrap (8 + (i : Int)) = ((8 + i : Nat) : Int) := by rw [wrap_i64 (by omega) (by omega)]; omega
    have j8 : ((8 + i : Nat) : Int) < 16 := by omega
    simp [tb8, hSB, SO, RB, wB, NV, ii, ij, xl, xl2, l16, l8, hli, wi1, w8, j8, ei, er, wl_gE, wl_put, wl_putR, wl_gER, wl_gR, wi_xor, -Int.natCast_add]
    exact round (i + 1) [0, 1, 2] (by omega) (by omega) (by simp [tb8, NV]) (by simp [hSB, SO, RB, wB, xorS]) (by simp [hSB, SO, RB, wB]) (by decide) (by simp)
  · have h8 : i = 8 := by omega
    subst h8
    simp [tb8, NV]
    exact hQ _

set_option maxRecDepth 8000 in
set_option maxHeartbeats 8000000 in
theorem takeB_ok (tt nn : Nat) (w : List UInt8) (h : List UInt32) (b : List UInt8) (t : Nat) (last : Bool) (hh : h.length = 8) (hb : b.length = 64) (ht : t < 18446744073709551616) :
    ECalls Tryz.prog 111 [.v (.c (.ptr 0 0)), BV b, .lit (.int .u64 t), .lit (.bool last)] [SO 1 h 64 tt nn, RB w] fun y H' => H' = [some (SO 1 (takeS h b t last) 64 tt nn), some (RB w)] ∧ y = .tup [] := by
  have z16 : wl (mI b 0) = List.replicate 16 (EC.fz (.lit (.int .u32 0))) := by simp [mI, upW]; rfl
  have zz : wl Z16 = List.replicate 16 (EC.fz (.lit (.int .u32 0))) := by simp [wl, Z16]; rfl
  have th : ∀ r, List.take 8 (wl h ++ r) = wl h := fun r => wl_t8 hh
  have th' : List.take 8 (wl h) = wl h := List.take_of_length_le (by simp [hh])
  have f1 := wf_flat h 16 (by omega)
  have f2 := wf_sum h 16 (by omega)
  refine ecalls k_btake ?_
  simp [c_btake, BV, SO, RB, hb, hh]
  refine loopW _ (weak_norm [0, 1, 2, 18, 34] (tb0 t last 0 .any) (hb0 tt nn w h b 0) (by simp [tb0, NV]) (by simp [hb0, hSB, SO, RB, wB, z16, zz]) (by simp [hb0, hSB, SO, RB, wB]) (by decide) (by simp [hb0])) (takeB_words tt nn w h b t last hb _ fun n => ?_)
  have hml : (mI b 16).length = 16 := upW_len _ _
  have z16l : Z16.length = 16 := rfl
  have dz : List.drop 8 (wl Z16) = wl (Z16.drop 8) := wl_drop _ _
  simp [tb0, hb0, wB, hSB, SO, RB, NV, hb, hh, th, th', f1, f2, dz, wl_app, z16l]
  have tf : List.take 8 (wl firstW) = wl firstW := List.take_of_length_le (by simp; decide)
  have ff1 := wf_flat firstW 8 (by decide)
  have ff2 := wf_sum firstW 8 (by decide)
  have fl : firstW.length = 8 := rfl
  have tk : List.take 8 (wl (h ++ List.drop 8 Z16)) = wl h := by rw [wl_take, List.take_left' hh]
  have dk : List.drop 16 (wl (h ++ List.drop 8 Z16)) = [] := List.drop_of_length_le (by simp [hh, z16l])
  obtain ⟨v0, h0⟩ : ∃ w, h ++ firstW = w := ⟨_, rfl⟩
  have e0 : v0.length = 16 := by rw [← h0, List.length_append, hh, fl]
  obtain ⟨v1, h1⟩ : ∃ w, v0.set 12 (g v0 12 ^^^ lo32 t) = w := ⟨_, rfl⟩
  have e1 : v1.length = 16 := by rw [← h1, List.length_set]; exact e0
  obtain ⟨v2, h2⟩ : ∃ w, v1.set 13 (g v1 13 ^^^ hi32 t) = w := ⟨_, rfl⟩
  have e2 : v2.length = 16 := by rw [← h2, List.length_set]; exact e1
  have hini : iniS h t last = if last then v2.set 14 (~~~ g v2 14) else v2 := by unfold iniS; simp only [h0, h1, h2]
  have p12 : ∀ x, List.take 12 (wl v0) ++ .fz (.lit (.int .u32 (wi x))) :: List.drop 13 (wl v0) = wl (v0.set 12 x) := fun x => wl_put (by omega)
  have p13 : ∀ x, List.take 13 (wl v1) ++ .fz (.lit (.int .u32 (wi x))) :: List.drop 14 (wl v1) = wl (v1.set 13 x) := fun x => wl_put (by omega)
  have p14 : ∀ x, List.take 14 (wl v2) ++ .fz (.lit (.int .u32 (wi x))) :: List.drop 15 (wl v2) = wl (v2.set 14 x) := fun x => wl_put (by omega)
  refine call0 first_ok (by simp) ?_
  rintro y H' ⟨rfl, rfl⟩
  refine ⟨.inl (by simp), le_ok rfl, ?_⟩
  simp [NV, hb, hh, tf, ff1, ff2, fl, z16l, wl_app, tk, dk, h0, e0, e1, e2, wl_g, wl_gE, wi_xor, wi_lo, wi_hi, p12, p13, h1, h2]
  obtain ⟨v3, h3⟩ : ∃ w, iniS h t last = w := ⟨_, rfl⟩
  have e3 : v3.length = 16 := by rw [← h3, hini]; split <;> simp [e2]
  obtain ⟨m, hm⟩ : ∃ m, mI b 16 = m := ⟨_, rfl⟩
  rw [hm] at hml
  have er : (rndsS m v3 10).length = 16 := by rw [rndsS_len]; exact e3
  obtain ⟨V, hV⟩ : ∃ V, rndsS m v3 10 = V := ⟨_, rfl⟩
  rw [hV] at er
  have ht2 : takeS h b t last = xorS h V 8 := by unfold takeS; rw [hm, h3, hV]
  rw [ht2]
  refine alt (fun hl => ?_) (fun hl => ?_)
  case' refine_1 =>
    have h14 : v2.set 14 (~~~ g v2 14) = v3 := by rw [← h3, hini, if_pos hl]
    simp [e2, wl_g, wl_gE, pun_x32, p14, h14]
  case' refine_2 =>
    have h14 : v2 = v3 := by rw [← h3, hini, if_neg (by simpa using hl)]
    simp [h14]
  all_goals
    refine loopW _ (weak_norm [0, 1, 3, 4] (tb2 0 .any) (hb2 tt nn w h m v3) (by simp [tb2, NV]) (by simp [hb2, hSB, SO, RB, wB, hm]) (by simp [hb2, hSB, SO, RB, wB]) (by decide) (by simp [hb2])) (takeB_rnds tt nn w h m v3 hml e3 _ fun n => ?_)
    simp [tb2, hb2, wB, hSB, SO, RB, NV]
    refine loopW _ (weak_norm [0, 1, 3] (tb8 0 .any) [hSB h tt nn, some (RB w), wB V] (by simp [tb8, NV]) (by simp [hSB, SO, RB, wB, hV]) (by simp [hSB, SO, RB, wB]) (by decide) (by simp)) (takeB_xor tt nn w h V hh er _ fun n => ?_)
    simp [tb8, wB, hSB, SO, RB, NV]
    exact fin [] (by decide) rfl rfl (by simp [objsOut, show List.range 2 = [0, 1] from rfl]) ⟨rfl, rfl⟩

end Go.Proofs.YtpilpjameifcfaaGreatDoor

namespace Go.Proofs.YtpilpjameifcfaaGreatDoor
open Go Go.EW
set_option linter.unusedSimpArgs false
set_option linter.unusedVariables false

def zU64 : List Value := List.replicate 64 (.int .u8 0)
def Z64 : List UInt8 := List.replicate 64 0
@[simp] theorem zU64_litc : zU64.map litc = hc Z64 := rfl
@[simp] theorem zU64_litc' : List.map (fun v => EC.fz (FV.lit v)) zU64 = hc Z64 := rfl
@[simp] theorem Z64_len : Z64.length = 64 := rfl

@[simp] def l_BWrite_1 (_ : Unit) : List EOp := [⟨0, (some 5), none, (.q (.mov (.t 0))), []⟩, ⟨1, (some 6), none, (.q (.eqp false (.t 5))), []⟩]
@[simp] def b_BWrite_2 (_ : Unit) : EB := reg0 (hid l_BWrite_1) 2
@[simp] def b_BWrite_3 (_ : Unit) : EB := .cond (.t 6) .ret .skip
@[simp] def b_BWrite_4 (_ : Unit) : EB := .seq (hid b_BWrite_2) (hid b_BWrite_3)
@[simp] def l_BWrite_6 (_ : Unit) : List EOp := [⟨6, (some 13), none, (.q (.bin .add (.t 10) (.t 12))), []⟩, ⟨7, (some 14), none, (.q (.nilc (.t 7))), []⟩, ⟨8, (some 15), none, (.q (.fad 10 (.t 14))), []⟩, ⟨9, none, none, (.sto 1 (.t 15) (.t 13)), []⟩]
@[simp] def l_BWrite_5 (_ : Unit) : List EOp := ⟨0, (some 7), none, (.q (.mov (.t 0))), []⟩ :: ⟨1, (some 8), none, (.q (.nilc (.t 7))), []⟩ :: ⟨2, (some 9), none, (.q (.fad 10 (.t 8))), []⟩ :: ⟨3, (some 10), none, (.q (.ldc (.t 9))), []⟩ :: ⟨4, (some 11), none, (.q (.mov (.t 1))), []⟩ :: ⟨5, (some 12), none, (.q (.len (.t 11))), []⟩ :: hid l_BWrite_6
@[simp] def b_BWrite_7 (_ : Unit) : EB := reg0 (hid l_BWrite_5) 10
@[simp] def l_BWrite_8 (_ : Unit) : List EOp := [⟨0, (some 16), none, (.q (.mov (.t 1))), []⟩, ⟨1, (some 17), none, (.q (.len (.t 16))), []⟩, ⟨2, (some 18), none, (.q (.bin .gtr (.t 17) (.k (.int .i64 0)))), []⟩]
@[simp] def b_BWrite_9 (_ : Unit) : EB := reg0 (hid l_BWrite_8) 3
@[simp] def b_BWrite_10 (_ : Unit) : EB := .cond (.t 18) .skip (.exit 0)
@[simp] def b_BWrite_11 (_ : Unit) : EB := .seq (hid b_BWrite_9) (hid b_BWrite_10)
@[simp] def l_BWrite_12 (_ : Unit) : List EOp := [⟨0, (some 19), none, (.q (.mov (.t 0))), []⟩, ⟨1, (some 20), none, (.q (.nilc (.t 19))), []⟩, ⟨2, (some 21), none, (.q (.fad 8 (.t 20))), []⟩, ⟨3, (some 22), none, (.q (.ldc (.t 21))), []⟩, ⟨4, (some 23), none, (.q (.len (.t 22))), []⟩, ⟨5, (some 24), none, (.q (.bin .eql (.t 23) (.k (.int .i64 64)))), []⟩]
@[simp] def b_BWrite_13 (_ : Unit) : EB := reg0 (hid l_BWrite_12) 6
@[simp] def l_BWrite_15 (_ : Unit) : List EOp := [⟨6, (some 31), none, (.q (.fad 9 (.t 30))), []⟩, ⟨7, none, none, (.sto 1 (.t 31) (.t 29)), []⟩]
@[simp] def l_BWrite_14 (_ : Unit) : List EOp := ⟨0, (some 25), none, (.q (.mov (.t 0))), []⟩ :: ⟨1, (some 26), none, (.q (.nilc (.t 25))), []⟩ :: ⟨2, (some 27), none, (.q (.fad 9 (.t 26))), []⟩ :: ⟨3, (some 28), none, (.q (.ldc (.t 27))), []⟩ :: ⟨4, (some 29), none, (.q (.bin .add (.t 28) (.k (.int .u64 64)))), []⟩ :: ⟨5, (some 30), none, (.q (.nilc (.t 25))), []⟩ :: hid l_BWrite_15
@[simp] def b_BWrite_16 (_ : Unit) : EB := reg0 (hid l_BWrite_14) 8
@[simp] def l_BWrite_19 (_ : Unit) : List EOp := [⟨12, (some 44), none, (.q (.ldc (.t 43))), []⟩, ⟨13, (some 45), none, (.call 111 [(.t 34), (.t 40), (.t 44), (.k (.bool false))]), []⟩]
@[simp] def l_BWrite_18 (_ : Unit) : List EOp := ⟨6, (some 38), none, (.q (.ldc (.t 37))), []⟩ :: ⟨7, (some 39), none, (.q (.s2a 64 1 (.t 38))), []⟩ :: ⟨8, (some 40), none, (.q (.lda 64 (.t 39))), []⟩ :: ⟨9, (some 41), none, (.q (.mov (.t 0))), []⟩ :: ⟨10, (some 42), none, (.q (.nilc (.t 41))), []⟩ :: ⟨11, (some 43), none, (.q (.fad 9 (.t 42))), []⟩ :: hid l_BWrite_19
@[simp] def l_BWrite_17 (_ : Unit) : List EOp := ⟨0, (some 32), none, (.q (.mov (.t 0))), []⟩ :: ⟨1, (some 33), none, (.q (.nilc (.t 32))), []⟩ :: ⟨2, (some 34), none, (.q (.fad 0 (.t 33))), []⟩ :: ⟨3, (some 35), none, (.q (.mov (.t 0))), []⟩ :: ⟨4, (some 36), none, (.q (.nilc (.t 35))), []⟩ :: ⟨5, (some 37), none, (.q (.fad 8 (.t 36))), []⟩ :: hid l_BWrite_18
@[simp] def b_BWrite_20 (_ : Unit) : EB := reg0 (hid l_BWrite_17) 14
@[simp] def l_BWrite_22 (_ : Unit) : List EOp := [⟨6, (some 52), none, (.q (.nilc (.t 46))), []⟩, ⟨7, (some 53), none, (.q (.fad 8 (.t 52))), []⟩, ⟨8, none, none, (.fz (.sto 1 (.t 53) (.t 51))), []⟩]
@[simp] def l_BWrite_21 (_ : Unit) : List EOp := ⟨0, (some 46), none, (.q (.mov (.t 0))), []⟩ :: ⟨1, (some 47), none, (.q (.mov (.t 0))), []⟩ :: ⟨2, (some 48), none, (.q (.nilc (.t 47))), []⟩ :: ⟨3, (some 49), none, (.q (.fad 8 (.t 48))), []⟩ :: ⟨4, (some 50), none, (.q (.ldc (.t 49))), []⟩ :: ⟨5, (some 51), none, (.q (.ssl 1 (.t 50) none (some (.k (.int .i64 0))))), []⟩ :: hid l_BWrite_22
@[simp] def b_BWrite_23 (_ : Unit) : EB := reg0 (hid l_BWrite_21) 9
@[simp] def b_BWrite_24 (_ : Unit) : EB := .seq (hid b_BWrite_20) (hid b_BWrite_23)
@[simp] def b_BWrite_25 (_ : Unit) : EB := .seq (hid b_BWrite_16) (hid b_BWrite_24)
@[simp] def b_BWrite_26 (_ : Unit) : EB := .cond (.t 24) (hid b_BWrite_25) .skip
@[simp] def b_BWrite_27 (_ : Unit) : EB := .seq (hid b_BWrite_13) (hid b_BWrite_26)
@[simp] def l_BWrite_29 (_ : Unit) : List EOp := [⟨6, (some 60), none, (.q (.len (.t 59))), []⟩, ⟨7, (some 61), none, (.q (.bin .sub (.k (.int .i64 64)) (.t 60))), []⟩, ⟨8, (some 62), none, (.q (.minmax false [(.t 55), (.t 61)])), []⟩, ⟨9, (some 4), none, (.q (.mov (.t 62))), []⟩]
@[simp] def l_BWrite_28 (_ : Unit) : List EOp := ⟨0, (some 54), none, (.q (.mov (.t 1))), []⟩ :: ⟨1, (some 55), none, (.q (.len (.t 54))), []⟩ :: ⟨2, (some 56), none, (.q (.mov (.t 0))), []⟩ :: ⟨3, (some 57), none, (.q (.nilc (.t 56))), []⟩ :: ⟨4, (some 58), none, (.q (.fad 8 (.t 57))), []⟩ :: ⟨5, (some 59), none, (.q (.ldc (.t 58))), []⟩ :: hid l_BWrite_29
@[simp] def b_BWrite_30 (_ : Unit) : EB := reg0 (hid l_BWrite_28) 10
@[simp] def l_BWrite_32 (_ : Unit) : List EOp := [⟨6, (some 69), none, (.q (.mov (.t 4))), []⟩, ⟨7, (some 70), none, (.q (.ssl 1 (.t 68) none (some (.t 69)))), []⟩, ⟨8, (some 71), none, (.app 5 1 1 (.t 67) (.t 70)), [0]⟩, ⟨9, (some 72), none, (.q (.nilc (.t 63))), []⟩, ⟨10, (some 73), none, (.q (.fad 8 (.t 72))), []⟩, ⟨11, none, none, (.fz (.sto 1 (.t 73) (.t 71))), []⟩]
@[simp] def l_BWrite_31 (_ : Unit) : List EOp := ⟨0, (some 63), none, (.q (.mov (.t 0))), []⟩ :: ⟨1, (some 64), none, (.q (.mov (.t 0))), []⟩ :: ⟨2, (some 65), none, (.q (.nilc (.t 64))), []⟩ :: ⟨3, (some 66), none, (.q (.fad 8 (.t 65))), []⟩ :: ⟨4, (some 67), none, (.q (.ldc (.t 66))), []⟩ :: ⟨5, (some 68), none, (.q (.mov (.t 1))), []⟩ :: hid l_BWrite_32
@[simp] def b_BWrite_33 (_ : Unit) : EB := reg1 (hid l_BWrite_31) 12
@[simp] def l_BWrite_34 (_ : Unit) : List EOp := [⟨0, (some 74), none, (.q (.mov (.t 1))), []⟩, ⟨1, (some 75), none, (.q (.mov (.t 4))), []⟩, ⟨2, (some 76), none, (.q (.ssl 1 (.t 74) (some (.t 75)) none)), []⟩, ⟨3, (some 1), none, (.q (.mov (.t 76))), []⟩]
@[simp] def b_BWrite_35 (_ : Unit) : EB := reg0 (hid l_BWrite_34) 4
@[simp] def b_BWrite_36 (_ : Unit) : EB := .seq (hid b_BWrite_33) (hid b_BWrite_35)
@[simp] def b_BWrite_37 (_ : Unit) : EB := .seq (hid b_BWrite_30) (hid b_BWrite_36)
@[simp] def b_BWrite_38 (_ : Unit) : EB := .seq (hid b_BWrite_27) (hid b_BWrite_37)
@[simp] def b_BWrite_39 (_ : Unit) : EB := .block 1 (hid b_BWrite_38)
@[simp] def b_BWrite_40 (_ : Unit) : EB := .seq (hid b_BWrite_11) (hid b_BWrite_39)
@[simp] def b_BWrite_41 (_ : Unit) : EB := .loop (hid b_BWrite_40)
@[simp] def b_BWrite_42 (_ : Unit) : EB := .block 0 (hid b_BWrite_41)
@[simp] def b_BWrite_43 (_ : Unit) : EB := .seq (hid b_BWrite_7) (hid b_BWrite_42)
@[simp] def b_BWrite_44 (_ : Unit) : EB := .seq (hid b_BWrite_4) (hid b_BWrite_43)
def c_BWrite : EB × List QOp × Nat := ((hid b_BWrite_44), [], 77)
theorem k_BWrite : cfun Tryz.prog 102 = some c_BWrite := by kernel_rfl

@[simp] def l_BSumM_1 (_ : Unit) : List EOp := [⟨0, (some 2), none, (.q (.alloc 28 zU8)), []⟩]
@[simp] def b_BSumM_2 (_ : Unit) : EB := reg0 (hid l_BSumM_1) 1
@[simp] def l_BSumM_3 (_ : Unit) : List EOp := [⟨0, (some 3), none, (.q (.alloc 28 zU8)), []⟩]
@[simp] def b_BSumM_4 (_ : Unit) : EB := reg0 (hid l_BSumM_3) 1
@[simp] def l_BSumM_5 (_ : Unit) : List EOp := [⟨0, (some 7), none, (.q (.mov (.t 0))), []⟩, ⟨1, (some 8), none, (.q (.eqp false (.t 7))), []⟩]
@[simp] def b_BSumM_6 (_ : Unit) : EB := reg0 (hid l_BSumM_5) 2
@[simp] def l_BSumM_7 (_ : Unit) : List EOp := [⟨0, (some 9), none, (.q (.lda 32 (.t 3))), []⟩, ⟨1, none, none, (.sto 32 (.t 2) (.t 9)), []⟩]
@[simp] def b_BSumM_8 (_ : Unit) : EB := reg0 (hid l_BSumM_7) 2
@[simp] def b_BSumM_9 (_ : Unit) : EB := .seq (hid b_BSumM_8) .ret
@[simp] def b_BSumM_10 (_ : Unit) : EB := .cond (.t 8) (hid b_BSumM_9) .skip
@[simp] def b_BSumM_11 (_ : Unit) : EB := .seq (hid b_BSumM_6) (hid b_BSumM_10)
@[simp] def l_BSumM_12 (_ : Unit) : List EOp := [⟨0, (some 4), none, (.q (.alloc 197 zU64)), []⟩]
@[simp] def b_BSumM_13 (_ : Unit) : EB := reg0 (hid l_BSumM_12) 1
@[simp] def l_BSumM_14 (_ : Unit) : List EOp := [⟨0, (some 10), none, (.q (.sar 64 (.t 4) none none)), []⟩, ⟨1, (some 11), none, (.q (.mov (.t 0))), []⟩, ⟨2, (some 12), none, (.q (.nilc (.t 11))), []⟩, ⟨3, (some 13), none, (.q (.fad 8 (.t 12))), []⟩, ⟨4, (some 14), none, (.q (.ldc (.t 13))), []⟩, ⟨5, (some 15), none, (.cpy 1 (.t 10) (.t 14)), []⟩]
@[simp] def b_BSumM_15 (_ : Unit) : EB := reg0 (hid l_BSumM_14) 6
@[simp] def l_BSumM_16 (_ : Unit) : List EOp := [⟨0, (some 16), none, (.q (.mov (.t 0))), []⟩, ⟨1, (some 17), none, (.q (.nilc (.t 16))), []⟩, ⟨2, (some 18), none, (.q (.fad 0 (.t 17))), []⟩, ⟨3, (some 19), none, (.q (.lda 8 (.t 18))), []⟩, ⟨4, (some 5), none, (.q (.alloc 176 [(.int .u32 0), (.int .u32 0), (.int .u32 0), (.int .u32 0), (.int .u32 0), (.int .u32 0), (.int .u32 0), (.int .u32 0)])), []⟩, ⟨5, none, none, (.sto 8 (.t 5) (.t 19)), []⟩]
@[simp] def b_BSumM_17 (_ : Unit) : EB := reg0 (hid l_BSumM_16) 6
@[simp] def l_BSumM_20 (_ : Unit) : List EOp := [⟨12, (some 32), none, (.call 111 [(.t 5), (.t 20), (.t 31), (.k (.bool true))]), []⟩]
@[simp] def l_BSumM_19 (_ : Unit) : List EOp := ⟨6, (some 26), none, (.q (.nilc (.t 25))), []⟩ :: ⟨7, (some 27), none, (.q (.fad 8 (.t 26))), []⟩ :: ⟨8, (some 28), none, (.q (.ldc (.t 27))), []⟩ :: ⟨9, (some 29), none, (.q (.len (.t 28))), []⟩ :: ⟨10, (some 30), none, (.q (.cnv .u64 (.t 29))), []⟩ :: ⟨11, (some 31), none, (.q (.bin .add (.t 24) (.t 30))), []⟩ :: hid l_BSumM_20
@[simp] def l_BSumM_18 (_ : Unit) : List EOp := ⟨0, (some 20), none, (.q (.lda 64 (.t 4))), []⟩ :: ⟨1, (some 21), none, (.q (.mov (.t 0))), []⟩ :: ⟨2, (some 22), none, (.q (.nilc (.t 21))), []⟩ :: ⟨3, (some 23), none, (.q (.fad 9 (.t 22))), []⟩ :: ⟨4, (some 24), none, (.q (.ldc (.t 23))), []⟩ :: ⟨5, (some 25), none, (.q (.mov (.t 0))), []⟩ :: hid l_BSumM_19
@[simp] def b_BSumM_21 (_ : Unit) : EB := reg0 (hid l_BSumM_18) 13
@[simp] def l_BSumM_22 (_ : Unit) : List EOp := [⟨0, (some 33), none, (.q (.mov (.k (.int .i64 0)))), []⟩]
@[simp] def b_BSumM_23 (_ : Unit) : EB := reg0 (hid l_BSumM_22) 1
@[simp] def l_BSumM_24 (_ : Unit) : List EOp := [⟨0, (some 34), none, (.q (.bin .lss (.t 33) (.k (.int .i64 32)))), []⟩]
@[simp] def b_BSumM_25 (_ : Unit) : EB := reg0 (hid l_BSumM_24) 1
@[simp] def b_BSumM_26 (_ : Unit) : EB := .cond (.t 34) .skip (.exit 0)
@[simp] def l_BSumM_27 (_ : Unit) : List EOp := [⟨0, (some 35), none, (.q (.mov (.t 33))), []⟩, ⟨1, (some 6), none, (.q (.mov (.t 35))), []⟩]
@[simp] def b_BSumM_28 (_ : Unit) : EB := reg0 (hid l_BSumM_27) 2
@[simp] def l_BSumM_30 (_ : Unit) : List EOp := [⟨6, (some 42), none, (.q (.bin .rem (.t 41) (.k (.int .i64 4)))), []⟩, ⟨7, (some 43), none, (.q (.bin .mul (.k (.int .i64 8)) (.t 42))), []⟩, ⟨8, (some 44), none, (.q (.bin .shr (.t 40) (.t 43))), []⟩, ⟨9, (some 45), none, (.q (.cnv .u8 (.t 44))), []⟩, ⟨10, (some 46), none, (.q (.iad 32 1 (.t 3) (.t 36))), []⟩, ⟨11, none, none, (.sto 1 (.t 46) (.t 45)), []⟩]
@[simp] def l_BSumM_29 (_ : Unit) : List EOp := ⟨0, (some 36), none, (.q (.mov (.t 6))), []⟩ :: ⟨1, (some 37), none, (.q (.mov (.t 6))), []⟩ :: ⟨2, (some 38), none, (.q (.bin .quo (.t 37) (.k (.int .i64 4)))), []⟩ :: ⟨3, (some 39), none, (.q (.iad 8 1 (.t 5) (.t 38))), []⟩ :: ⟨4, (some 40), none, (.q (.ldc (.t 39))), []⟩ :: ⟨5, (some 41), none, (.q (.mov (.t 6))), []⟩ :: hid l_BSumM_30
@[simp] def b_BSumM_31 (_ : Unit) : EB := reg0 (hid l_BSumM_29) 12
@[simp] def b_BSumM_32 (_ : Unit) : EB := .seq (hid b_BSumM_28) (hid b_BSumM_31)
@[simp] def b_BSumM_33 (_ : Unit) : EB := .block 1 (hid b_BSumM_32)
@[simp] def l_BSumM_34 (_ : Unit) : List EOp := [⟨0, (some 47), none, (.q (.bin .add (.t 33) (.k (.int .i64 1)))), []⟩, ⟨1, (some 33), none, (.q (.mov (.t 47))), []⟩]
@[simp] def b_BSumM_35 (_ : Unit) : EB := reg0 (hid l_BSumM_34) 2
@[simp] def b_BSumM_36 (_ : Unit) : EB := .seq (hid b_BSumM_33) (hid b_BSumM_35)
@[simp] def b_BSumM_37 (_ : Unit) : EB := .seq (hid b_BSumM_26) (hid b_BSumM_36)
@[simp] def b_BSumM_38 (_ : Unit) : EB := .seq (hid b_BSumM_25) (hid b_BSumM_37)
@[simp] def b_BSumM_39 (_ : Unit) : EB := .loop (hid b_BSumM_38)
@[simp] def b_BSumM_40 (_ : Unit) : EB := .block 0 (hid b_BSumM_39)
@[simp] def b_BSumM_41 (_ : Unit) : EB := .seq (hid b_BSumM_23) (hid b_BSumM_40)
@[simp] def l_BSumM_42 (_ : Unit) : List EOp := [⟨0, (some 48), none, (.q (.lda 32 (.t 3))), []⟩, ⟨1, none, none, (.sto 32 (.t 2) (.t 48)), []⟩]
@[simp] def b_BSumM_43 (_ : Unit) : EB := reg0 (hid l_BSumM_42) 2
@[simp] def b_BSumM_44 (_ : Unit) : EB := .seq (hid b_BSumM_43) .ret
@[simp] def b_BSumM_45 (_ : Unit) : EB := .seq (hid b_BSumM_41) (hid b_BSumM_44)
@[simp] def b_BSumM_46 (_ : Unit) : EB := .seq (hid b_BSumM_21) (hid b_BSumM_45)
@[simp] def b_BSumM_47 (_ : Unit) : EB := .seq (hid b_BSumM_17) (hid b_BSumM_46)
@[simp] def b_BSumM_48 (_ : Unit) : EB := .seq (hid b_BSumM_15) (hid b_BSumM_47)
@[simp] def b_BSumM_49 (_ : Unit) : EB := .seq (hid b_BSumM_13) (hid b_BSumM_48)
@[simp] def b_BSumM_50 (_ : Unit) : EB := .seq (hid b_BSumM_11) (hid b_BSumM_49)
@[simp] def b_BSumM_51 (_ : Unit) : EB := .seq (hid b_BSumM_4) (hid b_BSumM_50)
@[simp] def b_BSumM_52 (_ : Unit) : EB := .seq (hid b_BSumM_2) (hid b_BSumM_51)
def c_BSumM : EB × List QOp × Nat := ((hid b_BSumM_52), [(.lda 32 (.t 2))], 49)
theorem k_BSumM : cfun Tryz.prog 103 = some c_BSumM := by kernel_rfl

@[simp] def l_BSum_1 (_ : Unit) : List EOp := [⟨0, (some 2), none, (.q (.alloc 28 zU8)), []⟩]
@[simp] def b_BSum_2 (_ : Unit) : EB := reg0 (hid l_BSum_1) 1
@[simp] def l_BSum_3 (_ : Unit) : List EOp := [⟨0, (some 4), none, (.call 101 []), []⟩, ⟨1, (some 5), none, (.q (.build [(.int .u32 0), (.int .u32 0), (.int .u32 0), (.int .u32 0), (.int .u32 0), (.int .u32 0), (.int .u32 0), (.int .u32 0), (.slice none 0 0), (.int .u64 0), (.int .i64 0)] [(0, 8, (.t 4))])), []⟩, ⟨2, (some 6), none, (.q (.box 179 (.t 5))), []⟩, ⟨3, (some 3), none, (.q (.mov (.t 6))), []⟩]
@[simp] def b_BSum_4 (_ : Unit) : EB := reg0 (hid l_BSum_3) 4
@[simp] def l_BSum_6 (_ : Unit) : List EOp := [⟨6, (some 13), none, (.q (.nilc (.t 7))), []⟩, ⟨7, (some 14), none, (.q (.fad 0 (.t 13))), []⟩, ⟨8, (some 15), none, (.q (.iad 8 1 (.t 14) (.k (.int .i64 0)))), []⟩, ⟨9, none, none, (.sto 1 (.t 15) (.t 12)), []⟩]
@[simp] def l_BSum_5 (_ : Unit) : List EOp := ⟨0, (some 7), none, (.q (.mov (.t 3))), []⟩ :: ⟨1, (some 8), none, (.q (.nilc (.t 7))), []⟩ :: ⟨2, (some 9), none, (.q (.fad 0 (.t 8))), []⟩ :: ⟨3, (some 10), none, (.q (.iad 8 1 (.t 9) (.k (.int .i64 0)))), []⟩ :: ⟨4, (some 11), none, (.q (.ldc (.t 10))), []⟩ :: ⟨5, (some 12), none, (.q (.bin .xor (.t 11) (.k (.int .u32 16842784)))), []⟩ :: hid l_BSum_6
@[simp] def b_BSum_7 (_ : Unit) : EB := reg0 (hid l_BSum_5) 10
@[simp] def l_BSum_8 (_ : Unit) : List EOp := [⟨0, (some 16), none, (.q (.mov (.t 3))), []⟩, ⟨1, (some 17), none, (.q (.mov (.t 0))), []⟩, ⟨2, (some 18), none, (.call 102 [(.t 16), (.t 17)]), []⟩]
@[simp] def b_BSum_9 (_ : Unit) : EB := reg0 (hid l_BSum_8) 3
@[simp] def l_BSum_10 (_ : Unit) : List EOp := [⟨0, (some 19), none, (.q (.mov (.t 3))), []⟩, ⟨1, (some 20), none, (.call 103 [(.t 19)]), []⟩, ⟨2, none, none, (.sto 32 (.t 2) (.t 20)), []⟩]
@[simp] def b_BSum_11 (_ : Unit) : EB := reg0 (hid l_BSum_10) 3
@[simp] def b_BSum_12 (_ : Unit) : EB := .seq (hid b_BSum_11) .ret
@[simp] def b_BSum_13 (_ : Unit) : EB := .seq (hid b_BSum_9) (hid b_BSum_12)
@[simp] def b_BSum_14 (_ : Unit) : EB := .seq (hid b_BSum_7) (hid b_BSum_13)
@[simp] def b_BSum_15 (_ : Unit) : EB := .seq (hid b_BSum_4) (hid b_BSum_14)
@[simp] def b_BSum_16 (_ : Unit) : EB := .seq (hid b_BSum_2) (hid b_BSum_15)
def c_BSum : EB × List QOp × Nat := ((hid b_BSum_16), [(.lda 32 (.t 2))], 21)
theorem k_BSum : cfun Tryz.prog 66 = some c_BSum := by kernel_rfl


/-! ### bytes written on -/
/-- The words, what waits, how many were taken in, what is still to come. -/
abbrev Wst := List UInt32 × List UInt8 × Nat × List UInt8
def wst1 (s : Wst) : Wst := if s.2.1.length = 64 then (takeS s.1 s.2.1 (s.2.2.1 + 64) false, [], s.2.2.1 + 64, s.2.2.2) else s
def wst2 (s : Wst) : Wst := (s.1, s.2.1 ++ s.2.2.2.take (min s.2.2.2.length (64 - s.2.1.length)), s.2.2.1, s.2.2.2.drop (min s.2.2.2.length (64 - s.2.1.length)))
def wstep (s : Wst) : Wst := wst2 (wst1 s)
def wrun : Nat → Wst → Wst
  | 0, s => s
  | k + 1, s => if s.2.2.2 = [] then s else wrun k (wstep s)
/-- Behind all. -/
def wall (s : Wst) : Wst := wrun s.2.2.2.length s
theorem takeS_len (h : List UInt32) (b : List UInt8) (t : Nat) (last : Bool) : (takeS h b t last).length = h.length := xorS_len _ _ _
structure Wok' (N : Nat) (s : Wst) : Prop where
  h : s.1.length = 8
  w : s.2.1.length ≤ 64
  n : s.2.1.length + s.2.2.1 + s.2.2.2.length = N
theorem wst1_ok {N : Nat} {s : Wst} (k : Wok' N s) : Wok' N (wst1 s) := by
  obtain ⟨h, w, t, r⟩ := s
  obtain ⟨k1, k2, k3⟩ := k
  unfold wst1
  dsimp only at *
  split
  · refine ⟨?_, ?_, ?_⟩
    · dsimp only; rw [takeS_len]; exact k1
    · simp
    · simp; omega
  · exact ⟨k1, k2, k3⟩
theorem wst1_lt {N : Nat} {s : Wst} (k : Wok' N s) : (wst1 s).2.1.length < 64 ∧ (wst1 s).2.2.2 = s.2.2.2 := by
  obtain ⟨h, w, t, r⟩ := s
  obtain ⟨k1, k2, k3⟩ := k
  unfold wst1
  dsimp only at *
  split
  · simp
  · exact ⟨by simp only; omega, rfl⟩
theorem wst2_ok {N : Nat} {s : Wst} (k : Wok' N s) : Wok' N (wst2 s) := by
  obtain ⟨h, w, t, r⟩ := s
  obtain ⟨k1, k2, k3⟩ := k
  unfold wst2
  dsimp only at *
  refine ⟨k1, ?_, ?_⟩
  · simp; omega
  · simp; omega
theorem wstep_ok {N : Nat} {s : Wst} (k : Wok' N s) : Wok' N (wstep s) := wst2_ok (wst1_ok k)
theorem wstep_lt {N : Nat} {s : Wst} (k : Wok' N s) (hr : s.2.2.2 ≠ []) : (wstep s).2.2.2.length < s.2.2.2.length := by
  have h1 := wst1_lt k
  have hp := List.length_pos_iff.2 hr
  unfold wstep wst2
  dsimp only
  rw [List.length_drop, h1.2]
  omega
theorem wrun_fuel {N : Nat} : ∀ (k j : Nat) {s : Wst}, Wok' N s → s.2.2.2.length ≤ k → s.2.2.2.length ≤ j → wrun k s = wrun j s
  | 0, 0, _, _, _, _ => rfl
  | 0, j + 1, s, _, h, _ => by
    have : s.2.2.2 = [] := List.eq_nil_of_length_eq_zero (by omega)
    simp [wrun, this]
  | k + 1, 0, s, _, _, h => by
    have : s.2.2.2 = [] := List.eq_nil_of_length_eq_zero (by omega)
    simp [wrun, this]
  | k + 1, j + 1, s, o, h1, h2 => by
    unfold wrun
    by_cases e : s.2.2.2 = []
    · simp [e]
    · rw [if_neg e, if_neg e]
      have := wstep_lt o e
      exact wrun_fuel k j (wstep_ok o) (by omega) (by omega)
theorem wall_nil {s : Wst} (h : s.2.2.2 = []) : wall s = s := by
  unfold wall
  rw [h]
  rfl
theorem wall_step {N : Nat} {s : Wst} (o : Wok' N s) (h : s.2.2.2 ≠ []) : wall s = wall (wstep s) := by
  have hp := List.length_pos_iff.2 h
  have hl := wstep_lt o h
  unfold wall
  obtain ⟨k, hk⟩ : ∃ k, s.2.2.2.length = k + 1 := ⟨_, (Nat.succ_pred_eq_of_pos hp).symm⟩
  rw [hk]
  conv => lhs; unfold wrun
  rw [if_neg h]
  exact wrun_fuel k _ (wstep_ok o) (by omega) (Nat.le_refl _)
theorem wall_ok {N : Nat} : ∀ (k : Nat) {s : Wst}, Wok' N s → s.2.2.2.length ≤ k → Wok' N (wall s) ∧ (wall s).2.2.2 = []
  | 0, s, o, h => by
    have : s.2.2.2 = [] := List.eq_nil_of_length_eq_zero (by omega)
    rw [wall_nil this]
    exact ⟨o, this⟩
  | k + 1, s, o, h => by
    by_cases e : s.2.2.2 = []
    · rw [wall_nil e]; exact ⟨o, e⟩
    · rw [wall_step o e]
      have := wstep_lt o e
      exact wall_ok k (wstep_ok o) (by omega)

theorem hc_bsv (l : List UInt8) : (bsv l).flatten.map EC.fz = hc l := by
  induction l with
  | nil => rfl
  | cons b r ih => simp only [bsv, List.map_cons, List.flatten_cons, cb, hc] at *; simp [ih]
theorem hc_tk {l : List UInt8} {n : Nat} (h : l.length ≤ n) : (hc l).take n = hc l := List.take_of_length_le (by rw [hc_len]; exact h)
theorem u64_nat {n : Nat} (h : n < 18446744073709551616) : IntKind.u64.wrap (n : Int) = (n : Int) := by rw [wrap_u64 (by omega) (by omega)]
theorem put10 {v : List UInt32} (h : v.length = 8) (x y z u : EC) : List.take 10 (wl v ++ [x, y, z]) ++ u :: List.drop 11 (wl v ++ [x, y, z]) = wl v ++ [x, y, u] := by
  have e : (wl v).length = 8 := by simpa using h
  rw [List.take_append, List.drop_append, e, List.take_of_length_le (by omega), List.drop_of_length_le (by omega)]
  simp
theorem put9 {v : List UInt32} (h : v.length = 8) (x y z u : EC) : List.take 9 (wl v ++ [x, y, z]) ++ u :: List.drop 10 (wl v ++ [x, y, z]) = wl v ++ [x, u, z] := by
  have e : (wl v).length = 8 := by simpa using h
  rw [List.take_append, List.drop_append, e, List.take_of_length_le (by omega), List.drop_of_length_le (by omega)]
  simp
theorem put8 {v : List UInt32} (h : v.length = 8) (x y z u : EC) : List.take 8 (wl v ++ [x, y, z]) ++ u :: List.drop 9 (wl v ++ [x, y, z]) = wl v ++ [u, y, z] := by
  have e : (wl v).length = 8 := by simpa using h
  rw [List.take_append, List.drop_append, e, List.take_of_length_le (by omega), List.drop_of_length_le (by omega)]
  simp

theorem drop9 {v : List UInt32} (h : v.length = 8) (x y z : EC) : List.drop 9 (wl v ++ [x, y, z]) = [y, z] := by
  have e : (wl v).length = 8 := by simpa using h
  rw [List.drop_append, e, List.drop_of_length_le (by omega)]
  rfl
theorem bsv_0 {w : List UInt8} (h : w.length = 64) : ∃ c, ∀ h', (bsv w)[0]'h' = cb c := by
  cases w with
  | nil => simp at h
  | cons c r => exact ⟨c, fun _ => rfl⟩
theorem i64_min (a b : Nat) : (if a < b then (a : Int) else (b : Int)) = ((min b a : Nat) : Int) := by split <;> omega

set_option maxRecDepth 8000 in
set_option maxHeartbeats 4000000 in
theorem Write_ok (h : List UInt32) (w : List UInt8) (t n : Nat) (b : List UInt8) (o : Wok' (w.length + t + b.length) (h, w, t, b)) (hb : w.length + t + b.length ≤ 1000000000) (hn : n ≤ 1000000000) :
    ECalls Tryz.prog 102 [.v (.c (.ptr 0 0)), Bs b] [SO 1 h w.length t n, RB w] fun y H' => H' = [some (SO 2 (wall (h, w, t, b)).1 (wall (h, w, t, b)).2.1.length (wall (h, w, t, b)).2.2.1 (n + b.length)), none, some (RB (wall (h, w, t, b)).2.1)] ∧ y = .tup [] := by
  obtain ⟨A, hA⟩ : ∃ A, wall (h, w, t, b) = A := ⟨_, rfl⟩
  obtain ⟨N, hN⟩ : ∃ N, n + b.length = N := ⟨_, rfl⟩
  obtain ⟨M, hM⟩ : ∃ M, w.length + t + b.length = M := ⟨_, rfl⟩
  rw [hA, hN]
  rw [hM] at o hb
  have h8 : h.length = 8 := o.h
  have wn : IntKind.i64.wrap ((n : Int) + (b.length : Int)) = (N : Int) := by rw [wrap_i64 (by omega) (by omega)]; omega
  refine ecalls k_BWrite ?_
  simp [c_BWrite, SO, RB, Bs, NV, h8, wn]
  refine eloop (α := Wst) (fun a => Wok' M a ∧ wall a = A) (fun a => a.2.2.2.length)
    (fun a => [.v (.c (.ptr 0 0)), Bs a.2.2.2, .any, .any, .any, .any, .any, .any, .any, .any, .any, .any, .any, .any, .any, .any, .any, .any, .any, .any, .any, .any, .any, .any, .any, .any, .any, .any, .any, .any, .any, .any, .any, .any, .any, .any, .any, .any, .any, .any, .any, .any, .any, .any, .any, .any, .any, .any, .any, .any, .any, .any, .any, .any, .any, .any, .any, .any, .any, .any, .any, .any, .any, .any, .any, .any, .any, .any, .any, .any, .any, .any, .any, .any, .any, .any, .any]) (fun a => [some (SO 2 a.1 a.2.1.length a.2.2.1 N), none, some (RB a.2.1)]) (h, w, t, b) [0, 1, 1]
    ⟨o, hA⟩ (by simp [Bs]) (by simp [SO, RB, put10 h8]) (by simp) (by decide) (by simp) ?_
  clear o hA wn hn hN h8 hM
  clear h w t b n
  rintro ⟨h, w, t, b⟩ ⟨o, hA⟩
  obtain ⟨h8, hw, hs⟩ := id o
  dsimp only at h8 hw hs
  simp [SO, RB, Bs, NV, h8]
  refine alt (fun hp => ?_) (fun hp => ?_)
  · have hne : (h, w, t, b).2.2.2 ≠ [] := by rintro e; simp at e; subst e; simp at hp
    have o2 := wstep_ok o
    have hlt := wstep_lt o hne
    have hA2 := (wall_step o hne).symm.trans hA
    simp [h8]
    refine alt (fun hl => ?_) (fun hl => ?_)
    · have hl' : w.length = 64 := by omega
      obtain ⟨c, hc0⟩ := bsv_0 hl'
      have wt : IntKind.u64.wrap ((t : Int) + 64) = ((t + 64 : Nat) : Int) := by rw [show (t : Int) + 64 = ((t + 64 : Nat) : Int) by omega]; exact u64_nat (by omega)
      have hcl : (hc w).length = 64 := by rw [hc_len]; exact hl'
      have hct : List.take 64 (hc w) = hc w := hc_tk (by omega)
      have m64 : (if (64 : Int) < (b.length : Int) then (64 : Int) else (b.length : Int)) = ((min b.length 64 : Nat) : Int) := by split <;> omega
      obtain ⟨k, hk⟩ : ∃ k, min b.length 64 = k := ⟨_, rfl⟩
      rw [hk] at m64
      have hs1 : wstep (h, w, t, b) = (takeS h w (t + 64) false, b.take k, t + 64, b.drop k) := by simp [wstep, wst1, wst2, hl', hk]
      rw [hs1] at o2 hlt hA2
      obtain ⟨T2, hT⟩ : ∃ T2, takeS h w (t + 64) false = T2 := ⟨_, rfl⟩
      rw [hT] at o2 hlt hA2
      have h82 : T2.length = 8 := o2.h
      simp [h8, hl', hc0, cb, wt, put9 h8, hcl, hct, -Int.natCast_add]
      refine callH [0, 2] (takeB_ok (t + 64) N w h w (t + 64) false h8 hl' (by omega)) (by simp [BV]) (by simp [SO, RB, hl']) (by simp) (by simp) (by simp) ?_
      rintro y H' ⟨rfl, rfl⟩
      refine ⟨.inl (by simp), by simp, ?_⟩
      rw [hT]
      have w64 : IntKind.i64.wrap 64 = 64 := by decide +kernel
      have hkb : k ≤ b.length := by omega
      have hk2 : min k b.length = k := by omega
      simp [SO, RB, h82, hl', w64, m64, hkb, hk2, put8 h82, drop9 h82, -Int.natCast_add]
      exact ⟨by omega, round (T2, b.take k, t + 64, b.drop k) [0, 1, 931] ⟨o2, hA2⟩ hlt (by simp) (by simp [hk2]) (by simp) (by decide) (by simp)⟩
    · have hl' : ¬ w.length = 64 := by omega
      have w64 : IntKind.i64.wrap (64 - (w.length : Int)) = ((64 - w.length : Nat) : Int) := by rw [wrap_i64 (by omega) (by omega)]; omega
      obtain ⟨k, hk⟩ : ∃ k, min b.length (64 - w.length) = k := ⟨_, rfl⟩
      have hm := i64_min (64 - w.length) b.length
      rw [hk] at hm
      have hs1 : wstep (h, w, t, b) = (h, w ++ b.take k, t, b.drop k) := by simp [wstep, wst1, wst2, hl', hk]
      rw [hs1] at o2 hlt hA2
      have hkb : k ≤ b.length := by omega
      have hk2 : min k b.length = k := by omega
      simp [h8, hl, w64, hm, hkb, hk2, put8 h8, -Int.natCast_add]
      refine ⟨by omega, ?_⟩
      exact round (h, w ++ b.take k, t, b.drop k) [0, 1, 435] ⟨o2, hA2⟩ hlt (by simp) (by simp [hk2, drop9 h8]) (by simp) (by decide) (by simp)
  · have : b = [] := List.eq_nil_of_length_eq_zero (by omega)
    subst this
    rw [wall_nil rfl] at hA
    subst hA
    simp [SO, RB]
    exact fin [2] (by decide) rfl rfl (by simp [objsOut, show List.range 2 = [0, 1] from rfl]) ⟨rfl, rfl⟩

/-! ### the sum of what was written -/
def padS (w : List UInt8) : List UInt8 := w ++ List.replicate (64 - w.length) 0
theorem padS_len {w : List UInt8} (h : w.length ≤ 64) : (padS w).length = 64 := by simp [padS]; omega
def outB (h : List UInt32) (i : Nat) : UInt8 := UInt8.ofNat ((g h (i / 4)).toNat / 2 ^ (8 * (i % 4)))
def outS (h : List UInt32) : List UInt8 := (List.range 32).map (outB h)
theorem outS_len (h : List UInt32) : (outS h).length = 32 := by simp [outS]
/-- Behind some bytes written. -/
def finS (s : Wst) : List UInt8 := outS (takeS s.1 (padS s.2.1) (s.2.2.1 + s.2.1.length) true)
def oI (h : List UInt32) (i : Nat) : List UInt8 := (List.range 32).map fun j => if j < i then outB h j else 0
theorem oI_len (h : List UInt32) (i : Nat) : (oI h i).length = 32 := by simp [oI]
theorem oI_0 (h : List UInt32) : oI h 0 = hz := by unfold oI hz; rfl
theorem oI_32 (h : List UInt32) : oI h 32 = outS h := by
  unfold oI outS
  apply List.map_congr_left
  intro j hj
  simp [List.mem_range.1 hj]
theorem oI_set (h : List UInt32) {i : Nat} (hi : i < 32) : (oI h i).set i (outB h i) = oI h (i + 1) := by
  apply List.ext_getElem?
  intro j
  by_cases hj : j < 32
  · rw [List.getElem?_set]
    by_cases he : i = j
    · subst he
      simp [oI, hj]
    · simp [oI, hj, he]
      by_cases h2 : j < i
      · rw [if_pos h2, if_pos (by omega)]
      · rw [if_neg h2, if_neg (by omega)]
  · rw [List.getElem?_eq_none (by simp [oI]; omega), List.getElem?_eq_none (by simp [oI]; omega)]
theorem u8_shr (x : UInt32) (k : Nat) : IntKind.u8.wrap (wi (shr x k)) = ((UInt8.ofNat (x.toNat / 2 ^ k)).toNat : Int) := by
  have h1 : wi (shr x k) = ((x.toNat / 2 ^ k : Nat) : Int) := by
    unfold shr
    rw [wi_ofNat]
    have h1 : x.toNat / 2 ^ k ≤ x.toNat := Nat.div_le_self _ _
    have h2 := x.toNat_lt
    generalize x.toNat / 2 ^ k = q at *
    omega
  rw [h1]
  simp [IntKind.wrap, IntKind.bits, IntKind.signed, UInt8.toNat_ofNat']
theorem hc_put {b : List UInt8} {i : Nat} {x : UInt8} (h : i < b.length) : hc (List.take i b) ++ .fz (.lit (.int .u8 (x.toNat : Int))) :: hc (List.drop (i + 1) b) = hc (b.set i x) := by
  have e : hc (b.set i x) = (hc b).set i (.fz (.lit (.int .u8 (x.toNat : Int)))) := by simp [hc, List.map_set]
  rw [e, List.set_eq_take_append_cons_drop, if_pos (by rw [hc_len]; exact h)]
  simp [hc]

set_option maxRecDepth 8000 in
set_option maxHeartbeats 4000000 in
theorem SumM_ok (h : List UInt32) (w : List UInt8) (t n : Nat) (h8 : h.length = 8) (hw : w.length ≤ 64) (ht : t ≤ 1000000000) :
    ECalls Tryz.prog 103 [.v (.c (.ptr 0 0))] [SO 1 h w.length t n, RB w] fun y H' => H' = [some (SO 1 h w.length t n), some (RB w)] ∧ y = .v (.agg (hc (finS (h, w, t, [])))) := by
  have tw : List.take 64 w = w := List.take_of_length_le hw
  have mw : min 64 w.length = w.length := by omega
  have hp : hc w ++ hc (List.drop w.length Z64) = hc (padS w) := by simp [-List.reduceReplicate, hc, padS, Z64]
  have pl := padS_len hw
  have tp : List.take 64 (hc (padS w)) = hc (padS w) := hc_tk (by omega)
  have wl' : IntKind.u64.wrap (w.length : Int) = (w.length : Int) := u64_nat (by omega)
  have wt : IntKind.u64.wrap ((t : Int) + (w.length : Int)) = ((t + w.length : Nat) : Int) := by rw [show (t : Int) + (w.length : Int) = ((t + w.length : Nat) : Int) by omega]; exact u64_nat (by omega)
  refine ecalls k_BSumM ?_
  simp [c_BSumM, SO, RB, NV, h8, tw, mw, hp, tp, pl, wl', wt, -Int.natCast_add]
  refine callH [242] (btake_ok h (padS w) (t + w.length) true h8 pl (by omega)) (by simp [BV]) (by simp [HO]) (by simp) (by simp) (by simp) ?_
  rintro y H' ⟨rfl, rfl⟩
  refine ⟨.inl (by simp), by simp, ?_⟩
  have hf : finS (h, w, t, []) = outS (takeS h (padS w) (t + w.length) true) := rfl
  obtain ⟨A, hA⟩ : ∃ A, takeS h (padS w) (t + w.length) true = A := ⟨_, rfl⟩
  have a8 : A.length = 8 := by rw [← hA, takeS_len]; exact h8
  rw [hf, hA]
  simp [HO]
  refine eloop (α := Nat) (fun i => i ≤ 32) (fun i => 32 - i)
    (fun i => [.v (.c (.ptr 0 0)), .any, .v (.c (.ptr 2 0)), .v (.c (.ptr 3 0)), .any, .v (.c (.ptr 4 0)), .any, .any, .any, .any, .any, .any, .any, .any, .any, .any, .any, .any, .any, .any, .any, .any, .any, .any, .any, .any, .any, .any, .any, .any, .any, .any, .any, NV i, .any, .any, .any, .any, .any, .any, .any, .any, .any, .any, .any, .any, .any, .any, .any])
    (fun i => [some (SO 1 h w.length t n), some (RB w), some (.box 28 (hc hz)), some (.box 28 (hc (oI A i))), some (HO A)]) 0 [0, 1, 2, 18, 242]
    (by omega) (by simp [NV]) (by simp [SO, RB, HO, oI_0]) (by simp [SO, RB, HO]) (by decide) (by simp) ?_
  intro i hi
  simp [SO, RB, HO, NV]
  refine alt (fun hp => ?_) (fun hp => ?_)
  · have il : i < 32 := by omega
    have q1 : i / 4 < 8 := by omega
    have q1' : i / 4 ≤ 7 := by omega
    have q2 : (i : Int).tdiv 4 = ((i / 4 : Nat) : Int) := rfl
    have q3 : (i : Int).tmod 4 = ((i % 4 : Nat) : Int) := rfl
    have q4 : IntKind.i64.wrap ((i / 4 : Nat) : Int) = ((i / 4 : Nat) : Int) := wrap_i64 (by omega) (by omega)
    have q5 : IntKind.i64.wrap (8 * ((i % 4 : Nat) : Int)) = ((8 * (i % 4) : Nat) : Int) := by rw [wrap_i64 (by omega) (by omega)]; omega
    have wi1 : IntKind.i64.wrap ((i : Int) + 1) = ((i + 1 : Nat) : Int) := wrap_i64 (by omega) (by omega)
    obtain ⟨d, hd⟩ : ∃ d, i / 4 = d := ⟨_, rfl⟩
    obtain ⟨k, hk⟩ : ∃ k, 8 * (i % 4) = k := ⟨_, rfl⟩
    rw [hd] at q1 q1' q2 q4
    rw [hk] at q5
    have d8 : (d : Int) < 8 := by omega
    have sh := wi_shr (g A d) k (by omega)
    have ou : IntKind.u8.wrap (wi (shr (g A d) k)) = ((outB A i).toNat : Int) := by unfold outB; rw [hd, hk]; exact u8_shr _ _
    simp [q2, q3, q4, q5, wi1, q1, q1', d8, a8, wl_gE, sh, ou, oI_len, il, hc_put, -Int.natCast_add, -Int.natCast_mul, -Int.natCast_ediv, -Int.natCast_emod]
    exact ⟨by omega, by omega, round (i + 1) [0, 1, 2, 3, 4] (by omega) (by omega) (by simp [NV]) (by simp [SO, RB, HO, hc_put, oI_len, il, oI_set A il]) (by simp [SO, RB, HO]) (by decide) (by simp)⟩
  · have h32 : i = 32 := by omega
    subst h32
    simp [oI_32, outS_len]
    exact fin [] (by decide) rfl rfl (by simp [objsOut, show List.range 2 = [0, 1] from rfl]) ⟨rfl, rfl⟩

def ini8 : List UInt32 := firstW.set 0 (g firstW 0 ^^^ 0x01010020)
def w00 (b : List UInt8) : Wst := (ini8, [], 0, b)
/-- The sum of bytes. -/
def sumS (b : List UInt8) : List UInt8 := finS (wall (w00 b))
theorem sumS_len (b : List UInt8) : (sumS b).length = 32 := outS_len _
theorem w00_ok (b : List UInt8) : Wok' (([] : List UInt8).length + 0 + b.length) (w00 b) := ⟨rfl, by simp [w00], by simp [w00]⟩

theorem Write0_ok (b : List UInt8) (hb : b.length ≤ 1000000000) :
    ECalls Tryz.prog 102 [.v (.c (.ptr 0 0)), Bs b] [.box 179 (wl ini8 ++ [.fz (.lit (.slice none 0 0)), .fz (.lit (.int .u64 0)), .fz (.lit (.int .i64 0))])] fun y H' => H' = [some (SO 2 (wall (w00 b)).1 (wall (w00 b)).2.1.length (wall (w00 b)).2.2.1 (0 + b.length)), none, some (RB (wall (w00 b)).2.1)] ∧ y = .tup [] :=
  ecalls_nilB 0 8 rfl rfl (by omega) (Write_ok ini8 [] 0 0 b (w00_ok b) (by simpa using hb) (by omega))

set_option maxRecDepth 8000 in
set_option maxHeartbeats 4000000 in
theorem BSum_ok (b : List UInt8) (hb : b.length ≤ 100000000) : ECalls Tryz.prog 66 [Bs b] [] fun y H' => H' = [] ∧ y = .v (.agg (hc (sumS b))) := by
  obtain ⟨⟨o8, ow, os⟩, oe⟩ := wall_ok b.length (w00_ok b) (Nat.le_refl _)
  have hl := hc_tk (show (sumS b).length ≤ 32 by rw [sumS_len]; omega)
  have hx : ibit .xor .u32 (wi (g firstW 0)) 16842784 = wi (g firstW 0 ^^^ 0x01010020) := wi_xor (g firstW 0) 0x01010020
  have fl : firstW.length = 8 := rfl
  have g0 : ∀ (r : List EC) h', (wl firstW ++ r)[0]'h' = .fz (.lit (.int .u32 (wi (g firstW 0)))) := fun r h' => wl_gER (by decide) h'
  have p0 : ∀ r : List EC, EC.fz (.lit (.int .u32 (wi (g firstW 0 ^^^ 0x01010020)))) :: List.drop 1 (wl firstW ++ r) = wl ini8 ++ r := fun r => wl_putR (v := firstW) (i := 0) (by decide)
  have p0' : ∀ r : List EC, EC.fz (.lit (.int .u32 (wi (g firstW 0 ^^^ 0x01010020)))) :: (wl firstW ++ r).tail = wl ini8 ++ r := fun r => by rw [← List.drop_one]; exact p0 r
  refine ecalls k_BSum ?_
  simp [c_BSum, Bs, NV]
  refine call0 first_ok (by simp) ?_
  rintro y H' ⟨rfl, rfl⟩
  refine ⟨.inl (by simp), le_ok rfl, ?_⟩
  simp [NV, fl, g0, hx, p0, p0']
  refine callH [48] (Write0_ok b (by omega)) (by simp [Bs]) (by simp) (by simp) (by simp) (by simp) ?_
  rintro y H' ⟨rfl, rfl⟩
  refine ⟨.inl (by simp), by simp, ?_⟩
  simp [NV, SO, RB]
  refine callH [48, 273] (SumM_ok (wall (w00 b)).1 (wall (w00 b)).2.1 (wall (w00 b)).2.2.1 b.length o8 ow (by simp at os; omega)) (by simp) (by simp [SO, RB]) (by simp) (by simp) (by simp) ?_
  rintro y H' ⟨rfl, rfl⟩
  refine ⟨.inl (by simp), by simp, ?_⟩
  have hs : finS ((wall (w00 b)).1, (wall (w00 b)).2.1, (wall (w00 b)).2.2.1, []) = sumS b := rfl
  simp [NV, SO, RB, hs, hl, sumS_len]
  exact fin [] (by decide) rfl rfl (by simp [objsOut]) ⟨rfl, rfl⟩

end Go.Proofs.YtpilpjameifcfaaGreatDoor
