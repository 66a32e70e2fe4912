import Derived.Test.YtpohjnhlhfbnaaaDoorKStateS
import Derived.Test.YtpohjnhlhfbnaaaDoorKStateKB
namespace Go.Proofs.YtpohjnhlhfbnaaaDoor
open Go Go.EW
set_option linter.unusedSimpArgs false
set_option linter.unusedVariables false

@[simp] def l_StateKeeps_1 (_ : Unit) : List EOp := [⟨0, (some 2), none, (.q (.box 22 (.t 0))), []⟩, ⟨1, (some 4), none, (.q (.mov (.k (.bool false)))), []⟩]
@[simp] def b_StateKeeps_2 (_ : Unit) : EB := reg0 (hid l_StateKeeps_1) 2
@[simp] def l_StateKeeps_5 (_ : Unit) : List EOp := [⟨12, (some 5), none, (.q (.alloc 32 [(.int .i64 0), (.int .i64 0), (.int .i64 0), (.slice none 0 0), (.slice none 0 0)])), []⟩, ⟨13, none, none, (.fz (.sto 5 (.t 5) (.t 22))), []⟩]
@[simp] def l_StateKeeps_4 (_ : Unit) : List EOp := ⟨6, (some 17), none, (.q (.ldc (.t 16))), []⟩ :: ⟨7, (some 18), none, (.q (.cnv .u64 (.t 17))), []⟩ :: ⟨8, (some 19), none, (.q (.bin .rem (.t 18) (.k (.int .u64 1000)))), []⟩ :: ⟨9, (some 20), none, (.q (.cnv .i64 (.t 19))), []⟩ :: ⟨10, (some 21), none, (.q (.build [(.int .i64 0), (.int .i64 0)] [(0, 1, (.t 15)), (1, 1, (.t 20))])), []⟩ :: ⟨11, (some 22), none, (.q (.build [(.int .i64 0), (.int .i64 0), (.int .i64 0), (.slice none 0 0), (.slice none 0 0)] [(1, 2, (.t 21))])), []⟩ :: hid l_StateKeeps_5
@[simp] def l_StateKeeps_3 (_ : Unit) : List EOp := ⟨0, (some 11), none, (.q (.iad 2 1 (.t 2) (.k (.int .i64 0)))), []⟩ :: ⟨1, (some 12), none, (.q (.ldc (.t 11))), []⟩ :: ⟨2, (some 13), none, (.q (.cnv .u64 (.t 12))), []⟩ :: ⟨3, (some 14), none, (.q (.bin .rem (.t 13) (.k (.int .u64 1000)))), []⟩ :: ⟨4, (some 15), none, (.q (.cnv .i64 (.t 14))), []⟩ :: ⟨5, (some 16), none, (.q (.iad 2 1 (.t 2) (.k (.int .i64 1)))), []⟩ :: hid l_StateKeeps_4
@[simp] def b_StateKeeps_6 (_ : Unit) : EB := reg0 (hid l_StateKeeps_3) 14
@[simp] def l_StateKeeps_7 (_ : Unit) : List EOp := [⟨0, (some 23), none, (.q (.lda 5 (.t 5))), []⟩, ⟨1, (some 24), none, (.call 18 [(.t 23)]), []⟩, ⟨2, (some 6), none, (.q (.mov (.t 24))), []⟩]
@[simp] def b_StateKeeps_8 (_ : Unit) : EB := reg0 (hid l_StateKeeps_7) 3
@[simp] def l_StateKeeps_10 (_ : Unit) : List EOp := [⟨6, (some 31), none, (.q (.ldc (.t 30))), []⟩, ⟨7, (some 32), none, (.q (.bin .add (.t 28) (.t 31))), []⟩, ⟨8, (some 33), none, (.q (.bin .neq (.t 25) (.t 32))), []⟩]
@[simp] def l_StateKeeps_9 (_ : Unit) : List EOp := ⟨0, (some 25), none, (.q (.mov (.t 6))), []⟩ :: ⟨1, (some 26), none, (.q (.fad 1 (.t 5))), []⟩ :: ⟨2, (some 27), none, (.q (.iad 2 1 (.t 26) (.k (.int .i64 0)))), []⟩ :: ⟨3, (some 28), none, (.q (.ldc (.t 27))), []⟩ :: ⟨4, (some 29), none, (.q (.fad 1 (.t 5))), []⟩ :: ⟨5, (some 30), none, (.q (.iad 2 1 (.t 29) (.k (.int .i64 1)))), []⟩ :: hid l_StateKeeps_10
@[simp] def b_StateKeeps_11 (_ : Unit) : EB := reg0 (hid l_StateKeeps_9) 9
@[simp] def l_StateKeeps_12 (_ : Unit) : List EOp := [⟨0, (some 4), none, (.q (.mov (.k (.bool false)))), []⟩]
@[simp] def b_StateKeeps_13 (_ : Unit) : EB := reg0 (hid l_StateKeeps_12) 1
@[simp] def b_StateKeeps_14 (_ : Unit) : EB := .seq (hid b_StateKeeps_13) .ret
@[simp] def b_StateKeeps_15 (_ : Unit) : EB := .cond (.t 33) (hid b_StateKeeps_14) .skip
@[simp] def b_StateKeeps_16 (_ : Unit) : EB := .seq (hid b_StateKeeps_11) (hid b_StateKeeps_15)
@[simp] def l_StateKeeps_17 (_ : Unit) : List EOp := [⟨0, (some 7), none, (.q (.mov (.k (.int .i64 0)))), []⟩]
@[simp] def b_StateKeeps_18 (_ : Unit) : EB := reg0 (hid l_StateKeeps_17) 1
@[simp] def l_StateKeeps_20 (_ : Unit) : List EOp := [⟨6, (some 40), (some (38, true)), (.q (.bin .lss (.t 39) (.k (.int .i64 60)))), []⟩, ⟨7, (some 41), none, (.q (.pick (.t 38) (.t 40) (.k (.bool false)))), []⟩]
@[simp] def l_StateKeeps_19 (_ : Unit) : List EOp := ⟨0, (some 34), none, (.q (.mov (.t 7))), []⟩ :: ⟨1, (some 35), none, (.q (.mov (.t 1))), []⟩ :: ⟨2, (some 36), none, (.q (.len (.t 35))), []⟩ :: ⟨3, (some 37), none, (.q (.bin .lss (.t 34) (.t 36))), []⟩ :: ⟨4, (some 38), none, (.q (.mov (.t 37))), []⟩ :: ⟨5, (some 39), (some (38, true)), (.q (.mov (.t 7))), []⟩ :: hid l_StateKeeps_20
@[simp] def b_StateKeeps_21 (_ : Unit) : EB := reg0 (hid l_StateKeeps_19) 8
@[simp] def b_StateKeeps_22 (_ : Unit) : EB := .cond (.t 41) .skip (.exit 0)
@[simp] def b_StateKeeps_23 (_ : Unit) : EB := .seq (hid b_StateKeeps_21) (hid b_StateKeeps_22)
@[simp] def l_StateKeeps_24 (_ : Unit) : List EOp := [⟨0, (some 44), none, (.q (.mov (.t 1))), []⟩, ⟨1, (some 45), none, (.q (.mov (.t 7))), []⟩, ⟨2, (some 46), none, (.q (.isl 43 (.t 44) (.t 45))), []⟩, ⟨3, (some 47), none, (.q (.lda 43 (.t 46))), []⟩, ⟨4, (some 8), none, (.q (.alloc 59 (([(.int .i64 0), (.int .i64 0), (.int .i64 0), (.int .i64 0), (.int .i64 0), (.int .i64 0), (.int .i64 0)] : List Value) ++ zU8 ++ [(.int .i64 0), (.int .i64 0), (.slice none 0 0), (.slice none 0 0)]))), []⟩, ⟨5, none, none, (.fz (.sto 43 (.t 8) (.t 47))), []⟩]
@[simp] def b_StateKeeps_25 (_ : Unit) : EB := reg0 (hid l_StateKeeps_24) 6
@[simp] def l_StateKeeps_27 (_ : Unit) : List EOp := [⟨6, (some 54), (some (53, false)), (.q (.fad 42 (.t 8))), []⟩, ⟨7, (some 55), (some (53, false)), (.q (.ldc (.t 54))), []⟩, ⟨8, (some 56), (some (53, false)), (.q (.len (.t 55))), []⟩, ⟨9, (some 57), (some (53, false)), (.q (.bin .gtr (.t 56) (.k (.int .i64 1000)))), []⟩, ⟨10, (some 58), none, (.q (.pick (.t 53) (.k (.bool true)) (.t 57))), []⟩]
@[simp] def l_StateKeeps_26 (_ : Unit) : List EOp := ⟨0, (some 48), none, (.q (.fad 39 (.t 8))), []⟩ :: ⟨1, (some 49), none, (.q (.fad 2 (.t 48))), []⟩ :: ⟨2, (some 50), none, (.q (.ldc (.t 49))), []⟩ :: ⟨3, (some 51), none, (.q (.len (.t 50))), []⟩ :: ⟨4, (some 52), none, (.q (.bin .gtr (.t 51) (.k (.int .i64 100)))), []⟩ :: ⟨5, (some 53), none, (.q (.mov (.t 52))), []⟩ :: hid l_StateKeeps_27
@[simp] def b_StateKeeps_28 (_ : Unit) : EB := reg0 (hid l_StateKeeps_26) 11
@[simp] def b_StateKeeps_29 (_ : Unit) : EB := .cond (.t 58) (.exit 1) .skip
@[simp] def b_StateKeeps_30 (_ : Unit) : EB := .seq (hid b_StateKeeps_28) (hid b_StateKeeps_29)
@[simp] def l_StateKeeps_31 (_ : Unit) : List EOp := [⟨0, (some 59), none, (.q (.lda 5 (.t 5))), []⟩, ⟨1, (some 9), none, (.q (.alloc 32 [(.int .i64 0), (.int .i64 0), (.int .i64 0), (.slice none 0 0), (.slice none 0 0)])), []⟩, ⟨2, none, none, (.fz (.sto 5 (.t 9) (.t 59))), []⟩, ⟨3, (some 10), none, (.q (.mov (.k .nilIface))), []⟩]
@[simp] def b_StateKeeps_32 (_ : Unit) : EB := reg0 (hid l_StateKeeps_31) 4
@[simp] def l_StateKeeps_33 (_ : Unit) : List EOp := [⟨0, (some 60), none, (.q (.fad 0 (.t 8))), []⟩, ⟨1, (some 61), none, (.q (.ldc (.t 60))), []⟩, ⟨2, (some 62), none, (.q (.cnv .u64 (.t 61))), []⟩, ⟨3, (some 63), none, (.q (.bin .rem (.t 62) (.k (.int .u64 8)))), []⟩, ⟨4, (some 64), none, (.q (.cnv .i64 (.t 63))), []⟩]
@[simp] def b_StateKeeps_34 (_ : Unit) : EB := reg0 (hid l_StateKeeps_33) 5
@[simp] def l_StateKeeps_35 (_ : Unit) : List EOp := [⟨0, (some 75), none, (.q (.bin .eql (.t 64) (.k (.int .i64 2)))), []⟩, ⟨1, (some 74), none, (.q (.mov (.t 75))), []⟩]
@[simp] def b_StateKeeps_36 (_ : Unit) : EB := reg0 (hid l_StateKeeps_35) 2
@[simp] def l_StateKeeps_37 (_ : Unit) : List EOp := [⟨0, (some 76), none, (.q (.bin .eql (.t 64) (.k (.int .i64 3)))), []⟩, ⟨1, (some 74), none, (.q (.mov (.t 76))), []⟩]
@[simp] def b_StateKeeps_38 (_ : Unit) : EB := reg0 (hid l_StateKeeps_37) 2
@[simp] def b_StateKeeps_39 (_ : Unit) : EB := .cond (.t 74) .skip (hid b_StateKeeps_38)
@[simp] def b_StateKeeps_40 (_ : Unit) : EB := .seq (hid b_StateKeeps_36) (hid b_StateKeeps_39)
@[simp] def l_StateKeeps_42 (_ : Unit) : List EOp := [⟨6, (some 83), none, (.q (.ext 1 (.t 77))), []⟩, ⟨7, none, none, (.fz (.sto 5 (.t 9) (.t 82))), []⟩, ⟨8, (some 10), none, (.q (.mov (.t 83))), []⟩]
@[simp] def l_StateKeeps_41 (_ : Unit) : List EOp := ⟨0, (some 78), none, (.q (.lda 5 (.t 5))), []⟩ :: ⟨1, (some 79), none, (.q (.fad 3 (.t 8))), []⟩ :: ⟨2, (some 80), none, (.q (.lda 36 (.t 79))), []⟩ :: ⟨3, (some 81), none, (.call 23 [(.t 78), (.t 80)]), []⟩ :: ⟨4, (some 77), none, (.q (.mov (.t 81))), []⟩ :: ⟨5, (some 82), none, (.q (.ext 0 (.t 77))), []⟩ :: hid l_StateKeeps_42
@[simp] def b_StateKeeps_43 (_ : Unit) : EB := reg0 (hid l_StateKeeps_41) 9
@[simp] def l_StateKeeps_44 (_ : Unit) : List EOp := [⟨0, (some 85), none, (.q (.bin .eql (.t 64) (.k (.int .i64 4)))), []⟩, ⟨1, (some 84), none, (.q (.mov (.t 85))), []⟩]
@[simp] def b_StateKeeps_45 (_ : Unit) : EB := reg0 (hid l_StateKeeps_44) 2
@[simp] def l_StateKeeps_47 (_ : Unit) : List EOp := [⟨6, (some 93), none, (.call 24 [(.t 87), (.t 90), (.t 92)]), []⟩, ⟨7, (some 86), none, (.q (.mov (.t 93))), []⟩, ⟨8, (some 94), none, (.q (.ext 0 (.t 86))), []⟩, ⟨9, (some 95), none, (.q (.ext 1 (.t 86))), []⟩, ⟨10, none, none, (.fz (.sto 5 (.t 9) (.t 94))), []⟩, ⟨11, (some 10), none, (.q (.mov (.t 95))), []⟩]
@[simp] def l_StateKeeps_46 (_ : Unit) : List EOp := ⟨0, (some 87), none, (.q (.lda 5 (.t 5))), []⟩ :: ⟨1, (some 88), none, (.q (.fad 3 (.t 8))), []⟩ :: ⟨2, (some 89), none, (.q (.fad 0 (.t 88))), []⟩ :: ⟨3, (some 90), none, (.q (.ldc (.t 89))), []⟩ :: ⟨4, (some 91), none, (.q (.fad 42 (.t 8))), []⟩ :: ⟨5, (some 92), none, (.q (.ldc (.t 91))), []⟩ :: hid l_StateKeeps_47
@[simp] def b_StateKeeps_48 (_ : Unit) : EB := reg0 (hid l_StateKeeps_46) 12
@[simp] def l_StateKeeps_49 (_ : Unit) : List EOp := [⟨0, (some 97), none, (.q (.bin .eql (.t 64) (.k (.int .i64 5)))), []⟩, ⟨1, (some 96), none, (.q (.mov (.t 97))), []⟩]
@[simp] def b_StateKeeps_50 (_ : Unit) : EB := reg0 (hid l_StateKeeps_49) 2
@[simp] def l_StateKeeps_52 (_ : Unit) : List EOp := [⟨6, (some 104), none, (.q (.ext 0 (.t 98))), []⟩, ⟨7, (some 105), none, (.q (.ext 1 (.t 98))), []⟩, ⟨8, none, none, (.fz (.sto 5 (.t 9) (.t 104))), []⟩, ⟨9, (some 10), none, (.q (.mov (.t 105))), []⟩]
@[simp] def l_StateKeeps_51 (_ : Unit) : List EOp := ⟨0, (some 99), none, (.q (.lda 5 (.t 5))), []⟩ :: ⟨1, (some 100), none, (.q (.fad 3 (.t 8))), []⟩ :: ⟨2, (some 101), none, (.q (.fad 0 (.t 100))), []⟩ :: ⟨3, (some 102), none, (.q (.ldc (.t 101))), []⟩ :: ⟨4, (some 103), none, (.call 25 [(.t 99), (.t 102)]), []⟩ :: ⟨5, (some 98), none, (.q (.mov (.t 103))), []⟩ :: hid l_StateKeeps_52
@[simp] def b_StateKeeps_53 (_ : Unit) : EB := reg0 (hid l_StateKeeps_51) 10
@[simp] def l_StateKeeps_54 (_ : Unit) : List EOp := [⟨0, (some 107), none, (.q (.bin .eql (.t 64) (.k (.int .i64 6)))), []⟩, ⟨1, (some 106), none, (.q (.mov (.t 107))), []⟩]
@[simp] def b_StateKeeps_55 (_ : Unit) : EB := reg0 (hid l_StateKeeps_54) 2
@[simp] def l_StateKeeps_57 (_ : Unit) : List EOp := [⟨6, (some 108), none, (.q (.mov (.t 114))), []⟩, ⟨7, (some 115), none, (.q (.ext 0 (.t 108))), []⟩, ⟨8, (some 116), none, (.q (.ext 1 (.t 108))), []⟩, ⟨9, none, none, (.fz (.sto 5 (.t 9) (.t 115))), []⟩, ⟨10, (some 10), none, (.q (.mov (.t 116))), []⟩]
@[simp] def l_StateKeeps_56 (_ : Unit) : List EOp := ⟨0, (some 109), none, (.q (.lda 5 (.t 5))), []⟩ :: ⟨1, (some 110), none, (.q (.fad 1 (.t 8))), []⟩ :: ⟨2, (some 111), none, (.q (.ldc (.t 110))), []⟩ :: ⟨3, (some 112), none, (.q (.fad 39 (.t 8))), []⟩ :: ⟨4, (some 113), none, (.q (.lda 3 (.t 112))), []⟩ :: ⟨5, (some 114), none, (.call 26 [(.t 109), (.t 111), (.t 113)]), []⟩ :: hid l_StateKeeps_57
@[simp] def b_StateKeeps_58 (_ : Unit) : EB := reg0 (hid l_StateKeeps_56) 11
@[simp] def l_StateKeeps_59 (_ : Unit) : List EOp := [⟨0, (some 118), none, (.q (.bin .eql (.t 64) (.k (.int .i64 7)))), []⟩, ⟨1, (some 117), none, (.q (.mov (.t 118))), []⟩]
@[simp] def b_StateKeeps_60 (_ : Unit) : EB := reg0 (hid l_StateKeeps_59) 2
@[simp] def l_StateKeeps_62 (_ : Unit) : List EOp := [⟨6, (some 126), none, (.call 27 [(.t 120), (.t 123), (.t 125)]), []⟩, ⟨7, (some 119), none, (.q (.mov (.t 126))), []⟩, ⟨8, (some 127), none, (.q (.ext 0 (.t 119))), []⟩, ⟨9, (some 128), none, (.q (.ext 1 (.t 119))), []⟩, ⟨10, none, none, (.fz (.sto 5 (.t 9) (.t 127))), []⟩, ⟨11, (some 10), none, (.q (.mov (.t 128))), []⟩]
@[simp] def l_StateKeeps_61 (_ : Unit) : List EOp := ⟨0, (some 120), none, (.q (.lda 5 (.t 5))), []⟩ :: ⟨1, (some 121), none, (.q (.fad 39 (.t 8))), []⟩ :: ⟨2, (some 122), none, (.q (.fad 0 (.t 121))), []⟩ :: ⟨3, (some 123), none, (.q (.ldc (.t 122))), []⟩ :: ⟨4, (some 124), none, (.q (.fad 2 (.t 8))), []⟩ :: ⟨5, (some 125), none, (.q (.ldc (.t 124))), []⟩ :: hid l_StateKeeps_62
@[simp] def b_StateKeeps_63 (_ : Unit) : EB := reg0 (hid l_StateKeeps_61) 12
@[simp] def l_StateKeeps_65 (_ : Unit) : List EOp := [⟨6, (some 65), none, (.q (.mov (.t 71))), []⟩, ⟨7, (some 72), none, (.q (.ext 0 (.t 65))), []⟩, ⟨8, (some 73), none, (.q (.ext 1 (.t 65))), []⟩, ⟨9, none, none, (.fz (.sto 5 (.t 9) (.t 72))), []⟩, ⟨10, (some 10), none, (.q (.mov (.t 73))), []⟩]
@[simp] def l_StateKeeps_64 (_ : Unit) : List EOp := ⟨0, (some 66), none, (.q (.lda 5 (.t 5))), []⟩ :: ⟨1, (some 67), none, (.q (.fad 1 (.t 8))), []⟩ :: ⟨2, (some 68), none, (.q (.ldc (.t 67))), []⟩ :: ⟨3, (some 69), none, (.q (.fad 2 (.t 8))), []⟩ :: ⟨4, (some 70), none, (.q (.ldc (.t 69))), []⟩ :: ⟨5, (some 71), none, (.call 12 [(.t 66), (.t 68), (.t 70)]), []⟩ :: hid l_StateKeeps_65
@[simp] def b_StateKeeps_66 (_ : Unit) : EB := reg0 (hid l_StateKeeps_64) 11
@[simp] def b_StateKeeps_67 (_ : Unit) : EB := .cond (.t 117) (hid b_StateKeeps_63) (hid b_StateKeeps_66)
@[simp] def b_StateKeeps_68 (_ : Unit) : EB := .seq (hid b_StateKeeps_60) (hid b_StateKeeps_67)
@[simp] def b_StateKeeps_69 (_ : Unit) : EB := .cond (.t 106) (hid b_StateKeeps_58) (hid b_StateKeeps_68)
@[simp] def b_StateKeeps_70 (_ : Unit) : EB := .seq (hid b_StateKeeps_55) (hid b_StateKeeps_69)
@[simp] def b_StateKeeps_71 (_ : Unit) : EB := .cond (.t 96) (hid b_StateKeeps_53) (hid b_StateKeeps_70)
@[simp] def b_StateKeeps_72 (_ : Unit) : EB := .seq (hid b_StateKeeps_50) (hid b_StateKeeps_71)
@[simp] def b_StateKeeps_73 (_ : Unit) : EB := .cond (.t 84) (hid b_StateKeeps_48) (hid b_StateKeeps_72)
@[simp] def b_StateKeeps_74 (_ : Unit) : EB := .seq (hid b_StateKeeps_45) (hid b_StateKeeps_73)
@[simp] def b_StateKeeps_75 (_ : Unit) : EB := .cond (.t 74) (hid b_StateKeeps_43) (hid b_StateKeeps_74)
@[simp] def b_StateKeeps_76 (_ : Unit) : EB := .seq (hid b_StateKeeps_40) (hid b_StateKeeps_75)
@[simp] def b_StateKeeps_77 (_ : Unit) : EB := .block 2 (hid b_StateKeeps_76)
@[simp] def b_StateKeeps_78 (_ : Unit) : EB := .seq (hid b_StateKeeps_34) (hid b_StateKeeps_77)
@[simp] def l_StateKeeps_79 (_ : Unit) : List EOp := [⟨0, (some 129), none, (.q (.mov (.t 10))), []⟩, ⟨1, (some 130), none, (.q (.eqi true (.t 129))), []⟩]
@[simp] def b_StateKeeps_80 (_ : Unit) : EB := reg0 (hid l_StateKeeps_79) 2
@[simp] def b_StateKeeps_81 (_ : Unit) : EB := .cond (.t 130) (.exit 1) .skip
@[simp] def b_StateKeeps_82 (_ : Unit) : EB := .seq (hid b_StateKeeps_80) (hid b_StateKeeps_81)
@[simp] def l_StateKeeps_87 (_ : Unit) : List EOp := [⟨24, (some 155), none, (.q (.mov (.t 154))), []⟩, ⟨25, (some 156), (some (155, false)), (.q (.lda 5 (.t 9))), []⟩, ⟨26, (some 157), (some (155, false)), (.call 28 [(.t 156)]), []⟩, ⟨27, (some 158), (some (155, false)), (.q (.eqi true (.t 157))), []⟩, ⟨28, (some 159), none, (.q (.pick (.t 155) (.k (.bool true)) (.t 158))), []⟩]
@[simp] def l_StateKeeps_86 (_ : Unit) : List EOp := ⟨18, (some 149), none, (.q (.mov (.t 148))), []⟩ :: ⟨19, (some 150), (some (149, false)), (.q (.fad 1 (.t 9))), []⟩ :: ⟨20, (some 151), (some (149, false)), (.q (.iad 2 1 (.t 150) (.k (.int .i64 1)))), []⟩ :: ⟨21, (some 152), (some (149, false)), (.q (.ldc (.t 151))), []⟩ :: ⟨22, (some 153), (some (149, false)), (.q (.bin .lss (.t 152) (.k (.int .i64 0)))), []⟩ :: ⟨23, (some 154), none, (.q (.pick (.t 149) (.k (.bool true)) (.t 153))), []⟩ :: hid l_StateKeeps_87
@[simp] def l_StateKeeps_85 (_ : Unit) : List EOp := ⟨12, (some 143), none, (.q (.mov (.t 142))), []⟩ :: ⟨13, (some 144), (some (143, false)), (.q (.fad 1 (.t 9))), []⟩ :: ⟨14, (some 145), (some (143, false)), (.q (.iad 2 1 (.t 144) (.k (.int .i64 0)))), []⟩ :: ⟨15, (some 146), (some (143, false)), (.q (.ldc (.t 145))), []⟩ :: ⟨16, (some 147), (some (143, false)), (.q (.bin .lss (.t 146) (.k (.int .i64 0)))), []⟩ :: ⟨17, (some 148), none, (.q (.pick (.t 143) (.k (.bool true)) (.t 147))), []⟩ :: hid l_StateKeeps_86
@[simp] def l_StateKeeps_84 (_ : Unit) : List EOp := ⟨6, (some 137), none, (.q (.mov (.t 136))), []⟩ :: ⟨7, (some 138), (some (137, false)), (.q (.lda 5 (.t 9))), []⟩ :: ⟨8, (some 139), (some (137, false)), (.call 18 [(.t 138)]), []⟩ :: ⟨9, (some 140), (some (137, false)), (.q (.mov (.t 6))), []⟩ :: ⟨10, (some 141), (some (137, false)), (.q (.bin .neq (.t 139) (.t 140))), []⟩ :: ⟨11, (some 142), none, (.q (.pick (.t 137) (.k (.bool true)) (.t 141))), []⟩ :: hid l_StateKeeps_85
@[simp] def l_StateKeeps_83 (_ : Unit) : List EOp := ⟨0, (some 131), none, (.q (.fad 0 (.t 9))), []⟩ :: ⟨1, (some 132), none, (.q (.ldc (.t 131))), []⟩ :: ⟨2, (some 133), none, (.q (.fad 0 (.t 5))), []⟩ :: ⟨3, (some 134), none, (.q (.ldc (.t 133))), []⟩ :: ⟨4, (some 135), none, (.q (.bin .add (.t 134) (.k (.int .i64 1)))), []⟩ :: ⟨5, (some 136), none, (.q (.bin .neq (.t 132) (.t 135))), []⟩ :: hid l_StateKeeps_84
@[simp] def b_StateKeeps_88 (_ : Unit) : EB := reg0 (hid l_StateKeeps_83) 29
@[simp] def l_StateKeeps_89 (_ : Unit) : List EOp := [⟨0, (some 4), none, (.q (.mov (.k (.bool false)))), []⟩]
@[simp] def b_StateKeeps_90 (_ : Unit) : EB := reg0 (hid l_StateKeeps_89) 1
@[simp] def b_StateKeeps_91 (_ : Unit) : EB := .seq (hid b_StateKeeps_90) .ret
@[simp] def b_StateKeeps_92 (_ : Unit) : EB := .cond (.t 159) (hid b_StateKeeps_91) .skip
@[simp] def b_StateKeeps_93 (_ : Unit) : EB := .seq (hid b_StateKeeps_88) (hid b_StateKeeps_92)
@[simp] def l_StateKeeps_94 (_ : Unit) : List EOp := [⟨0, (some 160), none, (.q (.lda 5 (.t 9))), []⟩, ⟨1, none, none, (.fz (.sto 5 (.t 5) (.t 160))), []⟩]
@[simp] def b_StateKeeps_95 (_ : Unit) : EB := reg0 (hid l_StateKeeps_94) 2
@[simp] def b_StateKeeps_96 (_ : Unit) : EB := .seq (hid b_StateKeeps_93) (hid b_StateKeeps_95)
@[simp] def b_StateKeeps_97 (_ : Unit) : EB := .seq (hid b_StateKeeps_82) (hid b_StateKeeps_96)
@[simp] def b_StateKeeps_98 (_ : Unit) : EB := .seq (hid b_StateKeeps_78) (hid b_StateKeeps_97)
@[simp] def b_StateKeeps_99 (_ : Unit) : EB := .seq (hid b_StateKeeps_32) (hid b_StateKeeps_98)
@[simp] def b_StateKeeps_100 (_ : Unit) : EB := .seq (hid b_StateKeeps_30) (hid b_StateKeeps_99)
@[simp] def b_StateKeeps_101 (_ : Unit) : EB := .seq (hid b_StateKeeps_25) (hid b_StateKeeps_100)
@[simp] def b_StateKeeps_102 (_ : Unit) : EB := .block 1 (hid b_StateKeeps_101)
@[simp] def l_StateKeeps_103 (_ : Unit) : List EOp := [⟨0, (some 42), none, (.q (.mov (.t 7))), []⟩, ⟨1, (some 43), none, (.q (.bin .add (.t 42) (.k (.int .i64 1)))), []⟩, ⟨2, (some 7), none, (.q (.mov (.t 43))), []⟩]
@[simp] def b_StateKeeps_104 (_ : Unit) : EB := reg0 (hid l_StateKeeps_103) 3
@[simp] def b_StateKeeps_105 (_ : Unit) : EB := .seq (hid b_StateKeeps_102) (hid b_StateKeeps_104)
@[simp] def b_StateKeeps_106 (_ : Unit) : EB := .seq (hid b_StateKeeps_23) (hid b_StateKeeps_105)
@[simp] def b_StateKeeps_107 (_ : Unit) : EB := .loop (hid b_StateKeeps_106)
@[simp] def b_StateKeeps_108 (_ : Unit) : EB := .block 0 (hid b_StateKeeps_107)
@[simp] def b_StateKeeps_109 (_ : Unit) : EB := .seq (hid b_StateKeeps_18) (hid b_StateKeeps_108)
@[simp] def l_StateKeeps_110 (_ : Unit) : List EOp := [⟨0, (some 161), none, (.call 11 []), []⟩, ⟨1, (some 4), none, (.q (.mov (.t 161))), []⟩]
@[simp] def b_StateKeeps_111 (_ : Unit) : EB := reg0 (hid l_StateKeeps_110) 2
@[simp] def b_StateKeeps_112 (_ : Unit) : EB := .seq (hid b_StateKeeps_111) .ret
@[simp] def b_StateKeeps_113 (_ : Unit) : EB := .seq (hid b_StateKeeps_109) (hid b_StateKeeps_112)
@[simp] def b_StateKeeps_114 (_ : Unit) : EB := .seq (hid b_StateKeeps_16) (hid b_StateKeeps_113)
@[simp] def b_StateKeeps_115 (_ : Unit) : EB := .seq (hid b_StateKeeps_8) (hid b_StateKeeps_114)
@[simp] def b_StateKeeps_116 (_ : Unit) : EB := .seq (hid b_StateKeeps_6) (hid b_StateKeeps_115)
@[simp] def b_StateKeeps_117 (_ : Unit) : EB := .seq (hid b_StateKeeps_2) (hid b_StateKeeps_116)
def c_StateKeeps : EB × List QOp × Nat := ((hid b_StateKeeps_117), [(.mov (.t 4))], 162)
theorem k_StateKeeps : cfun Tryd.prog 6 = some c_StateKeeps := by kernel_rfl


structure Act where
  kind : Int
  fr : Int
  n : Int
  pay : Pay
  hold : Hol
  sec : List UInt8
def actF (a : Act) : List FV := .lit (.int .i64 a.kind) :: .lit (.int .i64 a.fr) :: .lit (.int .i64 a.n) :: (payF a.pay ++ (holF a.hold ++ [.sl 1 (bsv a.sec)]))
def actC (a : Act) : List EC := .fz (.lit (.int .i64 a.kind)) :: .fz (.lit (.int .i64 a.fr)) :: .fz (.lit (.int .i64 a.n)) :: (payC a.pay ++ (holC a.hold ++ [.fz (.sl 1 (bsv a.sec))]))
def actv (l : List Act) : List (List FV) := l.map actF
def Act.ok (a : Act) : Prop := i64 a.kind ∧ i64 a.fr ∧ i64 a.n ∧ a.pay.ok ∧ a.hold.ok ∧ a.sec.length ≤ 100000000
@[simp] theorem actv_len (l : List Act) : (actv l).length = l.length := by simp [actv]
theorem actv_get {l : List Act} {i : Nat} {p : Act} (h : l[i]? = some p) : (actv l)[i]? = some (actF p) := by simp [actv, h]
theorem actF_len {a : Act} (h : a.pay.lock.length = 32) : (actF a).length = 43 := by simp [actF, payF_len h, holF]
theorem actC_len {a : Act} (h : a.pay.lock.length = 32) : (actC a).length = 43 := by simp [actC, payC_len h, holC]
theorem actF_fz (a : Act) : (actF a).map EC.fz = actC a := by simp [actF, actC, payF_fz, holF_fz]

theorem ac0 (a : Act) : (actC a)[0]? = some (.fz (.lit (.int .i64 a.kind))) := rfl
theorem ac1 (a : Act) : (actC a)[1]? = some (.fz (.lit (.int .i64 a.fr))) := rfl
theorem ac2 (a : Act) : (actC a)[2]? = some (.fz (.lit (.int .i64 a.n))) := rfl
theorem ac3 (a : Act) : (actC a)[3]? = some (.fz (.lit (.int .i64 a.pay.id))) := rfl
section
variable {a : Act} (h : a.pay.lock.length = 32)
include h
theorem ac39 : (actC a)[39]? = some (.fz (.lit (.int .i64 a.hold.id))) := by simp [actC, List.getElem?_append, payC_len h, holC]
theorem ac41 : (actC a)[41]? = some (.fz (.sl 1 (intv a.hold.keys))) := by simp [actC, List.getElem?_append, payC_len h, holC]
theorem ac42 : (actC a)[42]? = some (.fz (.sl 1 (bsv a.sec))) := by simp [actC, List.getElem?_append, payC_len h, holC]
theorem ad3 : ((actC a).drop 3).take 36 = payC a.pay := by
  show (payC a.pay ++ _).take 36 = _
  rw [← payC_len h, List.take_left]
theorem ad39 : ((actC a).drop 39).take 3 = holC a.hold := by
  have e : (actC a).drop 39 = holC a.hold ++ [.fz (.sl 1 (bsv a.sec))] := by
    show ((payC a.pay ++ _).drop 36) = _
    rw [← payC_len h, List.drop_left]
  rw [e]; rfl
end

theorem ae_of {l : List EC} {k : Nat} {c : EC} (e : l[k]? = some c) (h : k < l.length) : l[k]'h = c := by
  rw [List.getElem?_eq_getElem h] at e
  exact Option.some.inj e
theorem m1000_b (x : Int) : 0 ≤ IntKind.i64.wrap ((IntKind.u64.wrap x).tmod 1000) ∧ IntKind.i64.wrap ((IntKind.u64.wrap x).tmod 1000) ≤ 999 := by
  have h : 0 ≤ IntKind.u64.wrap x := by simp [IntKind.wrap, IntKind.signed, IntKind.bits]; omega
  have h1 : (IntKind.u64.wrap x).tmod 1000 = IntKind.u64.wrap x % 1000 := Int.tmod_eq_emod_of_nonneg h
  rw [h1, wrap_i64 (by omega) (by omega)]
  omega

set_option maxHeartbeats 8000000 in
set_option maxRecDepth 16384 in
theorem StateKeeps_ok (a b : Int) (l : List Act) (ha : i64 a) (hb : i64 b) (hl : ∀ x ∈ l, x.ok) : ECalls Tryd.prog 6 [.v (.agg [.fz (.lit (.int .i64 a)), .fz (.lit (.int .i64 b))]), .v (.c (.fz (.sl 43 (actv l))))] [] fun y H' => H' = [] ∧ y = .lit (.bool true) := by
  have hA := m1000_b a
  have hB := m1000_b b
  refine ecalls k_StateKeeps ?_
  simp [c_StateKeeps, SV, staC, I]
  obtain ⟨A, hAe⟩ : ∃ A, IntKind.i64.wrap ((IntKind.u64.wrap a).tmod 1000) = A := ⟨_, rfl⟩
  obtain ⟨B, hBe⟩ : ∃ B, IntKind.i64.wrap ((IntKind.u64.wrap b).tmod 1000) = B := ⟨_, rfl⟩
  rw [hAe] at hA ⊢
  rw [hBe] at hB ⊢
  have h0ok : (Sta.mk 0 A B [] []).ok := by simp [Sta.ok, i64]; omega
  have h0m : mayS ⟨0, A, B, [], []⟩ = true := by
    simp [mayS, total, sumP, sumH, payL, holL]; omega
  have h0t : totS ⟨0, A, B, [], []⟩ = A + B := by rw [totS, if_pos h0m]; simp [total, sumP, sumH]
  have wAB : IntKind.i64.wrap (A + B) = A + B := wrap_i64 (by omega) (by omega)
  have hT := Total_ok ⟨0, A, B, [], []⟩ h0ok
  rw [h0t] at hT
  refine call0 (ecalls_nlS hT) (by simp) ?_
  rintro y H' ⟨rfl, rfl⟩
  refine ⟨.inl (by simp), le_ok rfl, ?_⟩
  simp [I, wAB]
  refine loopW _ (weak_nlB (o := 224) (k := 3) 36 rfl rfl) (loopW _ (weak_nlB (o := 224) (k := 4) 3 rfl rfl) ?_)
  refine eloop (α := Sta × Nat) (fun q => q.1.ok ∧ mayS q.1 = true ∧ total q.1 = A + B ∧ q.2 ≤ l.length) (fun q => l.length - q.2)
    (fun q => [.any, .v (.c (.fz (.sl 43 (actv l)))), .any, .any, .any, Ptr 0, I .i64 (A + B), I .i64 q.2, .any, .any, .any, .any, .any, .any, .any, .any, .any, .any, .any, .any, .any, .any, .any, .any, .any, .any, .any, .any, .any, .any, .any, .any, .any, .any, .any, .any, .any, .any, .any, .any, .any, .any, .any, .any, .any, .any, .any, .any, .any, .any, .any, .any, .any, .any, .any, .any, .any, .any, .any, .any, .any, .any, .any, .any, .any, .any, .any, .any, .any, .any, .any, .any, .any, .any, .any, .any, .any, .any, .any, .any, .any, .any, .any, .any, .any, .any, .any, .any, .any, .any, .any, .any, .any, .any, .any, .any, .any, .any, .any, .any, .any, .any, .any, .any, .any, .any, .any, .any, .any, .any, .any, .any, .any, .any, .any, .any, .any, .any, .any, .any, .any, .any, .any, .any, .any, .any, .any, .any, .any, .any, .any, .any, .any, .any, .any, .any, .any, .any, .any, .any, .any, .any, .any, .any, .any, .any, .any, .any, .any, .any, .any, .any, .any, .any, .any, .any, .any, .any, .any, .any, .any, .any]) (fun q => [some (.box 32 (staC q.1))]) (⟨0, A, B, [], []⟩, 0) [224]
    ⟨h0ok, h0m, by simp [total, sumP, sumH], Nat.zero_le _⟩ (by simp [I, Ptr]) (by simp [staC, payv, holv]) (by simp) (by simp) (by simp) ?_
  rintro ⟨s, i⟩ ⟨hs, hm, ht, hi⟩
  dsimp only at hs hm ht hi
  obtain ⟨ok1, ok2, ok3, ok4, ok5, ok6, ok7⟩ := id hs
  simp [I, Ptr, staC]
  refine alt (fun hlt => ?_) (fun hlt => ?_)
  rotate_left
  · simp [hlt]
    refine call0 (sure_ok) (by simp [Ptr, I, EV.lit, Bs, SV, staC, SE]) ?_
    rintro y H' ⟨rfl, rfl⟩
    refine ⟨.inl (by simp [Ptr, I, EV.lit, Bs, SV, staC, SE]), le_ok rfl, ?_⟩
    simp [Ptr, I, EV.lit, Bs, SV, staC, SE]
    exact fin [] (by decide) rfl rfl rfl ⟨rfl, rfl⟩
  obtain ⟨q, hc⟩ : ∃ p, l[i]? = some p := ⟨l[i], by simp [hlt]⟩
  have hge : (actv l)[i]'(by simp [hlt]) = actF q := by
    have e := actv_get hc
    rw [List.getElem?_eq_getElem (by simp [hlt])] at e
    exact Option.some.inj e
  obtain ⟨⟨k1, k1'⟩, ⟨k2, k2'⟩, ⟨k3, k3'⟩, hpo, hho, hse⟩ := hl q (List.mem_of_getElem? hc)
  have hlk := hpo.2.2.2.2
  have hat : (actC q).take 43 = actC q := List.take_of_length_le (by rw [actC_len hlk]; omega)
  have hal := actC_len hlk
  have hfl := actF_len hlk
  simp [hlt]
  refine alt (fun h60 => ?_) (fun h60 => ?_)
  rotate_left
  · simp [h60]
    refine call0 (sure_ok) (by simp [Ptr, I, EV.lit, Bs, SV, staC, SE]) ?_
    rintro y H' ⟨rfl, rfl⟩
    refine ⟨.inl (by simp [Ptr, I, EV.lit, Bs, SV, staC, SE]), le_ok rfl, ?_⟩
    simp [Ptr, I, EV.lit, Bs, SV, staC, SE]
    exact fin [] (by decide) rfl rfl rfl ⟨rfl, rfl⟩
  have w4 : IntKind.i64.wrap ((i : Int) + 1) = ((i + 1 : Nat) : Int) := wrap_i64 (by omega) (by omega)
  have hmr := (mayS_t hm).1
  have wn : IntKind.i64.wrap (s.num + 1) = s.num + 1 := wrap_i64 (by omega) (by omega)
  have hdz : ∀ w x y z : EC, List.drop 36 (Go.EW.hc hz ++ [w, x, y, z]) = [] := fun _ _ _ _ => rfl
  have e0 := ae_of (ac0 q) (by omega)
  have e1 := ae_of (ac1 q) (by omega)
  have e2 := ae_of (ac2 q) (by omega)
  have e3 := ae_of (ac3 q) (by omega)
  have e39 := ae_of (ac39 hlk) (by omega)
  have e41 := ae_of (ac41 hlk) (by omega)
  have e42 := ae_of (ac42 hlk) (by omega)
  simp [hlt, h60, hge, actF_fz, hat, hal, hfl, hdz, e0, e1, e2, e3, e39, e41, e42]
  refine alt (fun hk1 => ?_) (fun hk1 => ?_)
  rotate_left
  · have hk1' : (100 : Int) < q.hold.keys.length := by omega
    simp [hk1', w4, -Int.natCast_add]
    exact round (s, i + 1) [0] ⟨hs, hm, ht, by dsimp only; omega⟩ (by dsimp only; omega) (by simp) (by simp [staC]) (by simp) (by simp) (by simp)
  simp [hk1, hal, e42]
  refine alt (fun hk2 => ?_) (fun hk2 => ?_)
  · simp [hk2, w4, -Int.natCast_add]
    exact round (s, i + 1) [0] ⟨hs, hm, ht, by dsimp only; omega⟩ (by dsimp only; omega) (by simp) (by simp [staC]) (by simp) (by simp) (by simp)
  obtain ⟨K, hK⟩ : ∃ K, IntKind.i64.wrap ((IntKind.u64.wrap q.kind).tmod 8) = K := ⟨_, rfl⟩
  simp [hk1, hk2, hK, e0, e1, e2, e3, e39, e41, e42]
  refine alt (fun hk3 => ?_) (fun hk3 => ?_)
  · simp [hk3, w4, -Int.natCast_add]
    exact round (s, i + 1) [0] ⟨hs, hm, ht, by dsimp only; omega⟩ (by dsimp only; omega) (by simp) (by simp [staC]) (by simp) (by simp) (by simp)
  simp [hk3, hK, hal, e0, e1, e2, e3, e39, e41, e42]
  have had3 := ad3 hlk
  have had39 := ad39 hlk
  have hpt := payC_take hlk
  have hpl := payC_len hlk
  have hht := holC_take q.hold
  refine alt (fun d2 => ?_) (fun d2 => ?_)
  · simp [d2, hK, hal, had3, had39, hpt, hpl, hht, e0, e1, e2, e3, e39, e41, e42, -errV_0]
    refine call0 (SAdd_ok s q.pay hs hpo) (by simp [SV, staC, I, Bs, holC]) ?_
    rintro y H' ⟨rfl, rfl⟩
    refine ⟨.inl (by simp), le_ok rfl, ?_⟩
    obtain ⟨r, hr, hg⟩ : ∃ r, addP s q.pay = r ∧ (r.2 = 0 → Gd s r.1) := ⟨_, rfl, fun h => addP_gd hs hpo h⟩
    rw [hr]
    simp [SE, SV, staC, EV.lit, -errV_0]
    refine alt (fun he => ?_) (fun he => ?_)
    · simp [he, w4, -Int.natCast_add]
      exact round (s, i + 1) [0] ⟨hs, hm, ht, by dsimp only; omega⟩ (by dsimp only; omega) (by simp) (by simp [staC]) (by simp) (by simp) (by simp)
    have he' : r.2 = 0 := by simpa using he
    obtain ⟨g1, g2, g3, g4⟩ := hg he'
    obtain ⟨t, e⟩ := r
    dsimp only at he' g1 g2 g3 g4 ⊢
    subst he'
    obtain ⟨u1, _, _, u4⟩ := mayS_t g1
    have n0 : ¬ t.h0 < 0 := by omega
    have n1 : ¬ t.h1 < 0 := by omega
    have hts : totS t = A + B := by rw [totS, if_pos g1]; omega
    simp [he, g3, wn, w4, -errV_0, -Int.natCast_add]
    refine call0 (Total_ok t g4) (by simp [SV, staC, g3]) ?_
    rintro y H' ⟨rfl, rfl⟩
    refine ⟨.inl (by simp), le_ok rfl, ?_⟩
    simp [hts, I, n0, n1, w4, g3, -errV_0, -Int.natCast_add]
    refine call0 (SCheck_ok t g4) (by simp [SV, staC, g3]) ?_
    rintro y H' ⟨rfl, rfl⟩
    refine ⟨.inl (by simp), le_ok rfl, ?_⟩
    rw [if_pos g1]
    simp [EV.lit, w4, g3, -errV_0, -Int.natCast_add]
    exact round (t, i + 1) [0] ⟨g4, g1, by dsimp only; omega, by dsimp only; omega⟩ (by dsimp only; omega) (by simp) (by simp [staC, g3]) (by simp) (by simp) (by simp)
  simp [d2, hK]
  refine alt (fun d3 => ?_) (fun d3 => ?_)
  · simp [d2, d3, hK, hal, had3, had39, hpt, hpl, hht, e0, e1, e2, e3, e39, e41, e42, -errV_0]
    refine call0 (SAdd_ok s q.pay hs hpo) (by simp [SV, staC, I, Bs, holC]) ?_
    rintro y H' ⟨rfl, rfl⟩
    refine ⟨.inl (by simp), le_ok rfl, ?_⟩
    obtain ⟨r, hr, hg⟩ : ∃ r, addP s q.pay = r ∧ (r.2 = 0 → Gd s r.1) := ⟨_, rfl, fun h => addP_gd hs hpo h⟩
    rw [hr]
    simp [SE, SV, staC, EV.lit, -errV_0]
    refine alt (fun he => ?_) (fun he => ?_)
    · simp [he, w4, -Int.natCast_add]
      exact round (s, i + 1) [0] ⟨hs, hm, ht, by dsimp only; omega⟩ (by dsimp only; omega) (by simp) (by simp [staC]) (by simp) (by simp) (by simp)
    have he' : r.2 = 0 := by simpa using he
    obtain ⟨g1, g2, g3, g4⟩ := hg he'
    obtain ⟨t, e⟩ := r
    dsimp only at he' g1 g2 g3 g4 ⊢
    subst he'
    obtain ⟨u1, _, _, u4⟩ := mayS_t g1
    have n0 : ¬ t.h0 < 0 := by omega
    have n1 : ¬ t.h1 < 0 := by omega
    have hts : totS t = A + B := by rw [totS, if_pos g1]; omega
    simp [he, g3, wn, w4, -errV_0, -Int.natCast_add]
    refine call0 (Total_ok t g4) (by simp [SV, staC, g3]) ?_
    rintro y H' ⟨rfl, rfl⟩
    refine ⟨.inl (by simp), le_ok rfl, ?_⟩
    simp [hts, I, n0, n1, w4, g3, -errV_0, -Int.natCast_add]
    refine call0 (SCheck_ok t g4) (by simp [SV, staC, g3]) ?_
    rintro y H' ⟨rfl, rfl⟩
    refine ⟨.inl (by simp), le_ok rfl, ?_⟩
    rw [if_pos g1]
    simp [EV.lit, w4, g3, -errV_0, -Int.natCast_add]
    exact round (t, i + 1) [0] ⟨g4, g1, by dsimp only; omega, by dsimp only; omega⟩ (by dsimp only; omega) (by simp) (by simp [staC, g3]) (by simp) (by simp) (by simp)
  simp [d2, d3, hK]
  refine alt (fun d4 => ?_) (fun d4 => ?_)
  · simp [d2, d3, d4, hK, hal, had3, had39, hpt, hpl, hht, e0, e1, e2, e3, e39, e41, e42, -errV_0]
    refine call0 (SSettle_ok s q.pay.id q.sec hs ⟨hpo.1.1, hpo.1.2⟩ hse) (by simp [SV, staC, I, Bs, holC]) ?_
    rintro y H' ⟨rfl, rfl⟩
    refine ⟨.inl (by simp), le_ok rfl, ?_⟩
    obtain ⟨r, hr, hg⟩ : ∃ r, setS s q.pay.id q.sec = r ∧ (r.2 = 0 → Gd s r.1) := ⟨_, rfl, fun h => setS_gd hs h⟩
    rw [hr]
    simp [SE, SV, staC, EV.lit, -errV_0]
    refine alt (fun he => ?_) (fun he => ?_)
    · simp [he, w4, -Int.natCast_add]
      exact round (s, i + 1) [0] ⟨hs, hm, ht, by dsimp only; omega⟩ (by dsimp only; omega) (by simp) (by simp [staC]) (by simp) (by simp) (by simp)
    have he' : r.2 = 0 := by simpa using he
    obtain ⟨g1, g2, g3, g4⟩ := hg he'
    obtain ⟨t, e⟩ := r
    dsimp only at he' g1 g2 g3 g4 ⊢
    subst he'
    obtain ⟨u1, _, _, u4⟩ := mayS_t g1
    have n0 : ¬ t.h0 < 0 := by omega
    have n1 : ¬ t.h1 < 0 := by omega
    have hts : totS t = A + B := by rw [totS, if_pos g1]; omega
    simp [he, g3, wn, w4, -errV_0, -Int.natCast_add]
    refine call0 (Total_ok t g4) (by simp [SV, staC, g3]) ?_
    rintro y H' ⟨rfl, rfl⟩
    refine ⟨.inl (by simp), le_ok rfl, ?_⟩
    simp [hts, I, n0, n1, w4, g3, -errV_0, -Int.natCast_add]
    refine call0 (SCheck_ok t g4) (by simp [SV, staC, g3]) ?_
    rintro y H' ⟨rfl, rfl⟩
    refine ⟨.inl (by simp), le_ok rfl, ?_⟩
    rw [if_pos g1]
    simp [EV.lit, w4, g3, -errV_0, -Int.natCast_add]
    exact round (t, i + 1) [0] ⟨g4, g1, by dsimp only; omega, by dsimp only; omega⟩ (by dsimp only; omega) (by simp) (by simp [staC, g3]) (by simp) (by simp) (by simp)
  simp [d2, d3, d4, hK]
  refine alt (fun d5 => ?_) (fun d5 => ?_)
  · simp [d2, d3, d4, d5, hK, hal, had3, had39, hpt, hpl, hht, e0, e1, e2, e3, e39, e41, e42, -errV_0]
    refine call0 (SFail_ok s q.pay.id hs ⟨hpo.1.1, hpo.1.2⟩) (by simp [SV, staC, I, Bs, holC]) ?_
    rintro y H' ⟨rfl, rfl⟩
    refine ⟨.inl (by simp), le_ok rfl, ?_⟩
    obtain ⟨r, hr, hg⟩ : ∃ r, falS s q.pay.id = r ∧ (r.2 = 0 → Gd s r.1) := ⟨_, rfl, fun h => falS_gd hs h⟩
    rw [hr]
    simp [SE, SV, staC, EV.lit, -errV_0]
    refine alt (fun he => ?_) (fun he => ?_)
    · simp [he, w4, -Int.natCast_add]
      exact round (s, i + 1) [0] ⟨hs, hm, ht, by dsimp only; omega⟩ (by dsimp only; omega) (by simp) (by simp [staC]) (by simp) (by simp) (by simp)
    have he' : r.2 = 0 := by simpa using he
    obtain ⟨g1, g2, g3, g4⟩ := hg he'
    obtain ⟨t, e⟩ := r
    dsimp only at he' g1 g2 g3 g4 ⊢
    subst he'
    obtain ⟨u1, _, _, u4⟩ := mayS_t g1
    have n0 : ¬ t.h0 < 0 := by omega
    have n1 : ¬ t.h1 < 0 := by omega
    have hts : totS t = A + B := by rw [totS, if_pos g1]; omega
    simp [he, g3, wn, w4, -errV_0, -Int.natCast_add]
    refine call0 (Total_ok t g4) (by simp [SV, staC, g3]) ?_
    rintro y H' ⟨rfl, rfl⟩
    refine ⟨.inl (by simp), le_ok rfl, ?_⟩
    simp [hts, I, n0, n1, w4, g3, -errV_0, -Int.natCast_add]
    refine call0 (SCheck_ok t g4) (by simp [SV, staC, g3]) ?_
    rintro y H' ⟨rfl, rfl⟩
    refine ⟨.inl (by simp), le_ok rfl, ?_⟩
    rw [if_pos g1]
    simp [EV.lit, w4, g3, -errV_0, -Int.natCast_add]
    exact round (t, i + 1) [0] ⟨g4, g1, by dsimp only; omega, by dsimp only; omega⟩ (by dsimp only; omega) (by simp) (by simp [staC, g3]) (by simp) (by simp) (by simp)
  simp [d2, d3, d4, d5, hK]
  refine alt (fun d6 => ?_) (fun d6 => ?_)
  · simp [d2, d3, d4, d5, d6, hK, hal, had3, had39, hpt, hpl, hht, e0, e1, e2, e3, e39, e41, e42, -errV_0]
    refine call0 (SKeep_ok s q.fr q.hold hs ⟨k2, k2'⟩ hho) (by simp [SV, staC, I, Bs, holC]) ?_
    rintro y H' ⟨rfl, rfl⟩
    refine ⟨.inl (by simp), le_ok rfl, ?_⟩
    obtain ⟨r, hr, hg⟩ : ∃ r, keeS s q.fr q.hold = r ∧ (r.2 = 0 → Gd s r.1) := ⟨_, rfl, fun h => keeS_gd hs hho h⟩
    rw [hr]
    simp [SE, SV, staC, EV.lit, -errV_0]
    refine alt (fun he => ?_) (fun he => ?_)
    · simp [he, w4, -Int.natCast_add]
      exact round (s, i + 1) [0] ⟨hs, hm, ht, by dsimp only; omega⟩ (by dsimp only; omega) (by simp) (by simp [staC]) (by simp) (by simp) (by simp)
    have he' : r.2 = 0 := by simpa using he
    obtain ⟨g1, g2, g3, g4⟩ := hg he'
    obtain ⟨t, e⟩ := r
    dsimp only at he' g1 g2 g3 g4 ⊢
    subst he'
    obtain ⟨u1, _, _, u4⟩ := mayS_t g1
    have n0 : ¬ t.h0 < 0 := by omega
    have n1 : ¬ t.h1 < 0 := by omega
    have hts : totS t = A + B := by rw [totS, if_pos g1]; omega
    simp [he, g3, wn, w4, -errV_0, -Int.natCast_add]
    refine call0 (Total_ok t g4) (by simp [SV, staC, g3]) ?_
    rintro y H' ⟨rfl, rfl⟩
    refine ⟨.inl (by simp), le_ok rfl, ?_⟩
    simp [hts, I, n0, n1, w4, g3, -errV_0, -Int.natCast_add]
    refine call0 (SCheck_ok t g4) (by simp [SV, staC, g3]) ?_
    rintro y H' ⟨rfl, rfl⟩
    refine ⟨.inl (by simp), le_ok rfl, ?_⟩
    rw [if_pos g1]
    simp [EV.lit, w4, g3, -errV_0, -Int.natCast_add]
    exact round (t, i + 1) [0] ⟨g4, g1, by dsimp only; omega, by dsimp only; omega⟩ (by dsimp only; omega) (by simp) (by simp [staC, g3]) (by simp) (by simp) (by simp)
  simp [d2, d3, d4, d5, d6, hK]
  refine alt (fun d7 => ?_) (fun d7 => ?_)
  · simp [d2, d3, d4, d5, d6, d7, hK, hal, had3, had39, hpt, hpl, hht, e0, e1, e2, e3, e39, e41, e42, -errV_0]
    refine call0 (SFree_ok s q.hold.id q.n hs ⟨hho.1.1, hho.1.2⟩ ⟨k3, k3'⟩) (by simp [SV, staC, I, Bs, holC]) ?_
    rintro y H' ⟨rfl, rfl⟩
    refine ⟨.inl (by simp), le_ok rfl, ?_⟩
    obtain ⟨r, hr, hg⟩ : ∃ r, freS s q.hold.id q.n = r ∧ (r.2 = 0 → Gd s r.1) := ⟨_, rfl, fun h => freS_gd hs h⟩
    rw [hr]
    simp [SE, SV, staC, EV.lit, -errV_0]
    refine alt (fun he => ?_) (fun he => ?_)
    · simp [he, w4, -Int.natCast_add]
      exact round (s, i + 1) [0] ⟨hs, hm, ht, by dsimp only; omega⟩ (by dsimp only; omega) (by simp) (by simp [staC]) (by simp) (by simp) (by simp)
    have he' : r.2 = 0 := by simpa using he
    obtain ⟨g1, g2, g3, g4⟩ := hg he'
    obtain ⟨t, e⟩ := r
    dsimp only at he' g1 g2 g3 g4 ⊢
    subst he'
    obtain ⟨u1, _, _, u4⟩ := mayS_t g1
    have n0 : ¬ t.h0 < 0 := by omega
    have n1 : ¬ t.h1 < 0 := by omega
    have hts : totS t = A + B := by rw [totS, if_pos g1]; omega
    simp [he, g3, wn, w4, -errV_0, -Int.natCast_add]
    refine call0 (Total_ok t g4) (by simp [SV, staC, g3]) ?_
    rintro y H' ⟨rfl, rfl⟩
    refine ⟨.inl (by simp), le_ok rfl, ?_⟩
    simp [hts, I, n0, n1, w4, g3, -errV_0, -Int.natCast_add]
    refine call0 (SCheck_ok t g4) (by simp [SV, staC, g3]) ?_
    rintro y H' ⟨rfl, rfl⟩
    refine ⟨.inl (by simp), le_ok rfl, ?_⟩
    rw [if_pos g1]
    simp [EV.lit, w4, g3, -errV_0, -Int.natCast_add]
    exact round (t, i + 1) [0] ⟨g4, g1, by dsimp only; omega, by dsimp only; omega⟩ (by dsimp only; omega) (by simp) (by simp [staC, g3]) (by simp) (by simp) (by simp)
  simp [d2, d3, d4, d5, d6, d7, hK, hal, had3, had39, hpt, hpl, hht, e0, e1, e2, e3, e39, e41, e42, -errV_0]
  refine call0 (Move_ok s q.fr q.n hs ⟨k2, k2'⟩ ⟨k3, k3'⟩) (by simp [SV, staC, I, Bs, holC]) ?_
  rintro y H' ⟨rfl, rfl⟩
  refine ⟨.inl (by simp), le_ok rfl, ?_⟩
  obtain ⟨r, hr, hg⟩ : ∃ r, moveS s q.fr q.n = r ∧ (r.2 = 0 → Gd s r.1) := ⟨_, rfl, fun h => moveS_gd hs h⟩
  rw [hr]
  simp [SE, SV, staC, EV.lit, -errV_0]
  refine alt (fun he => ?_) (fun he => ?_)
  · simp [he, w4, -Int.natCast_add]
    exact round (s, i + 1) [0] ⟨hs, hm, ht, by dsimp only; omega⟩ (by dsimp only; omega) (by simp) (by simp [staC]) (by simp) (by simp) (by simp)
  have he' : r.2 = 0 := by simpa using he
  obtain ⟨g1, g2, g3, g4⟩ := hg he'
  obtain ⟨t, e⟩ := r
  dsimp only at he' g1 g2 g3 g4 ⊢
  subst he'
  obtain ⟨u1, _, _, u4⟩ := mayS_t g1
  have n0 : ¬ t.h0 < 0 := by omega
  have n1 : ¬ t.h1 < 0 := by omega
  have hts : totS t = A + B := by rw [totS, if_pos g1]; omega
  simp [he, g3, wn, w4, -errV_0, -Int.natCast_add]
  refine call0 (Total_ok t g4) (by simp [SV, staC, g3]) ?_
  rintro y H' ⟨rfl, rfl⟩
  refine ⟨.inl (by simp), le_ok rfl, ?_⟩
  simp [hts, I, n0, n1, w4, g3, -errV_0, -Int.natCast_add]
  refine call0 (SCheck_ok t g4) (by simp [SV, staC, g3]) ?_
  rintro y H' ⟨rfl, rfl⟩
  refine ⟨.inl (by simp), le_ok rfl, ?_⟩
  rw [if_pos g1]
  simp [EV.lit, w4, g3, -errV_0, -Int.natCast_add]
  exact round (t, i + 1) [0] ⟨g4, g1, by dsimp only; omega, by dsimp only; omega⟩ (by dsimp only; omega) (by simp) (by simp [staC, g3]) (by simp) (by simp) (by simp)

end Go.Proofs.YtpohjnhlhfbnaaaDoor
