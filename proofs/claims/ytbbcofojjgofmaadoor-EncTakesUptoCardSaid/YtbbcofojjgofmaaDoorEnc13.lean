import Derived.Test.YtbbcofojjgofmaaDoorEnc12
import Derived.Test.YtbbcofojjgofmaaDoorL01D
namespace Go.Proofs.YtbbcofojjgofmaaDoor
open Go Go.EW
set_option linter.unusedSimpArgs false
set_option linter.unusedVariables false

@[simp] def l_EncTakes_1 (_ : Unit) : List EOp := [⟨0, (some 4), none, (.q (.mov (.k (.bool false)))), []⟩]
@[simp] def b_EncTakes_2 (_ : Unit) : EB := reg0 (hid l_EncTakes_1) 1
@[simp] def l_EncTakes_4 (_ : Unit) : List EOp := [⟨6, none, none, (.fz (.sto 2 (.t 6) (.t 23))), []⟩]
@[simp] def l_EncTakes_3 (_ : Unit) : List EOp := ⟨0, (some 20), none, (.q (.mov (.t 0))), []⟩ :: ⟨1, (some 21), none, (.call 6 [(.t 20)]), []⟩ :: ⟨2, (some 22), none, (.q (.mov (.t 0))), []⟩ :: ⟨3, (some 23), none, (.q (.build [(.slice none 0 0), (.int .i64 0)] [(0, 1, (.t 22))])), []⟩ :: ⟨4, (some 6), none, (.q (.alloc 29 [(.slice none 0 0), (.int .i64 0)])), []⟩ :: ⟨5, (some 5), none, (.q (.mov (.t 21))), []⟩ :: hid l_EncTakes_4
@[simp] def b_EncTakes_5 (_ : Unit) : EB := reg0 (hid l_EncTakes_3) 7
@[simp] def l_EncTakes_6 (_ : Unit) : List EOp := [⟨0, (some 7), none, (.q (.mov (.k (.int .i64 0)))), []⟩]
@[simp] def b_EncTakes_7 (_ : Unit) : EB := reg0 (hid l_EncTakes_6) 1
@[simp] def l_EncTakes_9 (_ : Unit) : List EOp := [⟨6, (some 30), (some (28, true)), (.q (.bin .lss (.t 29) (.k (.int .i64 100)))), []⟩, ⟨7, (some 31), none, (.q (.pick (.t 28) (.t 30) (.k (.bool false)))), []⟩]
@[simp] def l_EncTakes_8 (_ : Unit) : List EOp := ⟨0, (some 24), none, (.q (.mov (.t 7))), []⟩ :: ⟨1, (some 25), none, (.q (.mov (.t 1))), []⟩ :: ⟨2, (some 26), none, (.q (.len (.t 25))), []⟩ :: ⟨3, (some 27), none, (.q (.bin .lss (.t 24) (.t 26))), []⟩ :: ⟨4, (some 28), none, (.q (.mov (.t 27))), []⟩ :: ⟨5, (some 29), (some (28, true)), (.q (.mov (.t 7))), []⟩ :: hid l_EncTakes_9
@[simp] def b_EncTakes_10 (_ : Unit) : EB := reg0 (hid l_EncTakes_8) 8
@[simp] def b_EncTakes_11 (_ : Unit) : EB := .cond (.t 31) .skip (.exit 0)
@[simp] def b_EncTakes_12 (_ : Unit) : EB := .seq (hid b_EncTakes_10) (hid b_EncTakes_11)
@[simp] def l_EncTakes_13 (_ : Unit) : List EOp := [⟨0, (some 8), none, (.q (.mov (.k (.bool false)))), []⟩]
@[simp] def b_EncTakes_14 (_ : Unit) : EB := reg0 (hid l_EncTakes_13) 1
@[simp] def l_EncTakes_16 (_ : Unit) : List EOp := [⟨6, (some 40), none, (.q (.bin .rem (.t 39) (.k (.int .u64 5)))), []⟩, ⟨7, (some 41), none, (.q (.cnv .i64 (.t 40))), []⟩]
@[simp] def l_EncTakes_15 (_ : Unit) : List EOp := ⟨0, (some 34), none, (.q (.mov (.t 1))), []⟩ :: ⟨1, (some 35), none, (.q (.mov (.t 7))), []⟩ :: ⟨2, (some 36), none, (.q (.isl 2 (.t 34) (.t 35))), []⟩ :: ⟨3, (some 37), none, (.q (.fad 0 (.t 36))), []⟩ :: ⟨4, (some 38), none, (.q (.ldc (.t 37))), []⟩ :: ⟨5, (some 39), none, (.q (.cnv .u64 (.t 38))), []⟩ :: hid l_EncTakes_16
@[simp] def b_EncTakes_17 (_ : Unit) : EB := reg0 (hid l_EncTakes_15) 8
@[simp] def l_EncTakes_18 (_ : Unit) : List EOp := [⟨0, (some 53), none, (.q (.bin .eql (.t 41) (.k (.int .i64 0)))), []⟩, ⟨1, (some 52), none, (.q (.mov (.t 53))), []⟩]
@[simp] def b_EncTakes_19 (_ : Unit) : EB := reg0 (hid l_EncTakes_18) 2
@[simp] def l_EncTakes_22 (_ : Unit) : List EOp := [⟨12, none, none, (.fz (.sto 2 (.t 9) (.t 63))), [10]⟩, ⟨13, (some 10), none, (.q (.mov (.t 64))), []⟩]
@[simp] def l_EncTakes_21 (_ : Unit) : List EOp := ⟨6, (some 61), none, (.q (.cnv .u64 (.t 60))), []⟩ :: ⟨11, (some 9), none, (.q (.alloc 29 [(.slice none 0 0), (.int .i64 0)])), []⟩ :: ⟨7, (some 62), none, (.call 10 [(.t 55), (.t 61)]), [11]⟩ :: ⟨8, (some 54), none, (.q (.mov (.t 62))), []⟩ :: ⟨9, (some 63), none, (.q (.ext 0 (.t 54))), []⟩ :: ⟨10, (some 64), none, (.q (.ext 1 (.t 54))), []⟩ :: hid l_EncTakes_22
@[simp] def l_EncTakes_20 (_ : Unit) : List EOp := ⟨0, (some 55), none, (.q (.lda 2 (.t 6))), []⟩ :: ⟨1, (some 56), none, (.q (.mov (.t 1))), []⟩ :: ⟨2, (some 57), none, (.q (.mov (.t 7))), []⟩ :: ⟨3, (some 58), none, (.q (.isl 2 (.t 56) (.t 57))), []⟩ :: ⟨4, (some 59), none, (.q (.fad 1 (.t 58))), []⟩ :: ⟨5, (some 60), none, (.q (.ldc (.t 59))), []⟩ :: hid l_EncTakes_21
@[simp] def b_EncTakes_23 (_ : Unit) : EB := reg1 (hid l_EncTakes_20) 14
@[simp] def l_EncTakes_26 (_ : Unit) : List EOp := [⟨12, (some 8), none, (.q (.mov (.t 75))), []⟩]
@[simp] def l_EncTakes_25 (_ : Unit) : List EOp := ⟨6, (some 71), none, (.q (.ldc (.t 70))), []⟩ :: ⟨7, (some 72), none, (.q (.cnv .u64 (.t 71))), []⟩ :: ⟨9, (some 74), none, (.q (.mov (.t 10))), []⟩ :: ⟨8, (some 73), none, (.call 8 [(.t 66), (.t 72)]), [0, 9]⟩ :: ⟨10, (some 75), none, (.q (.bin .eql (.t 73) (.t 74))), []⟩ :: ⟨11, none, none, (.fz (.sto 2 (.t 6) (.t 65))), [9, 10]⟩ :: hid l_EncTakes_26
@[simp] def l_EncTakes_24 (_ : Unit) : List EOp := ⟨0, (some 65), none, (.q (.lda 2 (.t 9))), []⟩ :: ⟨1, (some 66), none, (.q (.mov (.t 5))), []⟩ :: ⟨2, (some 67), none, (.q (.mov (.t 1))), []⟩ :: ⟨3, (some 68), none, (.q (.mov (.t 7))), []⟩ :: ⟨4, (some 69), none, (.q (.isl 2 (.t 67) (.t 68))), []⟩ :: ⟨5, (some 70), none, (.q (.fad 1 (.t 69))), []⟩ :: hid l_EncTakes_25
@[simp] def b_EncTakes_27 (_ : Unit) : EB := reg1 (hid l_EncTakes_24) 13
@[simp] def b_EncTakes_28 (_ : Unit) : EB := .seq (hid b_EncTakes_23) (hid b_EncTakes_27)
@[simp] def l_EncTakes_29 (_ : Unit) : List EOp := [⟨0, (some 77), none, (.q (.bin .eql (.t 41) (.k (.int .i64 1)))), []⟩, ⟨1, (some 76), none, (.q (.mov (.t 77))), []⟩]
@[simp] def b_EncTakes_30 (_ : Unit) : EB := reg0 (hid l_EncTakes_29) 2
@[simp] def l_EncTakes_32 (_ : Unit) : List EOp := [⟨6, none, none, (.fz (.sto 2 (.t 11) (.t 81))), []⟩, ⟨7, (some 12), none, (.q (.mov (.t 82))), []⟩]
@[simp] def l_EncTakes_31 (_ : Unit) : List EOp := ⟨0, (some 79), none, (.q (.lda 2 (.t 6))), []⟩ :: ⟨1, (some 80), none, (.call 9 [(.t 79)]), []⟩ :: ⟨2, (some 78), none, (.q (.mov (.t 80))), []⟩ :: ⟨3, (some 81), none, (.q (.ext 0 (.t 78))), []⟩ :: ⟨4, (some 82), none, (.q (.ext 1 (.t 78))), []⟩ :: ⟨5, (some 11), none, (.q (.alloc 29 [(.slice none 0 0), (.int .i64 0)])), []⟩ :: hid l_EncTakes_32
@[simp] def b_EncTakes_33 (_ : Unit) : EB := reg0 (hid l_EncTakes_31) 8
@[simp] def l_EncTakes_35 (_ : Unit) : List EOp := [⟨6, (some 8), none, (.q (.mov (.t 87))), []⟩]
@[simp] def l_EncTakes_34 (_ : Unit) : List EOp := ⟨0, (some 83), none, (.q (.lda 2 (.t 11))), []⟩ :: ⟨1, (some 84), none, (.q (.mov (.t 5))), []⟩ :: ⟨3, (some 86), none, (.q (.mov (.t 12))), []⟩ :: ⟨2, (some 85), none, (.call 7 [(.t 84)]), [0, 3]⟩ :: ⟨4, (some 87), none, (.q (.bin .eql (.t 85) (.t 86))), []⟩ :: ⟨5, none, none, (.fz (.sto 2 (.t 6) (.t 83))), [3, 4]⟩ :: hid l_EncTakes_35
@[simp] def b_EncTakes_36 (_ : Unit) : EB := reg1 (hid l_EncTakes_34) 7
@[simp] def b_EncTakes_37 (_ : Unit) : EB := .seq (hid b_EncTakes_33) (hid b_EncTakes_36)
@[simp] def l_EncTakes_38 (_ : Unit) : List EOp := [⟨0, (some 89), none, (.q (.bin .eql (.t 41) (.k (.int .i64 2)))), []⟩, ⟨1, (some 88), none, (.q (.mov (.t 89))), []⟩]
@[simp] def b_EncTakes_39 (_ : Unit) : EB := reg0 (hid l_EncTakes_38) 2
@[simp] def l_EncTakes_42 (_ : Unit) : List EOp := [⟨12, (some 14), none, (.q (.mov (.t 99))), []⟩]
@[simp] def l_EncTakes_41 (_ : Unit) : List EOp := ⟨10, (some 13), none, (.q (.alloc 29 [(.slice none 0 0), (.int .i64 0)])), []⟩ :: ⟨6, (some 97), none, (.call 18 [(.t 91), (.t 96)]), [10]⟩ :: ⟨7, (some 90), none, (.q (.mov (.t 97))), []⟩ :: ⟨8, (some 98), none, (.q (.ext 0 (.t 90))), []⟩ :: ⟨9, (some 99), none, (.q (.ext 1 (.t 90))), []⟩ :: ⟨11, none, none, (.fz (.sto 2 (.t 13) (.t 98))), [9]⟩ :: hid l_EncTakes_42
@[simp] def l_EncTakes_40 (_ : Unit) : List EOp := ⟨0, (some 91), none, (.q (.lda 2 (.t 6))), []⟩ :: ⟨1, (some 92), none, (.q (.mov (.t 1))), []⟩ :: ⟨2, (some 93), none, (.q (.mov (.t 7))), []⟩ :: ⟨3, (some 94), none, (.q (.isl 2 (.t 92) (.t 93))), []⟩ :: ⟨4, (some 95), none, (.q (.fad 1 (.t 94))), []⟩ :: ⟨5, (some 96), none, (.q (.ldc (.t 95))), []⟩ :: hid l_EncTakes_41
@[simp] def b_EncTakes_43 (_ : Unit) : EB := reg1 (hid l_EncTakes_40) 13
@[simp] def l_EncTakes_45 (_ : Unit) : List EOp := [⟨6, (some 106), none, (.q (.ldc (.t 105))), []⟩, ⟨8, (some 108), none, (.q (.mov (.t 14))), []⟩, ⟨7, (some 107), none, (.call 19 [(.t 101), (.t 106)]), [0, 8]⟩, ⟨9, (some 109), none, (.q (.bin .eql (.t 107) (.t 108))), []⟩, ⟨10, none, none, (.fz (.sto 2 (.t 6) (.t 100))), [8, 9]⟩, ⟨11, (some 8), none, (.q (.mov (.t 109))), []⟩]
@[simp] def l_EncTakes_44 (_ : Unit) : List EOp := ⟨0, (some 100), none, (.q (.lda 2 (.t 13))), []⟩ :: ⟨1, (some 101), none, (.q (.mov (.t 5))), []⟩ :: ⟨2, (some 102), none, (.q (.mov (.t 1))), []⟩ :: ⟨3, (some 103), none, (.q (.mov (.t 7))), []⟩ :: ⟨4, (some 104), none, (.q (.isl 2 (.t 102) (.t 103))), []⟩ :: ⟨5, (some 105), none, (.q (.fad 1 (.t 104))), []⟩ :: hid l_EncTakes_45
@[simp] def b_EncTakes_46 (_ : Unit) : EB := reg1 (hid l_EncTakes_44) 12
@[simp] def b_EncTakes_47 (_ : Unit) : EB := .seq (hid b_EncTakes_43) (hid b_EncTakes_46)
@[simp] def l_EncTakes_48 (_ : Unit) : List EOp := [⟨0, (some 111), none, (.q (.bin .eql (.t 41) (.k (.int .i64 3)))), []⟩, ⟨1, (some 110), none, (.q (.mov (.t 111))), []⟩]
@[simp] def b_EncTakes_49 (_ : Unit) : EB := reg0 (hid l_EncTakes_48) 2
@[simp] def l_EncTakes_52 (_ : Unit) : List EOp := [⟨12, (some 16), none, (.q (.mov (.t 121))), []⟩]
@[simp] def l_EncTakes_51 (_ : Unit) : List EOp := ⟨10, (some 15), none, (.q (.alloc 29 [(.slice none 0 0), (.int .i64 0)])), []⟩ :: ⟨6, (some 119), none, (.call 16 [(.t 113), (.t 118)]), [10]⟩ :: ⟨7, (some 112), none, (.q (.mov (.t 119))), []⟩ :: ⟨8, (some 120), none, (.q (.ext 0 (.t 112))), []⟩ :: ⟨9, (some 121), none, (.q (.ext 1 (.t 112))), []⟩ :: ⟨11, none, none, (.fz (.sto 2 (.t 15) (.t 120))), [9]⟩ :: hid l_EncTakes_52
@[simp] def l_EncTakes_50 (_ : Unit) : List EOp := ⟨0, (some 113), none, (.q (.lda 2 (.t 6))), []⟩ :: ⟨1, (some 114), none, (.q (.mov (.t 1))), []⟩ :: ⟨2, (some 115), none, (.q (.mov (.t 7))), []⟩ :: ⟨3, (some 116), none, (.q (.isl 2 (.t 114) (.t 115))), []⟩ :: ⟨4, (some 117), none, (.q (.fad 1 (.t 116))), []⟩ :: ⟨5, (some 118), none, (.q (.ldc (.t 117))), []⟩ :: hid l_EncTakes_51
@[simp] def b_EncTakes_53 (_ : Unit) : EB := reg1 (hid l_EncTakes_50) 13
@[simp] def l_EncTakes_56 (_ : Unit) : List EOp := [⟨12, none, none, (.fz (.sto 2 (.t 6) (.t 122))), [9, 10, 8, 11]⟩, ⟨13, (some 8), none, (.q (.mov (.t 133))), []⟩]
@[simp] def l_EncTakes_55 (_ : Unit) : List EOp := ⟨6, (some 128), none, (.q (.ldc (.t 127))), []⟩ :: ⟨9, (some 131), none, (.q (.mov (.t 16))), []⟩ :: ⟨10, (some 132), none, (.q (.b2s (.t 131))), []⟩ :: ⟨7, (some 129), none, (.call 15 [(.t 123), (.t 128)]), [0, 9, 10]⟩ :: ⟨8, (some 130), none, (.q (.b2s (.t 129))), []⟩ :: ⟨11, (some 133), none, (.q (.bin .eql (.t 130) (.t 132))), []⟩ :: hid l_EncTakes_56
@[simp] def l_EncTakes_54 (_ : Unit) : List EOp := ⟨0, (some 122), none, (.q (.lda 2 (.t 15))), []⟩ :: ⟨1, (some 123), none, (.q (.mov (.t 5))), []⟩ :: ⟨2, (some 124), none, (.q (.mov (.t 1))), []⟩ :: ⟨3, (some 125), none, (.q (.mov (.t 7))), []⟩ :: ⟨4, (some 126), none, (.q (.isl 2 (.t 124) (.t 125))), []⟩ :: ⟨5, (some 127), none, (.q (.fad 1 (.t 126))), []⟩ :: hid l_EncTakes_55
@[simp] def b_EncTakes_57 (_ : Unit) : EB := reg1 (hid l_EncTakes_54) 14
@[simp] def b_EncTakes_58 (_ : Unit) : EB := .seq (hid b_EncTakes_53) (hid b_EncTakes_57)
@[simp] def l_EncTakes_60 (_ : Unit) : List EOp := [⟨6, (some 18), none, (.q (.alloc 52 zU8)), []⟩, ⟨7, none, none, (.fz (.sto 2 (.t 17) (.t 45))), []⟩, ⟨8, none, none, (.sto 32 (.t 18) (.t 46)), []⟩]
@[simp] def l_EncTakes_59 (_ : Unit) : List EOp := ⟨0, (some 43), none, (.q (.lda 2 (.t 6))), []⟩ :: ⟨1, (some 44), none, (.call 20 [(.t 43)]), []⟩ :: ⟨2, (some 42), none, (.q (.mov (.t 44))), []⟩ :: ⟨3, (some 45), none, (.q (.ext 0 (.t 42))), []⟩ :: ⟨4, (some 46), none, (.q (.ext 1 (.t 42))), []⟩ :: ⟨5, (some 17), none, (.q (.alloc 29 [(.slice none 0 0), (.int .i64 0)])), []⟩ :: hid l_EncTakes_60
@[simp] def b_EncTakes_61 (_ : Unit) : EB := reg0 (hid l_EncTakes_59) 9
@[simp] def l_EncTakes_63 (_ : Unit) : List EOp := [⟨6, (some 8), none, (.q (.mov (.t 51))), []⟩]
@[simp] def l_EncTakes_62 (_ : Unit) : List EOp := ⟨0, (some 47), none, (.q (.lda 2 (.t 17))), []⟩ :: ⟨1, (some 48), none, (.q (.mov (.t 5))), []⟩ :: ⟨3, (some 50), none, (.q (.lda 32 (.t 18))), []⟩ :: ⟨2, (some 49), none, (.call 21 [(.t 48)]), [0, 3]⟩ :: ⟨4, (some 51), none, (.q (.eqa false 32 .u8 (.t 49) (.t 50))), []⟩ :: ⟨5, none, none, (.fz (.sto 2 (.t 6) (.t 47))), [3, 4]⟩ :: hid l_EncTakes_63
@[simp] def b_EncTakes_64 (_ : Unit) : EB := reg1 (hid l_EncTakes_62) 7
@[simp] def b_EncTakes_65 (_ : Unit) : EB := .seq (hid b_EncTakes_61) (hid b_EncTakes_64)
@[simp] def b_EncTakes_66 (_ : Unit) : EB := .cond (.t 110) (hid b_EncTakes_58) (hid b_EncTakes_65)
@[simp] def b_EncTakes_67 (_ : Unit) : EB := .seq (hid b_EncTakes_49) (hid b_EncTakes_66)
@[simp] def b_EncTakes_68 (_ : Unit) : EB := .cond (.t 88) (hid b_EncTakes_47) (hid b_EncTakes_67)
@[simp] def b_EncTakes_69 (_ : Unit) : EB := .seq (hid b_EncTakes_39) (hid b_EncTakes_68)
@[simp] def b_EncTakes_70 (_ : Unit) : EB := .cond (.t 76) (hid b_EncTakes_37) (hid b_EncTakes_69)
@[simp] def b_EncTakes_71 (_ : Unit) : EB := .seq (hid b_EncTakes_30) (hid b_EncTakes_70)
@[simp] def b_EncTakes_72 (_ : Unit) : EB := .cond (.t 52) (hid b_EncTakes_28) (hid b_EncTakes_71)
@[simp] def b_EncTakes_73 (_ : Unit) : EB := .seq (hid b_EncTakes_19) (hid b_EncTakes_72)
@[simp] def b_EncTakes_74 (_ : Unit) : EB := .block 2 (hid b_EncTakes_73)
@[simp] def b_EncTakes_75 (_ : Unit) : EB := .seq (hid b_EncTakes_17) (hid b_EncTakes_74)
@[simp] def l_EncTakes_78 (_ : Unit) : List EOp := [⟨13, (some 147), (some (144, false)), (.q (.fad 0 (.t 6))), []⟩, ⟨14, (some 148), (some (144, false)), (.q (.ldc (.t 147))), []⟩, ⟨15, (some 149), (some (144, false)), (.q (.len (.t 148))), []⟩, ⟨12, (some 146), (some (144, false)), (.call 17 [(.t 145)]), [13, 14, 15]⟩, ⟨16, (some 150), (some (144, false)), (.q (.bin .neq (.t 146) (.t 149))), []⟩, ⟨17, (some 151), none, (.q (.pick (.t 144) (.k (.bool true)) (.t 150))), []⟩]
@[simp] def l_EncTakes_77 (_ : Unit) : List EOp := ⟨5, (some 139), (some (136, false)), (.call 11 [(.t 138)]), [6]⟩ :: ⟨7, (some 141), (some (136, false)), (.call 13 [(.t 140)]), []⟩ :: ⟨8, (some 142), (some (136, false)), (.q (.bin .neq (.t 139) (.t 141))), []⟩ :: ⟨9, (some 143), none, (.q (.pick (.t 136) (.k (.bool true)) (.t 142))), []⟩ :: ⟨10, (some 144), none, (.q (.mov (.t 143))), []⟩ :: ⟨11, (some 145), (some (144, false)), (.q (.mov (.t 5))), []⟩ :: hid l_EncTakes_78
@[simp] def l_EncTakes_76 (_ : Unit) : List EOp := ⟨0, (some 134), none, (.q (.mov (.t 8))), []⟩ :: ⟨1, (some 135), none, (.q (.un .not (.t 134))), []⟩ :: ⟨2, (some 136), none, (.q (.mov (.t 135))), []⟩ :: ⟨3, (some 137), (some (136, false)), (.q (.mov (.t 5))), []⟩ :: ⟨6, (some 140), (some (136, false)), (.q (.lda 2 (.t 6))), []⟩ :: ⟨4, (some 138), (some (136, false)), (.call 12 [(.t 137)]), [6]⟩ :: hid l_EncTakes_77
@[simp] def b_EncTakes_79 (_ : Unit) : EB := reg1 (hid l_EncTakes_76) 18
@[simp] def l_EncTakes_80 (_ : Unit) : List EOp := [⟨0, (some 4), none, (.q (.mov (.k (.bool false)))), []⟩]
@[simp] def b_EncTakes_81 (_ : Unit) : EB := reg0 (hid l_EncTakes_80) 1
@[simp] def b_EncTakes_82 (_ : Unit) : EB := .seq (hid b_EncTakes_81) .ret
@[simp] def b_EncTakes_83 (_ : Unit) : EB := .cond (.t 151) (hid b_EncTakes_82) .skip
@[simp] def b_EncTakes_84 (_ : Unit) : EB := .seq (hid b_EncTakes_79) (hid b_EncTakes_83)
@[simp] def b_EncTakes_85 (_ : Unit) : EB := .seq (hid b_EncTakes_75) (hid b_EncTakes_84)
@[simp] def b_EncTakes_86 (_ : Unit) : EB := .seq (hid b_EncTakes_14) (hid b_EncTakes_85)
@[simp] def b_EncTakes_87 (_ : Unit) : EB := .block 1 (hid b_EncTakes_86)
@[simp] def l_EncTakes_88 (_ : Unit) : List EOp := [⟨0, (some 32), none, (.q (.mov (.t 7))), []⟩, ⟨1, (some 33), none, (.q (.bin .add (.t 32) (.k (.int .i64 1)))), []⟩, ⟨2, (some 7), none, (.q (.mov (.t 33))), []⟩]
@[simp] def b_EncTakes_89 (_ : Unit) : EB := reg0 (hid l_EncTakes_88) 3
@[simp] def b_EncTakes_90 (_ : Unit) : EB := .seq (hid b_EncTakes_87) (hid b_EncTakes_89)
@[simp] def b_EncTakes_91 (_ : Unit) : EB := .seq (hid b_EncTakes_12) (hid b_EncTakes_90)
@[simp] def b_EncTakes_92 (_ : Unit) : EB := .loop (hid b_EncTakes_91)
@[simp] def b_EncTakes_93 (_ : Unit) : EB := .block 0 (hid b_EncTakes_92)
@[simp] def b_EncTakes_94 (_ : Unit) : EB := .seq (hid b_EncTakes_7) (hid b_EncTakes_93)
@[simp] def l_EncTakes_95 (_ : Unit) : List EOp := [⟨0, (some 19), none, (.q (.mov (.k (.pointer none)))), []⟩]
@[simp] def b_EncTakes_96 (_ : Unit) : EB := reg0 (hid l_EncTakes_95) 1
@[simp] def l_EncTakes_103 (_ : Unit) : List EOp := [⟨36, (some 188), none, (.q (.mov (.t 187))), []⟩, ⟨37, (some 189), (some (188, true)), (.call 14 []), []⟩, ⟨38, (some 190), none, (.q (.pick (.t 188) (.t 189) (.k (.bool false)))), []⟩, ⟨39, (some 4), none, (.q (.mov (.t 190))), []⟩]
@[simp] def l_EncTakes_102 (_ : Unit) : List EOp := ⟨30, (some 182), none, (.q (.pick (.t 177) (.t 181) (.k (.bool false)))), []⟩ :: ⟨31, (some 183), none, (.q (.mov (.t 182))), []⟩ :: ⟨32, (some 184), (some (183, true)), (.q (.mov (.t 19))), []⟩ :: ⟨33, (some 185), (some (183, true)), (.call 17 [(.t 184)]), []⟩ :: ⟨34, (some 186), (some (183, true)), (.q (.bin .eql (.t 185) (.k (.int .i64 0)))), []⟩ :: ⟨35, (some 187), none, (.q (.pick (.t 183) (.t 186) (.k (.bool false)))), []⟩ :: hid l_EncTakes_103
@[simp] def l_EncTakes_101 (_ : Unit) : List EOp := ⟨24, (some 176), none, (.q (.pick (.t 171) (.t 175) (.k (.bool false)))), []⟩ :: ⟨25, (some 177), none, (.q (.mov (.t 176))), []⟩ :: ⟨26, (some 178), (some (177, true)), (.q (.mov (.t 19))), []⟩ :: ⟨27, (some 179), (some (177, true)), (.call 21 [(.t 178)]), []⟩ :: ⟨28, (some 180), (some (177, true)), (.q (.build zU8 [])), []⟩ :: ⟨29, (some 181), (some (177, true)), (.q (.eqa false 32 .u8 (.t 179) (.t 180))), []⟩ :: hid l_EncTakes_102
@[simp] def l_EncTakes_100 (_ : Unit) : List EOp := ⟨18, (some 170), none, (.q (.pick (.t 166) (.t 169) (.k (.bool false)))), []⟩ :: ⟨19, (some 171), none, (.q (.mov (.t 170))), []⟩ :: ⟨20, (some 172), (some (171, true)), (.q (.mov (.t 19))), []⟩ :: ⟨21, (some 173), (some (171, true)), (.call 15 [(.t 172), (.k (.int .i64 9))]), []⟩ :: ⟨22, (some 174), (some (171, true)), (.q (.len (.t 173))), []⟩ :: ⟨23, (some 175), (some (171, true)), (.q (.bin .eql (.t 174) (.k (.int .i64 0)))), []⟩ :: hid l_EncTakes_101
@[simp] def l_EncTakes_99 (_ : Unit) : List EOp := ⟨12, (some 164), (some (161, true)), (.q (.bin .eql (.t 163) (.k (.int .i64 0)))), []⟩ :: ⟨13, (some 165), none, (.q (.pick (.t 161) (.t 164) (.k (.bool false)))), []⟩ :: ⟨14, (some 166), none, (.q (.mov (.t 165))), []⟩ :: ⟨15, (some 167), (some (166, true)), (.q (.mov (.t 19))), []⟩ :: ⟨16, (some 168), (some (166, true)), (.call 19 [(.t 167), (.k (.int .i64 9))]), []⟩ :: ⟨17, (some 169), (some (166, true)), (.q (.bin .eql (.t 168) (.k (.int .i64 0)))), []⟩ :: hid l_EncTakes_100
@[simp] def l_EncTakes_98 (_ : Unit) : List EOp := ⟨6, (some 158), (some (156, true)), (.call 8 [(.t 157), (.k (.int .u64 9))]), []⟩ :: ⟨7, (some 159), (some (156, true)), (.q (.bin .eql (.t 158) (.k (.int .u64 0)))), []⟩ :: ⟨8, (some 160), none, (.q (.pick (.t 156) (.t 159) (.k (.bool false)))), []⟩ :: ⟨9, (some 161), none, (.q (.mov (.t 160))), []⟩ :: ⟨10, (some 162), (some (161, true)), (.q (.mov (.t 19))), []⟩ :: ⟨11, (some 163), (some (161, true)), (.call 7 [(.t 162)]), []⟩ :: hid l_EncTakes_99
@[simp] def l_EncTakes_97 (_ : Unit) : List EOp := ⟨0, (some 152), none, (.q (.mov (.t 19))), []⟩ :: ⟨1, (some 153), none, (.call 12 [(.t 152)]), []⟩ :: ⟨2, (some 154), none, (.call 11 [(.t 153)]), []⟩ :: ⟨3, (some 155), none, (.q (.bin .eql (.t 154) (.k (.int .i64 1)))), []⟩ :: ⟨4, (some 156), none, (.q (.mov (.t 155))), []⟩ :: ⟨5, (some 157), (some (156, true)), (.q (.mov (.t 19))), []⟩ :: hid l_EncTakes_98
@[simp] def b_EncTakes_104 (_ : Unit) : EB := reg0 (hid l_EncTakes_97) 40
@[simp] def b_EncTakes_105 (_ : Unit) : EB := .seq (hid b_EncTakes_104) .ret
@[simp] def b_EncTakes_106 (_ : Unit) : EB := .seq (hid b_EncTakes_96) (hid b_EncTakes_105)
@[simp] def b_EncTakes_107 (_ : Unit) : EB := .seq (hid b_EncTakes_94) (hid b_EncTakes_106)
@[simp] def b_EncTakes_108 (_ : Unit) : EB := .seq (hid b_EncTakes_5) (hid b_EncTakes_107)
@[simp] def b_EncTakes_109 (_ : Unit) : EB := .seq (hid b_EncTakes_2) (hid b_EncTakes_108)
def c_EncTakes : EB × List QOp × Nat := ((hid b_EncTakes_109), [(.mov (.t 4))], 191)
theorem k_EncTakes : cfun Tryd.prog 5 = some c_EncTakes := by kernel_rfl


theorem RdLeft_nil : ECalls Tryd.prog 17 [NP] [] fun y H' => H' = [] ∧ y = I .i64 0 := by
  refine ecalls k_RdLeft ?_
  simp [c_RdLeft, NP]
  exact fin [] (by decide) rfl rfl rfl ⟨rfl, rfl⟩

theorem RdInt_nil : ECalls Tryd.prog 7 [NP] [] fun y H' => H' = [] ∧ y = I .i64 0 := by
  refine ecalls k_RdInt ?_
  simp [c_RdInt, NP]
  refine call0 off_nil (by simp [NP]) ?_
  rintro y H' ⟨rfl, rfl⟩
  simp
  exact fin [] (by decide) rfl rfl rfl ⟨rfl, rfl⟩

/-- What is asked: its kind, a bound. -/
def askF (q : Int × Int) : List FV := [.lit (.int .i64 q.1), .lit (.int .i64 q.2)]
def askv (l : List (Int × Int)) : List (List FV) := l.map askF
@[simp] theorem askv_len (l : List (Int × Int)) : (askv l).length = l.length := by simp [askv]
theorem askv_get {l : List (Int × Int)} {i : Nat} {p : Int × Int} (h : l[i]? = some p) : (askv l)[i]? = some (askF p) := by simp [askv, h]
def Asks (l : List (Int × Int)) : EV := .v (.c (.fz (.sl 2 (askv l))))
theorem ak_eq (k : Int) (u : Nat) (hu : IntKind.u64.wrap k = (u : Int)) : IntKind.i64.wrap ((u : Int).tmod 5) = ((u % 5 : Nat) : Int) := by
  rw [Int.tmod_eq_emod_of_nonneg (by omega), wrap_i64 (by omega) (by omega)]
  omega
--GEN
theorem uS_p {b : List UInt8} {e most : Nat} : (uS b e most).2.2 ≤ b.length := by
  unfold uS
  split
  · simp
  · exact (numS_ok b most).2.2.1
theorem jS_p {b : List UInt8} {e : Nat} : (jS b e).2.2 ≤ b.length := by
  unfold jS
  split
  · simp
  · exact intS_len b
theorem nS_p {b : List UInt8} {e : Nat} {most : Int} : (nS b e most).2.2 ≤ b.length := by
  have := numS_ok b (max 0 most).toNat
  unfold nS cntS
  split
  · simp
  · dsimp only
    split
    · simp
    split
    · simp
    · exact this.2.2.1
theorem yS_p {b : List UInt8} {e : Nat} {most : Int} : (yS b e most).2.2 ≤ b.length := by
  unfold yS bytZ
  split
  · simp
  split
  · simp
  · exact (bytS_len b _).1
theorem aS_p {b : List UInt8} {e : Nat} : (aS b e).2.2 ≤ b.length ∧ (aS b e).2.1.length = 32 := by
  unfold aS hashS
  split
  · simp [hz]
  split
  · simp [hz]
  · rename_i h; simp; omega

set_option maxRecDepth 8000 in
set_option maxHeartbeats 8000000 in
theorem EncTakes_ok (l : List UInt8) (ak : List (Int × Int)) (hl : l.length ≤ 100000000) (ha : ∀ q ∈ ak, (-9223372036854775808 ≤ q.1 ∧ q.1 ≤ 9223372036854775807) ∧ (-9223372036854775808 ≤ q.2 ∧ q.2 ≤ 9223372036854775807)) (hal : ak.length ≤ 100000000) :
    ECalls Tryd.prog 5 [Bs l, Asks ak] [] fun y H' => H' = [] ∧ y = .lit (.bool true) := by
  have hl' : l.length ≤ 1000000000 := by omega
  refine ecalls k_EncTakes ?_
  simp [c_EncTakes, Bs, Asks]
  refine call0 (Read_ok l) (by simp [Ptr, NP, I, R, RdO, Bs, EV.lit, RV, rvC]) ?_
  rintro y H' ⟨rfl, rfl⟩
  refine ⟨.inl (by simp [Ptr, NP, I, R, RdO, Bs, EV.lit, RV, rvC]), le_ok rfl, ?_⟩
  simp [Ptr, NP, I, R, RdO, Bs, EV.lit, RV, rvC]
  refine eloop (α := Nat × Nat × Nat) (fun s => s.1 ≤ ak.length ∧ s.1 ≤ 100 ∧ s.2.1 ≤ l.length) (fun s => 100 - s.1)
    (fun s => [.any, Asks ak, .any, .any, .any, Ptr 0, Ptr 1, I .i64 s.1, .any, .any, .any, .any, .any, .any, .any, .any, .any, .any, .any, .any, .any, .any, .any, .any, .any, .any, .any, .any, .any, .any, .any, .any, .any, .any, .any, .any, .any, .any, .any, .any, .any, .any, .any, .any, .any, .any, .any, .any, .any, .any, .any, .any, .any, .any, .any, .any, .any, .any, .any, .any, .any, .any, .any, .any, .any, .any, .any, .any, .any, .any, .any, .any, .any, .any, .any, .any, .any, .any, .any, .any, .any, .any, .any, .any, .any, .any, .any, .any, .any, .any, .any, .any, .any, .any, .any, .any, .any, .any, .any, .any, .any, .any, .any, .any, .any, .any, .any, .any, .any, .any, .any, .any, .any, .any, .any, .any, .any, .any, .any, .any, .any, .any, .any, .any, .any, .any, .any, .any, .any, .any, .any, .any, .any, .any, .any, .any, .any, .any, .any, .any, .any, .any, .any, .any, .any, .any, .any, .any, .any, .any, .any, .any, .any, .any, .any, .any, .any, .any, .any, .any, .any, .any, .any, .any, .any, .any, .any, .any, .any, .any, .any, .any, .any, .any, .any, .any, .any, .any, .any, .any, .any, .any, .any, .any, .any, .any, .any, .any, .any, .any, .any]) (fun s => [some (RdO l s.2.1 s.2.2), some (.box 29 (rvC (l.drop s.2.1) s.2.2))]) (0, 0, 0) [32, 80]
    ⟨by simp, by simp, by simp⟩ (by simp [Ptr, I, Asks]) (by simp [RdO, rvC]) (by simp) (by simp) (by simp) ?_
  rintro ⟨i, p, e⟩ ⟨hi, hi2, hp⟩
  simp only at hi hi2 hp
  simp [Ptr, I, Asks, RdO, rvC]
  by_cases hr : i < ak.length ∧ (i : Int) < 100
  · obtain ⟨hlt, h100⟩ := hr
    obtain ⟨⟨k, m⟩, hci⟩ : ∃ q, ak[i]? = some q := ⟨ak[i], by simp [hlt]⟩
    obtain ⟨⟨k1, k2⟩, ⟨m1, m2⟩⟩ := ha (k, m) (List.mem_of_getElem? hci)
    simp only at k1 k2 m1 m2
    have hcb := askv_get hci
    have hxe : (askv ak)[i]'(by simpa using hlt) = askF (k, m) := by rw [List.getElem?_eq_getElem (by simpa using hlt)] at hcb; exact Option.some.inj hcb
    obtain ⟨u, hu⟩ : ∃ u, u64n k = u := ⟨_, rfl⟩
    have hul := u64n_lt m
    have w0 : IntKind.u64.wrap k = (u : Int) := by rw [wrap_u64n, hu]
    have w1 := wrap_u64n m
    have w2 : IntKind.i64.wrap ((i : Int) + 1) = ((i + 1 : Nat) : Int) := wrap_i64 (by omega) (by omega)
    have hk := ak_eq k u w0
    simp [hlt, h100, hcb, hxe, askF, w0]
    refine alt (fun k0 => ?_) (fun k0 => ?_)
    · obtain ⟨q, hq⟩ : ∃ q, uS (l.drop p) e (u64n m) = q := ⟨_, rfl⟩
      have ra := RReadUint_all (l.drop p) e (u64n m) (by simp; omega)
      have rb := RdUint_all l p e (u64n m) hp hl' hul
      have hp2 := uS_p (b := l.drop p) (e := e) (most := u64n m)
      rw [hq] at ra rb hp2
      rw [List.drop_drop] at ra
      rw [List.length_drop] at hp2
      simp [hcb, askF, w1]
      refine call0 (ra) (by simp [Ptr, NP, I, R, RdO, Bs, EV.lit, RV, rvC]) ?_
      rintro y H' ⟨rfl, rfl⟩
      refine ⟨.inl (by simp [Ptr, NP, I, R, RdO, Bs, EV.lit, RV, rvC]), le_ok rfl, ?_⟩
      simp [rvC, I, Bs, Ag, w1, hcb, askF]
      refine callH [0] (rb) (by simp [Ptr, NP, I, R, RdO, Bs, EV.lit, RV, rvC]) (by simp [Ptr, NP, I, R, RdO, Bs, EV.lit, RV, rvC]) (by simp) (by simp [Ptr, NP, I, R, RdO, Bs, EV.lit, RV, rvC]) (by simp [Wok]) ?_
      rintro y H' ⟨rfl, rfl⟩
      refine ⟨.inl (by simp [Ptr, NP, I, R, RdO, Bs, EV.lit, RV, rvC]), le_ok rfl, ?_⟩
      simp [rvC, I, Bs, Ag]
      refine callH [0] (RdDone' l (p + q.2.2) q.1 (by omega)) (by simp [Ptr, NP, I, R, RdO, Bs, EV.lit, RV, rvC]) (by simp [Ptr, NP, I, R, RdO, Bs, EV.lit, RV, rvC]) (by simp) (by simp [Ptr, NP, I, R, RdO, Bs, EV.lit, RV, rvC]) (by simp [Wok]) ?_
      rintro y H' ⟨rfl, rfl⟩
      refine ⟨.inl (by simp [Ptr, NP, I, R, RdO, Bs, EV.lit, RV, rvC]), le_ok rfl, ?_⟩
      simp
      refine call0 (num_e (doneS (l.length - (p + q.2.2)) q.1)) (by simp [Ptr, NP, I, R, RdO, Bs, EV.lit, RV, rvC]) ?_
      rintro y H' ⟨rfl, rfl⟩
      refine ⟨.inl (by simp [Ptr, NP, I, R, RdO, Bs, EV.lit, RV, rvC]), le_ok rfl, ?_⟩
      simp [Ptr, NP, I, R, RdO, Bs, EV.lit, RV, rvC]
      refine call0 (RDone' (l.drop (p + q.2.2)) q.1) (by simp [Ptr, NP, I, R, RdO, Bs, EV.lit, RV, rvC]) ?_
      rintro y H' ⟨rfl, rfl⟩
      refine ⟨.inl (by simp [Ptr, NP, I, R, RdO, Bs, EV.lit, RV, rvC]), le_ok rfl, ?_⟩
      simp [I, List.length_drop]
      refine callH [0] (RdLeft_ok l (p + q.2.2) q.1 (by omega)) (by simp [Ptr, NP, I, R, RdO, Bs, EV.lit, RV, rvC]) (by simp [Ptr, NP, I, R, RdO, Bs, EV.lit, RV, rvC]) (by simp) (by simp [Ptr, NP, I, R, RdO, Bs, EV.lit, RV, rvC]) (by simp [Wok]) ?_
      rintro y H' ⟨rfl, rfl⟩
      refine ⟨.inl (by simp [Ptr, NP, I, R, RdO, Bs, EV.lit, RV, rvC]), le_ok rfl, ?_⟩
      simp [I, w2, -Int.natCast_add]
      exact round (i + 1, p + q.2.2, q.1) [0, 1] ⟨by simp; omega, by simp; omega, by simp; omega⟩ (by simp; omega) (by simp) (by simp [RdO, RV]) (by simp) (by simp) (by simp)
    simp [hk]
    refine alt (fun k1 => ?_) (fun k1 => ?_)
    · obtain ⟨q, hq⟩ : ∃ q, jS (l.drop p) e = q := ⟨_, rfl⟩
      have ra := RReadInt_all (l.drop p) e (by simp; omega)
      have rb := RdInt_all l p e hp hl'
      have hp2 := jS_p (b := l.drop p) (e := e)
      rw [hq] at ra rb hp2
      rw [List.drop_drop] at ra
      rw [List.length_drop] at hp2
      simp [hcb, askF, w1]
      refine call0 (ra) (by simp [Ptr, NP, I, R, RdO, Bs, EV.lit, RV, rvC]) ?_
      rintro y H' ⟨rfl, rfl⟩
      refine ⟨.inl (by simp [Ptr, NP, I, R, RdO, Bs, EV.lit, RV, rvC]), le_ok rfl, ?_⟩
      simp [rvC, I, Bs, Ag, w1, hcb, askF]
      refine callH [0] (rb) (by simp [Ptr, NP, I, R, RdO, Bs, EV.lit, RV, rvC]) (by simp [Ptr, NP, I, R, RdO, Bs, EV.lit, RV, rvC]) (by simp) (by simp [Ptr, NP, I, R, RdO, Bs, EV.lit, RV, rvC]) (by simp [Wok]) ?_
      rintro y H' ⟨rfl, rfl⟩
      refine ⟨.inl (by simp [Ptr, NP, I, R, RdO, Bs, EV.lit, RV, rvC]), le_ok rfl, ?_⟩
      simp [rvC, I, Bs, Ag]
      refine callH [0] (RdDone' l (p + q.2.2) q.1 (by omega)) (by simp [Ptr, NP, I, R, RdO, Bs, EV.lit, RV, rvC]) (by simp [Ptr, NP, I, R, RdO, Bs, EV.lit, RV, rvC]) (by simp) (by simp [Ptr, NP, I, R, RdO, Bs, EV.lit, RV, rvC]) (by simp [Wok]) ?_
      rintro y H' ⟨rfl, rfl⟩
      refine ⟨.inl (by simp [Ptr, NP, I, R, RdO, Bs, EV.lit, RV, rvC]), le_ok rfl, ?_⟩
      simp
      refine call0 (num_e (doneS (l.length - (p + q.2.2)) q.1)) (by simp [Ptr, NP, I, R, RdO, Bs, EV.lit, RV, rvC]) ?_
      rintro y H' ⟨rfl, rfl⟩
      refine ⟨.inl (by simp [Ptr, NP, I, R, RdO, Bs, EV.lit, RV, rvC]), le_ok rfl, ?_⟩
      simp [Ptr, NP, I, R, RdO, Bs, EV.lit, RV, rvC]
      refine call0 (RDone' (l.drop (p + q.2.2)) q.1) (by simp [Ptr, NP, I, R, RdO, Bs, EV.lit, RV, rvC]) ?_
      rintro y H' ⟨rfl, rfl⟩
      refine ⟨.inl (by simp [Ptr, NP, I, R, RdO, Bs, EV.lit, RV, rvC]), le_ok rfl, ?_⟩
      simp [I, List.length_drop]
      refine callH [0] (RdLeft_ok l (p + q.2.2) q.1 (by omega)) (by simp [Ptr, NP, I, R, RdO, Bs, EV.lit, RV, rvC]) (by simp [Ptr, NP, I, R, RdO, Bs, EV.lit, RV, rvC]) (by simp) (by simp [Ptr, NP, I, R, RdO, Bs, EV.lit, RV, rvC]) (by simp [Wok]) ?_
      rintro y H' ⟨rfl, rfl⟩
      refine ⟨.inl (by simp [Ptr, NP, I, R, RdO, Bs, EV.lit, RV, rvC]), le_ok rfl, ?_⟩
      simp [I, w2, -Int.natCast_add]
      exact round (i + 1, p + q.2.2, q.1) [0, 1] ⟨by simp; omega, by simp; omega, by simp; omega⟩ (by simp; omega) (by simp) (by simp [RdO, RV]) (by simp) (by simp) (by simp)
    simp [hk]
    refine alt (fun k2 => ?_) (fun k2 => ?_)
    · obtain ⟨q, hq⟩ : ∃ q, nS (l.drop p) e m = q := ⟨_, rfl⟩
      have ra := RReadCount_all (l.drop p) e m (by simp; omega) ⟨m1, m2⟩
      have rb := RdCount_all l p e m hp hl' ⟨m1, m2⟩
      have hp2 := nS_p (b := l.drop p) (e := e) (most := m)
      rw [hq] at ra rb hp2
      rw [List.drop_drop] at ra
      rw [List.length_drop] at hp2
      simp [hcb, askF, w1]
      refine call0 (ra) (by simp [Ptr, NP, I, R, RdO, Bs, EV.lit, RV, rvC]) ?_
      rintro y H' ⟨rfl, rfl⟩
      refine ⟨.inl (by simp [Ptr, NP, I, R, RdO, Bs, EV.lit, RV, rvC]), le_ok rfl, ?_⟩
      simp [rvC, I, Bs, Ag, w1, hcb, askF]
      refine callH [0] (rb) (by simp [Ptr, NP, I, R, RdO, Bs, EV.lit, RV, rvC]) (by simp [Ptr, NP, I, R, RdO, Bs, EV.lit, RV, rvC]) (by simp) (by simp [Ptr, NP, I, R, RdO, Bs, EV.lit, RV, rvC]) (by simp [Wok]) ?_
      rintro y H' ⟨rfl, rfl⟩
      refine ⟨.inl (by simp [Ptr, NP, I, R, RdO, Bs, EV.lit, RV, rvC]), le_ok rfl, ?_⟩
      simp [rvC, I, Bs, Ag]
      refine callH [0] (RdDone' l (p + q.2.2) q.1 (by omega)) (by simp [Ptr, NP, I, R, RdO, Bs, EV.lit, RV, rvC]) (by simp [Ptr, NP, I, R, RdO, Bs, EV.lit, RV, rvC]) (by simp) (by simp [Ptr, NP, I, R, RdO, Bs, EV.lit, RV, rvC]) (by simp [Wok]) ?_
      rintro y H' ⟨rfl, rfl⟩
      refine ⟨.inl (by simp [Ptr, NP, I, R, RdO, Bs, EV.lit, RV, rvC]), le_ok rfl, ?_⟩
      simp
      refine call0 (num_e (doneS (l.length - (p + q.2.2)) q.1)) (by simp [Ptr, NP, I, R, RdO, Bs, EV.lit, RV, rvC]) ?_
      rintro y H' ⟨rfl, rfl⟩
      refine ⟨.inl (by simp [Ptr, NP, I, R, RdO, Bs, EV.lit, RV, rvC]), le_ok rfl, ?_⟩
      simp [Ptr, NP, I, R, RdO, Bs, EV.lit, RV, rvC]
      refine call0 (RDone' (l.drop (p + q.2.2)) q.1) (by simp [Ptr, NP, I, R, RdO, Bs, EV.lit, RV, rvC]) ?_
      rintro y H' ⟨rfl, rfl⟩
      refine ⟨.inl (by simp [Ptr, NP, I, R, RdO, Bs, EV.lit, RV, rvC]), le_ok rfl, ?_⟩
      simp [I, List.length_drop]
      refine callH [0] (RdLeft_ok l (p + q.2.2) q.1 (by omega)) (by simp [Ptr, NP, I, R, RdO, Bs, EV.lit, RV, rvC]) (by simp [Ptr, NP, I, R, RdO, Bs, EV.lit, RV, rvC]) (by simp) (by simp [Ptr, NP, I, R, RdO, Bs, EV.lit, RV, rvC]) (by simp [Wok]) ?_
      rintro y H' ⟨rfl, rfl⟩
      refine ⟨.inl (by simp [Ptr, NP, I, R, RdO, Bs, EV.lit, RV, rvC]), le_ok rfl, ?_⟩
      simp [I, w2, -Int.natCast_add]
      exact round (i + 1, p + q.2.2, q.1) [0, 1] ⟨by simp; omega, by simp; omega, by simp; omega⟩ (by simp; omega) (by simp) (by simp [RdO, RV]) (by simp) (by simp) (by simp)
    simp [hk]
    refine alt (fun k3 => ?_) (fun k3 => ?_)
    · obtain ⟨q, hq⟩ : ∃ q, yS (l.drop p) e m = q := ⟨_, rfl⟩
      have ra := RReadBytes_all (l.drop p) e m (by simp; omega)
      have rb := RdBytes_all l p e m hp hl'
      have hp2 := yS_p (b := l.drop p) (e := e) (most := m)
      rw [hq] at ra rb hp2
      rw [List.drop_drop] at ra
      rw [List.length_drop] at hp2
      simp [hcb, askF, w1]
      refine call0 (ra) (by simp [Ptr, NP, I, R, RdO, Bs, EV.lit, RV, rvC]) ?_
      rintro y H' ⟨rfl, rfl⟩
      refine ⟨.inl (by simp [Ptr, NP, I, R, RdO, Bs, EV.lit, RV, rvC]), le_ok rfl, ?_⟩
      simp [rvC, I, Bs, Ag, w1, hcb, askF]
      refine callH [0] (rb) (by simp [Ptr, NP, I, R, RdO, Bs, EV.lit, RV, rvC]) (by simp [Ptr, NP, I, R, RdO, Bs, EV.lit, RV, rvC]) (by simp) (by simp [Ptr, NP, I, R, RdO, Bs, EV.lit, RV, rvC]) (by simp [Wok]) ?_
      rintro y H' ⟨rfl, rfl⟩
      refine ⟨.inl (by simp [Ptr, NP, I, R, RdO, Bs, EV.lit, RV, rvC]), le_ok rfl, ?_⟩
      simp [rvC, I, Bs, Ag]
      refine callH [0] (RdDone' l (p + q.2.2) q.1 (by omega)) (by simp [Ptr, NP, I, R, RdO, Bs, EV.lit, RV, rvC]) (by simp [Ptr, NP, I, R, RdO, Bs, EV.lit, RV, rvC]) (by simp) (by simp [Ptr, NP, I, R, RdO, Bs, EV.lit, RV, rvC]) (by simp [Wok]) ?_
      rintro y H' ⟨rfl, rfl⟩
      refine ⟨.inl (by simp [Ptr, NP, I, R, RdO, Bs, EV.lit, RV, rvC]), le_ok rfl, ?_⟩
      simp
      refine call0 (num_e (doneS (l.length - (p + q.2.2)) q.1)) (by simp [Ptr, NP, I, R, RdO, Bs, EV.lit, RV, rvC]) ?_
      rintro y H' ⟨rfl, rfl⟩
      refine ⟨.inl (by simp [Ptr, NP, I, R, RdO, Bs, EV.lit, RV, rvC]), le_ok rfl, ?_⟩
      simp [Ptr, NP, I, R, RdO, Bs, EV.lit, RV, rvC]
      refine call0 (RDone' (l.drop (p + q.2.2)) q.1) (by simp [Ptr, NP, I, R, RdO, Bs, EV.lit, RV, rvC]) ?_
      rintro y H' ⟨rfl, rfl⟩
      refine ⟨.inl (by simp [Ptr, NP, I, R, RdO, Bs, EV.lit, RV, rvC]), le_ok rfl, ?_⟩
      simp [I, List.length_drop]
      refine callH [0] (RdLeft_ok l (p + q.2.2) q.1 (by omega)) (by simp [Ptr, NP, I, R, RdO, Bs, EV.lit, RV, rvC]) (by simp [Ptr, NP, I, R, RdO, Bs, EV.lit, RV, rvC]) (by simp) (by simp [Ptr, NP, I, R, RdO, Bs, EV.lit, RV, rvC]) (by simp [Wok]) ?_
      rintro y H' ⟨rfl, rfl⟩
      refine ⟨.inl (by simp [Ptr, NP, I, R, RdO, Bs, EV.lit, RV, rvC]), le_ok rfl, ?_⟩
      simp [I, w2, -Int.natCast_add]
      exact round (i + 1, p + q.2.2, q.1) [0, 1] ⟨by simp; omega, by simp; omega, by simp; omega⟩ (by simp; omega) (by simp) (by simp [RdO, RV]) (by simp) (by simp) (by simp)
    obtain ⟨q, hq⟩ : ∃ q, aS (l.drop p) e = q := ⟨_, rfl⟩
    have ra := RReadHash_all (l.drop p) e (by simp; omega)
    have rb := RdHash_all l p e hp hl'
    have hp2 := aS_p (b := l.drop p) (e := e)
    rw [hq] at ra rb hp2
    rw [List.drop_drop] at ra
    rw [List.length_drop] at hp2
    simp [hcb, askF, w1]
    refine call0 (ra) (by simp [Ptr, NP, I, R, RdO, Bs, EV.lit, RV, rvC]) ?_
    rintro y H' ⟨rfl, rfl⟩
    refine ⟨.inl (by simp [Ptr, NP, I, R, RdO, Bs, EV.lit, RV, rvC]), le_ok rfl, ?_⟩
    simp [rvC, I, Bs, Ag, w1, hcb, askF, hp2.2, hp2.2]
    refine callH [0] (rb) (by simp [Ptr, NP, I, R, RdO, Bs, EV.lit, RV, rvC]) (by simp [Ptr, NP, I, R, RdO, Bs, EV.lit, RV, rvC]) (by simp) (by simp [Ptr, NP, I, R, RdO, Bs, EV.lit, RV, rvC]) (by simp [Wok]) ?_
    rintro y H' ⟨rfl, rfl⟩
    refine ⟨.inl (by simp [Ptr, NP, I, R, RdO, Bs, EV.lit, RV, rvC]), le_ok rfl, ?_⟩
    simp [rvC, I, Bs, Ag, hp2.2, hp2.2]
    refine callH [0] (RdDone' l (p + q.2.2) q.1 (by omega)) (by simp [Ptr, NP, I, R, RdO, Bs, EV.lit, RV, rvC]) (by simp [Ptr, NP, I, R, RdO, Bs, EV.lit, RV, rvC]) (by simp) (by simp [Ptr, NP, I, R, RdO, Bs, EV.lit, RV, rvC]) (by simp [Wok]) ?_
    rintro y H' ⟨rfl, rfl⟩
    refine ⟨.inl (by simp [Ptr, NP, I, R, RdO, Bs, EV.lit, RV, rvC]), le_ok rfl, ?_⟩
    simp
    refine call0 (num_e (doneS (l.length - (p + q.2.2)) q.1)) (by simp [Ptr, NP, I, R, RdO, Bs, EV.lit, RV, rvC]) ?_
    rintro y H' ⟨rfl, rfl⟩
    refine ⟨.inl (by simp [Ptr, NP, I, R, RdO, Bs, EV.lit, RV, rvC]), le_ok rfl, ?_⟩
    simp [Ptr, NP, I, R, RdO, Bs, EV.lit, RV, rvC]
    refine call0 (RDone' (l.drop (p + q.2.2)) q.1) (by simp [Ptr, NP, I, R, RdO, Bs, EV.lit, RV, rvC]) ?_
    rintro y H' ⟨rfl, rfl⟩
    refine ⟨.inl (by simp [Ptr, NP, I, R, RdO, Bs, EV.lit, RV, rvC]), le_ok rfl, ?_⟩
    simp [I, List.length_drop]
    refine callH [0] (RdLeft_ok l (p + q.2.2) q.1 (by omega)) (by simp [Ptr, NP, I, R, RdO, Bs, EV.lit, RV, rvC]) (by simp [Ptr, NP, I, R, RdO, Bs, EV.lit, RV, rvC]) (by simp) (by simp [Ptr, NP, I, R, RdO, Bs, EV.lit, RV, rvC]) (by simp [Wok]) ?_
    rintro y H' ⟨rfl, rfl⟩
    refine ⟨.inl (by simp [Ptr, NP, I, R, RdO, Bs, EV.lit, RV, rvC]), le_ok rfl, ?_⟩
    simp [I, w2, -Int.natCast_add]
    exact round (i + 1, p + q.2.2, q.1) [0, 1] ⟨by simp; omega, by simp; omega, by simp; omega⟩ (by simp; omega) (by simp) (by simp [RdO, RV]) (by simp) (by simp) (by simp)
  by_cases hlt : i < ak.length
  · have h100 : ¬ (i : Int) < 100 := fun h => hr ⟨hlt, h⟩
    simp [hlt, h100]
    refine call0 (RdDone_nil) (by simp [Ptr, NP, I, R, RdO, Bs, EV.lit, RV, rvC]) ?_
    rintro y H' ⟨rfl, rfl⟩
    refine ⟨.inl (by simp [Ptr, NP, I, R, RdO, Bs, EV.lit, RV, rvC]), le_ok rfl, ?_⟩
    simp [Ptr, NP, I, R, RdO, Bs, EV.lit, RV, rvC]
    refine call0 (num_e 1) (by simp [Ptr, NP, I, R, RdO, Bs, EV.lit, RV, rvC]) ?_
    rintro y H' ⟨rfl, rfl⟩
    refine ⟨.inl (by simp [Ptr, NP, I, R, RdO, Bs, EV.lit, RV, rvC]), le_ok rfl, ?_⟩
    simp [Ptr, NP, I, R, RdO, Bs, EV.lit, RV, rvC]
    refine call0 (RdUint_nil 9) (by simp [Ptr, NP, I, R, RdO, Bs, EV.lit, RV, rvC]) ?_
    rintro y H' ⟨rfl, rfl⟩
    refine ⟨.inl (by simp [Ptr, NP, I, R, RdO, Bs, EV.lit, RV, rvC]), le_ok rfl, ?_⟩
    simp [Ptr, NP, I, R, RdO, Bs, EV.lit, RV, rvC]
    refine call0 (RdInt_nil) (by simp [Ptr, NP, I, R, RdO, Bs, EV.lit, RV, rvC]) ?_
    rintro y H' ⟨rfl, rfl⟩
    refine ⟨.inl (by simp [Ptr, NP, I, R, RdO, Bs, EV.lit, RV, rvC]), le_ok rfl, ?_⟩
    simp [Ptr, NP, I, R, RdO, Bs, EV.lit, RV, rvC]
    refine call0 (RdCount_nil 9) (by simp [Ptr, NP, I, R, RdO, Bs, EV.lit, RV, rvC]) ?_
    rintro y H' ⟨rfl, rfl⟩
    refine ⟨.inl (by simp [Ptr, NP, I, R, RdO, Bs, EV.lit, RV, rvC]), le_ok rfl, ?_⟩
    simp [Ptr, NP, I, R, RdO, Bs, EV.lit, RV, rvC]
    refine call0 (RdBytes_nil 9) (by simp [Ptr, NP, I, R, RdO, Bs, EV.lit, RV, rvC]) ?_
    rintro y H' ⟨rfl, rfl⟩
    refine ⟨.inl (by simp [Ptr, NP, I, R, RdO, Bs, EV.lit, RV, rvC]), le_ok rfl, ?_⟩
    simp [Ptr, NP, I, R, RdO, Bs, EV.lit, RV, rvC]
    refine call0 (RdHash_nil) (by simp [Ptr, NP, I, R, RdO, Bs, EV.lit, RV, rvC]) ?_
    rintro y H' ⟨rfl, rfl⟩
    refine ⟨.inl (by simp [Ptr, NP, I, R, RdO, Bs, EV.lit, RV, rvC]), le_ok rfl, ?_⟩
    simp [Ag]
    refine call0 (RdLeft_nil) (by simp [Ptr, NP, I, R, RdO, Bs, EV.lit, RV, rvC]) ?_
    rintro y H' ⟨rfl, rfl⟩
    refine ⟨.inl (by simp [Ptr, NP, I, R, RdO, Bs, EV.lit, RV, rvC]), le_ok rfl, ?_⟩
    simp [Ptr, NP, I, R, RdO, Bs, EV.lit, RV, rvC]
    refine call0 (sure_ok) (by simp [Ptr, NP, I, R, RdO, Bs, EV.lit, RV, rvC]) ?_
    rintro y H' ⟨rfl, rfl⟩
    refine ⟨.inl (by simp [Ptr, NP, I, R, RdO, Bs, EV.lit, RV, rvC]), le_ok rfl, ?_⟩
    simp [Ptr, NP, I, R, RdO, Bs, EV.lit, RV, rvC]
    exact fin [] (by decide) rfl rfl rfl ⟨rfl, rfl⟩
  · simp [hlt]
    refine call0 (RdDone_nil) (by simp [Ptr, NP, I, R, RdO, Bs, EV.lit, RV, rvC]) ?_
    rintro y H' ⟨rfl, rfl⟩
    refine ⟨.inl (by simp [Ptr, NP, I, R, RdO, Bs, EV.lit, RV, rvC]), le_ok rfl, ?_⟩
    simp [Ptr, NP, I, R, RdO, Bs, EV.lit, RV, rvC]
    refine call0 (num_e 1) (by simp [Ptr, NP, I, R, RdO, Bs, EV.lit, RV, rvC]) ?_
    rintro y H' ⟨rfl, rfl⟩
    refine ⟨.inl (by simp [Ptr, NP, I, R, RdO, Bs, EV.lit, RV, rvC]), le_ok rfl, ?_⟩
    simp [Ptr, NP, I, R, RdO, Bs, EV.lit, RV, rvC]
    refine call0 (RdUint_nil 9) (by simp [Ptr, NP, I, R, RdO, Bs, EV.lit, RV, rvC]) ?_
    rintro y H' ⟨rfl, rfl⟩
    refine ⟨.inl (by simp [Ptr, NP, I, R, RdO, Bs, EV.lit, RV, rvC]), le_ok rfl, ?_⟩
    simp [Ptr, NP, I, R, RdO, Bs, EV.lit, RV, rvC]
    refine call0 (RdInt_nil) (by simp [Ptr, NP, I, R, RdO, Bs, EV.lit, RV, rvC]) ?_
    rintro y H' ⟨rfl, rfl⟩
    refine ⟨.inl (by simp [Ptr, NP, I, R, RdO, Bs, EV.lit, RV, rvC]), le_ok rfl, ?_⟩
    simp [Ptr, NP, I, R, RdO, Bs, EV.lit, RV, rvC]
    refine call0 (RdCount_nil 9) (by simp [Ptr, NP, I, R, RdO, Bs, EV.lit, RV, rvC]) ?_
    rintro y H' ⟨rfl, rfl⟩
    refine ⟨.inl (by simp [Ptr, NP, I, R, RdO, Bs, EV.lit, RV, rvC]), le_ok rfl, ?_⟩
    simp [Ptr, NP, I, R, RdO, Bs, EV.lit, RV, rvC]
    refine call0 (RdBytes_nil 9) (by simp [Ptr, NP, I, R, RdO, Bs, EV.lit, RV, rvC]) ?_
    rintro y H' ⟨rfl, rfl⟩
    refine ⟨.inl (by simp [Ptr, NP, I, R, RdO, Bs, EV.lit, RV, rvC]), le_ok rfl, ?_⟩
    simp [Ptr, NP, I, R, RdO, Bs, EV.lit, RV, rvC]
    refine call0 (RdHash_nil) (by simp [Ptr, NP, I, R, RdO, Bs, EV.lit, RV, rvC]) ?_
    rintro y H' ⟨rfl, rfl⟩
    refine ⟨.inl (by simp [Ptr, NP, I, R, RdO, Bs, EV.lit, RV, rvC]), le_ok rfl, ?_⟩
    simp [Ag]
    refine call0 (RdLeft_nil) (by simp [Ptr, NP, I, R, RdO, Bs, EV.lit, RV, rvC]) ?_
    rintro y H' ⟨rfl, rfl⟩
    refine ⟨.inl (by simp [Ptr, NP, I, R, RdO, Bs, EV.lit, RV, rvC]), le_ok rfl, ?_⟩
    simp [Ptr, NP, I, R, RdO, Bs, EV.lit, RV, rvC]
    refine call0 (sure_ok) (by simp [Ptr, NP, I, R, RdO, Bs, EV.lit, RV, rvC]) ?_
    rintro y H' ⟨rfl, rfl⟩
    refine ⟨.inl (by simp [Ptr, NP, I, R, RdO, Bs, EV.lit, RV, rvC]), le_ok rfl, ?_⟩
    simp [Ptr, NP, I, R, RdO, Bs, EV.lit, RV, rvC]
    exact fin [] (by decide) rfl rfl rfl ⟨rfl, rfl⟩

end Go.Proofs.YtbbcofojjgofmaaDoor
