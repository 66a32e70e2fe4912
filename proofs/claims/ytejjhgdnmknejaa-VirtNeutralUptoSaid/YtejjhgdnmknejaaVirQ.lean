import Derived.Test.YtejjhgdnmknejaaVirP
import Derived.Test.YtejjhgdnmknejaaVirI
namespace Go.Proofs.Ytejjhgdnmknejaa
open Go Go.EW
set_option linter.unusedSimpArgs false
set_option linter.unusedVariables false

@[simp] def l_VirtNeutral_1 (_ : Unit) : List EOp := [⟨0, (some 3), none, (.q (.box 22 (.t 0))), []⟩, ⟨1, (some 4), none, (.q (.box 23 (.t 1))), []⟩, ⟨2, (some 6), none, (.q (.mov (.k (.bool false)))), []⟩]
@[simp] def b_VirtNeutral_2 (_ : Unit) : EB := reg0 (hid l_VirtNeutral_1) 3
@[simp] def l_VirtNeutral_5 (_ : Unit) : List EOp := [⟨12, none, none, (.fz (.sto 5 (.t 9) (.t 23))), []⟩]
@[simp] def l_VirtNeutral_4 (_ : Unit) : List EOp := ⟨6, (some 23), none, (.q (.ext 2 (.t 17))), []⟩ :: ⟨7, (some 7), none, (.q (.alloc 33 (zU8 ++ (([(.int .i64 0), (.int .i64 0), (.int .i64 0), (.int .i64 0), (.int .i64 0), (.int .i64 0)] : List Value) ++ zU8 ++ [(.int .i64 0), (.int .i64 0), (.int .i64 0), (.int .i64 0), (.int .i64 0), (.int .i64 0), (.int .i64 0), (.int .i64 0), (.int .i64 0), (.int .i64 0), (.int .i64 0)])))), []⟩ :: ⟨8, (some 8), none, (.q (.alloc 37 [(.int .i64 0), (.int .i64 0), (.int .i64 0), (.slice none 0 0), (.slice none 0 0)])), []⟩ :: ⟨9, (some 9), none, (.q (.alloc 37 [(.int .i64 0), (.int .i64 0), (.int .i64 0), (.slice none 0 0), (.slice none 0 0)])), []⟩ :: ⟨10, none, none, (.sto 81 (.t 7) (.t 21)), []⟩ :: ⟨11, none, none, (.fz (.sto 5 (.t 8) (.t 22))), []⟩ :: hid l_VirtNeutral_5
@[simp] def l_VirtNeutral_3 (_ : Unit) : List EOp := ⟨0, (some 18), none, (.q (.lda 4 (.t 3))), []⟩ :: ⟨1, (some 19), none, (.q (.lda 2 (.t 4))), []⟩ :: ⟨2, (some 20), none, (.call 4 [(.t 18), (.t 19)]), []⟩ :: ⟨3, (some 17), none, (.q (.mov (.t 20))), []⟩ :: ⟨4, (some 21), none, (.q (.ext 0 (.t 17))), []⟩ :: ⟨5, (some 22), none, (.q (.ext 1 (.t 17))), []⟩ :: hid l_VirtNeutral_4
@[simp] def b_VirtNeutral_6 (_ : Unit) : EB := reg0 (hid l_VirtNeutral_3) 13
@[simp] def l_VirtNeutral_9 (_ : Unit) : List EOp := [⟨12, (some 12), none, (.q (.mov (.t 31))), []⟩]
@[simp] def l_VirtNeutral_8 (_ : Unit) : List EOp := ⟨6, (some 30), none, (.q (.ext 1 (.t 24))), []⟩ :: ⟨7, (some 31), none, (.q (.ext 2 (.t 24))), []⟩ :: ⟨8, (some 10), none, (.q (.alloc 37 [(.int .i64 0), (.int .i64 0), (.int .i64 0), (.slice none 0 0), (.slice none 0 0)])), []⟩ :: ⟨9, (some 11), none, (.q (.alloc 37 [(.int .i64 0), (.int .i64 0), (.int .i64 0), (.slice none 0 0), (.slice none 0 0)])), []⟩ :: ⟨10, none, none, (.fz (.sto 5 (.t 10) (.t 29))), []⟩ :: ⟨11, none, none, (.fz (.sto 5 (.t 11) (.t 30))), []⟩ :: hid l_VirtNeutral_9
@[simp] def l_VirtNeutral_7 (_ : Unit) : List EOp := ⟨0, (some 25), none, (.q (.lda 81 (.t 7))), []⟩ :: ⟨1, (some 26), none, (.q (.lda 5 (.t 8))), []⟩ :: ⟨2, (some 27), none, (.q (.lda 5 (.t 9))), []⟩ :: ⟨3, (some 28), none, (.call 5 [(.t 25), (.k (.int .i64 1)), (.t 26), (.t 27)]), []⟩ :: ⟨4, (some 24), none, (.q (.mov (.t 28))), []⟩ :: ⟨5, (some 29), none, (.q (.ext 0 (.t 24))), []⟩ :: hid l_VirtNeutral_8
@[simp] def b_VirtNeutral_10 (_ : Unit) : EB := reg0 (hid l_VirtNeutral_7) 13
@[simp] def l_VirtNeutral_12 (_ : Unit) : List EOp := [⟨6, (some 38), none, (.q (.bin .rem (.t 33) (.t 37))), []⟩, ⟨7, (some 39), none, (.q (.cnv .i64 (.t 38))), []⟩, ⟨8, (some 13), none, (.q (.mov (.t 39))), []⟩]
@[simp] def l_VirtNeutral_11 (_ : Unit) : List EOp := ⟨0, (some 32), none, (.q (.mov (.t 2))), []⟩ :: ⟨1, (some 33), none, (.q (.cnv .u64 (.t 32))), []⟩ :: ⟨2, (some 34), none, (.q (.fad 79 (.t 7))), []⟩ :: ⟨3, (some 35), none, (.q (.ldc (.t 34))), []⟩ :: ⟨4, (some 36), none, (.q (.bin .add (.t 35) (.k (.int .i64 1)))), []⟩ :: ⟨5, (some 37), none, (.q (.cnv .u64 (.t 36))), []⟩ :: hid l_VirtNeutral_12
@[simp] def b_VirtNeutral_13 (_ : Unit) : EB := reg0 (hid l_VirtNeutral_11) 9
@[simp] def l_VirtNeutral_16 (_ : Unit) : List EOp := [⟨12, none, none, (.fz (.sto 5 (.t 15) (.t 47))), []⟩, ⟨13, (some 16), none, (.q (.mov (.t 48))), []⟩]
@[simp] def l_VirtNeutral_15 (_ : Unit) : List EOp := ⟨6, (some 46), none, (.q (.ext 0 (.t 40))), []⟩ :: ⟨7, (some 47), none, (.q (.ext 1 (.t 40))), []⟩ :: ⟨8, (some 48), none, (.q (.ext 2 (.t 40))), []⟩ :: ⟨9, (some 14), none, (.q (.alloc 37 [(.int .i64 0), (.int .i64 0), (.int .i64 0), (.slice none 0 0), (.slice none 0 0)])), []⟩ :: ⟨10, (some 15), none, (.q (.alloc 37 [(.int .i64 0), (.int .i64 0), (.int .i64 0), (.slice none 0 0), (.slice none 0 0)])), []⟩ :: ⟨11, none, none, (.fz (.sto 5 (.t 14) (.t 46))), []⟩ :: hid l_VirtNeutral_16
@[simp] def l_VirtNeutral_14 (_ : Unit) : List EOp := ⟨0, (some 41), none, (.q (.lda 81 (.t 7))), []⟩ :: ⟨1, (some 42), none, (.q (.mov (.t 13))), []⟩ :: ⟨2, (some 43), none, (.q (.lda 5 (.t 10))), []⟩ :: ⟨3, (some 44), none, (.q (.lda 5 (.t 11))), []⟩ :: ⟨4, (some 45), none, (.call 6 [(.t 41), (.k (.int .i64 1)), (.t 42), (.t 43), (.t 44)]), []⟩ :: ⟨5, (some 40), none, (.q (.mov (.t 45))), []⟩ :: hid l_VirtNeutral_15
@[simp] def b_VirtNeutral_17 (_ : Unit) : EB := reg0 (hid l_VirtNeutral_14) 14
@[simp] def l_VirtNeutral_18 (_ : Unit) : List EOp := [⟨0, (some 49), none, (.q (.mov (.t 12))), []⟩, ⟨1, (some 50), none, (.q (.eqi true (.t 49))), []⟩, ⟨2, (some 51), none, (.q (.mov (.t 50))), []⟩, ⟨3, (some 52), (some (51, false)), (.q (.mov (.t 16))), []⟩, ⟨4, (some 53), (some (51, false)), (.q (.eqi true (.t 52))), []⟩, ⟨5, (some 54), none, (.q (.pick (.t 51) (.k (.bool true)) (.t 53))), []⟩]
@[simp] def b_VirtNeutral_19 (_ : Unit) : EB := reg0 (hid l_VirtNeutral_18) 6
@[simp] def l_VirtNeutral_20 (_ : Unit) : List EOp := [⟨0, (some 6), none, (.q (.mov (.k (.bool false)))), []⟩]
@[simp] def b_VirtNeutral_21 (_ : Unit) : EB := reg0 (hid l_VirtNeutral_20) 1
@[simp] def b_VirtNeutral_22 (_ : Unit) : EB := .seq (hid b_VirtNeutral_21) .ret
@[simp] def b_VirtNeutral_23 (_ : Unit) : EB := .cond (.t 54) (hid b_VirtNeutral_22) .skip
@[simp] def b_VirtNeutral_24 (_ : Unit) : EB := .seq (hid b_VirtNeutral_19) (hid b_VirtNeutral_23)
@[simp] def l_VirtNeutral_30 (_ : Unit) : List EOp := [⟨32, (some 87), (some (77, false)), (.q (.ldc (.t 86))), []⟩, ⟨26, (some 81), (some (77, false)), (.call 7 [(.t 79), (.t 80), (.k (.int .i64 1))]), [27, 28, 29, 31, 32]⟩, ⟨30, (some 85), (some (77, false)), (.call 7 [(.t 83), (.t 84), (.k (.int .i64 1))]), [31, 32]⟩, ⟨33, (some 88), (some (77, false)), (.q (.bin .sub (.t 85) (.t 87))), []⟩, ⟨34, (some 89), (some (77, false)), (.q (.bin .neq (.t 81) (.t 88))), []⟩, ⟨35, (some 90), none, (.q (.pick (.t 77) (.k (.bool true)) (.t 89))), []⟩]
@[simp] def l_VirtNeutral_29 (_ : Unit) : List EOp := ⟨24, (some 79), (some (77, false)), (.q (.lda 38 (.t 78))), []⟩ :: ⟨25, (some 80), (some (77, false)), (.q (.lda 5 (.t 10))), []⟩ :: ⟨27, (some 82), (some (77, false)), (.q (.fad 0 (.t 7))), []⟩ :: ⟨28, (some 83), (some (77, false)), (.q (.lda 38 (.t 82))), []⟩ :: ⟨29, (some 84), (some (77, false)), (.q (.lda 5 (.t 8))), []⟩ :: ⟨31, (some 86), (some (77, false)), (.q (.fad 79 (.t 7))), []⟩ :: hid l_VirtNeutral_30
@[simp] def l_VirtNeutral_28 (_ : Unit) : List EOp := ⟨16, (some 71), none, (.call 7 [(.t 69), (.t 70), (.k (.int .i64 2))]), [18, 19, 8]⟩ :: ⟨17, (some 72), none, (.q (.bin .add (.t 67) (.t 71))), []⟩ :: ⟨20, (some 75), none, (.q (.bin .sub (.t 72) (.t 74))), []⟩ :: ⟨21, (some 76), none, (.q (.bin .neq (.t 63) (.t 75))), []⟩ :: ⟨22, (some 77), none, (.q (.mov (.t 76))), []⟩ :: ⟨23, (some 78), (some (77, false)), (.q (.fad 0 (.t 7))), []⟩ :: hid l_VirtNeutral_29
@[simp] def l_VirtNeutral_27 (_ : Unit) : List EOp := ⟨18, (some 73), none, (.q (.fad 79 (.t 7))), []⟩ :: ⟨19, (some 74), none, (.q (.ldc (.t 73))), []⟩ :: ⟨3, (some 58), none, (.call 7 [(.t 56), (.t 57), (.k (.int .i64 2))]), [4, 5, 6, 9, 10, 11, 13, 14, 15, 18, 19]⟩ :: ⟨7, (some 62), none, (.call 7 [(.t 60), (.t 61), (.k (.int .i64 2))]), [9, 10, 11, 13, 14, 15, 18, 19]⟩ :: ⟨8, (some 63), none, (.q (.bin .add (.t 58) (.t 62))), []⟩ :: ⟨12, (some 67), none, (.call 7 [(.t 65), (.t 66), (.k (.int .i64 2))]), [13, 14, 15, 18, 19, 8]⟩ :: hid l_VirtNeutral_28
@[simp] def l_VirtNeutral_26 (_ : Unit) : List EOp := ⟨9, (some 64), none, (.q (.fad 0 (.t 7))), []⟩ :: ⟨10, (some 65), none, (.q (.lda 38 (.t 64))), []⟩ :: ⟨11, (some 66), none, (.q (.lda 5 (.t 8))), []⟩ :: ⟨13, (some 68), none, (.q (.fad 38 (.t 7))), []⟩ :: ⟨14, (some 69), none, (.q (.lda 38 (.t 68))), []⟩ :: ⟨15, (some 70), none, (.q (.lda 5 (.t 9))), []⟩ :: hid l_VirtNeutral_27
@[simp] def l_VirtNeutral_25 (_ : Unit) : List EOp := ⟨0, (some 55), none, (.q (.fad 0 (.t 7))), []⟩ :: ⟨1, (some 56), none, (.q (.lda 38 (.t 55))), []⟩ :: ⟨2, (some 57), none, (.q (.lda 5 (.t 10))), []⟩ :: ⟨4, (some 59), none, (.q (.fad 38 (.t 7))), []⟩ :: ⟨5, (some 60), none, (.q (.lda 38 (.t 59))), []⟩ :: ⟨6, (some 61), none, (.q (.lda 5 (.t 11))), []⟩ :: hid l_VirtNeutral_26
@[simp] def b_VirtNeutral_31 (_ : Unit) : EB := reg1 (hid l_VirtNeutral_25) 36
@[simp] def l_VirtNeutral_32 (_ : Unit) : List EOp := [⟨0, (some 6), none, (.q (.mov (.k (.bool false)))), []⟩]
@[simp] def b_VirtNeutral_33 (_ : Unit) : EB := reg0 (hid l_VirtNeutral_32) 1
@[simp] def b_VirtNeutral_34 (_ : Unit) : EB := .seq (hid b_VirtNeutral_33) .ret
@[simp] def b_VirtNeutral_35 (_ : Unit) : EB := .cond (.t 90) (hid b_VirtNeutral_34) .skip
@[simp] def b_VirtNeutral_36 (_ : Unit) : EB := .seq (hid b_VirtNeutral_31) (hid b_VirtNeutral_35)
@[simp] def l_VirtNeutral_47 (_ : Unit) : List EOp := [⟨60, (some 151), (some (150, true)), (.call 9 []), []⟩, ⟨61, (some 152), none, (.q (.pick (.t 150) (.t 151) (.k (.bool false)))), []⟩, ⟨62, (some 6), none, (.q (.mov (.t 152))), []⟩]
@[simp] def l_VirtNeutral_46 (_ : Unit) : List EOp := ⟨55, (some 146), (some (143, true)), (.q (.lda 5 (.t 9))), []⟩ :: ⟨54, (some 145), (some (143, true)), (.call 8 [(.t 144)]), [55]⟩ :: ⟨56, (some 147), (some (143, true)), (.call 8 [(.t 146)]), []⟩ :: ⟨57, (some 148), (some (143, true)), (.q (.bin .eql (.t 145) (.t 147))), []⟩ :: ⟨58, (some 149), none, (.q (.pick (.t 143) (.t 148) (.k (.bool false)))), []⟩ :: ⟨59, (some 150), none, (.q (.mov (.t 149))), []⟩ :: hid l_VirtNeutral_47
@[simp] def l_VirtNeutral_45 (_ : Unit) : List EOp := ⟨47, (some 138), (some (136, true)), (.call 8 [(.t 137)]), [48]⟩ :: ⟨49, (some 140), (some (136, true)), (.call 8 [(.t 139)]), []⟩ :: ⟨50, (some 141), (some (136, true)), (.q (.bin .eql (.t 138) (.t 140))), []⟩ :: ⟨51, (some 142), none, (.q (.pick (.t 136) (.t 141) (.k (.bool false)))), []⟩ :: ⟨52, (some 143), none, (.q (.mov (.t 142))), []⟩ :: ⟨53, (some 144), (some (143, true)), (.q (.lda 5 (.t 15))), []⟩ :: hid l_VirtNeutral_46
@[simp] def l_VirtNeutral_44 (_ : Unit) : List EOp := ⟨42, (some 133), (some (123, true)), (.q (.bin .add (.t 131) (.t 132))), []⟩ :: ⟨43, (some 134), (some (123, true)), (.q (.bin .eql (.t 127) (.t 133))), []⟩ :: ⟨44, (some 135), none, (.q (.pick (.t 123) (.t 134) (.k (.bool false)))), []⟩ :: ⟨45, (some 136), none, (.q (.mov (.t 135))), []⟩ :: ⟨46, (some 137), (some (136, true)), (.q (.lda 5 (.t 14))), []⟩ :: ⟨48, (some 139), (some (136, true)), (.q (.lda 5 (.t 8))), []⟩ :: hid l_VirtNeutral_45
@[simp] def l_VirtNeutral_43 (_ : Unit) : List EOp := ⟨37, (some 128), (some (123, true)), (.q (.fad 38 (.t 7))), []⟩ :: ⟨38, (some 129), (some (123, true)), (.q (.lda 38 (.t 128))), []⟩ :: ⟨39, (some 130), (some (123, true)), (.q (.lda 5 (.t 9))), []⟩ :: ⟨41, (some 132), (some (123, true)), (.q (.mov (.t 13))), []⟩ :: ⟨36, (some 127), (some (123, true)), (.call 7 [(.t 125), (.t 126), (.k (.int .i64 3))]), [37, 38, 39, 41]⟩ :: ⟨40, (some 131), (some (123, true)), (.call 7 [(.t 129), (.t 130), (.k (.int .i64 3))]), [41]⟩ :: hid l_VirtNeutral_44
@[simp] def l_VirtNeutral_42 (_ : Unit) : List EOp := ⟨30, (some 121), (some (110, true)), (.q (.bin .eql (.t 114) (.t 120))), []⟩ :: ⟨31, (some 122), none, (.q (.pick (.t 110) (.t 121) (.k (.bool false)))), []⟩ :: ⟨32, (some 123), none, (.q (.mov (.t 122))), []⟩ :: ⟨33, (some 124), (some (123, true)), (.q (.fad 38 (.t 7))), []⟩ :: ⟨34, (some 125), (some (123, true)), (.q (.lda 38 (.t 124))), []⟩ :: ⟨35, (some 126), (some (123, true)), (.q (.lda 5 (.t 15))), []⟩ :: hid l_VirtNeutral_43
@[simp] def l_VirtNeutral_41 (_ : Unit) : List EOp := ⟨25, (some 116), (some (110, true)), (.q (.lda 38 (.t 115))), []⟩ :: ⟨26, (some 117), (some (110, true)), (.q (.lda 5 (.t 8))), []⟩ :: ⟨28, (some 119), (some (110, true)), (.q (.mov (.t 13))), []⟩ :: ⟨23, (some 114), (some (110, true)), (.call 7 [(.t 112), (.t 113), (.k (.int .i64 1))]), [24, 25, 26, 28]⟩ :: ⟨27, (some 118), (some (110, true)), (.call 7 [(.t 116), (.t 117), (.k (.int .i64 1))]), [28]⟩ :: ⟨29, (some 120), (some (110, true)), (.q (.bin .sub (.t 118) (.t 119))), []⟩ :: hid l_VirtNeutral_42
@[simp] def l_VirtNeutral_40 (_ : Unit) : List EOp := ⟨18, (some 109), none, (.q (.bin .eql (.t 99) (.t 108))), []⟩ :: ⟨19, (some 110), none, (.q (.mov (.t 109))), []⟩ :: ⟨20, (some 111), (some (110, true)), (.q (.fad 0 (.t 7))), []⟩ :: ⟨21, (some 112), (some (110, true)), (.q (.lda 38 (.t 111))), []⟩ :: ⟨22, (some 113), (some (110, true)), (.q (.lda 5 (.t 14))), []⟩ :: ⟨24, (some 115), (some (110, true)), (.q (.fad 0 (.t 7))), []⟩ :: hid l_VirtNeutral_41
@[simp] def l_VirtNeutral_39 (_ : Unit) : List EOp := ⟨3, (some 94), none, (.call 7 [(.t 92), (.t 93), (.k (.int .i64 2))]), [4, 5, 6, 9, 10, 11, 13, 14, 15]⟩ :: ⟨7, (some 98), none, (.call 7 [(.t 96), (.t 97), (.k (.int .i64 2))]), [9, 10, 11, 13, 14, 15]⟩ :: ⟨8, (some 99), none, (.q (.bin .add (.t 94) (.t 98))), []⟩ :: ⟨12, (some 103), none, (.call 7 [(.t 101), (.t 102), (.k (.int .i64 2))]), [13, 14, 15, 8]⟩ :: ⟨16, (some 107), none, (.call 7 [(.t 105), (.t 106), (.k (.int .i64 2))]), [8]⟩ :: ⟨17, (some 108), none, (.q (.bin .add (.t 103) (.t 107))), []⟩ :: hid l_VirtNeutral_40
@[simp] def l_VirtNeutral_38 (_ : Unit) : List EOp := ⟨9, (some 100), none, (.q (.fad 0 (.t 7))), []⟩ :: ⟨10, (some 101), none, (.q (.lda 38 (.t 100))), []⟩ :: ⟨11, (some 102), none, (.q (.lda 5 (.t 8))), []⟩ :: ⟨13, (some 104), none, (.q (.fad 38 (.t 7))), []⟩ :: ⟨14, (some 105), none, (.q (.lda 38 (.t 104))), []⟩ :: ⟨15, (some 106), none, (.q (.lda 5 (.t 9))), []⟩ :: hid l_VirtNeutral_39
@[simp] def l_VirtNeutral_37 (_ : Unit) : List EOp := ⟨0, (some 91), none, (.q (.fad 0 (.t 7))), []⟩ :: ⟨1, (some 92), none, (.q (.lda 38 (.t 91))), []⟩ :: ⟨2, (some 93), none, (.q (.lda 5 (.t 14))), []⟩ :: ⟨4, (some 95), none, (.q (.fad 38 (.t 7))), []⟩ :: ⟨5, (some 96), none, (.q (.lda 38 (.t 95))), []⟩ :: ⟨6, (some 97), none, (.q (.lda 5 (.t 15))), []⟩ :: hid l_VirtNeutral_38
@[simp] def b_VirtNeutral_48 (_ : Unit) : EB := reg1 (hid l_VirtNeutral_37) 63
@[simp] def b_VirtNeutral_49 (_ : Unit) : EB := .seq (hid b_VirtNeutral_48) .ret
@[simp] def b_VirtNeutral_50 (_ : Unit) : EB := .seq (hid b_VirtNeutral_36) (hid b_VirtNeutral_49)
@[simp] def b_VirtNeutral_51 (_ : Unit) : EB := .seq (hid b_VirtNeutral_24) (hid b_VirtNeutral_50)
@[simp] def b_VirtNeutral_52 (_ : Unit) : EB := .seq (hid b_VirtNeutral_17) (hid b_VirtNeutral_51)
@[simp] def b_VirtNeutral_53 (_ : Unit) : EB := .seq (hid b_VirtNeutral_13) (hid b_VirtNeutral_52)
@[simp] def b_VirtNeutral_54 (_ : Unit) : EB := .seq (hid b_VirtNeutral_10) (hid b_VirtNeutral_53)
@[simp] def b_VirtNeutral_55 (_ : Unit) : EB := .seq (hid b_VirtNeutral_6) (hid b_VirtNeutral_54)
@[simp] def b_VirtNeutral_56 (_ : Unit) : EB := .seq (hid b_VirtNeutral_2) (hid b_VirtNeutral_55)
def c_VirtNeutral : EB × List QOp × Nat := ((hid b_VirtNeutral_56), [(.mov (.t 6))], 153)
theorem k_VirtNeutral : cfun Try.prog 3 = some c_VirtNeutral := by kernel_rfl


set_option maxRecDepth 8000 in
set_option maxHeartbeats 16000000 in
theorem neutral_core (k0 k1 k2 k3 k : Int) (b0 b1 : Bool) (r : Rte) (s t s1 t1 s2 t2 : Sta) (p A B C D E F G K J L M N Q : Int)
    (h1 : r.f.tx.length = 32) (h2 : r.s.tx.length = 32) (ha : 30 ≤ r.am ∧ r.am < 330)
    (hsm : ECalls Try.prog 4 [.v (.agg [iC k0, iC k1, iC k2, iC k3]), .v (.agg [.fz (.lit (.bool b0)), .fz (.lit (.bool b1))])] [] fun y H' => H' = [] ∧ y = .tup [.agg (rteC r), .agg (staC s), .agg (staC t)])
    (hop : ECalls Try.prog 5 [RVv r, I .i64 1, SV s, SV t] [] fun y H' => H' = [] ∧ y = SSE (s1, t1, 0))
    (hcl : ECalls Try.prog 6 [RVv r, I .i64 1, I .i64 p, SV s1, SV t1] [] fun y H' => H' = [] ∧ y = SSE (s2, t2, 0))
    (hp : (IntKind.u64.wrap k).tmod (r.am + 1) = p) (hpr : 0 ≤ p ∧ p ≤ r.am)
    (g1 : ECalls Try.prog 7 [PVv r.f, SV s1, I .i64 2] [] fun y H' => H' = [] ∧ y = I .i64 A)
    (g2 : ECalls Try.prog 7 [PVv r.s, SV t1, I .i64 2] [] fun y H' => H' = [] ∧ y = I .i64 B)
    (g3 : ECalls Try.prog 7 [PVv r.f, SV s, I .i64 2] [] fun y H' => H' = [] ∧ y = I .i64 C)
    (g4 : ECalls Try.prog 7 [PVv r.s, SV t, I .i64 2] [] fun y H' => H' = [] ∧ y = I .i64 D)
    (g5 : ECalls Try.prog 7 [PVv r.f, SV s1, I .i64 1] [] fun y H' => H' = [] ∧ y = I .i64 E)
    (g6 : ECalls Try.prog 7 [PVv r.f, SV s, I .i64 1] [] fun y H' => H' = [] ∧ y = I .i64 F)
    (g7 : ECalls Try.prog 7 [PVv r.f, SV s2, I .i64 2] [] fun y H' => H' = [] ∧ y = I .i64 G)
    (g8 : ECalls Try.prog 7 [PVv r.s, SV t2, I .i64 2] [] fun y H' => H' = [] ∧ y = I .i64 K)
    (g9 : ECalls Try.prog 7 [PVv r.f, SV s2, I .i64 1] [] fun y H' => H' = [] ∧ y = I .i64 J)
    (g10 : ECalls Try.prog 7 [PVv r.s, SV t2, I .i64 3] [] fun y H' => H' = [] ∧ y = I .i64 L)
    (g11 : ECalls Try.prog 7 [PVv r.s, SV t, I .i64 3] [] fun y H' => H' = [] ∧ y = I .i64 M)
    (g12 : ECalls Try.prog 8 [SV s2] [] fun y H' => H' = [] ∧ y = I .i64 N)
    (g13 : ECalls Try.prog 8 [SV s] [] fun y H' => H' = [] ∧ y = I .i64 N)
    (g14 : ECalls Try.prog 8 [SV t2] [] fun y H' => H' = [] ∧ y = I .i64 Q)
    (g15 : ECalls Try.prog 8 [SV t] [] fun y H' => H' = [] ∧ y = I .i64 Q)
    (rC : 0 ≤ C ∧ C < 9000) (rD : 0 ≤ D ∧ D < 9000) (rF : 0 ≤ F ∧ F < 9000) (rM : 0 ≤ M ∧ M < 9000)
    (q1 : A + B = C + D - r.am) (q2 : E = F - r.am) (q3 : G + K = C + D) (q4 : J = F - p) (q5 : L = M + p) :
    ECalls Try.prog 3 [.v (.agg [iC k0, iC k1, iC k2, iC k3]), .v (.agg [.fz (.lit (.bool b0)), .fz (.lit (.bool b1))]), I .i64 k] [] fun y H' => H' = [] ∧ y = .lit (.bool true) := by
  have l0 := rteC_len h1 h2
  have t0 := rt_take h1 h2
  have t38 := rt_t38 h1
  have s38 := rt_s38 h1 h2
  have e79 := idx_of (rt_79 h1 h2) (by omega)
  subst q2 q4 q5
  generalize hR : r.am = R at *
  have w1 : IntKind.i64.wrap (R + 1) = R + 1 := wrap_i64 (by omega) (by omega)
  have w2 : IntKind.u64.wrap (R + 1) = R + 1 := wrap_u64 (by omega) (by omega)
  have w3 : ¬ R + 1 = 0 := by omega
  have wp : IntKind.i64.wrap p = p := wrap_i64 (by omega) (by omega)
  have wAB : IntKind.i64.wrap (A + B) = C + D - R := by rw [q1]; exact wrap_i64 (by omega) (by omega)
  have wCD : IntKind.i64.wrap (C + D) = C + D := wrap_i64 (by omega) (by omega)
  have wCDa : IntKind.i64.wrap (C + D - R) = C + D - R := wrap_i64 (by omega) (by omega)
  have wFa : IntKind.i64.wrap (F - R) = F - R := wrap_i64 (by omega) (by omega)
  have wGH : IntKind.i64.wrap (G + K) = C + D := by rw [q3]; exact wCD
  have wFp : IntKind.i64.wrap (F - p) = F - p := wrap_i64 (by omega) (by omega)
  have wLp : IntKind.i64.wrap (M + p) = M + p := wrap_i64 (by omega) (by omega)
  have dz : List.drop 81 (hc hz ++ EC.fz (.lit (.int .i64 0)) :: EC.fz (.lit (.int .i64 0)) :: EC.fz (.lit (.int .i64 0)) :: EC.fz (.lit (.int .i64 0)) :: EC.fz (.lit (.int .i64 0)) :: EC.fz (.lit (.int .i64 0)) :: (hc hz ++ [EC.fz (.lit (.int .i64 0)), EC.fz (.lit (.int .i64 0)), EC.fz (.lit (.int .i64 0)), EC.fz (.lit (.int .i64 0)), EC.fz (.lit (.int .i64 0)), EC.fz (.lit (.int .i64 0)), EC.fz (.lit (.int .i64 0)), EC.fz (.lit (.int .i64 0)), EC.fz (.lit (.int .i64 0)), EC.fz (.lit (.int .i64 0)), EC.fz (.lit (.int .i64 0))])) = [] := rfl
  refine ecalls k_VirtNeutral ?_
  simp [c_VirtNeutral, I, RVv, PVv, SV, staC, SSE, iC, l0, t0, t38, s38, e79, w1, w2, w3, wp, hp, wAB, wCD, wCDa, wFa, wGH, wFp, wLp, dz, -errV_0]
  refine call0 hsm (by simp [iC]) ?_
  rintro y H' ⟨rfl, rfl⟩
  refine ⟨.inl (by simp), le_ok rfl, ?_⟩
  simp [I, RVv, PVv, SV, staC, SSE, iC, l0, t0, t38, s38, e79, w1, w2, w3, wp, hp, wAB, wCD, wCDa, wFa, wGH, wFp, wLp, dz]
  refine call0 hop (by simp [RVv, PVv, SV, staC, I]) ?_
  rintro y H' ⟨rfl, rfl⟩
  refine ⟨.inl (by simp [SSE, staC]), le_ok rfl, ?_⟩
  simp [I, RVv, PVv, SV, staC, SSE, iC, l0, t0, t38, s38, e79, w1, w2, w3, wp, hp, wAB, wCD, wCDa, wFa, wGH, wFp, wLp, dz]
  refine call0 hcl (by simp [RVv, PVv, SV, staC, I]) ?_
  rintro y H' ⟨rfl, rfl⟩
  refine ⟨.inl (by simp [SSE, staC]), le_ok rfl, ?_⟩
  simp [I, RVv, PVv, SV, staC, SSE, iC, l0, t0, t38, s38, e79, w1, w2, w3, wp, hp, wAB, wCD, wCDa, wFa, wGH, wFp, wLp, dz]
  refine call0 g1 (by simp [RVv, PVv, SV, staC, I]) ?_
  rintro y H' ⟨rfl, rfl⟩
  refine ⟨.inl (by simp [I, SSE]), le_ok rfl, ?_⟩
  simp [I, RVv, PVv, SV, staC, SSE, iC, l0, t0, t38, s38, e79, w1, w2, w3, wp, hp, wAB, wCD, wCDa, wFa, wGH, wFp, wLp, dz]
  refine call0 g2 (by simp [RVv, PVv, SV, staC, I]) ?_
  rintro y H' ⟨rfl, rfl⟩
  refine ⟨.inl (by simp [I, SSE]), le_ok rfl, ?_⟩
  simp [I, RVv, PVv, SV, staC, SSE, iC, l0, t0, t38, s38, e79, w1, w2, w3, wp, hp, wAB, wCD, wCDa, wFa, wGH, wFp, wLp, dz]
  refine call0 g3 (by simp [RVv, PVv, SV, staC, I]) ?_
  rintro y H' ⟨rfl, rfl⟩
  refine ⟨.inl (by simp [I, SSE]), le_ok rfl, ?_⟩
  simp [I, RVv, PVv, SV, staC, SSE, iC, l0, t0, t38, s38, e79, w1, w2, w3, wp, hp, wAB, wCD, wCDa, wFa, wGH, wFp, wLp, dz]
  refine call0 g4 (by simp [RVv, PVv, SV, staC, I]) ?_
  rintro y H' ⟨rfl, rfl⟩
  refine ⟨.inl (by simp [I, SSE]), le_ok rfl, ?_⟩
  simp [I, RVv, PVv, SV, staC, SSE, iC, l0, t0, t38, s38, e79, w1, w2, w3, wp, hp, wAB, wCD, wCDa, wFa, wGH, wFp, wLp, dz]
  refine call0 g5 (by simp [RVv, PVv, SV, staC, I]) ?_
  rintro y H' ⟨rfl, rfl⟩
  refine ⟨.inl (by simp [I, SSE]), le_ok rfl, ?_⟩
  simp [I, RVv, PVv, SV, staC, SSE, iC, l0, t0, t38, s38, e79, w1, w2, w3, wp, hp, wAB, wCD, wCDa, wFa, wGH, wFp, wLp, dz]
  refine call0 g6 (by simp [RVv, PVv, SV, staC, I]) ?_
  rintro y H' ⟨rfl, rfl⟩
  refine ⟨.inl (by simp [I, SSE]), le_ok rfl, ?_⟩
  simp [I, RVv, PVv, SV, staC, SSE, iC, l0, t0, t38, s38, e79, w1, w2, w3, wp, hp, wAB, wCD, wCDa, wFa, wGH, wFp, wLp, dz]
  refine call0 g7 (by simp [RVv, PVv, SV, staC, I]) ?_
  rintro y H' ⟨rfl, rfl⟩
  refine ⟨.inl (by simp [I, SSE]), le_ok rfl, ?_⟩
  simp [I, RVv, PVv, SV, staC, SSE, iC, l0, t0, t38, s38, e79, w1, w2, w3, wp, hp, wAB, wCD, wCDa, wFa, wGH, wFp, wLp, dz]
  refine call0 g8 (by simp [RVv, PVv, SV, staC, I]) ?_
  rintro y H' ⟨rfl, rfl⟩
  refine ⟨.inl (by simp [I, SSE]), le_ok rfl, ?_⟩
  simp [I, RVv, PVv, SV, staC, SSE, iC, l0, t0, t38, s38, e79, w1, w2, w3, wp, hp, wAB, wCD, wCDa, wFa, wGH, wFp, wLp, dz]
  refine call0 g3 (by simp [RVv, PVv, SV, staC, I]) ?_
  rintro y H' ⟨rfl, rfl⟩
  refine ⟨.inl (by simp [I, SSE]), le_ok rfl, ?_⟩
  simp [I, RVv, PVv, SV, staC, SSE, iC, l0, t0, t38, s38, e79, w1, w2, w3, wp, hp, wAB, wCD, wCDa, wFa, wGH, wFp, wLp, dz]
  refine call0 g4 (by simp [RVv, PVv, SV, staC, I]) ?_
  rintro y H' ⟨rfl, rfl⟩
  refine ⟨.inl (by simp [I, SSE]), le_ok rfl, ?_⟩
  simp [I, RVv, PVv, SV, staC, SSE, iC, l0, t0, t38, s38, e79, w1, w2, w3, wp, hp, wAB, wCD, wCDa, wFa, wGH, wFp, wLp, dz]
  refine call0 g9 (by simp [RVv, PVv, SV, staC, I]) ?_
  rintro y H' ⟨rfl, rfl⟩
  refine ⟨.inl (by simp [I, SSE]), le_ok rfl, ?_⟩
  simp [I, RVv, PVv, SV, staC, SSE, iC, l0, t0, t38, s38, e79, w1, w2, w3, wp, hp, wAB, wCD, wCDa, wFa, wGH, wFp, wLp, dz]
  refine call0 g6 (by simp [RVv, PVv, SV, staC, I]) ?_
  rintro y H' ⟨rfl, rfl⟩
  refine ⟨.inl (by simp [I, SSE]), le_ok rfl, ?_⟩
  simp [I, RVv, PVv, SV, staC, SSE, iC, l0, t0, t38, s38, e79, w1, w2, w3, wp, hp, wAB, wCD, wCDa, wFa, wGH, wFp, wLp, dz]
  refine call0 g10 (by simp [RVv, PVv, SV, staC, I]) ?_
  rintro y H' ⟨rfl, rfl⟩
  refine ⟨.inl (by simp [I, SSE]), le_ok rfl, ?_⟩
  simp [I, RVv, PVv, SV, staC, SSE, iC, l0, t0, t38, s38, e79, w1, w2, w3, wp, hp, wAB, wCD, wCDa, wFa, wGH, wFp, wLp, dz]
  refine call0 g11 (by simp [RVv, PVv, SV, staC, I]) ?_
  rintro y H' ⟨rfl, rfl⟩
  refine ⟨.inl (by simp [I, SSE]), le_ok rfl, ?_⟩
  simp [I, RVv, PVv, SV, staC, SSE, iC, l0, t0, t38, s38, e79, w1, w2, w3, wp, hp, wAB, wCD, wCDa, wFa, wGH, wFp, wLp, dz]
  refine call0 g12 (by simp [RVv, PVv, SV, staC, I]) ?_
  rintro y H' ⟨rfl, rfl⟩
  refine ⟨.inl (by simp [I, SSE]), le_ok rfl, ?_⟩
  simp [I, RVv, PVv, SV, staC, SSE, iC, l0, t0, t38, s38, e79, w1, w2, w3, wp, hp, wAB, wCD, wCDa, wFa, wGH, wFp, wLp, dz]
  refine call0 g13 (by simp [RVv, PVv, SV, staC, I]) ?_
  rintro y H' ⟨rfl, rfl⟩
  refine ⟨.inl (by simp [I, SSE]), le_ok rfl, ?_⟩
  simp [I, RVv, PVv, SV, staC, SSE, iC, l0, t0, t38, s38, e79, w1, w2, w3, wp, hp, wAB, wCD, wCDa, wFa, wGH, wFp, wLp, dz]
  refine call0 g14 (by simp [RVv, PVv, SV, staC, I]) ?_
  rintro y H' ⟨rfl, rfl⟩
  refine ⟨.inl (by simp [I, SSE]), le_ok rfl, ?_⟩
  simp [I, RVv, PVv, SV, staC, SSE, iC, l0, t0, t38, s38, e79, w1, w2, w3, wp, hp, wAB, wCD, wCDa, wFa, wGH, wFp, wLp, dz]
  refine call0 g15 (by simp [RVv, PVv, SV, staC, I]) ?_
  rintro y H' ⟨rfl, rfl⟩
  refine ⟨.inl (by simp [I, SSE]), le_ok rfl, ?_⟩
  simp [I, RVv, PVv, SV, staC, SSE, iC, l0, t0, t38, s38, e79, w1, w2, w3, wp, hp, wAB, wCD, wCDa, wFa, wGH, wFp, wLp, dz]
  refine call0 sure_ok (by simp [RVv, PVv, SV, staC, I]) ?_
  rintro y H' ⟨rfl, rfl⟩
  refine ⟨.inl (by simp [I, SSE]), le_ok rfl, ?_⟩
  simp [I, RVv, PVv, SV, staC, SSE, iC, l0, t0, t38, s38, e79, w1, w2, w3, wp, hp, wAB, wCD, wCDa, wFa, wGH, wFp, wLp, dz]
  exact fin [] (by decide) rfl rfl rfl ⟨rfl, rfl⟩

theorem kept_ok {b : Bool} {x y am : Int} (hx : 400 ≤ x ∧ x < 1000) (hy : 400 ≤ y ∧ y < 1000) (ha : 30 ≤ am ∧ am < 330) : (kept b x y am).ok := by
  have q : (smH am).ok := ⟨by simp [smH, i64], by simp only [smH, i64]; omega, by simp [smH, i64], by simp [smH]⟩
  cases b <;> refine ⟨by simp [kept, i64], by simp only [kept, i64]; simp; omega, by simp only [kept, i64]; simp; omega, by simp [kept], by simpa [kept] using q, by simp [kept], by simp [kept]⟩
theorem frd_ok {b : Bool} {x y p : Int} (hx : 400 ≤ x ∧ x < 1000) (hy : 400 ≤ y ∧ y < 1000) (hp : 0 ≤ p ∧ p < 330) : (frd b x y p).ok := by
  cases b <;> refine ⟨by simp [frd, i64], by simp only [frd, i64]; simp; omega, by simp only [frd, i64]; simp; omega, by simp [frd], by simp [frd], by simp [frd], by simp [frd]⟩
theorem frd_tot {b : Bool} {x y p : Int} (hx : 400 ≤ x ∧ x < 1000) (hy : 400 ≤ y ∧ y < 1000) (hp : 0 ≤ p ∧ p < 330) : totS (frd b x y p) = x + y := by
  have hm : mayS (frd b x y p) = true := by cases b <;> simp [mayS, frd, payL, holL, total, sumP, sumH] <;> omega
  unfold totS
  rw [if_pos hm]
  cases b <;> simp [frd, total, sumP, sumH] <;> omega
theorem smR_ok {x y u v am fe : Int} (b0 b1 : Bool) (hx : 400 ≤ x ∧ x < 1000) (hy : 400 ≤ y ∧ y < 1000) (hu : 400 ≤ u ∧ u < 1000) (hv : 400 ≤ v ∧ v < 1000) (ha : 30 ≤ am ∧ am < 330) (hf : 0 ≤ fe ∧ fe < 20) : (smR x y u v am fe b0 b1).ok := by
  have hzl : hz.length = 32 := rfl
  cases b0 <;> cases b1 <;> refine ⟨⟨hzl, ?_, ?_, ?_, ?_, ?_, ?_⟩, ⟨hzl, ?_, ?_, ?_, ?_, ?_, ?_⟩, ?_, ?_, ?_, ?_, ?_⟩ <;> simp only [smR, i64] <;> (first | omega | (simp; try omega))

set_option maxHeartbeats 4000000 in
theorem VirtNeutral_ok (k0 k1 k2 k3 k : Int) (b0 b1 : Bool) :
    ECalls Try.prog 3 [.v (.agg [iC k0, iC k1, iC k2, iC k3]), .v (.agg [.fz (.lit (.bool b0)), .fz (.lit (.bool b1))]), I .i64 k] [] fun y H' => H' = [] ∧ y = .lit (.bool true) := by
  have hsm := small_ok k0 k1 k2 k3 b0 b1
  have m0 := md_lt k0 (m := 300) (by omega)
  have m1 := md_lt k1 (m := 20) (by omega)
  have m2 := md_lt k2 (m := 400) (by omega)
  have m3 := md_lt k3 (m := 400) (by omega)
  have m2' := md_lt k2 (m := 300) (by omega)
  have m3' := md_lt k3 (m := 300) (by omega)
  obtain ⟨x, ex⟩ : ∃ x, 400 + md k2 400 = x := ⟨_, rfl⟩
  obtain ⟨y, ey⟩ : ∃ x, 400 + md k3 400 = x := ⟨_, rfl⟩
  obtain ⟨u, eu⟩ : ∃ x, 400 + md k3 300 = x := ⟨_, rfl⟩
  obtain ⟨v, ev⟩ : ∃ x, 400 + md k2 300 = x := ⟨_, rfl⟩
  obtain ⟨am, ea⟩ : ∃ x, 30 + md k0 300 = x := ⟨_, rfl⟩
  obtain ⟨fe, ef⟩ : ∃ x, md k1 20 = x := ⟨_, rfl⟩
  rw [ex, ey, eu, ev, ea, ef] at hsm
  have hx : 400 ≤ x ∧ x < 1000 := by omega
  have hy : 400 ≤ y ∧ y < 1000 := by omega
  have hu : 400 ≤ u ∧ u < 1000 := by omega
  have hv : 400 ≤ v ∧ v < 1000 := by omega
  have ha : 30 ≤ am ∧ am < 330 := by omega
  have hf : 0 ≤ fe ∧ fe < 20 := by omega
  clear ex ey eu ev ea ef m0 m1 m2 m3 m2' m3'
  have hr := smR_ok b0 b1 hx hy hu hv ha hf
  obtain ⟨p, ep⟩ : ∃ p, (IntKind.u64.wrap k).tmod (am + 1) = p := ⟨_, rfl⟩
  have hp : 0 ≤ p ∧ p ≤ am := by
    rw [← ep, Int.tmod_eq_emod_of_nonneg (md_u k)]
    have h1 := Int.emod_nonneg (IntKind.u64.wrap k) (show am + 1 ≠ 0 by omega)
    have h2 := Int.emod_lt_of_pos (IntKind.u64.wrap k) (show 0 < am + 1 by omega)
    omega
  have i1 : i64 1 := by simp [i64]
  have ip : i64 p := by unfold i64; omega
  have os : (sma x y).ok := sma_ok ⟨by omega, hx.2⟩ ⟨by omega, hy.2⟩
  have ot : (sma u v).ok := sma_ok ⟨by omega, hu.2⟩ ⟨by omega, hv.2⟩
  have os1 : (kept b0 x y am).ok := kept_ok hx hy ha
  have ot1 : (kept b1 u v am).ok := kept_ok hu hv ha
  have os2 : (frd b0 x y p).ok := frd_ok hx hy (by omega)
  have ot2 : (frd b1 u v p).ok := frd_ok hu hv (by omega)
  have hop := VOpen_ok (smR x y u v am fe b0 b1) 1 (sma x y) (sma u v) hr i1 os ot
  rw [opn_sm b0 b1 hx hy hu hv ha hf] at hop
  have hcl := VClose_ok (smR x y u v am fe b0 b1) 1 p (kept b0 x y am) (kept b1 u v am) hr i1 ip os1 ot1
  rw [clo_sm b0 b1 hx hy hu hv ha hf hp] at hcl
  have t12 := Total_ok (frd b0 x y p) os2
  have t13 := Total_ok (sma x y) os
  have t14 := Total_ok (frd b1 u v p) ot2
  have t15 := Total_ok (sma u v) ot
  rw [frd_tot hx hy (by omega)] at t12
  rw [frd_tot hu hv (by omega)] at t14
  rw [sma_tot ⟨by omega, hx.2⟩ ⟨by omega, hy.2⟩] at t13
  rw [sma_tot ⟨by omega, hu.2⟩ ⟨by omega, hv.2⟩] at t15
  have hzl : hz.length = 32 := rfl
  refine neutral_core k0 k1 k2 k3 k b0 b1 (smR x y u v am fe b0 b1) (sma x y) (sma u v) (kept b0 x y am) (kept b1 u v am) (frd b0 x y p) (frd b1 u v p) p _ _ _ _ _ _ _ _ _ _ _ _ _ hzl hzl ha hsm hop hcl ep hp
    (has_ok _ _ _ hzl) (has_ok _ _ _ hzl) (has_ok _ _ _ hzl) (has_ok _ _ _ hzl) (has_ok _ _ _ hzl) (has_ok _ _ _ hzl) (has_ok _ _ _ hzl) (has_ok _ _ _ hzl) (has_ok _ _ _ hzl) (has_ok _ _ _ hzl) (has_ok _ _ _ hzl) t12 t13 t14 t15 ?_ ?_ ?_ ?_ ?_ ?_ ?_ ?_ ?_
  all_goals
    cases b0 <;> cases b1 <;> simp [hasS, smR, sma, kept, frd] <;> omega

end Go.Proofs.Ytejjhgdnmknejaa
