import Derived.Test.YtejjhgdnmknejaaGreatDoorAll13
namespace Go.Proofs.YtejjhgdnmknejaaGreatDoor
open Go Go.EW
set_option linter.unusedSimpArgs false
set_option linter.unusedVariables false

@[simp] def l_VirtRuns_1 (_ : Unit) : List EOp := [⟨0, (some 3), none, (.q (.box 31 (.t 0))), []⟩, ⟨1, (some 5), none, (.q (.box 37 (.t 2))), []⟩, ⟨2, (some 6), none, (.q (.mov (.k (.bool false)))), []⟩]
@[simp] def b_VirtRuns_2 (_ : Unit) : EB := reg0 (hid l_VirtRuns_1) 3
@[simp] def l_VirtRuns_4 (_ : Unit) : List EOp := [⟨6, (some 31), (some (28, false)), (.call 7 [(.t 30)]), []⟩, ⟨7, (some 32), none, (.q (.pick (.t 28) (.k (.bool true)) (.t 31))), []⟩]
@[simp] def l_VirtRuns_3 (_ : Unit) : List EOp := ⟨0, (some 25), none, (.q (.fad 0 (.t 5))), []⟩ :: ⟨1, (some 26), none, (.q (.lda 5 (.t 25))), []⟩ :: ⟨2, (some 27), none, (.call 7 [(.t 26)]), []⟩ :: ⟨3, (some 28), none, (.q (.mov (.t 27))), []⟩ :: ⟨4, (some 29), (some (28, false)), (.q (.fad 5 (.t 5))), []⟩ :: ⟨5, (some 30), (some (28, false)), (.q (.lda 5 (.t 29))), []⟩ :: hid l_VirtRuns_4
@[simp] def b_VirtRuns_5 (_ : Unit) : EB := reg0 (hid l_VirtRuns_3) 8
@[simp] def l_VirtRuns_6 (_ : Unit) : List EOp := [⟨0, (some 33), none, (.call 8 []), []⟩, ⟨1, (some 6), none, (.q (.mov (.t 33))), []⟩]
@[simp] def b_VirtRuns_7 (_ : Unit) : EB := reg0 (hid l_VirtRuns_6) 2
@[simp] def b_VirtRuns_8 (_ : Unit) : EB := .seq (hid b_VirtRuns_7) .ret
@[simp] def b_VirtRuns_9 (_ : Unit) : EB := .cond (.t 32) (hid b_VirtRuns_8) .skip
@[simp] def b_VirtRuns_10 (_ : Unit) : EB := .seq (hid b_VirtRuns_5) (hid b_VirtRuns_9)
@[simp] def l_VirtRuns_11 (_ : Unit) : List EOp := [⟨0, (some 34), none, (.q (.lda 81 (.t 3))), []⟩, ⟨1, (some 35), none, (.call 9 [(.t 34)]), []⟩, ⟨2, (some 7), none, (.q (.alloc 44 (zU8 ++ (([(.int .i64 0), (.int .i64 0), (.int .i64 0), (.int .i64 0), (.int .i64 0), (.int .i64 0)] : List Value) ++ zU8 ++ [(.int .i64 0), (.int .i64 0), (.int .i64 0), (.int .i64 0), (.int .i64 0), (.int .i64 0), (.int .i64 0), (.int .i64 0), (.int .i64 0), (.int .i64 0), (.int .i64 0)])))), []⟩, ⟨3, none, none, (.sto 81 (.t 7) (.t 35)), []⟩]
@[simp] def b_VirtRuns_12 (_ : Unit) : EB := reg0 (hid l_VirtRuns_11) 4
@[simp] def l_VirtRuns_15 (_ : Unit) : List EOp := [⟨10, (some 46), none, (.q (.ext 0 (.t 36))), []⟩, ⟨11, (some 47), none, (.q (.ext 1 (.t 36))), []⟩, ⟨12, (some 48), none, (.q (.ext 2 (.t 36))), []⟩, ⟨15, none, none, (.fz (.sto 5 (.t 8) (.t 46))), [11, 12]⟩, ⟨16, none, none, (.fz (.sto 5 (.t 9) (.t 47))), [12]⟩, ⟨17, (some 10), none, (.q (.mov (.t 48))), []⟩]
@[simp] def l_VirtRuns_14 (_ : Unit) : List EOp := ⟨13, (some 8), none, (.q (.alloc 49 [(.int .i64 0), (.int .i64 0), (.int .i64 0), (.slice none 0 0), (.slice none 0 0)])), []⟩ :: ⟨14, (some 9), none, (.q (.alloc 49 [(.int .i64 0), (.int .i64 0), (.int .i64 0), (.slice none 0 0), (.slice none 0 0)])), []⟩ :: ⟨4, (some 41), none, (.call 11 [(.t 40)]), [0, 1, 5, 6, 13, 14]⟩ :: ⟨7, (some 44), none, (.call 11 [(.t 43)]), [0, 1, 13, 14]⟩ :: ⟨8, (some 45), none, (.call 10 [(.t 37), (.t 38), (.t 41), (.t 44)]), [13, 14]⟩ :: ⟨9, (some 36), none, (.q (.mov (.t 45))), []⟩ :: hid l_VirtRuns_15
@[simp] def l_VirtRuns_13 (_ : Unit) : List EOp := ⟨0, (some 37), none, (.q (.lda 81 (.t 7))), []⟩ :: ⟨1, (some 38), none, (.q (.mov (.t 1))), []⟩ :: ⟨2, (some 39), none, (.q (.fad 0 (.t 5))), []⟩ :: ⟨3, (some 40), none, (.q (.lda 5 (.t 39))), []⟩ :: ⟨5, (some 42), none, (.q (.fad 5 (.t 5))), []⟩ :: ⟨6, (some 43), none, (.q (.lda 5 (.t 42))), []⟩ :: hid l_VirtRuns_14
@[simp] def b_VirtRuns_16 (_ : Unit) : EB := reg1 (hid l_VirtRuns_13) 18
@[simp] def l_VirtRuns_19 (_ : Unit) : List EOp := [⟨12, (some 12), none, (.q (.alloc 35 [(.int .i64 0), (.int .i64 0), (.int .i64 0), (.slice none 0 0), (.slice none 0 0)])), []⟩, ⟨13, none, none, (.fz (.sto 5 (.t 11) (.t 57))), []⟩, ⟨14, none, none, (.fz (.sto 5 (.t 12) (.t 58))), []⟩, ⟨15, (some 13), none, (.q (.mov (.t 59))), []⟩]
@[simp] def l_VirtRuns_18 (_ : Unit) : List EOp := ⟨6, (some 56), none, (.call 12 [(.t 50), (.t 51), (.t 53), (.t 55)]), []⟩ :: ⟨7, (some 49), none, (.q (.mov (.t 56))), []⟩ :: ⟨8, (some 57), none, (.q (.ext 0 (.t 49))), []⟩ :: ⟨9, (some 58), none, (.q (.ext 1 (.t 49))), []⟩ :: ⟨10, (some 59), none, (.q (.ext 2 (.t 49))), []⟩ :: ⟨11, (some 11), none, (.q (.alloc 35 [(.int .i64 0), (.int .i64 0), (.int .i64 0), (.slice none 0 0), (.slice none 0 0)])), []⟩ :: hid l_VirtRuns_19
@[simp] def l_VirtRuns_17 (_ : Unit) : List EOp := ⟨0, (some 50), none, (.q (.lda 81 (.t 3))), []⟩ :: ⟨1, (some 51), none, (.q (.mov (.t 1))), []⟩ :: ⟨2, (some 52), none, (.q (.fad 0 (.t 5))), []⟩ :: ⟨3, (some 53), none, (.q (.lda 5 (.t 52))), []⟩ :: ⟨4, (some 54), none, (.q (.fad 5 (.t 5))), []⟩ :: ⟨5, (some 55), none, (.q (.lda 5 (.t 54))), []⟩ :: hid l_VirtRuns_18
@[simp] def b_VirtRuns_20 (_ : Unit) : EB := reg0 (hid l_VirtRuns_17) 16
@[simp] def l_VirtRuns_24 (_ : Unit) : List EOp := [⟨18, (some 78), (some (72, false)), (.q (.bin .neq (.t 75) (.t 77))), []⟩, ⟨19, (some 79), none, (.q (.pick (.t 72) (.k (.bool true)) (.t 78))), []⟩]
@[simp] def l_VirtRuns_23 (_ : Unit) : List EOp := ⟨12, (some 72), none, (.q (.mov (.t 71))), []⟩ :: ⟨13, (some 73), (some (72, false)), (.q (.lda 81 (.t 7))), []⟩ :: ⟨16, (some 76), (some (72, false)), (.q (.lda 81 (.t 3))), []⟩ :: ⟨14, (some 74), (some (72, false)), (.call 15 [(.t 73)]), [16]⟩ :: ⟨15, (some 75), (some (72, false)), (.call 13 [(.t 74)]), [16]⟩ :: ⟨17, (some 77), (some (72, false)), (.call 16 [(.t 76)]), []⟩ :: hid l_VirtRuns_24
@[simp] def l_VirtRuns_22 (_ : Unit) : List EOp := ⟨6, (some 66), (some (64, false)), (.q (.lda 5 (.t 9))), []⟩ :: ⟨7, (some 67), (some (64, false)), (.q (.lda 5 (.t 11))), []⟩ :: ⟨8, (some 68), (some (64, false)), (.q (.lda 5 (.t 12))), []⟩ :: ⟨9, (some 69), (some (64, false)), (.call 14 [(.t 65), (.t 66), (.t 67), (.t 68)]), []⟩ :: ⟨10, (some 70), (some (64, false)), (.q (.un .not (.t 69))), []⟩ :: ⟨11, (some 71), none, (.q (.pick (.t 64) (.k (.bool true)) (.t 70))), []⟩ :: hid l_VirtRuns_23
@[simp] def l_VirtRuns_21 (_ : Unit) : List EOp := ⟨0, (some 60), none, (.q (.mov (.t 10))), []⟩ :: ⟨2, (some 62), none, (.q (.mov (.t 13))), []⟩ :: ⟨1, (some 61), none, (.call 13 [(.t 60)]), [2]⟩ :: ⟨3, (some 63), none, (.q (.bin .neq (.t 61) (.t 62))), []⟩ :: ⟨4, (some 64), none, (.q (.mov (.t 63))), []⟩ :: ⟨5, (some 65), (some (64, false)), (.q (.lda 5 (.t 8))), []⟩ :: hid l_VirtRuns_22
@[simp] def b_VirtRuns_25 (_ : Unit) : EB := reg1 (hid l_VirtRuns_21) 20
@[simp] def l_VirtRuns_26 (_ : Unit) : List EOp := [⟨0, (some 6), none, (.q (.mov (.k (.bool false)))), []⟩]
@[simp] def b_VirtRuns_27 (_ : Unit) : EB := reg0 (hid l_VirtRuns_26) 1
@[simp] def b_VirtRuns_28 (_ : Unit) : EB := .seq (hid b_VirtRuns_27) .ret
@[simp] def b_VirtRuns_29 (_ : Unit) : EB := .cond (.t 79) (hid b_VirtRuns_28) .skip
@[simp] def b_VirtRuns_30 (_ : Unit) : EB := .seq (hid b_VirtRuns_25) (hid b_VirtRuns_29)
@[simp] def l_VirtRuns_34 (_ : Unit) : List EOp := [⟨18, none, none, (.fz (.sto 5 (.t 15) (.t 93))), [14]⟩, ⟨19, (some 16), none, (.q (.mov (.t 94))), []⟩]
@[simp] def l_VirtRuns_33 (_ : Unit) : List EOp := ⟨10, (some 91), none, (.call 17 [(.t 81), (.t 82), (.t 84), (.t 87), (.t 90)]), [15, 16]⟩ :: ⟨11, (some 80), none, (.q (.mov (.t 91))), []⟩ :: ⟨12, (some 92), none, (.q (.ext 0 (.t 80))), []⟩ :: ⟨13, (some 93), none, (.q (.ext 1 (.t 80))), []⟩ :: ⟨14, (some 94), none, (.q (.ext 2 (.t 80))), []⟩ :: ⟨17, none, none, (.fz (.sto 5 (.t 14) (.t 92))), [13, 14]⟩ :: hid l_VirtRuns_34
@[simp] def l_VirtRuns_32 (_ : Unit) : List EOp := ⟨7, (some 88), none, (.q (.fad 5 (.t 5))), []⟩ :: ⟨8, (some 89), none, (.q (.lda 5 (.t 88))), []⟩ :: ⟨15, (some 14), none, (.q (.alloc 49 [(.int .i64 0), (.int .i64 0), (.int .i64 0), (.slice none 0 0), (.slice none 0 0)])), []⟩ :: ⟨16, (some 15), none, (.q (.alloc 49 [(.int .i64 0), (.int .i64 0), (.int .i64 0), (.slice none 0 0), (.slice none 0 0)])), []⟩ :: ⟨6, (some 87), none, (.call 11 [(.t 86)]), [0, 1, 2, 3, 7, 8, 15, 16]⟩ :: ⟨9, (some 90), none, (.call 11 [(.t 89)]), [0, 1, 2, 3, 15, 16]⟩ :: hid l_VirtRuns_33
@[simp] def l_VirtRuns_31 (_ : Unit) : List EOp := ⟨0, (some 81), none, (.q (.lda 81 (.t 7))), []⟩ :: ⟨1, (some 82), none, (.q (.mov (.t 1))), []⟩ :: ⟨2, (some 83), none, (.q (.fad 10 (.t 5))), []⟩ :: ⟨3, (some 84), none, (.q (.ldc (.t 83))), []⟩ :: ⟨4, (some 85), none, (.q (.fad 0 (.t 5))), []⟩ :: ⟨5, (some 86), none, (.q (.lda 5 (.t 85))), []⟩ :: hid l_VirtRuns_32
@[simp] def b_VirtRuns_35 (_ : Unit) : EB := reg1 (hid l_VirtRuns_31) 20
@[simp] def l_VirtRuns_38 (_ : Unit) : List EOp := [⟨12, (some 107), none, (.q (.ext 2 (.t 95))), []⟩, ⟨13, (some 17), none, (.q (.alloc 35 [(.int .i64 0), (.int .i64 0), (.int .i64 0), (.slice none 0 0), (.slice none 0 0)])), []⟩, ⟨14, (some 18), none, (.q (.alloc 35 [(.int .i64 0), (.int .i64 0), (.int .i64 0), (.slice none 0 0), (.slice none 0 0)])), []⟩, ⟨15, none, none, (.fz (.sto 5 (.t 17) (.t 105))), []⟩, ⟨16, none, none, (.fz (.sto 5 (.t 18) (.t 106))), []⟩, ⟨17, (some 19), none, (.q (.mov (.t 107))), []⟩]
@[simp] def l_VirtRuns_37 (_ : Unit) : List EOp := ⟨6, (some 102), none, (.q (.fad 5 (.t 5))), []⟩ :: ⟨7, (some 103), none, (.q (.lda 5 (.t 102))), []⟩ :: ⟨8, (some 104), none, (.call 18 [(.t 96), (.t 97), (.t 99), (.t 101), (.t 103)]), []⟩ :: ⟨9, (some 95), none, (.q (.mov (.t 104))), []⟩ :: ⟨10, (some 105), none, (.q (.ext 0 (.t 95))), []⟩ :: ⟨11, (some 106), none, (.q (.ext 1 (.t 95))), []⟩ :: hid l_VirtRuns_38
@[simp] def l_VirtRuns_36 (_ : Unit) : List EOp := ⟨0, (some 96), none, (.q (.lda 81 (.t 3))), []⟩ :: ⟨1, (some 97), none, (.q (.mov (.t 1))), []⟩ :: ⟨2, (some 98), none, (.q (.fad 10 (.t 5))), []⟩ :: ⟨3, (some 99), none, (.q (.ldc (.t 98))), []⟩ :: ⟨4, (some 100), none, (.q (.fad 0 (.t 5))), []⟩ :: ⟨5, (some 101), none, (.q (.lda 5 (.t 100))), []⟩ :: hid l_VirtRuns_37
@[simp] def b_VirtRuns_39 (_ : Unit) : EB := reg0 (hid l_VirtRuns_36) 18
@[simp] def l_VirtRuns_41 (_ : Unit) : List EOp := [⟨6, (some 114), (some (112, false)), (.q (.lda 5 (.t 15))), []⟩, ⟨7, (some 115), (some (112, false)), (.q (.lda 5 (.t 17))), []⟩, ⟨8, (some 116), (some (112, false)), (.q (.lda 5 (.t 18))), []⟩, ⟨9, (some 117), (some (112, false)), (.call 14 [(.t 113), (.t 114), (.t 115), (.t 116)]), []⟩, ⟨10, (some 118), (some (112, false)), (.q (.un .not (.t 117))), []⟩, ⟨11, (some 119), none, (.q (.pick (.t 112) (.k (.bool true)) (.t 118))), []⟩]
@[simp] def l_VirtRuns_40 (_ : Unit) : List EOp := ⟨0, (some 108), none, (.q (.mov (.t 16))), []⟩ :: ⟨1, (some 109), none, (.call 13 [(.t 108)]), []⟩ :: ⟨2, (some 110), none, (.q (.mov (.t 19))), []⟩ :: ⟨3, (some 111), none, (.q (.bin .neq (.t 109) (.t 110))), []⟩ :: ⟨4, (some 112), none, (.q (.mov (.t 111))), []⟩ :: ⟨5, (some 113), (some (112, false)), (.q (.lda 5 (.t 14))), []⟩ :: hid l_VirtRuns_41
@[simp] def b_VirtRuns_42 (_ : Unit) : EB := reg0 (hid l_VirtRuns_40) 12
@[simp] def l_VirtRuns_43 (_ : Unit) : List EOp := [⟨0, (some 6), none, (.q (.mov (.k (.bool false)))), []⟩]
@[simp] def b_VirtRuns_44 (_ : Unit) : EB := reg0 (hid l_VirtRuns_43) 1
@[simp] def b_VirtRuns_45 (_ : Unit) : EB := .seq (hid b_VirtRuns_44) .ret
@[simp] def b_VirtRuns_46 (_ : Unit) : EB := .cond (.t 119) (hid b_VirtRuns_45) .skip
@[simp] def b_VirtRuns_47 (_ : Unit) : EB := .seq (hid b_VirtRuns_42) (hid b_VirtRuns_46)
@[simp] def l_VirtRuns_48 (_ : Unit) : List EOp := [⟨0, (some 120), none, (.q (.mov (.t 13))), []⟩, ⟨1, (some 121), none, (.q (.bin .eql (.t 120) (.k (.int .i64 0)))), []⟩]
@[simp] def b_VirtRuns_49 (_ : Unit) : EB := reg0 (hid l_VirtRuns_48) 2
@[simp] def l_VirtRuns_52 (_ : Unit) : List EOp := [⟨12, none, none, (.fz (.sto 5 (.t 15) (.t 131))), []⟩, ⟨13, (some 16), none, (.q (.mov (.t 132))), []⟩]
@[simp] def l_VirtRuns_51 (_ : Unit) : List EOp := ⟨6, (some 129), none, (.call 17 [(.t 123), (.t 124), (.t 126), (.t 127), (.t 128)]), []⟩ :: ⟨7, (some 122), none, (.q (.mov (.t 129))), []⟩ :: ⟨8, (some 130), none, (.q (.ext 0 (.t 122))), []⟩ :: ⟨9, (some 131), none, (.q (.ext 1 (.t 122))), []⟩ :: ⟨10, (some 132), none, (.q (.ext 2 (.t 122))), []⟩ :: ⟨11, none, none, (.fz (.sto 5 (.t 14) (.t 130))), []⟩ :: hid l_VirtRuns_52
@[simp] def l_VirtRuns_50 (_ : Unit) : List EOp := ⟨0, (some 123), none, (.q (.lda 81 (.t 7))), []⟩ :: ⟨1, (some 124), none, (.q (.mov (.t 1))), []⟩ :: ⟨2, (some 125), none, (.q (.fad 10 (.t 5))), []⟩ :: ⟨3, (some 126), none, (.q (.ldc (.t 125))), []⟩ :: ⟨4, (some 127), none, (.q (.lda 5 (.t 8))), []⟩ :: ⟨5, (some 128), none, (.q (.lda 5 (.t 9))), []⟩ :: hid l_VirtRuns_51
@[simp] def b_VirtRuns_53 (_ : Unit) : EB := reg0 (hid l_VirtRuns_50) 14
@[simp] def l_VirtRuns_56 (_ : Unit) : List EOp := [⟨12, none, none, (.fz (.sto 5 (.t 18) (.t 142))), []⟩, ⟨13, (some 19), none, (.q (.mov (.t 143))), []⟩]
@[simp] def l_VirtRuns_55 (_ : Unit) : List EOp := ⟨6, (some 140), none, (.call 18 [(.t 134), (.t 135), (.t 137), (.t 138), (.t 139)]), []⟩ :: ⟨7, (some 133), none, (.q (.mov (.t 140))), []⟩ :: ⟨8, (some 141), none, (.q (.ext 0 (.t 133))), []⟩ :: ⟨9, (some 142), none, (.q (.ext 1 (.t 133))), []⟩ :: ⟨10, (some 143), none, (.q (.ext 2 (.t 133))), []⟩ :: ⟨11, none, none, (.fz (.sto 5 (.t 17) (.t 141))), []⟩ :: hid l_VirtRuns_56
@[simp] def l_VirtRuns_54 (_ : Unit) : List EOp := ⟨0, (some 134), none, (.q (.lda 81 (.t 3))), []⟩ :: ⟨1, (some 135), none, (.q (.mov (.t 1))), []⟩ :: ⟨2, (some 136), none, (.q (.fad 10 (.t 5))), []⟩ :: ⟨3, (some 137), none, (.q (.ldc (.t 136))), []⟩ :: ⟨4, (some 138), none, (.q (.lda 5 (.t 11))), []⟩ :: ⟨5, (some 139), none, (.q (.lda 5 (.t 12))), []⟩ :: hid l_VirtRuns_55
@[simp] def b_VirtRuns_57 (_ : Unit) : EB := reg0 (hid l_VirtRuns_54) 14
@[simp] def l_VirtRuns_59 (_ : Unit) : List EOp := [⟨6, (some 150), (some (148, false)), (.q (.lda 5 (.t 15))), []⟩, ⟨7, (some 151), (some (148, false)), (.q (.lda 5 (.t 17))), []⟩, ⟨8, (some 152), (some (148, false)), (.q (.lda 5 (.t 18))), []⟩, ⟨9, (some 153), (some (148, false)), (.call 14 [(.t 149), (.t 150), (.t 151), (.t 152)]), []⟩, ⟨10, (some 154), (some (148, false)), (.q (.un .not (.t 153))), []⟩, ⟨11, (some 155), none, (.q (.pick (.t 148) (.k (.bool true)) (.t 154))), []⟩]
@[simp] def l_VirtRuns_58 (_ : Unit) : List EOp := ⟨0, (some 144), none, (.q (.mov (.t 16))), []⟩ :: ⟨1, (some 145), none, (.call 13 [(.t 144)]), []⟩ :: ⟨2, (some 146), none, (.q (.mov (.t 19))), []⟩ :: ⟨3, (some 147), none, (.q (.bin .neq (.t 145) (.t 146))), []⟩ :: ⟨4, (some 148), none, (.q (.mov (.t 147))), []⟩ :: ⟨5, (some 149), (some (148, false)), (.q (.lda 5 (.t 14))), []⟩ :: hid l_VirtRuns_59
@[simp] def b_VirtRuns_60 (_ : Unit) : EB := reg0 (hid l_VirtRuns_58) 12
@[simp] def l_VirtRuns_61 (_ : Unit) : List EOp := [⟨0, (some 6), none, (.q (.mov (.k (.bool false)))), []⟩]
@[simp] def b_VirtRuns_62 (_ : Unit) : EB := reg0 (hid l_VirtRuns_61) 1
@[simp] def b_VirtRuns_63 (_ : Unit) : EB := .seq (hid b_VirtRuns_62) .ret
@[simp] def b_VirtRuns_64 (_ : Unit) : EB := .cond (.t 155) (hid b_VirtRuns_63) .skip
@[simp] def b_VirtRuns_65 (_ : Unit) : EB := .seq (hid b_VirtRuns_60) (hid b_VirtRuns_64)
@[simp] def b_VirtRuns_66 (_ : Unit) : EB := .seq (hid b_VirtRuns_57) (hid b_VirtRuns_65)
@[simp] def b_VirtRuns_67 (_ : Unit) : EB := .seq (hid b_VirtRuns_53) (hid b_VirtRuns_66)
@[simp] def b_VirtRuns_68 (_ : Unit) : EB := .cond (.t 121) (hid b_VirtRuns_67) .skip
@[simp] def b_VirtRuns_69 (_ : Unit) : EB := .seq (hid b_VirtRuns_49) (hid b_VirtRuns_68)
@[simp] def l_VirtRuns_70 (_ : Unit) : List EOp := [⟨0, (some 20), none, (.q (.mov (.k (.int .i64 (-1))))), []⟩]
@[simp] def b_VirtRuns_71 (_ : Unit) : EB := reg0 (hid l_VirtRuns_70) 1
@[simp] def l_VirtRuns_72 (_ : Unit) : List EOp := [⟨0, (some 156), none, (.q (.mov (.t 20))), []⟩, ⟨1, (some 157), none, (.q (.bin .lss (.t 156) (.k (.int .i64 17)))), []⟩]
@[simp] def b_VirtRuns_73 (_ : Unit) : EB := reg0 (hid l_VirtRuns_72) 2
@[simp] def b_VirtRuns_74 (_ : Unit) : EB := .cond (.t 157) .skip (.exit 0)
@[simp] def b_VirtRuns_75 (_ : Unit) : EB := .seq (hid b_VirtRuns_73) (hid b_VirtRuns_74)
@[simp] def l_VirtRuns_77 (_ : Unit) : List EOp := [⟨6, (some 166), none, (.q (.ext 1 (.t 160))), []⟩, ⟨7, (some 21), none, (.q (.mov (.t 165))), []⟩, ⟨8, (some 22), none, (.q (.mov (.t 166))), []⟩]
@[simp] def l_VirtRuns_76 (_ : Unit) : List EOp := ⟨0, (some 161), none, (.q (.fad 0 (.t 7))), []⟩ :: ⟨1, (some 162), none, (.q (.lda 38 (.t 161))), []⟩ :: ⟨2, (some 163), none, (.q (.mov (.t 20))), []⟩ :: ⟨3, (some 164), none, (.call 19 [(.t 162), (.t 163)]), []⟩ :: ⟨4, (some 160), none, (.q (.mov (.t 164))), []⟩ :: ⟨5, (some 165), none, (.q (.ext 0 (.t 160))), []⟩ :: hid l_VirtRuns_77
@[simp] def b_VirtRuns_78 (_ : Unit) : EB := reg0 (hid l_VirtRuns_76) 9
@[simp] def l_VirtRuns_80 (_ : Unit) : List EOp := [⟨6, (some 173), none, (.q (.ext 1 (.t 167))), []⟩, ⟨7, (some 23), none, (.q (.mov (.t 172))), []⟩, ⟨8, (some 24), none, (.q (.mov (.t 173))), []⟩]
@[simp] def l_VirtRuns_79 (_ : Unit) : List EOp := ⟨0, (some 168), none, (.q (.fad 0 (.t 3))), []⟩ :: ⟨1, (some 169), none, (.q (.lda 38 (.t 168))), []⟩ :: ⟨2, (some 170), none, (.q (.mov (.t 20))), []⟩ :: ⟨3, (some 171), none, (.call 20 [(.t 169), (.t 170)]), []⟩ :: ⟨4, (some 167), none, (.q (.mov (.t 171))), []⟩ :: ⟨5, (some 172), none, (.q (.ext 0 (.t 167))), []⟩ :: hid l_VirtRuns_80
@[simp] def b_VirtRuns_81 (_ : Unit) : EB := reg0 (hid l_VirtRuns_79) 9
@[simp] def l_VirtRuns_83 (_ : Unit) : List EOp := [⟨6, (some 180), (some (177, false)), (.q (.mov (.t 24))), []⟩, ⟨7, (some 181), (some (177, false)), (.q (.bin .neq (.t 179) (.t 180))), []⟩, ⟨8, (some 182), none, (.q (.pick (.t 177) (.k (.bool true)) (.t 181))), []⟩]
@[simp] def l_VirtRuns_82 (_ : Unit) : List EOp := ⟨0, (some 174), none, (.q (.mov (.t 21))), []⟩ :: ⟨1, (some 175), none, (.q (.mov (.t 23))), []⟩ :: ⟨2, (some 176), none, (.q (.bin .neq (.t 174) (.t 175))), []⟩ :: ⟨3, (some 177), none, (.q (.mov (.t 176))), []⟩ :: ⟨4, (some 178), (some (177, false)), (.q (.mov (.t 22))), []⟩ :: ⟨5, (some 179), (some (177, false)), (.call 13 [(.t 178)]), []⟩ :: hid l_VirtRuns_83
@[simp] def b_VirtRuns_84 (_ : Unit) : EB := reg0 (hid l_VirtRuns_82) 9
@[simp] def l_VirtRuns_85 (_ : Unit) : List EOp := [⟨0, (some 6), none, (.q (.mov (.k (.bool false)))), []⟩]
@[simp] def b_VirtRuns_86 (_ : Unit) : EB := reg0 (hid l_VirtRuns_85) 1
@[simp] def b_VirtRuns_87 (_ : Unit) : EB := .seq (hid b_VirtRuns_86) .ret
@[simp] def b_VirtRuns_88 (_ : Unit) : EB := .cond (.t 182) (hid b_VirtRuns_87) .skip
@[simp] def b_VirtRuns_89 (_ : Unit) : EB := .seq (hid b_VirtRuns_84) (hid b_VirtRuns_88)
@[simp] def b_VirtRuns_90 (_ : Unit) : EB := .seq (hid b_VirtRuns_81) (hid b_VirtRuns_89)
@[simp] def b_VirtRuns_91 (_ : Unit) : EB := .seq (hid b_VirtRuns_78) (hid b_VirtRuns_90)
@[simp] def b_VirtRuns_92 (_ : Unit) : EB := .block 1 (hid b_VirtRuns_91)
@[simp] def l_VirtRuns_93 (_ : Unit) : List EOp := [⟨0, (some 158), none, (.q (.mov (.t 20))), []⟩, ⟨1, (some 159), none, (.q (.bin .add (.t 158) (.k (.int .i64 1)))), []⟩, ⟨2, (some 20), none, (.q (.mov (.t 159))), []⟩]
@[simp] def b_VirtRuns_94 (_ : Unit) : EB := reg0 (hid l_VirtRuns_93) 3
@[simp] def b_VirtRuns_95 (_ : Unit) : EB := .seq (hid b_VirtRuns_92) (hid b_VirtRuns_94)
@[simp] def b_VirtRuns_96 (_ : Unit) : EB := .seq (hid b_VirtRuns_75) (hid b_VirtRuns_95)
@[simp] def b_VirtRuns_97 (_ : Unit) : EB := .loop (hid b_VirtRuns_96)
@[simp] def b_VirtRuns_98 (_ : Unit) : EB := .block 0 (hid b_VirtRuns_97)
@[simp] def b_VirtRuns_99 (_ : Unit) : EB := .seq (hid b_VirtRuns_71) (hid b_VirtRuns_98)
@[simp] def l_VirtRuns_100 (_ : Unit) : List EOp := [⟨0, (some 183), none, (.call 8 []), []⟩, ⟨1, (some 6), none, (.q (.mov (.t 183))), []⟩]
@[simp] def b_VirtRuns_101 (_ : Unit) : EB := reg0 (hid l_VirtRuns_100) 2
@[simp] def b_VirtRuns_102 (_ : Unit) : EB := .seq (hid b_VirtRuns_101) .ret
@[simp] def b_VirtRuns_103 (_ : Unit) : EB := .seq (hid b_VirtRuns_99) (hid b_VirtRuns_102)
@[simp] def b_VirtRuns_104 (_ : Unit) : EB := .seq (hid b_VirtRuns_69) (hid b_VirtRuns_103)
@[simp] def b_VirtRuns_105 (_ : Unit) : EB := .seq (hid b_VirtRuns_47) (hid b_VirtRuns_104)
@[simp] def b_VirtRuns_106 (_ : Unit) : EB := .seq (hid b_VirtRuns_39) (hid b_VirtRuns_105)
@[simp] def b_VirtRuns_107 (_ : Unit) : EB := .seq (hid b_VirtRuns_35) (hid b_VirtRuns_106)
@[simp] def b_VirtRuns_108 (_ : Unit) : EB := .seq (hid b_VirtRuns_30) (hid b_VirtRuns_107)
@[simp] def b_VirtRuns_109 (_ : Unit) : EB := .seq (hid b_VirtRuns_20) (hid b_VirtRuns_108)
@[simp] def b_VirtRuns_110 (_ : Unit) : EB := .seq (hid b_VirtRuns_16) (hid b_VirtRuns_109)
@[simp] def b_VirtRuns_111 (_ : Unit) : EB := .seq (hid b_VirtRuns_12) (hid b_VirtRuns_110)
@[simp] def b_VirtRuns_112 (_ : Unit) : EB := .seq (hid b_VirtRuns_10) (hid b_VirtRuns_111)
@[simp] def b_VirtRuns_113 (_ : Unit) : EB := .seq (hid b_VirtRuns_2) (hid b_VirtRuns_112)
def c_VirtRuns : EB × List QOp × Nat := ((hid b_VirtRuns_113), [(.mov (.t 6))], 184)
theorem k_VirtRuns : cfun Tryz.prog 3 = some c_VirtRuns := by kernel_rfl


def TwoV (s t : Sta) (l : Int) : EV := .v (.agg (staC s ++ (staC t ++ [iC l])))

set_option maxRecDepth 8000 in
set_option maxHeartbeats 16000000 in
theorem VirtRuns_ok (r : Rte) (x : Int) (s t : Sta) (l : Int) (hr : r.ok) (hx : i64 x) (hs : s.ok) (ht : t.ok) (hl : i64 l) : ECalls Tryz.prog 3 [RVv r, I .i64 x, TwoV s t l] [] fun y H' => H' = [] ∧ y = .lit (.bool true) := by
  obtain ⟨⟨h1, _⟩, ⟨h2, _⟩, _⟩ := id hr
  have l0 := rteC_len h1 h2
  have t0 := rt_take h1 h2
  have s38 := rt_s38 h1 h2
  have t38 := rt_t38 h1
  have lf := prmC_len h1
  have tf := pm_take h1
  refine ecalls k_VirtRuns ?_
  simp [c_VirtRuns, TwoV, RVv, SV, staC, I, l0, t0, iC, -errV_0]
  refine call0 (longState_ok s hs) (by simp [SV, staC]) ?_
  rintro y H' ⟨rfl, rfl⟩
  refine ⟨.inl (by simp), le_ok rfl, ?_⟩
  cases hl1 : longS s
  rotate_left
  · simp [-errV_0]
    refine call0 sure_ok (by simp) ?_
    rintro y H' ⟨rfl, rfl⟩
    refine ⟨.inl (by simp), le_ok rfl, ?_⟩
    simp [-errV_0]
    exact fin [] (by decide) rfl rfl rfl ⟨rfl, rfl⟩
  simp [-errV_0]
  refine call0 (longState_ok t ht) (by simp [SV, staC]) ?_
  rintro y H' ⟨rfl, rfl⟩
  refine ⟨.inl (by simp), le_ok rfl, ?_⟩
  cases hl2 : longS t
  rotate_left
  · simp [-errV_0]
    refine call0 sure_ok (by simp) ?_
    rintro y H' ⟨rfl, rfl⟩
    refine ⟨.inl (by simp), le_ok rfl, ?_⟩
    simp [-errV_0]
    exact fin [] (by decide) rfl rfl rfl ⟨rfl, rfl⟩
  have ms := (longS_small hl1).1
  have mt := (longS_small hl2).1
  simp [RVv, SV, staC, I, l0, t0, iC, -errV_0]
  refine call0 (giveR_ok r h1 h2) (by simp [RVv]) ?_
  rintro y H' ⟨rfl, rfl⟩
  refine ⟨.inl (by simp [RVv]), le_ok rfl, ?_⟩
  simp [RVv, SV, staC, I, l0, t0, iC, -errV_0]
  refine call0 (giveState_ok s hs ms) (by simp [SV, staC]) ?_
  rintro y H' ⟨rfl, rfl⟩
  refine ⟨.inl (by simp [SV, staC]), le_ok rfl, ?_⟩
  simp [RVv, SV, staC, I, l0, t0, iC, -errV_0]
  refine call0 (giveState_ok t ht mt) (by simp [SV, staC]) ?_
  rintro y H' ⟨rfl, rfl⟩
  refine ⟨.inl (by simp [SV, staC]), le_ok rfl, ?_⟩
  simp [RVv, SV, staC, I, l0, t0, iC, -errV_0]
  rw [List.drop_eq_nil_of_le (i := 81)]
  rotate_left
  · simp [hc_len, hz]
  rw [List.append_nil]
  have hO1 := VOpen_ok r x s t hr hx hs ht
  have hO2 := ROpen_ok r x s t hr hx hs ht
  have hO3 := opnS_ok (x := x) hr hx hs ht ms mt
  generalize opnS r x s t = q at hO1 hO2 hO3
  obtain ⟨a, b, f⟩ := q
  obtain ⟨⟨oa, ma⟩, ob, mb⟩ := hO3
  dsimp only at oa ma ob mb
  refine call0 (hO1) (by simp [RVv, SV, staC, I, iC]) ?_
  rintro y H' ⟨rfl, rfl⟩
  refine ⟨.inl (by simp [SSE, SSR, SV, staC, RVv, I]), le_ok rfl, ?_⟩
  simp [SSE, SSR, RVv, SV, staC, I, l0, t0, iC, -errV_0]
  refine call0 (hO2) (by simp [RVv, SV, staC, I, iC]) ?_
  rintro y H' ⟨rfl, rfl⟩
  refine ⟨.inl (by simp [SSE, SSR, SV, staC, RVv, I]), le_ok rfl, ?_⟩
  simp [SSE, SSR, RVv, SV, staC, I, l0, t0, iC, -errV_0]
  refine call0 (num_e f) (by simp) ?_
  rintro y H' ⟨rfl, rfl⟩
  refine ⟨.inl (by simp [SSE, SSR, SV, staC, RVv, I]), le_ok rfl, ?_⟩
  simp [SSE, SSR, RVv, SV, staC, I, l0, t0, iC, -errV_0]
  refine call0 (same_ok a b oa ma ob mb) (by simp [RVv, SV, staC, I, iC]) ?_
  rintro y H' ⟨rfl, rfl⟩
  refine ⟨.inl (by simp [SSE, SSR, SV, staC, RVv, I]), le_ok rfl, ?_⟩
  simp [SSE, SSR, RVv, SV, staC, I, l0, t0, iC, -errV_0]
  have g3 := VCheck_ok r hr
  have g4 := RCheckV_ok r hr
  generalize chkV r = k at g3 g4
  refine call0 (g3) (by simp [RVv, SV, staC, I, iC]) ?_
  rintro y H' ⟨rfl, rfl⟩
  refine ⟨.inl (by simp [SSE, SSR, SV, staC, RVv, I]), le_ok rfl, ?_⟩
  simp [SSE, SSR, RVv, SV, staC, I, l0, t0, iC, -errV_0]
  refine call0 (num_e k) (by simp) ?_
  rintro y H' ⟨rfl, rfl⟩
  refine ⟨.inl (by simp [SSE, SSR, SV, staC, RVv, I]), le_ok rfl, ?_⟩
  simp [SSE, SSR, RVv, SV, staC, I, l0, t0, iC, -errV_0]
  refine call0 (g4) (by simp [RVv, SV, staC, I, iC]) ?_
  rintro y H' ⟨rfl, rfl⟩
  refine ⟨.inl (by simp [SSE, SSR, SV, staC, RVv, I]), le_ok rfl, ?_⟩
  simp [SSE, SSR, RVv, SV, staC, I, l0, t0, iC, -errV_0]
  have hC1 := VClose_ok r x l s t hr hx hl hs ht
  have hC2 := RClose_ok r x l s t hr hx hl hs ht
  have hC3 := cloS_ok (r := r) (x := x) (last := l) hs ht ms mt
  generalize cloS r x l s t = q at hC1 hC2 hC3
  obtain ⟨c, d, g⟩ := q
  obtain ⟨⟨oc, mc⟩, od, md⟩ := hC3
  dsimp only at oc mc od md
  refine call0 (giveState_ok s hs ms) (by simp [RVv, SV, staC, I, iC]) ?_
  rintro y H' ⟨rfl, rfl⟩
  refine ⟨.inl (by simp [SSE, SSR, SV, staC, RVv, I]), le_ok rfl, ?_⟩
  simp [SSE, SSR, RVv, SV, staC, I, l0, t0, iC, -errV_0]
  refine call0 (giveState_ok t ht mt) (by simp [RVv, SV, staC, I, iC]) ?_
  rintro y H' ⟨rfl, rfl⟩
  refine ⟨.inl (by simp [SSE, SSR, SV, staC, RVv, I]), le_ok rfl, ?_⟩
  simp [SSE, SSR, RVv, SV, staC, I, l0, t0, iC, -errV_0]
  refine call0 (hC1) (by simp [RVv, SV, staC, I, iC]) ?_
  rintro y H' ⟨rfl, rfl⟩
  refine ⟨.inl (by simp [SSE, SSR, SV, staC, RVv, I]), le_ok rfl, ?_⟩
  simp [SSE, SSR, RVv, SV, staC, I, l0, t0, iC, -errV_0]
  refine call0 (hC2) (by simp [RVv, SV, staC, I, iC]) ?_
  rintro y H' ⟨rfl, rfl⟩
  refine ⟨.inl (by simp [SSE, SSR, SV, staC, RVv, I]), le_ok rfl, ?_⟩
  simp [SSE, SSR, RVv, SV, staC, I, l0, t0, iC, -errV_0]
  refine call0 (num_e g) (by simp) ?_
  rintro y H' ⟨rfl, rfl⟩
  refine ⟨.inl (by simp [SSE, SSR, SV, staC, RVv, I]), le_ok rfl, ?_⟩
  simp [SSE, SSR, RVv, SV, staC, I, l0, t0, iC, -errV_0]
  refine call0 (same_ok c d oc mc od md) (by simp [RVv, SV, staC, I, iC]) ?_
  rintro y H' ⟨rfl, rfl⟩
  refine ⟨.inl (by simp [SSE, SSR, SV, staC, RVv, I]), le_ok rfl, ?_⟩
  simp [SSE, SSR, RVv, SV, staC, I, l0, t0, iC, -errV_0]
  refine alt (fun hf0 => ?_) (fun hf0 => ?_)
  · have hD1 := VClose_ok r x l a b hr hx hl oa ob
    have hD2 := RClose_ok r x l a b hr hx hl oa ob
    have hD3 := cloS_ok (r := r) (x := x) (last := l) oa ob ma mb
    generalize cloS r x l a b = q at hD1 hD2 hD3
    obtain ⟨u, v, p⟩ := q
    obtain ⟨⟨ou, mu⟩, ov, mv⟩ := hD3
    dsimp only at ou mu ov mv
    simp [SSE, SSR, RVv, SV, staC, I, l0, t0, iC, -errV_0]
    refine call0 (hD1) (by simp [RVv, SV, staC, I, iC]) ?_
    rintro y H' ⟨rfl, rfl⟩
    refine ⟨.inl (by simp [SSE, SSR, SV, staC, RVv, I]), le_ok rfl, ?_⟩
    simp [SSE, SSR, RVv, SV, staC, I, l0, t0, iC, -errV_0]
    refine call0 (hD2) (by simp [RVv, SV, staC, I, iC]) ?_
    rintro y H' ⟨rfl, rfl⟩
    refine ⟨.inl (by simp [SSE, SSR, SV, staC, RVv, I]), le_ok rfl, ?_⟩
    simp [SSE, SSR, RVv, SV, staC, I, l0, t0, iC, -errV_0]
    refine call0 (num_e p) (by simp) ?_
    rintro y H' ⟨rfl, rfl⟩
    refine ⟨.inl (by simp [SSE, SSR, SV, staC, RVv, I]), le_ok rfl, ?_⟩
    simp [SSE, SSR, RVv, SV, staC, I, l0, t0, iC, -errV_0]
    refine call0 (same_ok u v ou mu ov mv) (by simp [RVv, SV, staC, I, iC]) ?_
    rintro y H' ⟨rfl, rfl⟩
    refine ⟨.inl (by simp [SSE, SSR, SV, staC, RVv, I]), le_ok rfl, ?_⟩
    simp [SSE, SSR, RVv, SV, staC, I, l0, t0, iC, -errV_0]
    refine eloop (α := Int) (fun i => -1 ≤ i ∧ i ≤ 17) (fun i => (17 - i).toNat) (fun i => [.any, .any, .any, Ptr 0, .any, .any, .any, Ptr 1, .any, .any, .any, .any, .any, .any, .any, .any, .any, .any, .any, .any, I .i64 i, .any, .any, .any, .any, .any, .any, .any, .any, .any, .any, .any, .any, .any, .any, .any, .any, .any, .any, .any, .any, .any, .any, .any, .any, .any, .any, .any, .any, .any, .any, .any, .any, .any, .any, .any, .any, .any, .any, .any, .any, .any, .any, .any, .any, .any, .any, .any, .any, .any, .any, .any, .any, .any, .any, .any, .any, .any, .any, .any, .any, .any, .any, .any, .any, .any, .any, .any, .any, .any, .any, .any, .any, .any, .any, .any, .any, .any, .any, .any, .any, .any, .any, .any, .any, .any, .any, .any, .any, .any, .any, .any, .any, .any, .any, .any, .any, .any, .any, .any, .any, .any, .any, .any, .any, .any, .any, .any, .any, .any, .any, .any, .any, .any, .any, .any, .any, .any, .any, .any, .any, .any, .any, .any, .any, .any, .any, .any, .any, .any, .any, .any, .any, .any, .any, .any, .any, .any, .any, .any, .any, .any, .any, .any, .any, .any, .any, .any, .any, .any, .any, .any, .any, .any, .any, .any, .any, .any, .any, .any, .any, .any, .any, .any]) (fun _ => [some (.box 31 (rteC r)), some (.box 44 (rteC r))]) (-1) [0, 208]
      (by omega) (by simp [Ptr, I]) (by simp) (by simp) (by simp) (by simp) ?_
    rintro i ⟨hi1, hi2⟩
    simp [Ptr, SSE, SSR, RVv, PVv, SV, staC, I, l0, t0, t38, lf, tf, iC, -errV_0]
    refine alt (fun hlt => ?_) (fun hlt => ?_)
    rotate_left
    · simp [Ptr, SSE, SSR, RVv, PVv, SV, staC, I, l0, t0, t38, lf, tf, iC, -errV_0]
      refine call0 sure_ok (by simp) ?_
      rintro y H' ⟨rfl, rfl⟩
      refine ⟨.inl (by simp), le_ok rfl, ?_⟩
      simp [-errV_0]
      exact fin [] (by decide) rfl rfl rfl ⟨rfl, rfl⟩
    have w1 : IntKind.i64.wrap (i + 1) = i + 1 := wrap_i64 (by omega) (by omega)
    have g1 := VSide_ok r.f i h1
    have g2 := RSide_ok r.f i h1
    generalize sidV r.f i = q at g1 g2
    obtain ⟨q1, q2⟩ := q
    dsimp only at g1 g2
    simp [Ptr, SSE, SSR, RVv, PVv, SV, staC, I, l0, t0, t38, lf, tf, iC, -errV_0]
    refine call0 (g1) (by simp [PVv, I]) ?_
    rintro y H' ⟨rfl, rfl⟩
    refine ⟨.inl (by simp [iC]), le_ok rfl, ?_⟩
    simp [Ptr, SSE, SSR, RVv, PVv, SV, staC, I, l0, t0, t38, lf, tf, iC, -errV_0]
    refine call0 (g2) (by simp [PVv, I]) ?_
    rintro y H' ⟨rfl, rfl⟩
    refine ⟨.inl (by simp [iC]), le_ok rfl, ?_⟩
    simp [Ptr, SSE, SSR, RVv, PVv, SV, staC, I, l0, t0, t38, lf, tf, iC, -errV_0]
    refine call0 (num_e q2) (by simp) ?_
    rintro y H' ⟨rfl, rfl⟩
    refine ⟨.inl (by simp [I]), le_ok rfl, ?_⟩
    simp [Ptr, SSE, SSR, RVv, PVv, SV, staC, I, l0, t0, t38, lf, tf, iC, -errV_0, w1]
    exact round (i + 1) [0, 1] (by omega) (by omega) (by simp [I, Ptr]) (by simp) (by simp) (by simp) (by simp)
  · simp [SSE, SSR, RVv, SV, staC, I, l0, t0, iC, -errV_0]
    refine eloop (α := Int) (fun i => -1 ≤ i ∧ i ≤ 17) (fun i => (17 - i).toNat) (fun i => [.any, .any, .any, Ptr 0, .any, .any, .any, Ptr 1, .any, .any, .any, .any, .any, .any, .any, .any, .any, .any, .any, .any, I .i64 i, .any, .any, .any, .any, .any, .any, .any, .any, .any, .any, .any, .any, .any, .any, .any, .any, .any, .any, .any, .any, .any, .any, .any, .any, .any, .any, .any, .any, .any, .any, .any, .any, .any, .any, .any, .any, .any, .any, .any, .any, .any, .any, .any, .any, .any, .any, .any, .any, .any, .any, .any, .any, .any, .any, .any, .any, .any, .any, .any, .any, .any, .any, .any, .any, .any, .any, .any, .any, .any, .any, .any, .any, .any, .any, .any, .any, .any, .any, .any, .any, .any, .any, .any, .any, .any, .any, .any, .any, .any, .any, .any, .any, .any, .any, .any, .any, .any, .any, .any, .any, .any, .any, .any, .any, .any, .any, .any, .any, .any, .any, .any, .any, .any, .any, .any, .any, .any, .any, .any, .any, .any, .any, .any, .any, .any, .any, .any, .any, .any, .any, .any, .any, .any, .any, .any, .any, .any, .any, .any, .any, .any, .any, .any, .any, .any, .any, .any, .any, .any, .any, .any, .any, .any, .any, .any, .any, .any, .any, .any, .any, .any, .any, .any]) (fun _ => [some (.box 31 (rteC r)), some (.box 44 (rteC r))]) (-1) [0, 208]
      (by omega) (by simp [Ptr, I]) (by simp) (by simp) (by simp) (by simp) ?_
    rintro i ⟨hi1, hi2⟩
    simp [Ptr, SSE, SSR, RVv, PVv, SV, staC, I, l0, t0, t38, lf, tf, iC, -errV_0]
    refine alt (fun hlt => ?_) (fun hlt => ?_)
    rotate_left
    · simp [Ptr, SSE, SSR, RVv, PVv, SV, staC, I, l0, t0, t38, lf, tf, iC, -errV_0]
      refine call0 sure_ok (by simp) ?_
      rintro y H' ⟨rfl, rfl⟩
      refine ⟨.inl (by simp), le_ok rfl, ?_⟩
      simp [-errV_0]
      exact fin [] (by decide) rfl rfl rfl ⟨rfl, rfl⟩
    have w1 : IntKind.i64.wrap (i + 1) = i + 1 := wrap_i64 (by omega) (by omega)
    have g1 := VSide_ok r.f i h1
    have g2 := RSide_ok r.f i h1
    generalize sidV r.f i = q at g1 g2
    obtain ⟨q1, q2⟩ := q
    dsimp only at g1 g2
    simp [Ptr, SSE, SSR, RVv, PVv, SV, staC, I, l0, t0, t38, lf, tf, iC, -errV_0]
    refine call0 (g1) (by simp [PVv, I]) ?_
    rintro y H' ⟨rfl, rfl⟩
    refine ⟨.inl (by simp [iC]), le_ok rfl, ?_⟩
    simp [Ptr, SSE, SSR, RVv, PVv, SV, staC, I, l0, t0, t38, lf, tf, iC, -errV_0]
    refine call0 (g2) (by simp [PVv, I]) ?_
    rintro y H' ⟨rfl, rfl⟩
    refine ⟨.inl (by simp [iC]), le_ok rfl, ?_⟩
    simp [Ptr, SSE, SSR, RVv, PVv, SV, staC, I, l0, t0, t38, lf, tf, iC, -errV_0]
    refine call0 (num_e q2) (by simp) ?_
    rintro y H' ⟨rfl, rfl⟩
    refine ⟨.inl (by simp [I]), le_ok rfl, ?_⟩
    simp [Ptr, SSE, SSR, RVv, PVv, SV, staC, I, l0, t0, t38, lf, tf, iC, -errV_0, w1]
    exact round (i + 1) [0, 1] (by omega) (by omega) (by simp [I, Ptr]) (by simp) (by simp) (by simp) (by simp)

end Go.Proofs.YtejjhgdnmknejaaGreatDoor
