import Derived.Test.YtoomdgmggkcgfaaDoorTreeA
namespace Go.Proofs.YtoomdgmggkcgfaaDoor
open Go Go.EW
set_option linter.unusedSimpArgs false
set_option linter.unusedVariables false

@[simp] def l_Room_1 (_ : Unit) : List EOp := [⟨0, (some 1), none, (.q (.box 31 (.t 0))), []⟩, ⟨1, (some 2), none, (.q (.mov (.k (.int .i64 0)))), []⟩, ⟨2, (some 3), none, (.q (.mov (.k .nilIface))), []⟩]
@[simp] def b_Room_2 (_ : Unit) : EB := reg0 (hid l_Room_1) 3
@[simp] def l_Room_3 (_ : Unit) : List EOp := [⟨0, (some 5), none, (.q (.lda 40 (.t 1))), []⟩, ⟨1, (some 6), none, (.call 22 [(.t 5)]), []⟩, ⟨2, (some 4), none, (.q (.mov (.t 6))), []⟩]
@[simp] def b_Room_4 (_ : Unit) : EB := reg0 (hid l_Room_3) 3
@[simp] def l_Room_5 (_ : Unit) : List EOp := [⟨0, (some 7), none, (.q (.mov (.t 4))), []⟩, ⟨1, (some 8), none, (.q (.eqi true (.t 7))), []⟩]
@[simp] def b_Room_6 (_ : Unit) : EB := reg0 (hid l_Room_5) 2
@[simp] def l_Room_7 (_ : Unit) : List EOp := [⟨0, (some 9), none, (.q (.mov (.t 4))), []⟩, ⟨1, (some 2), none, (.q (.mov (.k (.int .i64 0)))), []⟩, ⟨2, (some 3), none, (.q (.mov (.t 9))), []⟩]
@[simp] def b_Room_8 (_ : Unit) : EB := reg0 (hid l_Room_7) 3
@[simp] def b_Room_9 (_ : Unit) : EB := .seq (hid b_Room_8) .ret
@[simp] def b_Room_10 (_ : Unit) : EB := .cond (.t 8) (hid b_Room_9) .skip
@[simp] def b_Room_11 (_ : Unit) : EB := .seq (hid b_Room_6) (hid b_Room_10)
@[simp] def b_Room_12 (_ : Unit) : EB := .seq (hid b_Room_4) (hid b_Room_11)
@[simp] def l_Room_13 (_ : Unit) : List EOp := [⟨0, (some 10), none, (.q (.lda 40 (.t 1))), []⟩, ⟨1, (some 11), none, (.call 35 [(.t 10)]), []⟩, ⟨2, (some 2), none, (.q (.mov (.t 11))), []⟩, ⟨3, (some 3), none, (.q (.mov (.k .nilIface))), []⟩]
@[simp] def b_Room_14 (_ : Unit) : EB := reg0 (hid l_Room_13) 4
@[simp] def b_Room_15 (_ : Unit) : EB := .seq (hid b_Room_14) .ret
@[simp] def b_Room_16 (_ : Unit) : EB := .seq (hid b_Room_12) (hid b_Room_15)
@[simp] def b_Room_17 (_ : Unit) : EB := .seq (hid b_Room_2) (hid b_Room_16)
def c_Room : EB × List QOp × Nat := ((hid b_Room_17), [(.mov (.t 2)), (.mov (.t 3))], 12)
theorem k_Room : cfun Tryd.prog 20 = some c_Room := by kernel_rfl

@[simp] def l_TreePaths_1 (_ : Unit) : List EOp := [⟨0, (some 3), none, (.q (.box 28 (.t 0))), []⟩, ⟨1, (some 6), none, (.q (.mov (.k (.bool false)))), []⟩]
@[simp] def b_TreePaths_2 (_ : Unit) : EB := reg0 (hid l_TreePaths_1) 2
@[simp] def l_TreePaths_5 (_ : Unit) : List EOp := [⟨12, (some 35), (some (32, false)), (.q (.bin .gtr (.t 34) (.k (.int .i64 100)))), []⟩, ⟨13, (some 36), none, (.q (.pick (.t 32) (.k (.bool true)) (.t 35))), []⟩]
@[simp] def l_TreePaths_4 (_ : Unit) : List EOp := ⟨6, (some 29), (some (27, false)), (.q (.len (.t 28))), []⟩ :: ⟨7, (some 30), (some (27, false)), (.q (.bin .gtr (.t 29) (.k (.int .i64 100)))), []⟩ :: ⟨8, (some 31), none, (.q (.pick (.t 27) (.k (.bool true)) (.t 30))), []⟩ :: ⟨9, (some 32), none, (.q (.mov (.t 31))), []⟩ :: ⟨10, (some 33), (some (32, false)), (.q (.mov (.t 2))), []⟩ :: ⟨11, (some 34), (some (32, false)), (.q (.len (.t 33))), []⟩ :: hid l_TreePaths_5
@[simp] def l_TreePaths_3 (_ : Unit) : List EOp := ⟨0, (some 23), none, (.q (.fad 34 (.t 3))), []⟩ :: ⟨1, (some 24), none, (.q (.ldc (.t 23))), []⟩ :: ⟨2, (some 25), none, (.q (.len (.t 24))), []⟩ :: ⟨3, (some 26), none, (.q (.bin .gtr (.t 25) (.k (.int .i64 100)))), []⟩ :: ⟨4, (some 27), none, (.q (.mov (.t 26))), []⟩ :: ⟨5, (some 28), (some (27, false)), (.q (.mov (.t 1))), []⟩ :: hid l_TreePaths_4
@[simp] def b_TreePaths_6 (_ : Unit) : EB := reg0 (hid l_TreePaths_3) 14
@[simp] def l_TreePaths_7 (_ : Unit) : List EOp := [⟨0, (some 37), none, (.call 14 []), []⟩, ⟨1, (some 6), none, (.q (.mov (.t 37))), []⟩]
@[simp] def b_TreePaths_8 (_ : Unit) : EB := reg0 (hid l_TreePaths_7) 2
@[simp] def b_TreePaths_9 (_ : Unit) : EB := .seq (hid b_TreePaths_8) .ret
@[simp] def b_TreePaths_10 (_ : Unit) : EB := .cond (.t 36) (hid b_TreePaths_9) .skip
@[simp] def b_TreePaths_11 (_ : Unit) : EB := .seq (hid b_TreePaths_6) (hid b_TreePaths_10)
@[simp] def l_TreePaths_12 (_ : Unit) : List EOp := [⟨0, (some 38), none, (.q (.lda 40 (.t 3))), []⟩, ⟨1, (some 39), none, (.call 15 [(.t 38)]), []⟩, ⟨2, (some 7), none, (.q (.alloc 31 (zU8 ++ [(.int .i64 0), (.int .i64 0), (.slice none 0 0), (.int .i64 0), (.int .i64 0), (.int .i64 0), (.int .i64 0), (.int .i64 0)]))), []⟩, ⟨3, none, none, (.fz (.sto 40 (.t 7) (.t 39))), []⟩]
@[simp] def b_TreePaths_13 (_ : Unit) : EB := reg0 (hid l_TreePaths_12) 4
@[simp] def l_TreePaths_15 (_ : Unit) : List EOp := [⟨6, (some 9), none, (.q (.mov (.t 44))), []⟩]
@[simp] def l_TreePaths_14 (_ : Unit) : List EOp := ⟨0, (some 41), none, (.q (.lda 40 (.t 7))), []⟩ :: ⟨1, (some 42), none, (.call 9 [(.t 41)]), []⟩ :: ⟨2, (some 40), none, (.q (.mov (.t 42))), []⟩ :: ⟨3, (some 43), none, (.q (.ext 0 (.t 40))), []⟩ :: ⟨4, (some 44), none, (.q (.ext 1 (.t 40))), []⟩ :: ⟨5, (some 8), none, (.q (.mov (.t 43))), []⟩ :: hid l_TreePaths_15
@[simp] def b_TreePaths_16 (_ : Unit) : EB := reg0 (hid l_TreePaths_14) 7
@[simp] def l_TreePaths_18 (_ : Unit) : List EOp := [⟨6, (some 11), none, (.q (.mov (.t 49))), []⟩]
@[simp] def l_TreePaths_17 (_ : Unit) : List EOp := ⟨0, (some 46), none, (.q (.lda 40 (.t 3))), []⟩ :: ⟨1, (some 47), none, (.call 19 [(.t 46)]), []⟩ :: ⟨2, (some 45), none, (.q (.mov (.t 47))), []⟩ :: ⟨3, (some 48), none, (.q (.ext 0 (.t 45))), []⟩ :: ⟨4, (some 49), none, (.q (.ext 1 (.t 45))), []⟩ :: ⟨5, (some 10), none, (.q (.mov (.t 48))), []⟩ :: hid l_TreePaths_18
@[simp] def b_TreePaths_19 (_ : Unit) : EB := reg0 (hid l_TreePaths_17) 7
@[simp] def l_TreePaths_21 (_ : Unit) : List EOp := [⟨6, (some 12), none, (.q (.mov (.t 54))), []⟩, ⟨7, (some 13), none, (.q (.mov (.t 55))), []⟩]
@[simp] def l_TreePaths_20 (_ : Unit) : List EOp := ⟨0, (some 51), none, (.q (.lda 40 (.t 7))), []⟩ :: ⟨1, (some 52), none, (.q (.mov (.t 1))), []⟩ :: ⟨2, (some 53), none, (.call 12 [(.t 51), (.t 52)]), []⟩ :: ⟨3, (some 50), none, (.q (.mov (.t 53))), []⟩ :: ⟨4, (some 54), none, (.q (.ext 0 (.t 50))), []⟩ :: ⟨5, (some 55), none, (.q (.ext 1 (.t 50))), []⟩ :: hid l_TreePaths_21
@[simp] def b_TreePaths_22 (_ : Unit) : EB := reg0 (hid l_TreePaths_20) 8
@[simp] def l_TreePaths_24 (_ : Unit) : List EOp := [⟨6, (some 14), none, (.q (.mov (.t 60))), []⟩, ⟨7, (some 15), none, (.q (.mov (.t 61))), []⟩]
@[simp] def l_TreePaths_23 (_ : Unit) : List EOp := ⟨0, (some 57), none, (.q (.lda 40 (.t 3))), []⟩ :: ⟨1, (some 58), none, (.q (.mov (.t 1))), []⟩ :: ⟨2, (some 59), none, (.call 17 [(.t 57), (.t 58)]), []⟩ :: ⟨3, (some 56), none, (.q (.mov (.t 59))), []⟩ :: ⟨4, (some 60), none, (.q (.ext 0 (.t 56))), []⟩ :: ⟨5, (some 61), none, (.q (.ext 1 (.t 56))), []⟩ :: hid l_TreePaths_24
@[simp] def b_TreePaths_25 (_ : Unit) : EB := reg0 (hid l_TreePaths_23) 8
@[simp] def l_TreePaths_27 (_ : Unit) : List EOp := [⟨6, (some 16), none, (.q (.mov (.t 66))), []⟩, ⟨7, (some 17), none, (.q (.mov (.t 67))), []⟩]
@[simp] def l_TreePaths_26 (_ : Unit) : List EOp := ⟨0, (some 63), none, (.q (.lda 40 (.t 7))), []⟩ :: ⟨1, (some 64), none, (.q (.mov (.t 1))), []⟩ :: ⟨2, (some 65), none, (.call 10 [(.t 63), (.t 64)]), []⟩ :: ⟨3, (some 62), none, (.q (.mov (.t 65))), []⟩ :: ⟨4, (some 66), none, (.q (.ext 0 (.t 62))), []⟩ :: ⟨5, (some 67), none, (.q (.ext 1 (.t 62))), []⟩ :: hid l_TreePaths_27
@[simp] def b_TreePaths_28 (_ : Unit) : EB := reg0 (hid l_TreePaths_26) 8
@[simp] def l_TreePaths_30 (_ : Unit) : List EOp := [⟨6, (some 18), none, (.q (.mov (.t 72))), []⟩, ⟨7, (some 19), none, (.q (.mov (.t 73))), []⟩]
@[simp] def l_TreePaths_29 (_ : Unit) : List EOp := ⟨0, (some 69), none, (.q (.lda 40 (.t 3))), []⟩ :: ⟨1, (some 70), none, (.q (.mov (.t 1))), []⟩ :: ⟨2, (some 71), none, (.call 16 [(.t 69), (.t 70)]), []⟩ :: ⟨3, (some 68), none, (.q (.mov (.t 71))), []⟩ :: ⟨4, (some 72), none, (.q (.ext 0 (.t 68))), []⟩ :: ⟨5, (some 73), none, (.q (.ext 1 (.t 68))), []⟩ :: hid l_TreePaths_30
@[simp] def b_TreePaths_31 (_ : Unit) : EB := reg0 (hid l_TreePaths_29) 8
@[simp] def l_TreePaths_33 (_ : Unit) : List EOp := [⟨6, (some 21), none, (.q (.mov (.t 78))), []⟩]
@[simp] def l_TreePaths_32 (_ : Unit) : List EOp := ⟨0, (some 75), none, (.q (.lda 40 (.t 7))), []⟩ :: ⟨1, (some 76), none, (.call 20 [(.t 75)]), []⟩ :: ⟨2, (some 74), none, (.q (.mov (.t 76))), []⟩ :: ⟨3, (some 77), none, (.q (.ext 0 (.t 74))), []⟩ :: ⟨4, (some 78), none, (.q (.ext 1 (.t 74))), []⟩ :: ⟨5, (some 20), none, (.q (.mov (.t 77))), []⟩ :: hid l_TreePaths_33
@[simp] def b_TreePaths_34 (_ : Unit) : EB := reg0 (hid l_TreePaths_32) 7
@[simp] def l_TreePaths_35 (_ : Unit) : List EOp := [⟨0, (some 22), none, (.q (.mov (.k (.int .i64 0)))), []⟩]
@[simp] def b_TreePaths_36 (_ : Unit) : EB := reg0 (hid l_TreePaths_35) 1
@[simp] def l_TreePaths_37 (_ : Unit) : List EOp := [⟨0, (some 79), none, (.q (.lda 40 (.t 3))), []⟩, ⟨1, (some 80), none, (.call 21 [(.t 79)]), []⟩, ⟨2, (some 81), none, (.q (.bin .eql (.t 80) (.k (.int .i64 0)))), []⟩]
@[simp] def b_TreePaths_38 (_ : Unit) : EB := reg0 (hid l_TreePaths_37) 3
@[simp] def l_TreePaths_40 (_ : Unit) : List EOp := [⟨6, (some 88), none, (.q (.bin .mul (.t 85) (.t 87))), []⟩, ⟨7, (some 89), none, (.q (.bin .sub (.t 83) (.t 88))), []⟩, ⟨8, (some 22), none, (.q (.mov (.t 89))), []⟩]
@[simp] def l_TreePaths_39 (_ : Unit) : List EOp := ⟨0, (some 82), none, (.q (.fad 33 (.t 3))), []⟩ :: ⟨1, (some 83), none, (.q (.ldc (.t 82))), []⟩ :: ⟨2, (some 84), none, (.q (.fad 35 (.t 3))), []⟩ :: ⟨3, (some 85), none, (.q (.ldc (.t 84))), []⟩ :: ⟨4, (some 86), none, (.q (.fad 39 (.t 3))), []⟩ :: ⟨5, (some 87), none, (.q (.ldc (.t 86))), []⟩ :: hid l_TreePaths_40
@[simp] def b_TreePaths_41 (_ : Unit) : EB := reg0 (hid l_TreePaths_39) 9
@[simp] def b_TreePaths_42 (_ : Unit) : EB := .cond (.t 81) (hid b_TreePaths_41) .skip
@[simp] def b_TreePaths_43 (_ : Unit) : EB := .seq (hid b_TreePaths_38) (hid b_TreePaths_42)
@[simp] def l_TreePaths_54 (_ : Unit) : List EOp := [⟨60, (some 150), (some (141, true)), (.q (.eqb false (.t 145) (.t 149))), []⟩, ⟨61, (some 151), none, (.q (.pick (.t 141) (.t 150) (.k (.bool false)))), []⟩, ⟨62, (some 152), none, (.q (.mov (.t 151))), []⟩, ⟨63, (some 153), (some (152, true)), (.call 14 []), []⟩, ⟨64, (some 154), none, (.q (.pick (.t 152) (.t 153) (.k (.bool false)))), []⟩, ⟨65, (some 6), none, (.q (.mov (.t 154))), []⟩]
@[simp] def l_TreePaths_53 (_ : Unit) : List EOp := ⟨54, (some 144), (some (141, true)), (.q (.mov (.t 2))), []⟩ :: ⟨56, (some 146), (some (141, true)), (.q (.lda 40 (.t 3))), []⟩ :: ⟨57, (some 147), (some (141, true)), (.q (.mov (.t 1))), []⟩ :: ⟨58, (some 148), (some (141, true)), (.q (.mov (.t 2))), []⟩ :: ⟨55, (some 145), (some (141, true)), (.call 11 [(.t 142), (.t 143), (.t 144)]), [56, 57, 58]⟩ :: ⟨59, (some 149), (some (141, true)), (.call 23 [(.t 146), (.t 147), (.t 148)]), []⟩ :: hid l_TreePaths_54
@[simp] def l_TreePaths_52 (_ : Unit) : List EOp := ⟨48, (some 138), (some (134, true)), (.call 21 [(.t 137)]), []⟩ :: ⟨49, (some 139), (some (134, true)), (.q (.bin .eql (.t 136) (.t 138))), []⟩ :: ⟨50, (some 140), none, (.q (.pick (.t 134) (.t 139) (.k (.bool false)))), []⟩ :: ⟨51, (some 141), none, (.q (.mov (.t 140))), []⟩ :: ⟨52, (some 142), (some (141, true)), (.q (.lda 40 (.t 7))), []⟩ :: ⟨53, (some 143), (some (141, true)), (.q (.mov (.t 1))), []⟩ :: hid l_TreePaths_53
@[simp] def l_TreePaths_51 (_ : Unit) : List EOp := ⟨42, (some 132), (some (129, true)), (.q (.bin .eql (.t 130) (.t 131))), []⟩ :: ⟨43, (some 133), none, (.q (.pick (.t 129) (.t 132) (.k (.bool false)))), []⟩ :: ⟨44, (some 134), none, (.q (.mov (.t 133))), []⟩ :: ⟨45, (some 135), (some (134, true)), (.q (.mov (.t 21))), []⟩ :: ⟨47, (some 137), (some (134, true)), (.q (.lda 40 (.t 3))), []⟩ :: ⟨46, (some 136), (some (134, true)), (.call 13 [(.t 135)]), [47]⟩ :: hid l_TreePaths_52
@[simp] def l_TreePaths_50 (_ : Unit) : List EOp := ⟨35, (some 125), (some (123, true)), (.call 13 [(.t 124)]), [36]⟩ :: ⟨37, (some 127), (some (123, true)), (.q (.bin .eql (.t 125) (.t 126))), []⟩ :: ⟨38, (some 128), none, (.q (.pick (.t 123) (.t 127) (.k (.bool false)))), []⟩ :: ⟨39, (some 129), none, (.q (.mov (.t 128))), []⟩ :: ⟨40, (some 130), (some (129, true)), (.q (.mov (.t 20))), []⟩ :: ⟨41, (some 131), (some (129, true)), (.q (.mov (.t 22))), []⟩ :: hid l_TreePaths_51
@[simp] def l_TreePaths_49 (_ : Unit) : List EOp := ⟨30, (some 120), (some (118, true)), (.q (.mov (.t 18))), []⟩ :: ⟨31, (some 121), (some (118, true)), (.q (.bin .eql (.t 119) (.t 120))), []⟩ :: ⟨32, (some 122), none, (.q (.pick (.t 118) (.t 121) (.k (.bool false)))), []⟩ :: ⟨33, (some 123), none, (.q (.mov (.t 122))), []⟩ :: ⟨34, (some 124), (some (123, true)), (.q (.mov (.t 17))), []⟩ :: ⟨36, (some 126), (some (123, true)), (.q (.mov (.t 19))), []⟩ :: hid l_TreePaths_50
@[simp] def l_TreePaths_48 (_ : Unit) : List EOp := ⟨25, (some 115), (some (112, true)), (.q (.mov (.t 15))), []⟩ :: ⟨24, (some 114), (some (112, true)), (.call 13 [(.t 113)]), [25]⟩ :: ⟨26, (some 116), (some (112, true)), (.q (.bin .eql (.t 114) (.t 115))), []⟩ :: ⟨27, (some 117), none, (.q (.pick (.t 112) (.t 116) (.k (.bool false)))), []⟩ :: ⟨28, (some 118), none, (.q (.mov (.t 117))), []⟩ :: ⟨29, (some 119), (some (118, true)), (.q (.mov (.t 16))), []⟩ :: hid l_TreePaths_49
@[simp] def l_TreePaths_47 (_ : Unit) : List EOp := ⟨18, (some 108), (some (107, true)), (.q (.mov (.t 12))), []⟩ :: ⟨19, (some 109), (some (107, true)), (.q (.mov (.t 14))), []⟩ :: ⟨20, (some 110), (some (107, true)), (.call 18 [(.t 108), (.t 109)]), []⟩ :: ⟨21, (some 111), none, (.q (.pick (.t 107) (.t 110) (.k (.bool false)))), []⟩ :: ⟨22, (some 112), none, (.q (.mov (.t 111))), []⟩ :: ⟨23, (some 113), (some (112, true)), (.q (.mov (.t 13))), []⟩ :: hid l_TreePaths_48
@[simp] def l_TreePaths_46 (_ : Unit) : List EOp := ⟨12, (some 102), (some (101, true)), (.q (.mov (.t 9))), []⟩ :: ⟨14, (some 104), (some (101, true)), (.q (.mov (.t 11))), []⟩ :: ⟨13, (some 103), (some (101, true)), (.call 13 [(.t 102)]), [14]⟩ :: ⟨15, (some 105), (some (101, true)), (.q (.bin .eql (.t 103) (.t 104))), []⟩ :: ⟨16, (some 106), none, (.q (.pick (.t 101) (.t 105) (.k (.bool false)))), []⟩ :: ⟨17, (some 107), none, (.q (.mov (.t 106))), []⟩ :: hid l_TreePaths_47
@[simp] def l_TreePaths_45 (_ : Unit) : List EOp := ⟨6, (some 96), none, (.q (.mov (.t 95))), []⟩ :: ⟨7, (some 97), (some (96, true)), (.q (.mov (.t 8))), []⟩ :: ⟨8, (some 98), (some (96, true)), (.q (.mov (.t 10))), []⟩ :: ⟨9, (some 99), (some (96, true)), (.call 18 [(.t 97), (.t 98)]), []⟩ :: ⟨10, (some 100), none, (.q (.pick (.t 96) (.t 99) (.k (.bool false)))), []⟩ :: ⟨11, (some 101), none, (.q (.mov (.t 100))), []⟩ :: hid l_TreePaths_46
@[simp] def l_TreePaths_44 (_ : Unit) : List EOp := ⟨0, (some 90), none, (.q (.lda 40 (.t 7))), []⟩ :: ⟨3, (some 93), none, (.q (.lda 40 (.t 3))), []⟩ :: ⟨1, (some 91), none, (.call 22 [(.t 90)]), [3]⟩ :: ⟨2, (some 92), none, (.call 13 [(.t 91)]), [3]⟩ :: ⟨4, (some 94), none, (.call 21 [(.t 93)]), []⟩ :: ⟨5, (some 95), none, (.q (.bin .eql (.t 92) (.t 94))), []⟩ :: hid l_TreePaths_45
@[simp] def b_TreePaths_55 (_ : Unit) : EB := reg1 (hid l_TreePaths_44) 66
@[simp] def b_TreePaths_56 (_ : Unit) : EB := .seq (hid b_TreePaths_55) .ret
@[simp] def b_TreePaths_57 (_ : Unit) : EB := .seq (hid b_TreePaths_43) (hid b_TreePaths_56)
@[simp] def b_TreePaths_58 (_ : Unit) : EB := .seq (hid b_TreePaths_36) (hid b_TreePaths_57)
@[simp] def b_TreePaths_59 (_ : Unit) : EB := .seq (hid b_TreePaths_34) (hid b_TreePaths_58)
@[simp] def b_TreePaths_60 (_ : Unit) : EB := .seq (hid b_TreePaths_31) (hid b_TreePaths_59)
@[simp] def b_TreePaths_61 (_ : Unit) : EB := .seq (hid b_TreePaths_28) (hid b_TreePaths_60)
@[simp] def b_TreePaths_62 (_ : Unit) : EB := .seq (hid b_TreePaths_25) (hid b_TreePaths_61)
@[simp] def b_TreePaths_63 (_ : Unit) : EB := .seq (hid b_TreePaths_22) (hid b_TreePaths_62)
@[simp] def b_TreePaths_64 (_ : Unit) : EB := .seq (hid b_TreePaths_19) (hid b_TreePaths_63)
@[simp] def b_TreePaths_65 (_ : Unit) : EB := .seq (hid b_TreePaths_16) (hid b_TreePaths_64)
@[simp] def b_TreePaths_66 (_ : Unit) : EB := .seq (hid b_TreePaths_13) (hid b_TreePaths_65)
@[simp] def b_TreePaths_67 (_ : Unit) : EB := .seq (hid b_TreePaths_11) (hid b_TreePaths_66)
@[simp] def b_TreePaths_68 (_ : Unit) : EB := .seq (hid b_TreePaths_2) (hid b_TreePaths_67)
def c_TreePaths : EB × List QOp × Nat := ((hid b_TreePaths_68), [(.mov (.t 6))], 155)
theorem k_TreePaths : cfun Tryd.prog 6 = some c_TreePaths := by kernel_rfl


def roomT (c : Cfg) : Int × Nat := if chkT c ≠ 0 then (0, chkT c) else (c.am - c.dep * c.fee, 0)

set_option maxRecDepth 8000 in
set_option maxHeartbeats 4000000 in
theorem Room_ok (c : Cfg) (hc : c.ok) : ECalls Tryd.prog 20 [CV c] [] fun y H' => H' = [] ∧ y = .tup [.c (.fz (.lit (.int .i64 (roomT c).1))), .c (.fz (.lit (errV (roomT c).2)))] := by
  have h32 := hc.1
  have t40 := tk40 h32
  refine ecalls k_Room ?_
  simp [c_Room, CV, cfgC, cfgT, h32, t40]
  refine call0 (TCheck_ok c hc) (by simp [I, EV.lit, Ptr, IL, CV, cfgC, cfgT, h32, tk40 h32, PE, PI]) ?_
  rintro y H' ⟨rfl, rfl⟩
  refine ⟨.inl (by simp [I, EV.lit, Ptr, IL, CV, cfgC, cfgT, h32, tk40 h32, PE, PI]), le_ok rfl, ?_⟩
  simp [I, EV.lit, Ptr, IL, CV, cfgC, cfgT, h32, tk40 h32, PE, PI]
  by_cases hk : chkT c = 0
  rotate_left
  · have hh : roomT c = (0, chkT c) := by simp [roomT, hk]
    rw [hh]
    simp [hk]
    exact fin [] (by decide) rfl rfl rfl ⟨rfl, rfl⟩
  have hh : roomT c = (c.am - c.dep * c.fee, 0) := by simp [roomT, hk]
  rw [hh]
  obtain ⟨hR, hA, -, -⟩ := chk_okR hk
  simp [hk, h32, t40]
  refine call0 (Troom_ok c hc ⟨hR.1, hR.2.1, hA.2.1, hA.2.2.1, hA.2.2.2.1, hA.2.2.2.2⟩) (by simp [I, EV.lit, Ptr, IL, CV, cfgC, cfgT, h32, tk40 h32, PE, PI]) ?_
  rintro y H' ⟨rfl, rfl⟩
  refine ⟨.inl (by simp [I, EV.lit, Ptr, IL, CV, cfgC, cfgT, h32, tk40 h32, PE, PI]), le_ok rfl, ?_⟩
  simp [I, EV.lit, Ptr, IL, CV, cfgC, cfgT, h32, tk40 h32, PE, PI]
  exact fin [] (by decide) rfl rfl rfl ⟨rfl, rfl⟩

theorem begT_len (c : Cfg) : (begT c).1.length ≤ 100000000 := by
  unfold begT
  split
  · simp
  · rename_i h
    have := (chk_okR (Classical.not_not.1 h)).1.2.1
    simp; omega
theorem nextT_len (c : Cfg) (p : List Int) (hl : p.length ≤ 100000000) : (nextT c p).1.length ≤ 100000000 := by
  unfold nextT
  split
  · simp
  · split
    · simp
    · simp [upTo_len]; exact hl

set_option maxRecDepth 8000 in
set_option maxHeartbeats 16000000 in
theorem TreePaths_ok (c : Cfg) (a b : List Int) (hc : c.ok) (ha : a.length ≤ 100000000) (hb : b.length ≤ 100000000) : ECalls Tryd.prog 6 [CV c, IL a, IL b] [] fun y H' => H' = [] ∧ y = .lit (.bool true) := by
  have h32 := hc.1
  have t40 := tk40 h32
  have g40 := tkG h32 8 40 rfl
  refine ecalls k_TreePaths ?_
  simp [c_TreePaths, CV, cfgC, cfgT, IL, h32, t40]
  by_cases n1 : (100 : Int) < c.keys.length
  · have h1 : ¬ (c.keys.length : Int) ≤ 100 := by omega
    simp [h1, n1]
    refine call0 (sure_ok) (by simp [I, EV.lit, Ptr, IL, CV, cfgC, cfgT, h32, tk40 h32, PE, PI]) ?_
    rintro y H' ⟨rfl, rfl⟩
    refine ⟨.inl (by simp [I, EV.lit, Ptr, IL, CV, cfgC, cfgT, h32, tk40 h32, PE, PI]), le_ok rfl, ?_⟩
    simp [I, EV.lit, Ptr, IL, CV, cfgC, cfgT, h32, tk40 h32, PE, PI]
    exact fin [] (by decide) rfl rfl rfl ⟨rfl, rfl⟩
  have h1 : (c.keys.length : Int) ≤ 100 := by omega
  by_cases n2 : (100 : Int) < a.length
  · have h2 : ¬ (a.length : Int) ≤ 100 := by omega
    simp [h1, n1, h2, n2]
    refine call0 (sure_ok) (by simp [I, EV.lit, Ptr, IL, CV, cfgC, cfgT, h32, tk40 h32, PE, PI]) ?_
    rintro y H' ⟨rfl, rfl⟩
    refine ⟨.inl (by simp [I, EV.lit, Ptr, IL, CV, cfgC, cfgT, h32, tk40 h32, PE, PI]), le_ok rfl, ?_⟩
    simp [I, EV.lit, Ptr, IL, CV, cfgC, cfgT, h32, tk40 h32, PE, PI]
    exact fin [] (by decide) rfl rfl rfl ⟨rfl, rfl⟩
  have h2 : (a.length : Int) ≤ 100 := by omega
  by_cases n3 : (100 : Int) < b.length
  · have h3 : ¬ (b.length : Int) ≤ 100 := by omega
    simp [h1, n1, h2, n2, h3, n3]
    refine call0 (sure_ok) (by simp [I, EV.lit, Ptr, IL, CV, cfgC, cfgT, h32, tk40 h32, PE, PI]) ?_
    rintro y H' ⟨rfl, rfl⟩
    refine ⟨.inl (by simp [I, EV.lit, Ptr, IL, CV, cfgC, cfgT, h32, tk40 h32, PE, PI]), le_ok rfl, ?_⟩
    simp [I, EV.lit, Ptr, IL, CV, cfgC, cfgT, h32, tk40 h32, PE, PI]
    exact fin [] (by decide) rfl rfl rfl ⟨rfl, rfl⟩
  have h3 : (b.length : Int) ≤ 100 := by omega
  simp [h1, n1, h2, n2, h3, n3, h32, t40]
  refine call0 (giveTree_ok c hc) (by simp [I, EV.lit, Ptr, IL, CV, cfgC, cfgT, h32, tk40 h32, PE, PI]) ?_
  rintro y H' ⟨rfl, rfl⟩
  refine ⟨.inl (by simp [I, EV.lit, Ptr, IL, CV, cfgC, cfgT, h32, tk40 h32, PE, PI]), le_ok rfl, ?_⟩
  simp [I, EV.lit, Ptr, IL, CV, cfgC, cfgT, h32, tk40 h32, PE, PI]
  simp [drG hz_len 8 40 rfl, h32, t40]
  refine call0 (TBegin_ok c hc) (by simp [I, EV.lit, Ptr, IL, CV, cfgC, cfgT, h32, tk40 h32, PE, PI]) ?_
  rintro y H' ⟨rfl, rfl⟩
  refine ⟨.inl (by simp [I, EV.lit, Ptr, IL, CV, cfgC, cfgT, h32, tk40 h32, PE, PI]), le_ok rfl, ?_⟩
  simp [I, EV.lit, Ptr, IL, CV, cfgC, cfgT, h32, tk40 h32, PE, PI]
  refine call0 (RTBegin_ok c hc) (by simp [I, EV.lit, Ptr, IL, CV, cfgC, cfgT, h32, tk40 h32, PE, PI]) ?_
  rintro y H' ⟨rfl, rfl⟩
  refine ⟨.inl (by simp [I, EV.lit, Ptr, IL, CV, cfgC, cfgT, h32, tk40 h32, PE, PI]), le_ok rfl, ?_⟩
  simp [I, EV.lit, Ptr, IL, CV, cfgC, cfgT, h32, tk40 h32, PE, PI]
  refine call0 (TNext_ok c a hc ha) (by simp [I, EV.lit, Ptr, IL, CV, cfgC, cfgT, h32, tk40 h32, PE, PI]) ?_
  rintro y H' ⟨rfl, rfl⟩
  refine ⟨.inl (by simp [I, EV.lit, Ptr, IL, CV, cfgC, cfgT, h32, tk40 h32, PE, PI]), le_ok rfl, ?_⟩
  simp [I, EV.lit, Ptr, IL, CV, cfgC, cfgT, h32, tk40 h32, PE, PI]
  refine call0 (RTNext_ok c a hc ha) (by simp [I, EV.lit, Ptr, IL, CV, cfgC, cfgT, h32, tk40 h32, PE, PI]) ?_
  rintro y H' ⟨rfl, rfl⟩
  refine ⟨.inl (by simp [I, EV.lit, Ptr, IL, CV, cfgC, cfgT, h32, tk40 h32, PE, PI]), le_ok rfl, ?_⟩
  simp [I, EV.lit, Ptr, IL, CV, cfgC, cfgT, h32, tk40 h32, PE, PI]
  refine call0 (TLeft_ok c a hc ha) (by simp [I, EV.lit, Ptr, IL, CV, cfgC, cfgT, h32, tk40 h32, PE, PI]) ?_
  rintro y H' ⟨rfl, rfl⟩
  refine ⟨.inl (by simp [I, EV.lit, Ptr, IL, CV, cfgC, cfgT, h32, tk40 h32, PE, PI]), le_ok rfl, ?_⟩
  simp [I, EV.lit, Ptr, IL, CV, cfgC, cfgT, h32, tk40 h32, PE, PI]
  refine call0 (RTLeft_ok c a hc ha) (by simp [I, EV.lit, Ptr, IL, CV, cfgC, cfgT, h32, tk40 h32, PE, PI]) ?_
  rintro y H' ⟨rfl, rfl⟩
  refine ⟨.inl (by simp [I, EV.lit, Ptr, IL, CV, cfgC, cfgT, h32, tk40 h32, PE, PI]), le_ok rfl, ?_⟩
  simp [I, EV.lit, Ptr, IL, CV, cfgC, cfgT, h32, tk40 h32, PE, PI]
  refine call0 (Room_ok c hc) (by simp [I, EV.lit, Ptr, IL, CV, cfgC, cfgT, h32, tk40 h32, PE, PI]) ?_
  rintro y H' ⟨rfl, rfl⟩
  refine ⟨.inl (by simp [I, EV.lit, Ptr, IL, CV, cfgC, cfgT, h32, tk40 h32, PE, PI]), le_ok rfl, ?_⟩
  simp [I, EV.lit, Ptr, IL, CV, cfgC, cfgT, h32, tk40 h32, PE, PI]
  refine call0 (RTCheck_ok c hc) (by simp [I, EV.lit, Ptr, IL, CV, cfgC, cfgT, h32, tk40 h32, PE, PI]) ?_
  rintro y H' ⟨rfl, rfl⟩
  refine ⟨.inl (by simp [I, EV.lit, Ptr, IL, CV, cfgC, cfgT, h32, tk40 h32, PE, PI]), le_ok rfl, ?_⟩
  simp [I, EV.lit, Ptr, IL, CV, cfgC, cfgT, h32, tk40 h32, PE, PI]
  by_cases hk : chkT c = 0
  · obtain ⟨hR, hA, -, -⟩ := chk_okR hk
    obtain ⟨r1, r2, r3, r4, r5, r6, r7⟩ := id hR
    obtain ⟨q1, q2, q3, q4, q5⟩ := id hA
    have hm : 0 ≤ c.dep * c.fee ∧ c.dep * c.fee ≤ 8 * 1125899906842624 := ⟨Int.mul_nonneg (by omega) q2, Int.le_trans (Int.mul_le_mul_of_nonneg_right r2 q2) (Int.mul_le_mul_of_nonneg_left q3 (by omega))⟩
    have w1 : IntKind.i64.wrap (c.dep * c.fee) = c.dep * c.fee := wrap_i64 (by omega) (by omega)
    have w2 : IntKind.i64.wrap (c.am - c.dep * c.fee) = c.am - c.dep * c.fee := wrap_i64 (by omega) (by omega)
    have hr : roomT c = (c.am - c.dep * c.fee, 0) := by simp [roomT, hk]
    simp [hk, h32, t40, w1, w2, hr]
    refine call0 (TCheck_ok c hc) (by simp [I, EV.lit, Ptr, IL, CV, cfgC, cfgT, h32, tk40 h32, PE, PI]) ?_
    rintro y H' ⟨rfl, rfl⟩
    refine ⟨.inl (by simp [I, EV.lit, Ptr, IL, CV, cfgC, cfgT, h32, tk40 h32, PE, PI]), le_ok rfl, ?_⟩
    simp [I, EV.lit, Ptr, IL, CV, cfgC, cfgT, h32, tk40 h32, PE, PI]
    refine call0 (num_e (chkT c)) (by simp [I, EV.lit, Ptr, IL, CV, cfgC, cfgT, h32, tk40 h32, PE, PI]) ?_
    rintro y H' ⟨rfl, rfl⟩
    refine ⟨.inl (by simp [I, EV.lit, Ptr, IL, CV, cfgC, cfgT, h32, tk40 h32, PE, PI]), le_ok rfl, ?_⟩
    simp [I, EV.lit, Ptr, IL, CV, cfgC, cfgT, h32, tk40 h32, PE, PI]
    refine call0 (RTCheck_ok c hc) (by simp [I, EV.lit, Ptr, IL, CV, cfgC, cfgT, h32, tk40 h32, PE, PI]) ?_
    rintro y H' ⟨rfl, rfl⟩
    refine ⟨.inl (by simp [I, EV.lit, Ptr, IL, CV, cfgC, cfgT, h32, tk40 h32, PE, PI]), le_ok rfl, ?_⟩
    simp [I, EV.lit, Ptr, IL, CV, cfgC, cfgT, h32, tk40 h32, PE, PI]
    refine call0 (ints_ok _ (begT_len c)) (by simp [I, EV.lit, Ptr, IL, CV, cfgC, cfgT, h32, tk40 h32, PE, PI]) ?_
    rintro y H' ⟨rfl, rfl⟩
    refine ⟨.inl (by simp [I, EV.lit, Ptr, IL, CV, cfgC, cfgT, h32, tk40 h32, PE, PI]), le_ok rfl, ?_⟩
    simp [I, EV.lit, Ptr, IL, CV, cfgC, cfgT, h32, tk40 h32, PE, PI]
    refine call0 (num_e (begT c).2) (by simp [I, EV.lit, Ptr, IL, CV, cfgC, cfgT, h32, tk40 h32, PE, PI]) ?_
    rintro y H' ⟨rfl, rfl⟩
    refine ⟨.inl (by simp [I, EV.lit, Ptr, IL, CV, cfgC, cfgT, h32, tk40 h32, PE, PI]), le_ok rfl, ?_⟩
    simp [I, EV.lit, Ptr, IL, CV, cfgC, cfgT, h32, tk40 h32, PE, PI]
    refine call0 (ints_ok _ (nextT_len c a ha)) (by simp [I, EV.lit, Ptr, IL, CV, cfgC, cfgT, h32, tk40 h32, PE, PI]) ?_
    rintro y H' ⟨rfl, rfl⟩
    refine ⟨.inl (by simp [I, EV.lit, Ptr, IL, CV, cfgC, cfgT, h32, tk40 h32, PE, PI]), le_ok rfl, ?_⟩
    simp [I, EV.lit, Ptr, IL, CV, cfgC, cfgT, h32, tk40 h32, PE, PI]
    refine call0 (num_e (nextT c a).2) (by simp [I, EV.lit, Ptr, IL, CV, cfgC, cfgT, h32, tk40 h32, PE, PI]) ?_
    rintro y H' ⟨rfl, rfl⟩
    refine ⟨.inl (by simp [I, EV.lit, Ptr, IL, CV, cfgC, cfgT, h32, tk40 h32, PE, PI]), le_ok rfl, ?_⟩
    simp [I, EV.lit, Ptr, IL, CV, cfgC, cfgT, h32, tk40 h32, PE, PI]
    refine call0 (num_e (leftT c a).2) (by simp [I, EV.lit, Ptr, IL, CV, cfgC, cfgT, h32, tk40 h32, PE, PI]) ?_
    rintro y H' ⟨rfl, rfl⟩
    refine ⟨.inl (by simp [I, EV.lit, Ptr, IL, CV, cfgC, cfgT, h32, tk40 h32, PE, PI]), le_ok rfl, ?_⟩
    simp [I, EV.lit, Ptr, IL, CV, cfgC, cfgT, h32, tk40 h32, PE, PI]
    refine call0 (num_e 0) (by simp [I, EV.lit, Ptr, IL, CV, cfgC, cfgT, h32, tk40 h32, PE, PI]) ?_
    rintro y H' ⟨rfl, rfl⟩
    refine ⟨.inl (by simp [I, EV.lit, Ptr, IL, CV, cfgC, cfgT, h32, tk40 h32, PE, PI]), le_ok rfl, ?_⟩
    simp [I, EV.lit, Ptr, IL, CV, cfgC, cfgT, h32, tk40 h32, PE, PI]
    refine call0 (RTCheck_ok c hc) (by simp [I, EV.lit, Ptr, IL, CV, cfgC, cfgT, h32, tk40 h32, PE, PI]) ?_
    rintro y H' ⟨rfl, rfl⟩
    refine ⟨.inl (by simp [I, EV.lit, Ptr, IL, CV, cfgC, cfgT, h32, tk40 h32, PE, PI]), le_ok rfl, ?_⟩
    simp [I, EV.lit, Ptr, IL, CV, cfgC, cfgT, h32, tk40 h32, PE, PI]
    simp [hk, h32, t40]
    refine call0 (TNewer_ok c a b hc ha hb) (by simp [I, EV.lit, Ptr, IL, CV, cfgC, cfgT, h32, tk40 h32, PE, PI]) ?_
    rintro y H' ⟨rfl, rfl⟩
    refine ⟨.inl (by simp [I, EV.lit, Ptr, IL, CV, cfgC, cfgT, h32, tk40 h32, PE, PI]), le_ok rfl, ?_⟩
    simp [I, EV.lit, Ptr, IL, CV, cfgC, cfgT, h32, tk40 h32, PE, PI]
    refine call0 (RTNewer_ok c a b hc ha hb) (by simp [I, EV.lit, Ptr, IL, CV, cfgC, cfgT, h32, tk40 h32, PE, PI]) ?_
    rintro y H' ⟨rfl, rfl⟩
    refine ⟨.inl (by simp [I, EV.lit, Ptr, IL, CV, cfgC, cfgT, h32, tk40 h32, PE, PI]), le_ok rfl, ?_⟩
    simp [I, EV.lit, Ptr, IL, CV, cfgC, cfgT, h32, tk40 h32, PE, PI]
    refine call0 (sure_ok) (by simp [I, EV.lit, Ptr, IL, CV, cfgC, cfgT, h32, tk40 h32, PE, PI]) ?_
    rintro y H' ⟨rfl, rfl⟩
    refine ⟨.inl (by simp [I, EV.lit, Ptr, IL, CV, cfgC, cfgT, h32, tk40 h32, PE, PI]), le_ok rfl, ?_⟩
    simp [I, EV.lit, Ptr, IL, CV, cfgC, cfgT, h32, tk40 h32, PE, PI]
    exact fin [] (by decide) rfl rfl rfl ⟨rfl, rfl⟩
  · have hr : roomT c = (0, chkT c) := by simp [roomT, hk]
    simp [hk, h32, t40, hr]
    refine call0 (TCheck_ok c hc) (by simp [I, EV.lit, Ptr, IL, CV, cfgC, cfgT, h32, tk40 h32, PE, PI]) ?_
    rintro y H' ⟨rfl, rfl⟩
    refine ⟨.inl (by simp [I, EV.lit, Ptr, IL, CV, cfgC, cfgT, h32, tk40 h32, PE, PI]), le_ok rfl, ?_⟩
    simp [I, EV.lit, Ptr, IL, CV, cfgC, cfgT, h32, tk40 h32, PE, PI]
    refine call0 (num_e (chkT c)) (by simp [I, EV.lit, Ptr, IL, CV, cfgC, cfgT, h32, tk40 h32, PE, PI]) ?_
    rintro y H' ⟨rfl, rfl⟩
    refine ⟨.inl (by simp [I, EV.lit, Ptr, IL, CV, cfgC, cfgT, h32, tk40 h32, PE, PI]), le_ok rfl, ?_⟩
    simp [I, EV.lit, Ptr, IL, CV, cfgC, cfgT, h32, tk40 h32, PE, PI]
    refine call0 (RTCheck_ok c hc) (by simp [I, EV.lit, Ptr, IL, CV, cfgC, cfgT, h32, tk40 h32, PE, PI]) ?_
    rintro y H' ⟨rfl, rfl⟩
    refine ⟨.inl (by simp [I, EV.lit, Ptr, IL, CV, cfgC, cfgT, h32, tk40 h32, PE, PI]), le_ok rfl, ?_⟩
    simp [I, EV.lit, Ptr, IL, CV, cfgC, cfgT, h32, tk40 h32, PE, PI]
    refine call0 (ints_ok _ (begT_len c)) (by simp [I, EV.lit, Ptr, IL, CV, cfgC, cfgT, h32, tk40 h32, PE, PI]) ?_
    rintro y H' ⟨rfl, rfl⟩
    refine ⟨.inl (by simp [I, EV.lit, Ptr, IL, CV, cfgC, cfgT, h32, tk40 h32, PE, PI]), le_ok rfl, ?_⟩
    simp [I, EV.lit, Ptr, IL, CV, cfgC, cfgT, h32, tk40 h32, PE, PI]
    refine call0 (num_e (begT c).2) (by simp [I, EV.lit, Ptr, IL, CV, cfgC, cfgT, h32, tk40 h32, PE, PI]) ?_
    rintro y H' ⟨rfl, rfl⟩
    refine ⟨.inl (by simp [I, EV.lit, Ptr, IL, CV, cfgC, cfgT, h32, tk40 h32, PE, PI]), le_ok rfl, ?_⟩
    simp [I, EV.lit, Ptr, IL, CV, cfgC, cfgT, h32, tk40 h32, PE, PI]
    refine call0 (ints_ok _ (nextT_len c a ha)) (by simp [I, EV.lit, Ptr, IL, CV, cfgC, cfgT, h32, tk40 h32, PE, PI]) ?_
    rintro y H' ⟨rfl, rfl⟩
    refine ⟨.inl (by simp [I, EV.lit, Ptr, IL, CV, cfgC, cfgT, h32, tk40 h32, PE, PI]), le_ok rfl, ?_⟩
    simp [I, EV.lit, Ptr, IL, CV, cfgC, cfgT, h32, tk40 h32, PE, PI]
    refine call0 (num_e (nextT c a).2) (by simp [I, EV.lit, Ptr, IL, CV, cfgC, cfgT, h32, tk40 h32, PE, PI]) ?_
    rintro y H' ⟨rfl, rfl⟩
    refine ⟨.inl (by simp [I, EV.lit, Ptr, IL, CV, cfgC, cfgT, h32, tk40 h32, PE, PI]), le_ok rfl, ?_⟩
    simp [I, EV.lit, Ptr, IL, CV, cfgC, cfgT, h32, tk40 h32, PE, PI]
    refine call0 (num_e (leftT c a).2) (by simp [I, EV.lit, Ptr, IL, CV, cfgC, cfgT, h32, tk40 h32, PE, PI]) ?_
    rintro y H' ⟨rfl, rfl⟩
    refine ⟨.inl (by simp [I, EV.lit, Ptr, IL, CV, cfgC, cfgT, h32, tk40 h32, PE, PI]), le_ok rfl, ?_⟩
    simp [I, EV.lit, Ptr, IL, CV, cfgC, cfgT, h32, tk40 h32, PE, PI]
    refine call0 (num_e (chkT c)) (by simp [I, EV.lit, Ptr, IL, CV, cfgC, cfgT, h32, tk40 h32, PE, PI]) ?_
    rintro y H' ⟨rfl, rfl⟩
    refine ⟨.inl (by simp [I, EV.lit, Ptr, IL, CV, cfgC, cfgT, h32, tk40 h32, PE, PI]), le_ok rfl, ?_⟩
    simp [I, EV.lit, Ptr, IL, CV, cfgC, cfgT, h32, tk40 h32, PE, PI]
    refine call0 (RTCheck_ok c hc) (by simp [I, EV.lit, Ptr, IL, CV, cfgC, cfgT, h32, tk40 h32, PE, PI]) ?_
    rintro y H' ⟨rfl, rfl⟩
    refine ⟨.inl (by simp [I, EV.lit, Ptr, IL, CV, cfgC, cfgT, h32, tk40 h32, PE, PI]), le_ok rfl, ?_⟩
    simp [I, EV.lit, Ptr, IL, CV, cfgC, cfgT, h32, tk40 h32, PE, PI]
    refine call0 (TNewer_ok c a b hc ha hb) (by simp [I, EV.lit, Ptr, IL, CV, cfgC, cfgT, h32, tk40 h32, PE, PI]) ?_
    rintro y H' ⟨rfl, rfl⟩
    refine ⟨.inl (by simp [I, EV.lit, Ptr, IL, CV, cfgC, cfgT, h32, tk40 h32, PE, PI]), le_ok rfl, ?_⟩
    simp [I, EV.lit, Ptr, IL, CV, cfgC, cfgT, h32, tk40 h32, PE, PI]
    refine call0 (RTNewer_ok c a b hc ha hb) (by simp [I, EV.lit, Ptr, IL, CV, cfgC, cfgT, h32, tk40 h32, PE, PI]) ?_
    rintro y H' ⟨rfl, rfl⟩
    refine ⟨.inl (by simp [I, EV.lit, Ptr, IL, CV, cfgC, cfgT, h32, tk40 h32, PE, PI]), le_ok rfl, ?_⟩
    simp [I, EV.lit, Ptr, IL, CV, cfgC, cfgT, h32, tk40 h32, PE, PI]
    refine call0 (sure_ok) (by simp [I, EV.lit, Ptr, IL, CV, cfgC, cfgT, h32, tk40 h32, PE, PI]) ?_
    rintro y H' ⟨rfl, rfl⟩
    refine ⟨.inl (by simp [I, EV.lit, Ptr, IL, CV, cfgC, cfgT, h32, tk40 h32, PE, PI]), le_ok rfl, ?_⟩
    simp [I, EV.lit, Ptr, IL, CV, cfgC, cfgT, h32, tk40 h32, PE, PI]
    exact fin [] (by decide) rfl rfl rfl ⟨rfl, rfl⟩

end Go.Proofs.YtoomdgmggkcgfaaDoor
