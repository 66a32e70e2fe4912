import Derived.Test.YtflcfdeanneoeaaGreatDoorAll14
import Derived.Test.YtflcfdeanneoeaaGreatDoorAll15
import Derived.Test.YtflcfdeanneoeaaGreatDoorAll6
namespace Go.Proofs.YtflcfdeanneoeaaGreatDoor
open Go Go.EW
set_option linter.unusedSimpArgs false
set_option linter.unusedVariables false
@[simp] def l_ROuts_1 (_ : Unit) : List EOp := [xQ 0 4 (.box 28 (.t 0)), xQ 1 5 (.box 32 (.t 1)), xQ 2 7 (.box 23 (.t 3)), xQ 3 8 (.mov (.k (.slice none 0 0))), xQ 4 9 (.mov (.k (.slice none 0 0)))]
@[simp] def b_ROuts_2 (_ : Unit) : EB := reg0 (hid l_ROuts_1) 5
@[simp] def l_ROuts_4 (_ : Unit) : List EOp := [xQ 6 27 (.fad 34 (.t 4)), xQ 7 28 (.iad 2 1 (.t 27) (.t 26)), xQ 8 29 (.ldc (.t 28)), xM 9 10 24, xM 10 11 29]
@[simp] def l_ROuts_3 (_ : Unit) : List EOp := xM 0 21 2 :: xQ 1 22 (.fad 34 (.t 4)) :: xQ 2 23 (.iad 2 1 (.t 22) (.t 21)) :: xQ 3 24 (.ldc (.t 23)) :: xM 4 25 2 :: xQ 5 26 (.bin .sub (.k (.int .i64 1)) (.t 25)) :: hid l_ROuts_4
@[simp] def b_ROuts_5 (_ : Unit) : EB := reg0 (hid l_ROuts_3) 11
@[simp] def l_ROuts_7 (_ : Unit) : List EOp := [xQ 6 36 (.fad 1 (.t 5)), xQ 7 37 (.iad 2 1 (.t 36) (.k (.int .i64 1))), xQ 8 38 (.ldc (.t 37)), xQ 9 39 (.build [(.int .i64 0), (.int .i64 0)] [(0, 1, (.t 35)), (1, 1, (.t 38))]), xQ 10 12 (.alloc 26 [(.int .i64 0), (.int .i64 0)]), xN 11 (.sto 2 (.t 12) (.t 39))]
@[simp] def l_ROuts_6 (_ : Unit) : List EOp := xQ 0 30 (.fad 1 (.t 5)) :: xQ 1 31 (.iad 2 1 (.t 30) (.k (.int .i64 0))) :: xQ 2 32 (.ldc (.t 31)) :: xQ 3 33 (.fad 37 (.t 4)) :: xQ 4 34 (.ldc (.t 33)) :: xQ 5 35 (.bin .sub (.t 32) (.t 34)) :: hid l_ROuts_7
@[simp] def b_ROuts_8 (_ : Unit) : EB := reg0 (hid l_ROuts_6) 12
@[simp] def l_ROuts_9 (_ : Unit) : List EOp := [xM 0 40 11, xQ 1 41 (.bsl 1 [(.int .i64 0)] 1 [(0, (.t 40))]), xQ 2 42 (.lda 32 (.t 7)), xQ 3 43 (.build (([(.slice none 0 0)] : List Value) ++ zU8 ++ [(.int .i64 0), (.int .i64 0)]) [(0, 1, (.t 41)), (1, 32, (.t 42))]), xQ 4 13 (.alloc 150 (([(.slice none 0 0)] : List Value) ++ zU8 ++ [(.int .i64 0), (.int .i64 0)])), xN 5 (.fz (.sto 35 (.t 13) (.t 43)))]
@[simp] def b_ROuts_10 (_ : Unit) : EB := reg0 (hid l_ROuts_9) 6
@[simp] def l_ROuts_11 (_ : Unit) : List EOp := [xQ 0 14 (.mov (.k (.slice none 0 0)))]
@[simp] def b_ROuts_12 (_ : Unit) : EB := reg0 (hid l_ROuts_11) 1
@[simp] def l_ROuts_13 (_ : Unit) : List EOp := [xQ 0 15 (.mov (.k (.slice none 0 0)))]
@[simp] def b_ROuts_14 (_ : Unit) : EB := reg0 (hid l_ROuts_13) 1
@[simp] def l_ROuts_15 (_ : Unit) : List EOp := [xM 0 44 2, xQ 1 45 (.iad 2 1 (.t 12) (.t 44)), xQ 2 46 (.ldc (.t 45)), xQ 3 47 (.bin .geq (.t 46) (.k (.int .i64 10)))]
@[simp] def b_ROuts_16 (_ : Unit) : EB := reg0 (hid l_ROuts_15) 4
@[simp] def l_ROuts_19 (_ : Unit) : List EOp := [xQ 12 60 (.build [(.int .i64 0), (.slice none 0 0)] [(0, 1, (.t 51)), (1, 1, (.t 59))]), ⟨13, (some 61), none, (.fz (.q (.bsl 2 [(.int .i64 0), (.slice none 0 0)] 1 [(0, (.t 60))]))), [0]⟩, xO 14 62 (.app 148 2 32 (.t 48) (.t 61)), xM 15 14 62]
@[simp] def l_ROuts_18 (_ : Unit) : List EOp := xQ 6 54 (.fad 36 (.t 4)) :: xQ 7 55 (.ldc (.t 54)) :: xQ 8 56 (.build (([(.slice none 0 0)] : List Value) ++ zU8 ++ [(.int .i64 0), (.int .i64 0)]) [(0, 1, (.t 53)), (34, 1, (.t 55))]) :: xQ 9 57 (.lda 35 (.t 13)) :: ⟨10, (some 58), none, (.fz (.q (.bsl 35 (([(.slice none 0 0)] : List Value) ++ zU8 ++ [(.int .i64 0), (.int .i64 0)]) 2 [(0, (.t 56)), (1, (.t 57))]))), [0, 1, 2, 3]⟩ :: xQ 11 59 (.build [(.slice none 0 0)] [(0, 1, (.t 58))]) :: hid l_ROuts_19
@[simp] def l_ROuts_17 (_ : Unit) : List EOp := xM 0 48 14 :: xM 1 49 2 :: xQ 2 50 (.iad 2 1 (.t 12) (.t 49)) :: xQ 3 51 (.ldc (.t 50)) :: xM 4 52 10 :: xQ 5 53 (.bsl 1 [(.int .i64 0)] 1 [(0, (.t 52))]) :: hid l_ROuts_18
@[simp] def b_ROuts_20 (_ : Unit) : EB := reg1 (hid l_ROuts_17) 16
@[simp] def l_ROuts_21 (_ : Unit) : List EOp := [xM 0 63 15, xQ 1 64 (.build [(.int .i64 0), (.int .i64 0)] [(0, 1, (.k (.int .i64 1))), (1, 1, (.k (.int .i64 0)))]), xQ 2 65 (.bsl 2 [(.int .i64 0), (.int .i64 0)] 1 [(0, (.t 64))]), xO 3 66 (.app 55 2 16 (.t 63) (.t 65)), xM 4 15 66]
@[simp] def b_ROuts_22 (_ : Unit) : EB := reg0 (hid l_ROuts_21) 5
@[simp] def b_ROuts_23 (_ : Unit) : EB := .seq (hid b_ROuts_20) (hid b_ROuts_22)
@[simp] def b_ROuts_24 (_ : Unit) : EB := .cond (.t 47) (hid b_ROuts_23) .skip
@[simp] def b_ROuts_25 (_ : Unit) : EB := .seq (hid b_ROuts_16) (hid b_ROuts_24)
@[simp] def l_ROuts_26 (_ : Unit) : List EOp := [xM 0 67 2, xQ 1 68 (.bin .sub (.k (.int .i64 1)) (.t 67)), xQ 2 69 (.iad 2 1 (.t 12) (.t 68)), xQ 3 70 (.ldc (.t 69)), xQ 4 71 (.bin .geq (.t 70) (.k (.int .i64 10)))]
@[simp] def b_ROuts_27 (_ : Unit) : EB := reg0 (hid l_ROuts_26) 5
@[simp] def l_ROuts_29 (_ : Unit) : List EOp := [xQ 6 78 (.bsl 1 [(.int .i64 0)] 1 [(0, (.t 77))]), ⟨7, (some 79), none, (.call 58 [(.t 78)]), [0, 1, 2, 3, 4]⟩, xQ 8 80 (.build [(.int .i64 0), (.slice none 0 0)] [(0, 1, (.t 76)), (1, 1, (.t 79))]), ⟨9, (some 81), none, (.fz (.q (.bsl 2 [(.int .i64 0), (.slice none 0 0)] 1 [(0, (.t 80))]))), [0]⟩, xO 10 82 (.app 148 2 32 (.t 72) (.t 81)), xM 11 14 82]
@[simp] def l_ROuts_28 (_ : Unit) : List EOp := xM 0 72 14 :: xM 1 73 2 :: xQ 2 74 (.bin .sub (.k (.int .i64 1)) (.t 73)) :: xQ 3 75 (.iad 2 1 (.t 12) (.t 74)) :: xQ 4 76 (.ldc (.t 75)) :: xM 5 77 11 :: hid l_ROuts_29
@[simp] def b_ROuts_30 (_ : Unit) : EB := reg1 (hid l_ROuts_28) 12
@[simp] def l_ROuts_31 (_ : Unit) : List EOp := [xM 0 83 15, xQ 1 84 (.build [(.int .i64 0), (.int .i64 0)] [(0, 1, (.k (.int .i64 2))), (1, 1, (.k (.int .i64 0)))]), xQ 2 85 (.bsl 2 [(.int .i64 0), (.int .i64 0)] 1 [(0, (.t 84))]), xO 3 86 (.app 55 2 16 (.t 83) (.t 85)), xM 4 15 86]
@[simp] def b_ROuts_32 (_ : Unit) : EB := reg0 (hid l_ROuts_31) 5
@[simp] def b_ROuts_33 (_ : Unit) : EB := .seq (hid b_ROuts_30) (hid b_ROuts_32)
@[simp] def b_ROuts_34 (_ : Unit) : EB := .cond (.t 71) (hid b_ROuts_33) .skip
@[simp] def b_ROuts_35 (_ : Unit) : EB := .seq (hid b_ROuts_27) (hid b_ROuts_34)
@[simp] def l_ROuts_36 (_ : Unit) : List EOp := [xQ 0 16 (.mov (.k (.int .i64 0)))]
@[simp] def b_ROuts_37 (_ : Unit) : EB := reg0 (hid l_ROuts_36) 1
@[simp] def l_ROuts_38 (_ : Unit) : List EOp := [xM 0 87 16, xQ 1 88 (.fad 3 (.t 5)), xQ 2 89 (.ldc (.t 88)), xQ 3 90 (.len (.t 89)), xQ 4 91 (.bin .lss (.t 87) (.t 90))]
@[simp] def b_ROuts_39 (_ : Unit) : EB := reg0 (hid l_ROuts_38) 5
@[simp] def b_ROuts_40 (_ : Unit) : EB := .cond (.t 91) .skip (.exit 0)
@[simp] def b_ROuts_41 (_ : Unit) : EB := .seq (hid b_ROuts_39) (hid b_ROuts_40)
@[simp] def l_ROuts_43 (_ : Unit) : List EOp := [xN 6 (.sto 36 (.t 17) (.t 98))]
@[simp] def l_ROuts_42 (_ : Unit) : List EOp := xQ 0 94 (.fad 3 (.t 5)) :: xQ 1 95 (.ldc (.t 94)) :: xM 2 96 16 :: xQ 3 97 (.isl 36 (.t 95) (.t 96)) :: xQ 4 98 (.lda 36 (.t 97)) :: xQ 5 17 (.alloc 127 (([(.int .i64 0), (.int .i64 0), (.int .i64 0), (.int .i64 0)] : List Value) ++ zU8)) :: hid l_ROuts_43
@[simp] def b_ROuts_44 (_ : Unit) : EB := reg0 (hid l_ROuts_42) 7
@[simp] def l_ROuts_46 (_ : Unit) : List EOp := [xQ 6 105 (.bsl 1 [(.int .i64 0)] 1 [(0, (.t 104))]), xQ 7 106 (.fad 4 (.t 17)), xQ 8 107 (.lda 32 (.t 106)), xQ 9 108 (.build (([(.slice none 0 0)] : List Value) ++ zU8 ++ [(.int .i64 0), (.int .i64 0)]) [(0, 1, (.t 105)), (1, 32, (.t 107))]), xQ 10 18 (.alloc 150 (([(.slice none 0 0)] : List Value) ++ zU8 ++ [(.int .i64 0), (.int .i64 0)])), xN 11 (.fz (.sto 35 (.t 18) (.t 108)))]
@[simp] def l_ROuts_45 (_ : Unit) : List EOp := xQ 0 99 (.fad 1 (.t 17)) :: xQ 1 100 (.ldc (.t 99)) :: xQ 2 101 (.bin .sub (.k (.int .i64 1)) (.t 100)) :: xQ 3 102 (.fad 34 (.t 4)) :: xQ 4 103 (.iad 2 1 (.t 102) (.t 101)) :: xQ 5 104 (.ldc (.t 103)) :: hid l_ROuts_46
@[simp] def b_ROuts_47 (_ : Unit) : EB := reg0 (hid l_ROuts_45) 12
@[simp] def l_ROuts_49 (_ : Unit) : List EOp := [xQ 6 115 (.fad 3 (.t 17)), xQ 7 116 (.ldc (.t 115)), xQ 8 117 (.build (([(.slice none 0 0)] : List Value) ++ zU8 ++ [(.int .i64 0), (.int .i64 0)]) [(0, 1, (.t 114)), (33, 1, (.t 116))]), xQ 9 19 (.alloc 150 (([(.slice none 0 0)] : List Value) ++ zU8 ++ [(.int .i64 0), (.int .i64 0)])), xN 10 (.fz (.sto 35 (.t 19) (.t 117)))]
@[simp] def l_ROuts_48 (_ : Unit) : List EOp := xQ 0 109 (.fad 1 (.t 17)) :: xQ 1 110 (.ldc (.t 109)) :: xQ 2 111 (.fad 34 (.t 4)) :: xQ 3 112 (.iad 2 1 (.t 111) (.t 110)) :: xQ 4 113 (.ldc (.t 112)) :: xQ 5 114 (.bsl 1 [(.int .i64 0)] 1 [(0, (.t 113))]) :: hid l_ROuts_49
@[simp] def b_ROuts_50 (_ : Unit) : EB := reg0 (hid l_ROuts_48) 11
@[simp] def l_ROuts_51 (_ : Unit) : List EOp := [xQ 0 118 (.fad 1 (.t 17)), xQ 1 119 (.ldc (.t 118)), xM 2 120 2, xQ 3 121 (.bin .eql (.t 119) (.t 120))]
@[simp] def b_ROuts_52 (_ : Unit) : EB := reg0 (hid l_ROuts_51) 4
@[simp] def l_ROuts_53 (_ : Unit) : List EOp := [xQ 0 122 (.fad 36 (.t 4)), xQ 1 123 (.ldc (.t 122)), xQ 2 124 (.fad 34 (.t 19)), xN 3 (.sto 1 (.t 124) (.t 123))]
@[simp] def b_ROuts_54 (_ : Unit) : EB := reg0 (hid l_ROuts_53) 4
@[simp] def l_ROuts_55 (_ : Unit) : List EOp := [xQ 0 125 (.fad 36 (.t 4)), xQ 1 126 (.ldc (.t 125)), xQ 2 127 (.fad 34 (.t 18)), xN 3 (.sto 1 (.t 127) (.t 126))]
@[simp] def b_ROuts_56 (_ : Unit) : EB := reg0 (hid l_ROuts_55) 4
@[simp] def b_ROuts_57 (_ : Unit) : EB := .cond (.t 121) (hid b_ROuts_54) (hid b_ROuts_56)
@[simp] def b_ROuts_58 (_ : Unit) : EB := .seq (hid b_ROuts_52) (hid b_ROuts_57)
@[simp] def l_ROuts_60 (_ : Unit) : List EOp := [xO 6 134 (.fz (.q (.bsl 35 (([(.slice none 0 0)] : List Value) ++ zU8 ++ [(.int .i64 0), (.int .i64 0)]) 3 [(0, (.t 131)), (1, (.t 132)), (2, (.t 133))]))), xQ 7 135 (.build [(.slice none 0 0)] [(0, 1, (.t 134))]), xQ 8 136 (.build [(.int .i64 0), (.slice none 0 0)] [(0, 1, (.t 130)), (1, 1, (.t 135))]), xO 9 137 (.fz (.q (.bsl 2 [(.int .i64 0), (.slice none 0 0)] 1 [(0, (.t 136))]))), xO 10 138 (.app 148 2 32 (.t 128) (.t 137)), xM 11 14 138]
@[simp] def l_ROuts_59 (_ : Unit) : List EOp := xM 0 128 14 :: xQ 1 129 (.fad 2 (.t 17)) :: xQ 2 130 (.ldc (.t 129)) :: xQ 3 131 (.lda 35 (.t 18)) :: xQ 4 132 (.lda 35 (.t 19)) :: xQ 5 133 (.lda 35 (.t 13)) :: hid l_ROuts_60
@[simp] def b_ROuts_61 (_ : Unit) : EB := reg0 (hid l_ROuts_59) 12
@[simp] def l_ROuts_63 (_ : Unit) : List EOp := [xM 6 15 144]
@[simp] def l_ROuts_62 (_ : Unit) : List EOp := xM 0 139 15 :: xQ 1 140 (.fad 0 (.t 17)) :: xQ 2 141 (.ldc (.t 140)) :: xQ 3 142 (.build [(.int .i64 0), (.int .i64 0)] [(0, 1, (.k (.int .i64 3))), (1, 1, (.t 141))]) :: xQ 4 143 (.bsl 2 [(.int .i64 0), (.int .i64 0)] 1 [(0, (.t 142))]) :: xO 5 144 (.app 55 2 16 (.t 139) (.t 143)) :: hid l_ROuts_63
@[simp] def b_ROuts_64 (_ : Unit) : EB := reg0 (hid l_ROuts_62) 7
@[simp] def b_ROuts_65 (_ : Unit) : EB := .seq (hid b_ROuts_61) (hid b_ROuts_64)
@[simp] def b_ROuts_66 (_ : Unit) : EB := .seq (hid b_ROuts_58) (hid b_ROuts_65)
@[simp] def b_ROuts_67 (_ : Unit) : EB := .seq (hid b_ROuts_50) (hid b_ROuts_66)
@[simp] def b_ROuts_68 (_ : Unit) : EB := .seq (hid b_ROuts_47) (hid b_ROuts_67)
@[simp] def b_ROuts_69 (_ : Unit) : EB := .seq (hid b_ROuts_44) (hid b_ROuts_68)
@[simp] def b_ROuts_70 (_ : Unit) : EB := .block 1 (hid b_ROuts_69)
@[simp] def l_ROuts_71 (_ : Unit) : List EOp := [xM 0 92 16, xQ 1 93 (.bin .add (.t 92) (.k (.int .i64 1))), xM 2 16 93]
@[simp] def b_ROuts_72 (_ : Unit) : EB := reg0 (hid l_ROuts_71) 3
@[simp] def b_ROuts_73 (_ : Unit) : EB := .seq (hid b_ROuts_70) (hid b_ROuts_72)
@[simp] def b_ROuts_74 (_ : Unit) : EB := .seq (hid b_ROuts_41) (hid b_ROuts_73)
@[simp] def b_ROuts_75 (_ : Unit) : EB := .loop (hid b_ROuts_74)
@[simp] def b_ROuts_76 (_ : Unit) : EB := .block 0 (hid b_ROuts_75)
@[simp] def b_ROuts_77 (_ : Unit) : EB := .seq (hid b_ROuts_37) (hid b_ROuts_76)
@[simp] def l_ROuts_78 (_ : Unit) : List EOp := [xQ 0 20 (.mov (.k (.int .i64 0)))]
@[simp] def b_ROuts_79 (_ : Unit) : EB := reg0 (hid l_ROuts_78) 1
@[simp] def l_ROuts_80 (_ : Unit) : List EOp := [xM 0 145 20, xQ 1 146 (.fad 4 (.t 5)), xQ 2 147 (.ldc (.t 146)), xQ 3 148 (.len (.t 147)), xQ 4 149 (.bin .lss (.t 145) (.t 148))]
@[simp] def b_ROuts_81 (_ : Unit) : EB := reg0 (hid l_ROuts_80) 5
@[simp] def b_ROuts_82 (_ : Unit) : EB := .cond (.t 149) .skip (.exit 2)
@[simp] def b_ROuts_83 (_ : Unit) : EB := .seq (hid b_ROuts_81) (hid b_ROuts_82)
@[simp] def l_ROuts_86 (_ : Unit) : List EOp := [xQ 12 164 (.ldc (.t 163)), ⟨13, (some 165), none, (.call 58 [(.t 164)]), [0, 1, 2, 3, 4, 5, 6]⟩, xQ 14 166 (.build [(.int .i64 0), (.slice none 0 0)] [(0, 1, (.t 158)), (1, 1, (.t 165))]), ⟨15, (some 167), none, (.fz (.q (.bsl 2 [(.int .i64 0), (.slice none 0 0)] 1 [(0, (.t 166))]))), [0]⟩, xO 16 168 (.app 148 2 32 (.t 152) (.t 167)), xM 17 14 168]
@[simp] def l_ROuts_85 (_ : Unit) : List EOp := xQ 6 158 (.ldc (.t 157)) :: xQ 7 159 (.fad 4 (.t 5)) :: xQ 8 160 (.ldc (.t 159)) :: xM 9 161 20 :: xQ 10 162 (.isl 3 (.t 160) (.t 161)) :: xQ 11 163 (.fad 2 (.t 162)) :: hid l_ROuts_86
@[simp] def l_ROuts_84 (_ : Unit) : List EOp := xM 0 152 14 :: xQ 1 153 (.fad 4 (.t 5)) :: xQ 2 154 (.ldc (.t 153)) :: xM 3 155 20 :: xQ 4 156 (.isl 3 (.t 154) (.t 155)) :: xQ 5 157 (.fad 1 (.t 156)) :: hid l_ROuts_85
@[simp] def b_ROuts_87 (_ : Unit) : EB := reg1 (hid l_ROuts_84) 18
@[simp] def l_ROuts_89 (_ : Unit) : List EOp := [xQ 6 175 (.ldc (.t 174)), xQ 7 176 (.build [(.int .i64 0), (.int .i64 0)] [(0, 1, (.k (.int .i64 4))), (1, 1, (.t 175))]), xQ 8 177 (.bsl 2 [(.int .i64 0), (.int .i64 0)] 1 [(0, (.t 176))]), xO 9 178 (.app 55 2 16 (.t 169) (.t 177)), xM 10 15 178]
@[simp] def l_ROuts_88 (_ : Unit) : List EOp := xM 0 169 15 :: xQ 1 170 (.fad 4 (.t 5)) :: xQ 2 171 (.ldc (.t 170)) :: xM 3 172 20 :: xQ 4 173 (.isl 3 (.t 171) (.t 172)) :: xQ 5 174 (.fad 0 (.t 173)) :: hid l_ROuts_89
@[simp] def b_ROuts_90 (_ : Unit) : EB := reg0 (hid l_ROuts_88) 11
@[simp] def b_ROuts_91 (_ : Unit) : EB := .seq (hid b_ROuts_87) (hid b_ROuts_90)
@[simp] def b_ROuts_92 (_ : Unit) : EB := .block 3 (hid b_ROuts_91)
@[simp] def l_ROuts_93 (_ : Unit) : List EOp := [xM 0 150 20, xQ 1 151 (.bin .add (.t 150) (.k (.int .i64 1))), xM 2 20 151]
@[simp] def b_ROuts_94 (_ : Unit) : EB := reg0 (hid l_ROuts_93) 3
@[simp] def b_ROuts_95 (_ : Unit) : EB := .seq (hid b_ROuts_92) (hid b_ROuts_94)
@[simp] def b_ROuts_96 (_ : Unit) : EB := .seq (hid b_ROuts_83) (hid b_ROuts_95)
@[simp] def b_ROuts_97 (_ : Unit) : EB := .loop (hid b_ROuts_96)
@[simp] def b_ROuts_98 (_ : Unit) : EB := .block 2 (hid b_ROuts_97)
@[simp] def b_ROuts_99 (_ : Unit) : EB := .seq (hid b_ROuts_79) (hid b_ROuts_98)
@[simp] def l_ROuts_100 (_ : Unit) : List EOp := [xM 0 179 14, xM 1 180 15, xM 2 8 179, xM 3 9 180]
@[simp] def b_ROuts_101 (_ : Unit) : EB := reg0 (hid l_ROuts_100) 4
@[simp] def b_ROuts_102 (_ : Unit) : EB := .seq (hid b_ROuts_101) .ret
@[simp] def b_ROuts_103 (_ : Unit) : EB := .seq (hid b_ROuts_99) (hid b_ROuts_102)
@[simp] def b_ROuts_104 (_ : Unit) : EB := .seq (hid b_ROuts_77) (hid b_ROuts_103)
@[simp] def b_ROuts_105 (_ : Unit) : EB := .seq (hid b_ROuts_35) (hid b_ROuts_104)
@[simp] def b_ROuts_106 (_ : Unit) : EB := .seq (hid b_ROuts_25) (hid b_ROuts_105)
@[simp] def b_ROuts_107 (_ : Unit) : EB := .seq (hid b_ROuts_14) (hid b_ROuts_106)
@[simp] def b_ROuts_108 (_ : Unit) : EB := .seq (hid b_ROuts_12) (hid b_ROuts_107)
@[simp] def b_ROuts_109 (_ : Unit) : EB := .seq (hid b_ROuts_10) (hid b_ROuts_108)
@[simp] def b_ROuts_110 (_ : Unit) : EB := .seq (hid b_ROuts_8) (hid b_ROuts_109)
@[simp] def b_ROuts_111 (_ : Unit) : EB := .seq (hid b_ROuts_5) (hid b_ROuts_110)
@[simp] def b_ROuts_112 (_ : Unit) : EB := .seq (hid b_ROuts_2) (hid b_ROuts_111)
def c_ROuts : EB × List QOp × Nat := ((hid b_ROuts_112), [(.mov (.t 8)), (.mov (.t 9))], 181)
theorem k_ROuts : cfun Tryz.prog 45 = some c_ROuts := by kernel_rfl
theorem rAll_ok (ks : List Int) (h : KeysOK ks) : ECalls Tryz.prog 58 [IL ks] [] fun y H' => H' = [] ∧ y = CNv (allB ks) := by
  obtain ⟨h1, h2, h3, h4, h5, h6⟩ := h
  have := cAll_ok ks h5 (by omega)
  rw [h6] at this
  exact this
set_option maxRecDepth 16000 in
set_option maxHeartbeats 32000000 in
theorem ROuts_0 (p : Prm) (s : Sta) (lock : List UInt8) (hp : p.ok) (hl : lock.length = 32) (hs : s.ok) (hw : i64 (s.h0 - p.fe)) (hn : s.pays.length ≤ 8 ∧ s.holds.length ≤ 8) (hpay : ∀ x ∈ s.pays, 10 ≤ x.am ∧ (x.fr = 0 ∨ x.fr = 1)) (hhol : ∀ h ∈ s.holds, KeysOK h.keys) :
    ECalls Tryz.prog 45 [PVv p, SV s, I .i64 0, .v (.agg (hc lock))] [] fun y H' => H' = [] ∧ y = .tup [.c (.fz (.sl 2 (outv (outsB p s 0 lock)))), .c (.fz (.sl 2 (plcv (plcB p s 0))))] := by
  have hpo := hp
  have h1 := hp.1
  obtain ⟨ok1, ok2, ok3, ok4, ok5, ok6, ok7⟩ := id hs
  have lp := prmC_len h1
  have tp := pm_take h1
  have e34 := idx_of (pm_at h1 2) (by omega)
  have e35 := idx_of (pm_at h1 3) (by omega)
  have e36 := idx_of (pm_at h1 4) (by omega)
  have e37 := idx_of (pm_at h1 5) (by omega)
  have wh : IntKind.i64.wrap (s.h0 - p.fe) = s.h0 - p.fe := by unfold i64 at hw; exact wrap_i64 (by omega) (by omega)
  refine ecalls k_ROuts ?_
  simp [c_ROuts, PVv, SV, staC, I, Ptr, iC, lp, tp, e34, e35, e36, e37, w_0, w_1, wh, hl, hc_t32 hl, take33h, take32h, drop32h, drop33h, drop34h, take33l hl, drop34l hl, take34l hl, hz_len, frzAll_hc]
  simp only [bfold]
  have lb := bc_len (b := (⟨[p.k1], lock, 0, 0⟩ : Bra)) hl
  have tkb := bc_take (b := (⟨[p.k1], lock, 0, 0⟩ : Bra)) hl
  have fb := bf_len (b := (⟨[p.k1], lock, 0, 0⟩ : Bra)) hl
  have lo := bf_len (b := (⟨[p.k0], hz, 0, p.dl⟩ : Bra)) hz_len
  by_cases c0 : 10 ≤ s.h0 - p.fe
  · have hv1 : out1 p s 0 lock = ([⟨s.h0 - p.fe, ownB p 0 lock⟩] : List Outp) := if_pos c0
    have hq1 : plc1 p s 0 = ([(1, 0)] : List (Int × Int)) := if_pos c0
    simp [c0, PVv, SV, staC, I, Ptr, iC, lp, tp, e34, e35, e36, e37, w_0, w_1, wh, hl, hc_t32 hl, take33h, take32h, drop32h, drop33h, drop34h, take33l hl, drop34l hl, take34l hl, hz_len, frzAll_hc, lb, tkb, fb]
    by_cases c1 : 10 ≤ s.h1
    · have hv2 : out2 p s 0 = ([⟨s.h1, allB [p.k1]⟩] : List Outp) := if_pos c1
      have hq2 : plc2 p s 0 = ([(2, 0)] : List (Int × Int)) := if_pos c1
      simp [c1, PVv, SV, staC, I, Ptr, iC, lp, tp, e34, e35, e36, e37, w_0, w_1, wh, hl, hc_t32 hl, take33h, take32h, drop32h, drop33h, drop34h, take33l hl, drop34l hl, take34l hl, hz_len, frzAll_hc]
      refine call0 (rAll_ok [p.k1] (keys_one _).1) (by simp [IL, intv, PVv, SV, staC, I, Ptr, iC, lp, tp, e34, e35, e36, e37, w_0, w_1, wh, hl, hc_t32 hl, take33h, take32h, drop32h, drop33h, drop34h, take33l hl, drop34l hl, take34l hl, hz_len, frzAll_hc]) ?_
      rintro y H' ⟨rfl, rfl⟩
      refine ⟨.inl (by simp [CNv]), le_ok rfl, ?_⟩
      simp [CNv, PVv, SV, staC, I, Ptr, iC, lp, tp, e34, e35, e36, e37, w_0, w_1, wh, hl, hc_t32 hl, take33h, take32h, drop32h, drop33h, drop34h, take33l hl, drop34l hl, take34l hl, hz_len, frzAll_hc]
      obtain ⟨L0, hL0⟩ : ∃ L0, ([⟨s.h0 - p.fe, ownB p 0 lock⟩] ++ [⟨s.h1, allB [p.k1]⟩] : List Outp) = L0 := ⟨_, rfl⟩
      obtain ⟨Q0, hQ0⟩ : ∃ Q0, ([(1, 0)] ++ [(2, 0)] : List (Int × Int)) = Q0 := ⟨_, rfl⟩
      have hL8 : L0.length ≤ 2 := by rw [← hL0]; simp
      have hQ8 : Q0.length ≤ 2 := by rw [← hQ0]; simp
      have hvL : outsB p s 0 lock = L0 ++ (outP p 0 lock s.pays ++ outH s.holds) := by rw [← hL0]; unfold outsB; rw [hv1, hv2]
      have hvQ : plcB p s 0 = Q0 ++ (plcP s.pays ++ plcH s.holds) := by rw [← hQ0]; unfold plcB; rw [hq1, hq2]
      refine eloop (α := Nat) (fun i => i ≤ s.pays.length) (fun i => s.pays.length - i)
        (fun i => [.any, .any, I .i64 0, .any, Ptr 0, Ptr 1, .any, .any, .any, .any, .any, .any, .any, Ptr 2, .v (.c (.row 3 (L0 ++ outP p 0 lock (s.pays.take i)).length)), .v (.c (.row 4 (Q0 ++ plcP (s.pays.take i)).length)), I .i64 i, .any, .any, .any, .any, .any, .any, .any, .any, .any, .any, .any, .any, .any, .any, .any, .any, .any, .any, .any, .any, .any, .any, .any, .any, .any, .any, .any, .any, .any, .any, .any, .any, .any, .any, .any, .any, .any, .any, .any, .any, .any, .any, .any, .any, .any, .any, .any, .any, .any, .any, .any, .any, .any, .any, .any, .any, .any, .any, .any, .any, .any, .any, .any, .any, .any, .any, .any, .any, .any, .any, .any, .any, .any, .any, .any, .any, .any, .any, .any, .any, .any, .any, .any, .any, .any, .any, .any, .any, .any, .any, .any, .any, .any, .any, .any, .any, .any, .any, .any, .any, .any, .any, .any, .any, .any, .any, .any, .any, .any, .any, .any, .any, .any, .any, .any, .any, .any, .any, .any, .any, .any, .any, .any, .any, .any, .any, .any, .any, .any, .any, .any, .any, .any, .any, .any, .any, .any, .any, .any, .any, .any, .any, .any, .any, .any, .any, .any, .any, .any, .any, .any, .any, .any, .any, .any, .any, .any, .any, .any, .any, .any, .any, .any, .any])
        (fun i => [some (.box 28 (prmC p)), some (.box 32 (staC s)), some (.box 150 (braC ⟨[p.k1], lock, 0, 0⟩)), some (.row 148 2 (outv (L0 ++ outP p 0 lock (s.pays.take i)))), some (.row 55 2 (plcv (Q0 ++ plcP (s.pays.take i))))]) 0 [0, 16, 512, 1216, 1296]
        (Nat.zero_le _) (by simp [Ptr, I, outP, plcP, ← hL0, ← hQ0]) (by simp [outv, outF, brav, braF, ownB, paidB, waitV, fineB, keyO, intv, iF, plcv, plcF, outP, plcP, staC, ← hL0, ← hQ0]) (by simp) (by simp) (by simp) ?_
      intro i hi
      obtain ⟨Li, hLi⟩ : ∃ Li, L0 ++ outP p 0 lock (s.pays.take i) = Li := ⟨_, rfl⟩
      obtain ⟨Qi, hQi⟩ : ∃ Qi, Q0 ++ plcP (s.pays.take i) = Qi := ⟨_, rfl⟩
      have hlL : Li.length ≤ 20 := by rw [← hLi]; simp [outP]; omega
      have hlQ : Qi.length ≤ 20 := by rw [← hQi]; simp [plcP]; omega
      rw [hLi, hQi]
      simp [Ptr, I, staC]
      refine alt (fun hlt => ?_) (fun hlt => ?_)
      · have hln : i < s.pays.length := by omega
        obtain ⟨x, hc⟩ : ∃ x, s.pays[i]? = some x := ⟨s.pays[i], by simp [hln]⟩
        have hge : (payv s.pays)[i]'(by simp [hln]) = payF x := by
          have e := payv_get hc
          rw [List.getElem?_eq_getElem (by simp [hln])] at e
          exact Option.some.inj e
        have hxo := ok4 x (List.mem_of_getElem? hc)
        have hx := hxo.2.2.2.2
        obtain ⟨ham, hfr⟩ := hpay x (List.mem_of_getElem? hc)
        have w1 : IntKind.i64.wrap ((i : Int) + 1) = ((i + 1 : Nat) : Int) := wrap_i64 (by omega) (by omega)
        have hLn : L0 ++ outP p 0 lock (s.pays.take (i + 1)) = Li ++ [⟨x.am, paidB p 0 lock x⟩] := by rw [take_s hc, ← hLi]; simp [outP]
        have hQn : Q0 ++ plcP (s.pays.take (i + 1)) = Qi ++ [(3, x.id)] := by rw [take_s hc, ← hQi]; simp [plcP]
        have q1 := congrArg List.length hLn
        have q2 := congrArg List.length hQn
        simp only [List.length_append, List.length_singleton] at q1 q2
        obtain ⟨id', fr, am, af, lk⟩ := x
        dsimp only at hfr hx hLn hQn
        rcases hfr with rfl | rfl
        · simp [hln, hge, payF, hx, PVv, SV, staC, I, Ptr, iC, lp, tp, e34, e35, e36, e37, w_0, w_1, wh, hl, hc_t32 hl, take33h, take32h, drop32h, drop33h, drop34h, take33l hl, drop34l hl, take34l hl, hz_len, frzAll_hc, hc_t32 hx, take33l hx, drop34l hx, take34l hx, take34l hz_len, lb, tkb, fb]
          refine ⟨⟨by omega, by omega⟩, ⟨by omega, by omega⟩, ?_⟩
          try simp [w1, -Int.natCast_add]
          refine round (i + 1) [0, 1, 2, 853, 965] (by omega) (by omega) (by simp [Ptr, I, q1, q2]) ?_ (by simp) (by simp) (by simp)
          rw [hLn, hQn]
          simp [q1, q2, w1, -Int.natCast_add, staC]
          simp [outv, outF, brav, braF, ownB, paidB, waitV, fineB, keyO, intv, iF, plcv, plcF]
        · simp [hln, hge, payF, hx, PVv, SV, staC, I, Ptr, iC, lp, tp, e34, e35, e36, e37, w_0, w_1, wh, hl, hc_t32 hl, take33h, take32h, drop32h, drop33h, drop34h, take33l hl, drop34l hl, take34l hl, hz_len, frzAll_hc, hc_t32 hx, take33l hx, drop34l hx, take34l hx, take34l hz_len, lb, tkb, fb]
          refine ⟨⟨by omega, by omega⟩, ⟨by omega, by omega⟩, ?_⟩
          try simp [w1, -Int.natCast_add]
          refine round (i + 1) [0, 1, 2, 853, 965] (by omega) (by omega) (by simp [Ptr, I, q1, q2]) ?_ (by simp) (by simp) (by simp)
          rw [hLn, hQn]
          simp [q1, q2, w1, -Int.natCast_add, staC]
          simp [outv, outF, brav, braF, ownB, paidB, waitV, fineB, keyO, intv, iF, plcv, plcF]
      have hil : i = s.pays.length := by omega
      subst hil
      rw [List.take_length] at hLi hQi
      clear hlt hi
      simp
      refine eloop (α := Nat) (fun i => i ≤ s.holds.length) (fun i => s.holds.length - i)
        (fun i => [.any, .any, .any, .any, .any, Ptr 0, .any, .any, .any, .any, .any, .any, .any, .any, .v (.c (.row 1 (Li ++ outH (s.holds.take i)).length)), .v (.c (.row 2 (Qi ++ plcH (s.holds.take i)).length)), .any, .any, .any, .any, I .i64 i, .any, .any, .any, .any, .any, .any, .any, .any, .any, .any, .any, .any, .any, .any, .any, .any, .any, .any, .any, .any, .any, .any, .any, .any, .any, .any, .any, .any, .any, .any, .any, .any, .any, .any, .any, .any, .any, .any, .any, .any, .any, .any, .any, .any, .any, .any, .any, .any, .any, .any, .any, .any, .any, .any, .any, .any, .any, .any, .any, .any, .any, .any, .any, .any, .any, .any, .any, .any, .any, .any, .any, .any, .any, .any, .any, .any, .any, .any, .any, .any, .any, .any, .any, .any, .any, .any, .any, .any, .any, .any, .any, .any, .any, .any, .any, .any, .any, .any, .any, .any, .any, .any, .any, .any, .any, .any, .any, .any, .any, .any, .any, .any, .any, .any, .any, .any, .any, .any, .any, .any, .any, .any, .any, .any, .any, .any, .any, .any, .any, .any, .any, .any, .any, .any, .any, .any, .any, .any, .any, .any, .any, .any, .any, .any, .any, .any, .any, .any, .any, .any, .any, .any, .any, .any, .any, .any, .any, .any, .any, .any])
        (fun i => [some (.box 32 (staC s)), some (.row 148 2 (outv (Li ++ outH (s.holds.take i)))), some (.row 55 2 (plcv (Qi ++ plcH (s.holds.take i))))]) 0 [1, 3, 4]
        (Nat.zero_le _) (by simp [Ptr, I, outH, plcH]) (by simp [outH, plcH, staC]) (by simp) (by simp) (by simp) ?_
      intro i hi
      obtain ⟨Lj, hLj⟩ : ∃ Lj, Li ++ outH (s.holds.take i) = Lj := ⟨_, rfl⟩
      obtain ⟨Qj, hQj⟩ : ∃ Qj, Qi ++ plcH (s.holds.take i) = Qj := ⟨_, rfl⟩
      have hlL2 : Lj.length ≤ 40 := by rw [← hLj]; simp [outH]; omega
      have hlQ2 : Qj.length ≤ 40 := by rw [← hQj]; simp [plcH]; omega
      rw [hLj, hQj]
      simp [Ptr, I, staC]
      refine alt (fun hlt => ?_) (fun hlt => ?_)
      · have hln : i < s.holds.length := by omega
        obtain ⟨x, hc⟩ : ∃ x, s.holds[i]? = some x := ⟨s.holds[i], by simp [hln]⟩
        have hge : (holv s.holds)[i]'(by simp [hln]) = holF x := by
          have e := holv_get hc
          rw [List.getElem?_eq_getElem (by simp [hln])] at e
          exact Option.some.inj e
        have hk := hhol x (List.mem_of_getElem? hc)
        have w1 : IntKind.i64.wrap ((i : Int) + 1) = ((i + 1 : Nat) : Int) := wrap_i64 (by omega) (by omega)
        have hLn : Li ++ outH (s.holds.take (i + 1)) = Lj ++ [⟨x.am, allB x.keys⟩] := by rw [take_s hc, ← hLj]; simp [outH]
        have hQn : Qi ++ plcH (s.holds.take (i + 1)) = Qj ++ [(4, x.id)] := by rw [take_s hc, ← hQj]; simp [plcH]
        simp [hln, hge, holF]
        refine call0 (rAll_ok x.keys hk) (by simp [IL]) ?_
        rintro y H' ⟨rfl, rfl⟩
        refine ⟨.inl (by simp [CNv]), le_ok rfl, ?_⟩
        simp [CNv, hln, hge, holF]
        refine ⟨⟨by omega, by omega⟩, ⟨by omega, by omega⟩, ?_⟩
        try simp [w1, -Int.natCast_add]
        have q1 := congrArg List.length hLn
        have q2 := congrArg List.length hQn
        simp only [List.length_append, List.length_singleton] at q1 q2
        have hol : outv Lj ++ [[FV.lit (Value.int IntKind.i64 x.am), FV.sl 35 (brav (allB x.keys))]] = outv (Lj ++ [⟨x.am, allB x.keys⟩]) := by simp [outv, outF, iF]
        have hpl : plcv Qj ++ [[FV.lit (Value.int IntKind.i64 4), FV.lit (Value.int IntKind.i64 x.id)]] = plcv (Qj ++ [(4, x.id)]) := by simp [plcv, plcF, iF]
        refine round (i + 1) [0, 339, 515] (by omega) (by omega) (by simp [Ptr, I, q1, q2]) ?_ (by simp) (by simp) (by simp)
        rw [hLn, hQn]
        simp [q1, q2, hol, hpl, staC]
      have hil : i = s.holds.length := by omega
      subst hil
      rw [List.take_length] at hLj hQj
      clear hlt hi
      simp
      have tk1 : List.take Lj.length (outv Lj) = outv Lj := List.take_of_length_le (by simp)
      have tk2 : List.take Qj.length (plcv Qj) = plcv Qj := List.take_of_length_le (by simp)
      refine finW _ (weak_frz (o := 1) (ty := 148) (es := 2) (xs := outv Lj) rfl) ?_
      refine finW _ (weak_frz (o := 2) (ty := 55) (es := 2) (xs := plcv Qj) rfl) ?_
      refine fin [] (by decide) rfl rfl rfl ⟨rfl, ?_⟩
      have hL9 : outsB p s 0 lock = Lj := by rw [hvL, ← hLj, ← hLi, List.append_assoc]
      have hQ9 : plcB p s 0 = Qj := by rw [hvQ, ← hQj, ← hQi, List.append_assoc]
      rw [hL9, hQ9]
      simp [tk1, tk2]
    · have hv2 : out2 p s 0 = ([] : List Outp) := if_neg c1
      have hq2 : plc2 p s 0 = ([] : List (Int × Int)) := if_neg c1
      simp [c1, PVv, SV, staC, I, Ptr, iC, lp, tp, e34, e35, e36, e37, w_0, w_1, wh, hl, hc_t32 hl, take33h, take32h, drop32h, drop33h, drop34h, take33l hl, drop34l hl, take34l hl, hz_len, frzAll_hc]
      obtain ⟨L0, hL0⟩ : ∃ L0, ([⟨s.h0 - p.fe, ownB p 0 lock⟩] ++ [] : List Outp) = L0 := ⟨_, rfl⟩
      obtain ⟨Q0, hQ0⟩ : ∃ Q0, ([(1, 0)] ++ [] : List (Int × Int)) = Q0 := ⟨_, rfl⟩
      have hL8 : L0.length ≤ 2 := by rw [← hL0]; simp
      have hQ8 : Q0.length ≤ 2 := by rw [← hQ0]; simp
      have hvL : outsB p s 0 lock = L0 ++ (outP p 0 lock s.pays ++ outH s.holds) := by rw [← hL0]; unfold outsB; rw [hv1, hv2]
      have hvQ : plcB p s 0 = Q0 ++ (plcP s.pays ++ plcH s.holds) := by rw [← hQ0]; unfold plcB; rw [hq1, hq2]
      refine eloop (α := Nat) (fun i => i ≤ s.pays.length) (fun i => s.pays.length - i)
        (fun i => [.any, .any, I .i64 0, .any, Ptr 0, Ptr 1, .any, .any, .any, .any, .any, .any, .any, Ptr 2, .v (.c (.row 3 (L0 ++ outP p 0 lock (s.pays.take i)).length)), .v (.c (.row 4 (Q0 ++ plcP (s.pays.take i)).length)), I .i64 i, .any, .any, .any, .any, .any, .any, .any, .any, .any, .any, .any, .any, .any, .any, .any, .any, .any, .any, .any, .any, .any, .any, .any, .any, .any, .any, .any, .any, .any, .any, .any, .any, .any, .any, .any, .any, .any, .any, .any, .any, .any, .any, .any, .any, .any, .any, .any, .any, .any, .any, .any, .any, .any, .any, .any, .any, .any, .any, .any, .any, .any, .any, .any, .any, .any, .any, .any, .any, .any, .any, .any, .any, .any, .any, .any, .any, .any, .any, .any, .any, .any, .any, .any, .any, .any, .any, .any, .any, .any, .any, .any, .any, .any, .any, .any, .any, .any, .any, .any, .any, .any, .any, .any, .any, .any, .any, .any, .any, .any, .any, .any, .any, .any, .any, .any, .any, .any, .any, .any, .any, .any, .any, .any, .any, .any, .any, .any, .any, .any, .any, .any, .any, .any, .any, .any, .any, .any, .any, .any, .any, .any, .any, .any, .any, .any, .any, .any, .any, .any, .any, .any, .any, .any, .any, .any, .any, .any, .any, .any, .any, .any, .any, .any, .any])
        (fun i => [some (.box 28 (prmC p)), some (.box 32 (staC s)), some (.box 150 (braC ⟨[p.k1], lock, 0, 0⟩)), some (.row 148 2 (outv (L0 ++ outP p 0 lock (s.pays.take i)))), some (.row 55 2 (plcv (Q0 ++ plcP (s.pays.take i))))]) 0 [0, 16, 512, 864, 944]
        (Nat.zero_le _) (by simp [Ptr, I, outP, plcP, ← hL0, ← hQ0]) (by simp [outv, outF, brav, braF, ownB, paidB, waitV, fineB, keyO, intv, iF, plcv, plcF, outP, plcP, staC, ← hL0, ← hQ0]) (by simp) (by simp) (by simp) ?_
      intro i hi
      obtain ⟨Li, hLi⟩ : ∃ Li, L0 ++ outP p 0 lock (s.pays.take i) = Li := ⟨_, rfl⟩
      obtain ⟨Qi, hQi⟩ : ∃ Qi, Q0 ++ plcP (s.pays.take i) = Qi := ⟨_, rfl⟩
      have hlL : Li.length ≤ 20 := by rw [← hLi]; simp [outP]; omega
      have hlQ : Qi.length ≤ 20 := by rw [← hQi]; simp [plcP]; omega
      rw [hLi, hQi]
      simp [Ptr, I, staC]
      refine alt (fun hlt => ?_) (fun hlt => ?_)
      · have hln : i < s.pays.length := by omega
        obtain ⟨x, hc⟩ : ∃ x, s.pays[i]? = some x := ⟨s.pays[i], by simp [hln]⟩
        have hge : (payv s.pays)[i]'(by simp [hln]) = payF x := by
          have e := payv_get hc
          rw [List.getElem?_eq_getElem (by simp [hln])] at e
          exact Option.some.inj e
        have hxo := ok4 x (List.mem_of_getElem? hc)
        have hx := hxo.2.2.2.2
        obtain ⟨ham, hfr⟩ := hpay x (List.mem_of_getElem? hc)
        have w1 : IntKind.i64.wrap ((i : Int) + 1) = ((i + 1 : Nat) : Int) := wrap_i64 (by omega) (by omega)
        have hLn : L0 ++ outP p 0 lock (s.pays.take (i + 1)) = Li ++ [⟨x.am, paidB p 0 lock x⟩] := by rw [take_s hc, ← hLi]; simp [outP]
        have hQn : Q0 ++ plcP (s.pays.take (i + 1)) = Qi ++ [(3, x.id)] := by rw [take_s hc, ← hQi]; simp [plcP]
        have q1 := congrArg List.length hLn
        have q2 := congrArg List.length hQn
        simp only [List.length_append, List.length_singleton] at q1 q2
        obtain ⟨id', fr, am, af, lk⟩ := x
        dsimp only at hfr hx hLn hQn
        rcases hfr with rfl | rfl
        · simp [hln, hge, payF, hx, PVv, SV, staC, I, Ptr, iC, lp, tp, e34, e35, e36, e37, w_0, w_1, wh, hl, hc_t32 hl, take33h, take32h, drop32h, drop33h, drop34h, take33l hl, drop34l hl, take34l hl, hz_len, frzAll_hc, hc_t32 hx, take33l hx, drop34l hx, take34l hx, take34l hz_len, lb, tkb, fb]
          refine ⟨⟨by omega, by omega⟩, ⟨by omega, by omega⟩, ?_⟩
          try simp [w1, -Int.natCast_add]
          refine round (i + 1) [0, 1, 2, 853, 965] (by omega) (by omega) (by simp [Ptr, I, q1, q2]) ?_ (by simp) (by simp) (by simp)
          rw [hLn, hQn]
          simp [q1, q2, w1, -Int.natCast_add, staC]
          simp [outv, outF, brav, braF, ownB, paidB, waitV, fineB, keyO, intv, iF, plcv, plcF]
        · simp [hln, hge, payF, hx, PVv, SV, staC, I, Ptr, iC, lp, tp, e34, e35, e36, e37, w_0, w_1, wh, hl, hc_t32 hl, take33h, take32h, drop32h, drop33h, drop34h, take33l hl, drop34l hl, take34l hl, hz_len, frzAll_hc, hc_t32 hx, take33l hx, drop34l hx, take34l hx, take34l hz_len, lb, tkb, fb]
          refine ⟨⟨by omega, by omega⟩, ⟨by omega, by omega⟩, ?_⟩
          try simp [w1, -Int.natCast_add]
          refine round (i + 1) [0, 1, 2, 853, 965] (by omega) (by omega) (by simp [Ptr, I, q1, q2]) ?_ (by simp) (by simp) (by simp)
          rw [hLn, hQn]
          simp [q1, q2, w1, -Int.natCast_add, staC]
          simp [outv, outF, brav, braF, ownB, paidB, waitV, fineB, keyO, intv, iF, plcv, plcF]
      have hil : i = s.pays.length := by omega
      subst hil
      rw [List.take_length] at hLi hQi
      clear hlt hi
      simp
      refine eloop (α := Nat) (fun i => i ≤ s.holds.length) (fun i => s.holds.length - i)
        (fun i => [.any, .any, .any, .any, .any, Ptr 0, .any, .any, .any, .any, .any, .any, .any, .any, .v (.c (.row 1 (Li ++ outH (s.holds.take i)).length)), .v (.c (.row 2 (Qi ++ plcH (s.holds.take i)).length)), .any, .any, .any, .any, I .i64 i, .any, .any, .any, .any, .any, .any, .any, .any, .any, .any, .any, .any, .any, .any, .any, .any, .any, .any, .any, .any, .any, .any, .any, .any, .any, .any, .any, .any, .any, .any, .any, .any, .any, .any, .any, .any, .any, .any, .any, .any, .any, .any, .any, .any, .any, .any, .any, .any, .any, .any, .any, .any, .any, .any, .any, .any, .any, .any, .any, .any, .any, .any, .any, .any, .any, .any, .any, .any, .any, .any, .any, .any, .any, .any, .any, .any, .any, .any, .any, .any, .any, .any, .any, .any, .any, .any, .any, .any, .any, .any, .any, .any, .any, .any, .any, .any, .any, .any, .any, .any, .any, .any, .any, .any, .any, .any, .any, .any, .any, .any, .any, .any, .any, .any, .any, .any, .any, .any, .any, .any, .any, .any, .any, .any, .any, .any, .any, .any, .any, .any, .any, .any, .any, .any, .any, .any, .any, .any, .any, .any, .any, .any, .any, .any, .any, .any, .any, .any, .any, .any, .any, .any, .any, .any, .any, .any, .any, .any, .any, .any])
        (fun i => [some (.box 32 (staC s)), some (.row 148 2 (outv (Li ++ outH (s.holds.take i)))), some (.row 55 2 (plcv (Qi ++ plcH (s.holds.take i))))]) 0 [1, 3, 4]
        (Nat.zero_le _) (by simp [Ptr, I, outH, plcH]) (by simp [outH, plcH, staC]) (by simp) (by simp) (by simp) ?_
      intro i hi
      obtain ⟨Lj, hLj⟩ : ∃ Lj, Li ++ outH (s.holds.take i) = Lj := ⟨_, rfl⟩
      obtain ⟨Qj, hQj⟩ : ∃ Qj, Qi ++ plcH (s.holds.take i) = Qj := ⟨_, rfl⟩
      have hlL2 : Lj.length ≤ 40 := by rw [← hLj]; simp [outH]; omega
      have hlQ2 : Qj.length ≤ 40 := by rw [← hQj]; simp [plcH]; omega
      rw [hLj, hQj]
      simp [Ptr, I, staC]
      refine alt (fun hlt => ?_) (fun hlt => ?_)
      · have hln : i < s.holds.length := by omega
        obtain ⟨x, hc⟩ : ∃ x, s.holds[i]? = some x := ⟨s.holds[i], by simp [hln]⟩
        have hge : (holv s.holds)[i]'(by simp [hln]) = holF x := by
          have e := holv_get hc
          rw [List.getElem?_eq_getElem (by simp [hln])] at e
          exact Option.some.inj e
        have hk := hhol x (List.mem_of_getElem? hc)
        have w1 : IntKind.i64.wrap ((i : Int) + 1) = ((i + 1 : Nat) : Int) := wrap_i64 (by omega) (by omega)
        have hLn : Li ++ outH (s.holds.take (i + 1)) = Lj ++ [⟨x.am, allB x.keys⟩] := by rw [take_s hc, ← hLj]; simp [outH]
        have hQn : Qi ++ plcH (s.holds.take (i + 1)) = Qj ++ [(4, x.id)] := by rw [take_s hc, ← hQj]; simp [plcH]
        simp [hln, hge, holF]
        refine call0 (rAll_ok x.keys hk) (by simp [IL]) ?_
        rintro y H' ⟨rfl, rfl⟩
        refine ⟨.inl (by simp [CNv]), le_ok rfl, ?_⟩
        simp [CNv, hln, hge, holF]
        refine ⟨⟨by omega, by omega⟩, ⟨by omega, by omega⟩, ?_⟩
        try simp [w1, -Int.natCast_add]
        have q1 := congrArg List.length hLn
        have q2 := congrArg List.length hQn
        simp only [List.length_append, List.length_singleton] at q1 q2
        have hol : outv Lj ++ [[FV.lit (Value.int IntKind.i64 x.am), FV.sl 35 (brav (allB x.keys))]] = outv (Lj ++ [⟨x.am, allB x.keys⟩]) := by simp [outv, outF, iF]
        have hpl : plcv Qj ++ [[FV.lit (Value.int IntKind.i64 4), FV.lit (Value.int IntKind.i64 x.id)]] = plcv (Qj ++ [(4, x.id)]) := by simp [plcv, plcF, iF]
        refine round (i + 1) [0, 339, 515] (by omega) (by omega) (by simp [Ptr, I, q1, q2]) ?_ (by simp) (by simp) (by simp)
        rw [hLn, hQn]
        simp [q1, q2, hol, hpl, staC]
      have hil : i = s.holds.length := by omega
      subst hil
      rw [List.take_length] at hLj hQj
      clear hlt hi
      simp
      have tk1 : List.take Lj.length (outv Lj) = outv Lj := List.take_of_length_le (by simp)
      have tk2 : List.take Qj.length (plcv Qj) = plcv Qj := List.take_of_length_le (by simp)
      refine finW _ (weak_frz (o := 1) (ty := 148) (es := 2) (xs := outv Lj) rfl) ?_
      refine finW _ (weak_frz (o := 2) (ty := 55) (es := 2) (xs := plcv Qj) rfl) ?_
      refine fin [] (by decide) rfl rfl rfl ⟨rfl, ?_⟩
      have hL9 : outsB p s 0 lock = Lj := by rw [hvL, ← hLj, ← hLi, List.append_assoc]
      have hQ9 : plcB p s 0 = Qj := by rw [hvQ, ← hQj, ← hQi, List.append_assoc]
      rw [hL9, hQ9]
      simp [tk1, tk2]
  · have hv1 : out1 p s 0 lock = ([] : List Outp) := if_neg c0
    have hq1 : plc1 p s 0 = ([] : List (Int × Int)) := if_neg c0
    simp [c0, PVv, SV, staC, I, Ptr, iC, lp, tp, e34, e35, e36, e37, w_0, w_1, wh, hl, hc_t32 hl, take33h, take32h, drop32h, drop33h, drop34h, take33l hl, drop34l hl, take34l hl, hz_len, frzAll_hc, lb, tkb, fb]
    by_cases c1 : 10 ≤ s.h1
    · have hv2 : out2 p s 0 = ([⟨s.h1, allB [p.k1]⟩] : List Outp) := if_pos c1
      have hq2 : plc2 p s 0 = ([(2, 0)] : List (Int × Int)) := if_pos c1
      simp [c1, PVv, SV, staC, I, Ptr, iC, lp, tp, e34, e35, e36, e37, w_0, w_1, wh, hl, hc_t32 hl, take33h, take32h, drop32h, drop33h, drop34h, take33l hl, drop34l hl, take34l hl, hz_len, frzAll_hc]
      refine call0 (rAll_ok [p.k1] (keys_one _).1) (by simp [IL, intv, PVv, SV, staC, I, Ptr, iC, lp, tp, e34, e35, e36, e37, w_0, w_1, wh, hl, hc_t32 hl, take33h, take32h, drop32h, drop33h, drop34h, take33l hl, drop34l hl, take34l hl, hz_len, frzAll_hc]) ?_
      rintro y H' ⟨rfl, rfl⟩
      refine ⟨.inl (by simp [CNv]), le_ok rfl, ?_⟩
      simp [CNv, PVv, SV, staC, I, Ptr, iC, lp, tp, e34, e35, e36, e37, w_0, w_1, wh, hl, hc_t32 hl, take33h, take32h, drop32h, drop33h, drop34h, take33l hl, drop34l hl, take34l hl, hz_len, frzAll_hc]
      obtain ⟨L0, hL0⟩ : ∃ L0, ([] ++ [⟨s.h1, allB [p.k1]⟩] : List Outp) = L0 := ⟨_, rfl⟩
      obtain ⟨Q0, hQ0⟩ : ∃ Q0, ([] ++ [(2, 0)] : List (Int × Int)) = Q0 := ⟨_, rfl⟩
      have hL8 : L0.length ≤ 2 := by rw [← hL0]; simp
      have hQ8 : Q0.length ≤ 2 := by rw [← hQ0]; simp
      have hvL : outsB p s 0 lock = L0 ++ (outP p 0 lock s.pays ++ outH s.holds) := by rw [← hL0]; unfold outsB; rw [hv1, hv2]
      have hvQ : plcB p s 0 = Q0 ++ (plcP s.pays ++ plcH s.holds) := by rw [← hQ0]; unfold plcB; rw [hq1, hq2]
      refine eloop (α := Nat) (fun i => i ≤ s.pays.length) (fun i => s.pays.length - i)
        (fun i => [.any, .any, I .i64 0, .any, Ptr 0, Ptr 1, .any, .any, .any, .any, .any, .any, .any, Ptr 2, .v (.c (.row 3 (L0 ++ outP p 0 lock (s.pays.take i)).length)), .v (.c (.row 4 (Q0 ++ plcP (s.pays.take i)).length)), I .i64 i, .any, .any, .any, .any, .any, .any, .any, .any, .any, .any, .any, .any, .any, .any, .any, .any, .any, .any, .any, .any, .any, .any, .any, .any, .any, .any, .any, .any, .any, .any, .any, .any, .any, .any, .any, .any, .any, .any, .any, .any, .any, .any, .any, .any, .any, .any, .any, .any, .any, .any, .any, .any, .any, .any, .any, .any, .any, .any, .any, .any, .any, .any, .any, .any, .any, .any, .any, .any, .any, .any, .any, .any, .any, .any, .any, .any, .any, .any, .any, .any, .any, .any, .any, .any, .any, .any, .any, .any, .any, .any, .any, .any, .any, .any, .any, .any, .any, .any, .any, .any, .any, .any, .any, .any, .any, .any, .any, .any, .any, .any, .any, .any, .any, .any, .any, .any, .any, .any, .any, .any, .any, .any, .any, .any, .any, .any, .any, .any, .any, .any, .any, .any, .any, .any, .any, .any, .any, .any, .any, .any, .any, .any, .any, .any, .any, .any, .any, .any, .any, .any, .any, .any, .any, .any, .any, .any, .any, .any, .any, .any, .any, .any, .any, .any])
        (fun i => [some (.box 28 (prmC p)), some (.box 32 (staC s)), some (.box 150 (braC ⟨[p.k1], lock, 0, 0⟩)), some (.row 148 2 (outv (L0 ++ outP p 0 lock (s.pays.take i)))), some (.row 55 2 (plcv (Q0 ++ plcP (s.pays.take i))))]) 0 [0, 16, 512, 880, 960]
        (Nat.zero_le _) (by simp [Ptr, I, outP, plcP, ← hL0, ← hQ0]) (by simp [outv, outF, brav, braF, ownB, paidB, waitV, fineB, keyO, intv, iF, plcv, plcF, outP, plcP, staC, ← hL0, ← hQ0]) (by simp) (by simp) (by simp) ?_
      intro i hi
      obtain ⟨Li, hLi⟩ : ∃ Li, L0 ++ outP p 0 lock (s.pays.take i) = Li := ⟨_, rfl⟩
      obtain ⟨Qi, hQi⟩ : ∃ Qi, Q0 ++ plcP (s.pays.take i) = Qi := ⟨_, rfl⟩
      have hlL : Li.length ≤ 20 := by rw [← hLi]; simp [outP]; omega
      have hlQ : Qi.length ≤ 20 := by rw [← hQi]; simp [plcP]; omega
      rw [hLi, hQi]
      simp [Ptr, I, staC]
      refine alt (fun hlt => ?_) (fun hlt => ?_)
      · have hln : i < s.pays.length := by omega
        obtain ⟨x, hc⟩ : ∃ x, s.pays[i]? = some x := ⟨s.pays[i], by simp [hln]⟩
        have hge : (payv s.pays)[i]'(by simp [hln]) = payF x := by
          have e := payv_get hc
          rw [List.getElem?_eq_getElem (by simp [hln])] at e
          exact Option.some.inj e
        have hxo := ok4 x (List.mem_of_getElem? hc)
        have hx := hxo.2.2.2.2
        obtain ⟨ham, hfr⟩ := hpay x (List.mem_of_getElem? hc)
        have w1 : IntKind.i64.wrap ((i : Int) + 1) = ((i + 1 : Nat) : Int) := wrap_i64 (by omega) (by omega)
        have hLn : L0 ++ outP p 0 lock (s.pays.take (i + 1)) = Li ++ [⟨x.am, paidB p 0 lock x⟩] := by rw [take_s hc, ← hLi]; simp [outP]
        have hQn : Q0 ++ plcP (s.pays.take (i + 1)) = Qi ++ [(3, x.id)] := by rw [take_s hc, ← hQi]; simp [plcP]
        have q1 := congrArg List.length hLn
        have q2 := congrArg List.length hQn
        simp only [List.length_append, List.length_singleton] at q1 q2
        obtain ⟨id', fr, am, af, lk⟩ := x
        dsimp only at hfr hx hLn hQn
        rcases hfr with rfl | rfl
        · simp [hln, hge, payF, hx, PVv, SV, staC, I, Ptr, iC, lp, tp, e34, e35, e36, e37, w_0, w_1, wh, hl, hc_t32 hl, take33h, take32h, drop32h, drop33h, drop34h, take33l hl, drop34l hl, take34l hl, hz_len, frzAll_hc, hc_t32 hx, take33l hx, drop34l hx, take34l hx, take34l hz_len, lb, tkb, fb]
          refine ⟨⟨by omega, by omega⟩, ⟨by omega, by omega⟩, ?_⟩
          try simp [w1, -Int.natCast_add]
          refine round (i + 1) [0, 1, 2, 853, 965] (by omega) (by omega) (by simp [Ptr, I, q1, q2]) ?_ (by simp) (by simp) (by simp)
          rw [hLn, hQn]
          simp [q1, q2, w1, -Int.natCast_add, staC]
          simp [outv, outF, brav, braF, ownB, paidB, waitV, fineB, keyO, intv, iF, plcv, plcF]
        · simp [hln, hge, payF, hx, PVv, SV, staC, I, Ptr, iC, lp, tp, e34, e35, e36, e37, w_0, w_1, wh, hl, hc_t32 hl, take33h, take32h, drop32h, drop33h, drop34h, take33l hl, drop34l hl, take34l hl, hz_len, frzAll_hc, hc_t32 hx, take33l hx, drop34l hx, take34l hx, take34l hz_len, lb, tkb, fb]
          refine ⟨⟨by omega, by omega⟩, ⟨by omega, by omega⟩, ?_⟩
          try simp [w1, -Int.natCast_add]
          refine round (i + 1) [0, 1, 2, 853, 965] (by omega) (by omega) (by simp [Ptr, I, q1, q2]) ?_ (by simp) (by simp) (by simp)
          rw [hLn, hQn]
          simp [q1, q2, w1, -Int.natCast_add, staC]
          simp [outv, outF, brav, braF, ownB, paidB, waitV, fineB, keyO, intv, iF, plcv, plcF]
      have hil : i = s.pays.length := by omega
      subst hil
      rw [List.take_length] at hLi hQi
      clear hlt hi
      simp
      refine eloop (α := Nat) (fun i => i ≤ s.holds.length) (fun i => s.holds.length - i)
        (fun i => [.any, .any, .any, .any, .any, Ptr 0, .any, .any, .any, .any, .any, .any, .any, .any, .v (.c (.row 1 (Li ++ outH (s.holds.take i)).length)), .v (.c (.row 2 (Qi ++ plcH (s.holds.take i)).length)), .any, .any, .any, .any, I .i64 i, .any, .any, .any, .any, .any, .any, .any, .any, .any, .any, .any, .any, .any, .any, .any, .any, .any, .any, .any, .any, .any, .any, .any, .any, .any, .any, .any, .any, .any, .any, .any, .any, .any, .any, .any, .any, .any, .any, .any, .any, .any, .any, .any, .any, .any, .any, .any, .any, .any, .any, .any, .any, .any, .any, .any, .any, .any, .any, .any, .any, .any, .any, .any, .any, .any, .any, .any, .any, .any, .any, .any, .any, .any, .any, .any, .any, .any, .any, .any, .any, .any, .any, .any, .any, .any, .any, .any, .any, .any, .any, .any, .any, .any, .any, .any, .any, .any, .any, .any, .any, .any, .any, .any, .any, .any, .any, .any, .any, .any, .any, .any, .any, .any, .any, .any, .any, .any, .any, .any, .any, .any, .any, .any, .any, .any, .any, .any, .any, .any, .any, .any, .any, .any, .any, .any, .any, .any, .any, .any, .any, .any, .any, .any, .any, .any, .any, .any, .any, .any, .any, .any, .any, .any, .any, .any, .any, .any, .any, .any, .any])
        (fun i => [some (.box 32 (staC s)), some (.row 148 2 (outv (Li ++ outH (s.holds.take i)))), some (.row 55 2 (plcv (Qi ++ plcH (s.holds.take i))))]) 0 [1, 3, 4]
        (Nat.zero_le _) (by simp [Ptr, I, outH, plcH]) (by simp [outH, plcH, staC]) (by simp) (by simp) (by simp) ?_
      intro i hi
      obtain ⟨Lj, hLj⟩ : ∃ Lj, Li ++ outH (s.holds.take i) = Lj := ⟨_, rfl⟩
      obtain ⟨Qj, hQj⟩ : ∃ Qj, Qi ++ plcH (s.holds.take i) = Qj := ⟨_, rfl⟩
      have hlL2 : Lj.length ≤ 40 := by rw [← hLj]; simp [outH]; omega
      have hlQ2 : Qj.length ≤ 40 := by rw [← hQj]; simp [plcH]; omega
      rw [hLj, hQj]
      simp [Ptr, I, staC]
      refine alt (fun hlt => ?_) (fun hlt => ?_)
      · have hln : i < s.holds.length := by omega
        obtain ⟨x, hc⟩ : ∃ x, s.holds[i]? = some x := ⟨s.holds[i], by simp [hln]⟩
        have hge : (holv s.holds)[i]'(by simp [hln]) = holF x := by
          have e := holv_get hc
          rw [List.getElem?_eq_getElem (by simp [hln])] at e
          exact Option.some.inj e
        have hk := hhol x (List.mem_of_getElem? hc)
        have w1 : IntKind.i64.wrap ((i : Int) + 1) = ((i + 1 : Nat) : Int) := wrap_i64 (by omega) (by omega)
        have hLn : Li ++ outH (s.holds.take (i + 1)) = Lj ++ [⟨x.am, allB x.keys⟩] := by rw [take_s hc, ← hLj]; simp [outH]
        have hQn : Qi ++ plcH (s.holds.take (i + 1)) = Qj ++ [(4, x.id)] := by rw [take_s hc, ← hQj]; simp [plcH]
        simp [hln, hge, holF]
        refine call0 (rAll_ok x.keys hk) (by simp [IL]) ?_
        rintro y H' ⟨rfl, rfl⟩
        refine ⟨.inl (by simp [CNv]), le_ok rfl, ?_⟩
        simp [CNv, hln, hge, holF]
        refine ⟨⟨by omega, by omega⟩, ⟨by omega, by omega⟩, ?_⟩
        try simp [w1, -Int.natCast_add]
        have q1 := congrArg List.length hLn
        have q2 := congrArg List.length hQn
        simp only [List.length_append, List.length_singleton] at q1 q2
        have hol : outv Lj ++ [[FV.lit (Value.int IntKind.i64 x.am), FV.sl 35 (brav (allB x.keys))]] = outv (Lj ++ [⟨x.am, allB x.keys⟩]) := by simp [outv, outF, iF]
        have hpl : plcv Qj ++ [[FV.lit (Value.int IntKind.i64 4), FV.lit (Value.int IntKind.i64 x.id)]] = plcv (Qj ++ [(4, x.id)]) := by simp [plcv, plcF, iF]
        refine round (i + 1) [0, 339, 515] (by omega) (by omega) (by simp [Ptr, I, q1, q2]) ?_ (by simp) (by simp) (by simp)
        rw [hLn, hQn]
        simp [q1, q2, hol, hpl, staC]
      have hil : i = s.holds.length := by omega
      subst hil
      rw [List.take_length] at hLj hQj
      clear hlt hi
      simp
      have tk1 : List.take Lj.length (outv Lj) = outv Lj := List.take_of_length_le (by simp)
      have tk2 : List.take Qj.length (plcv Qj) = plcv Qj := List.take_of_length_le (by simp)
      refine finW _ (weak_frz (o := 1) (ty := 148) (es := 2) (xs := outv Lj) rfl) ?_
      refine finW _ (weak_frz (o := 2) (ty := 55) (es := 2) (xs := plcv Qj) rfl) ?_
      refine fin [] (by decide) rfl rfl rfl ⟨rfl, ?_⟩
      have hL9 : outsB p s 0 lock = Lj := by rw [hvL, ← hLj, ← hLi, List.append_assoc]
      have hQ9 : plcB p s 0 = Qj := by rw [hvQ, ← hQj, ← hQi, List.append_assoc]
      rw [hL9, hQ9]
      simp [tk1, tk2]
    · have hv2 : out2 p s 0 = ([] : List Outp) := if_neg c1
      have hq2 : plc2 p s 0 = ([] : List (Int × Int)) := if_neg c1
      simp [c1, PVv, SV, staC, I, Ptr, iC, lp, tp, e34, e35, e36, e37, w_0, w_1, wh, hl, hc_t32 hl, take33h, take32h, drop32h, drop33h, drop34h, take33l hl, drop34l hl, take34l hl, hz_len, frzAll_hc]
      refine loopW _ (weak_nilR 14 148 2 rfl (by omega)) (loopW _ (weak_nilR 15 55 2 rfl (by omega)) ?_)
      obtain ⟨L0, hL0⟩ : ∃ L0, ([] ++ [] : List Outp) = L0 := ⟨_, rfl⟩
      obtain ⟨Q0, hQ0⟩ : ∃ Q0, ([] ++ [] : List (Int × Int)) = Q0 := ⟨_, rfl⟩
      have hL8 : L0.length ≤ 2 := by rw [← hL0]; simp
      have hQ8 : Q0.length ≤ 2 := by rw [← hQ0]; simp
      have hvL : outsB p s 0 lock = L0 ++ (outP p 0 lock s.pays ++ outH s.holds) := by rw [← hL0]; unfold outsB; rw [hv1, hv2]
      have hvQ : plcB p s 0 = Q0 ++ (plcP s.pays ++ plcH s.holds) := by rw [← hQ0]; unfold plcB; rw [hq1, hq2]
      refine eloop (α := Nat) (fun i => i ≤ s.pays.length) (fun i => s.pays.length - i)
        (fun i => [.any, .any, I .i64 0, .any, Ptr 0, Ptr 1, .any, .any, .any, .any, .any, .any, .any, Ptr 2, .v (.c (.row 3 (L0 ++ outP p 0 lock (s.pays.take i)).length)), .v (.c (.row 4 (Q0 ++ plcP (s.pays.take i)).length)), I .i64 i, .any, .any, .any, .any, .any, .any, .any, .any, .any, .any, .any, .any, .any, .any, .any, .any, .any, .any, .any, .any, .any, .any, .any, .any, .any, .any, .any, .any, .any, .any, .any, .any, .any, .any, .any, .any, .any, .any, .any, .any, .any, .any, .any, .any, .any, .any, .any, .any, .any, .any, .any, .any, .any, .any, .any, .any, .any, .any, .any, .any, .any, .any, .any, .any, .any, .any, .any, .any, .any, .any, .any, .any, .any, .any, .any, .any, .any, .any, .any, .any, .any, .any, .any, .any, .any, .any, .any, .any, .any, .any, .any, .any, .any, .any, .any, .any, .any, .any, .any, .any, .any, .any, .any, .any, .any, .any, .any, .any, .any, .any, .any, .any, .any, .any, .any, .any, .any, .any, .any, .any, .any, .any, .any, .any, .any, .any, .any, .any, .any, .any, .any, .any, .any, .any, .any, .any, .any, .any, .any, .any, .any, .any, .any, .any, .any, .any, .any, .any, .any, .any, .any, .any, .any, .any, .any, .any, .any, .any, .any, .any, .any, .any, .any, .any])
        (fun i => [some (.box 28 (prmC p)), some (.box 32 (staC s)), some (.box 150 (braC ⟨[p.k1], lock, 0, 0⟩)), some (.row 148 2 (outv (L0 ++ outP p 0 lock (s.pays.take i)))), some (.row 55 2 (plcv (Q0 ++ plcP (s.pays.take i))))]) 0 [0, 16, 512, 736, 737]
        (Nat.zero_le _) (by simp [Ptr, I, outP, plcP, ← hL0, ← hQ0]) (by simp [outv, outF, brav, braF, ownB, paidB, waitV, fineB, keyO, intv, iF, plcv, plcF, outP, plcP, staC, ← hL0, ← hQ0]) (by simp) (by simp) (by simp) ?_
      intro i hi
      obtain ⟨Li, hLi⟩ : ∃ Li, L0 ++ outP p 0 lock (s.pays.take i) = Li := ⟨_, rfl⟩
      obtain ⟨Qi, hQi⟩ : ∃ Qi, Q0 ++ plcP (s.pays.take i) = Qi := ⟨_, rfl⟩
      have hlL : Li.length ≤ 20 := by rw [← hLi]; simp [outP]; omega
      have hlQ : Qi.length ≤ 20 := by rw [← hQi]; simp [plcP]; omega
      rw [hLi, hQi]
      simp [Ptr, I, staC]
      refine alt (fun hlt => ?_) (fun hlt => ?_)
      · have hln : i < s.pays.length := by omega
        obtain ⟨x, hc⟩ : ∃ x, s.pays[i]? = some x := ⟨s.pays[i], by simp [hln]⟩
        have hge : (payv s.pays)[i]'(by simp [hln]) = payF x := by
          have e := payv_get hc
          rw [List.getElem?_eq_getElem (by simp [hln])] at e
          exact Option.some.inj e
        have hxo := ok4 x (List.mem_of_getElem? hc)
        have hx := hxo.2.2.2.2
        obtain ⟨ham, hfr⟩ := hpay x (List.mem_of_getElem? hc)
        have w1 : IntKind.i64.wrap ((i : Int) + 1) = ((i + 1 : Nat) : Int) := wrap_i64 (by omega) (by omega)
        have hLn : L0 ++ outP p 0 lock (s.pays.take (i + 1)) = Li ++ [⟨x.am, paidB p 0 lock x⟩] := by rw [take_s hc, ← hLi]; simp [outP]
        have hQn : Q0 ++ plcP (s.pays.take (i + 1)) = Qi ++ [(3, x.id)] := by rw [take_s hc, ← hQi]; simp [plcP]
        have q1 := congrArg List.length hLn
        have q2 := congrArg List.length hQn
        simp only [List.length_append, List.length_singleton] at q1 q2
        obtain ⟨id', fr, am, af, lk⟩ := x
        dsimp only at hfr hx hLn hQn
        rcases hfr with rfl | rfl
        · simp [hln, hge, payF, hx, PVv, SV, staC, I, Ptr, iC, lp, tp, e34, e35, e36, e37, w_0, w_1, wh, hl, hc_t32 hl, take33h, take32h, drop32h, drop33h, drop34h, take33l hl, drop34l hl, take34l hl, hz_len, frzAll_hc, hc_t32 hx, take33l hx, drop34l hx, take34l hx, take34l hz_len, lb, tkb, fb]
          refine ⟨⟨by omega, by omega⟩, ⟨by omega, by omega⟩, ?_⟩
          try simp [w1, -Int.natCast_add]
          refine round (i + 1) [0, 1, 2, 853, 965] (by omega) (by omega) (by simp [Ptr, I, q1, q2]) ?_ (by simp) (by simp) (by simp)
          rw [hLn, hQn]
          simp [q1, q2, w1, -Int.natCast_add, staC]
          simp [outv, outF, brav, braF, ownB, paidB, waitV, fineB, keyO, intv, iF, plcv, plcF]
        · simp [hln, hge, payF, hx, PVv, SV, staC, I, Ptr, iC, lp, tp, e34, e35, e36, e37, w_0, w_1, wh, hl, hc_t32 hl, take33h, take32h, drop32h, drop33h, drop34h, take33l hl, drop34l hl, take34l hl, hz_len, frzAll_hc, hc_t32 hx, take33l hx, drop34l hx, take34l hx, take34l hz_len, lb, tkb, fb]
          refine ⟨⟨by omega, by omega⟩, ⟨by omega, by omega⟩, ?_⟩
          try simp [w1, -Int.natCast_add]
          refine round (i + 1) [0, 1, 2, 853, 965] (by omega) (by omega) (by simp [Ptr, I, q1, q2]) ?_ (by simp) (by simp) (by simp)
          rw [hLn, hQn]
          simp [q1, q2, w1, -Int.natCast_add, staC]
          simp [outv, outF, brav, braF, ownB, paidB, waitV, fineB, keyO, intv, iF, plcv, plcF]
      have hil : i = s.pays.length := by omega
      subst hil
      rw [List.take_length] at hLi hQi
      clear hlt hi
      simp
      refine eloop (α := Nat) (fun i => i ≤ s.holds.length) (fun i => s.holds.length - i)
        (fun i => [.any, .any, .any, .any, .any, Ptr 0, .any, .any, .any, .any, .any, .any, .any, .any, .v (.c (.row 1 (Li ++ outH (s.holds.take i)).length)), .v (.c (.row 2 (Qi ++ plcH (s.holds.take i)).length)), .any, .any, .any, .any, I .i64 i, .any, .any, .any, .any, .any, .any, .any, .any, .any, .any, .any, .any, .any, .any, .any, .any, .any, .any, .any, .any, .any, .any, .any, .any, .any, .any, .any, .any, .any, .any, .any, .any, .any, .any, .any, .any, .any, .any, .any, .any, .any, .any, .any, .any, .any, .any, .any, .any, .any, .any, .any, .any, .any, .any, .any, .any, .any, .any, .any, .any, .any, .any, .any, .any, .any, .any, .any, .any, .any, .any, .any, .any, .any, .any, .any, .any, .any, .any, .any, .any, .any, .any, .any, .any, .any, .any, .any, .any, .any, .any, .any, .any, .any, .any, .any, .any, .any, .any, .any, .any, .any, .any, .any, .any, .any, .any, .any, .any, .any, .any, .any, .any, .any, .any, .any, .any, .any, .any, .any, .any, .any, .any, .any, .any, .any, .any, .any, .any, .any, .any, .any, .any, .any, .any, .any, .any, .any, .any, .any, .any, .any, .any, .any, .any, .any, .any, .any, .any, .any, .any, .any, .any, .any, .any, .any, .any, .any, .any, .any, .any])
        (fun i => [some (.box 32 (staC s)), some (.row 148 2 (outv (Li ++ outH (s.holds.take i)))), some (.row 55 2 (plcv (Qi ++ plcH (s.holds.take i))))]) 0 [1, 3, 4]
        (Nat.zero_le _) (by simp [Ptr, I, outH, plcH]) (by simp [outH, plcH, staC]) (by simp) (by simp) (by simp) ?_
      intro i hi
      obtain ⟨Lj, hLj⟩ : ∃ Lj, Li ++ outH (s.holds.take i) = Lj := ⟨_, rfl⟩
      obtain ⟨Qj, hQj⟩ : ∃ Qj, Qi ++ plcH (s.holds.take i) = Qj := ⟨_, rfl⟩
      have hlL2 : Lj.length ≤ 40 := by rw [← hLj]; simp [outH]; omega
      have hlQ2 : Qj.length ≤ 40 := by rw [← hQj]; simp [plcH]; omega
      rw [hLj, hQj]
      simp [Ptr, I, staC]
      refine alt (fun hlt => ?_) (fun hlt => ?_)
      · have hln : i < s.holds.length := by omega
        obtain ⟨x, hc⟩ : ∃ x, s.holds[i]? = some x := ⟨s.holds[i], by simp [hln]⟩
        have hge : (holv s.holds)[i]'(by simp [hln]) = holF x := by
          have e := holv_get hc
          rw [List.getElem?_eq_getElem (by simp [hln])] at e
          exact Option.some.inj e
        have hk := hhol x (List.mem_of_getElem? hc)
        have w1 : IntKind.i64.wrap ((i : Int) + 1) = ((i + 1 : Nat) : Int) := wrap_i64 (by omega) (by omega)
        have hLn : Li ++ outH (s.holds.take (i + 1)) = Lj ++ [⟨x.am, allB x.keys⟩] := by rw [take_s hc, ← hLj]; simp [outH]
        have hQn : Qi ++ plcH (s.holds.take (i + 1)) = Qj ++ [(4, x.id)] := by rw [take_s hc, ← hQj]; simp [plcH]
        simp [hln, hge, holF]
        refine call0 (rAll_ok x.keys hk) (by simp [IL]) ?_
        rintro y H' ⟨rfl, rfl⟩
        refine ⟨.inl (by simp [CNv]), le_ok rfl, ?_⟩
        simp [CNv, hln, hge, holF]
        refine ⟨⟨by omega, by omega⟩, ⟨by omega, by omega⟩, ?_⟩
        try simp [w1, -Int.natCast_add]
        have q1 := congrArg List.length hLn
        have q2 := congrArg List.length hQn
        simp only [List.length_append, List.length_singleton] at q1 q2
        have hol : outv Lj ++ [[FV.lit (Value.int IntKind.i64 x.am), FV.sl 35 (brav (allB x.keys))]] = outv (Lj ++ [⟨x.am, allB x.keys⟩]) := by simp [outv, outF, iF]
        have hpl : plcv Qj ++ [[FV.lit (Value.int IntKind.i64 4), FV.lit (Value.int IntKind.i64 x.id)]] = plcv (Qj ++ [(4, x.id)]) := by simp [plcv, plcF, iF]
        refine round (i + 1) [0, 339, 515] (by omega) (by omega) (by simp [Ptr, I, q1, q2]) ?_ (by simp) (by simp) (by simp)
        rw [hLn, hQn]
        simp [q1, q2, hol, hpl, staC]
      have hil : i = s.holds.length := by omega
      subst hil
      rw [List.take_length] at hLj hQj
      clear hlt hi
      simp
      have tk1 : List.take Lj.length (outv Lj) = outv Lj := List.take_of_length_le (by simp)
      have tk2 : List.take Qj.length (plcv Qj) = plcv Qj := List.take_of_length_le (by simp)
      refine finW _ (weak_frz (o := 1) (ty := 148) (es := 2) (xs := outv Lj) rfl) ?_
      refine finW _ (weak_frz (o := 2) (ty := 55) (es := 2) (xs := plcv Qj) rfl) ?_
      refine fin [] (by decide) rfl rfl rfl ⟨rfl, ?_⟩
      have hL9 : outsB p s 0 lock = Lj := by rw [hvL, ← hLj, ← hLi, List.append_assoc]
      have hQ9 : plcB p s 0 = Qj := by rw [hvQ, ← hQj, ← hQi, List.append_assoc]
      rw [hL9, hQ9]
      simp [tk1, tk2]
set_option maxRecDepth 16000 in
set_option maxHeartbeats 32000000 in
theorem ROuts_1 (p : Prm) (s : Sta) (lock : List UInt8) (hp : p.ok) (hl : lock.length = 32) (hs : s.ok) (hw : i64 (s.h0 - p.fe)) (hn : s.pays.length ≤ 8 ∧ s.holds.length ≤ 8) (hpay : ∀ x ∈ s.pays, 10 ≤ x.am ∧ (x.fr = 0 ∨ x.fr = 1)) (hhol : ∀ h ∈ s.holds, KeysOK h.keys) :
    ECalls Tryz.prog 45 [PVv p, SV s, I .i64 1, .v (.agg (hc lock))] [] fun y H' => H' = [] ∧ y = .tup [.c (.fz (.sl 2 (outv (outsB p s 1 lock)))), .c (.fz (.sl 2 (plcv (plcB p s 1))))] := by
  have hpo := hp
  have h1 := hp.1
  obtain ⟨ok1, ok2, ok3, ok4, ok5, ok6, ok7⟩ := id hs
  have lp := prmC_len h1
  have tp := pm_take h1
  have e34 := idx_of (pm_at h1 2) (by omega)
  have e35 := idx_of (pm_at h1 3) (by omega)
  have e36 := idx_of (pm_at h1 4) (by omega)
  have e37 := idx_of (pm_at h1 5) (by omega)
  have wh : IntKind.i64.wrap (s.h0 - p.fe) = s.h0 - p.fe := by unfold i64 at hw; exact wrap_i64 (by omega) (by omega)
  refine ecalls k_ROuts ?_
  simp [c_ROuts, PVv, SV, staC, I, Ptr, iC, lp, tp, e34, e35, e36, e37, w_0, w_1, wh, hl, hc_t32 hl, take33h, take32h, drop32h, drop33h, drop34h, take33l hl, drop34l hl, take34l hl, hz_len, frzAll_hc]
  simp only [bfold]
  have lb := bc_len (b := (⟨[p.k0], lock, 0, 0⟩ : Bra)) hl
  have tkb := bc_take (b := (⟨[p.k0], lock, 0, 0⟩ : Bra)) hl
  have fb := bf_len (b := (⟨[p.k0], lock, 0, 0⟩ : Bra)) hl
  have lo := bf_len (b := (⟨[p.k1], hz, 0, p.dl⟩ : Bra)) hz_len
  by_cases c0 : 10 ≤ s.h1
  · have hv1 : out1 p s 1 lock = ([⟨s.h1, ownB p 1 lock⟩] : List Outp) := if_pos c0
    have hq1 : plc1 p s 1 = ([(1, 0)] : List (Int × Int)) := if_pos c0
    simp [c0, PVv, SV, staC, I, Ptr, iC, lp, tp, e34, e35, e36, e37, w_0, w_1, wh, hl, hc_t32 hl, take33h, take32h, drop32h, drop33h, drop34h, take33l hl, drop34l hl, take34l hl, hz_len, frzAll_hc, lb, tkb, fb]
    by_cases c1 : 10 ≤ s.h0 - p.fe
    · have hv2 : out2 p s 1 = ([⟨s.h0 - p.fe, allB [p.k0]⟩] : List Outp) := if_pos c1
      have hq2 : plc2 p s 1 = ([(2, 0)] : List (Int × Int)) := if_pos c1
      simp [c1, PVv, SV, staC, I, Ptr, iC, lp, tp, e34, e35, e36, e37, w_0, w_1, wh, hl, hc_t32 hl, take33h, take32h, drop32h, drop33h, drop34h, take33l hl, drop34l hl, take34l hl, hz_len, frzAll_hc]
      refine call0 (rAll_ok [p.k0] (keys_one _).1) (by simp [IL, intv, PVv, SV, staC, I, Ptr, iC, lp, tp, e34, e35, e36, e37, w_0, w_1, wh, hl, hc_t32 hl, take33h, take32h, drop32h, drop33h, drop34h, take33l hl, drop34l hl, take34l hl, hz_len, frzAll_hc]) ?_
      rintro y H' ⟨rfl, rfl⟩
      refine ⟨.inl (by simp [CNv]), le_ok rfl, ?_⟩
      simp [CNv, PVv, SV, staC, I, Ptr, iC, lp, tp, e34, e35, e36, e37, w_0, w_1, wh, hl, hc_t32 hl, take33h, take32h, drop32h, drop33h, drop34h, take33l hl, drop34l hl, take34l hl, hz_len, frzAll_hc]
      obtain ⟨L0, hL0⟩ : ∃ L0, ([⟨s.h1, ownB p 1 lock⟩] ++ [⟨s.h0 - p.fe, allB [p.k0]⟩] : List Outp) = L0 := ⟨_, rfl⟩
      obtain ⟨Q0, hQ0⟩ : ∃ Q0, ([(1, 0)] ++ [(2, 0)] : List (Int × Int)) = Q0 := ⟨_, rfl⟩
      have hL8 : L0.length ≤ 2 := by rw [← hL0]; simp
      have hQ8 : Q0.length ≤ 2 := by rw [← hQ0]; simp
      have hvL : outsB p s 1 lock = L0 ++ (outP p 1 lock s.pays ++ outH s.holds) := by rw [← hL0]; unfold outsB; rw [hv1, hv2]
      have hvQ : plcB p s 1 = Q0 ++ (plcP s.pays ++ plcH s.holds) := by rw [← hQ0]; unfold plcB; rw [hq1, hq2]
      refine eloop (α := Nat) (fun i => i ≤ s.pays.length) (fun i => s.pays.length - i)
        (fun i => [.any, .any, I .i64 1, .any, Ptr 0, Ptr 1, .any, .any, .any, .any, .any, .any, .any, Ptr 2, .v (.c (.row 3 (L0 ++ outP p 1 lock (s.pays.take i)).length)), .v (.c (.row 4 (Q0 ++ plcP (s.pays.take i)).length)), I .i64 i, .any, .any, .any, .any, .any, .any, .any, .any, .any, .any, .any, .any, .any, .any, .any, .any, .any, .any, .any, .any, .any, .any, .any, .any, .any, .any, .any, .any, .any, .any, .any, .any, .any, .any, .any, .any, .any, .any, .any, .any, .any, .any, .any, .any, .any, .any, .any, .any, .any, .any, .any, .any, .any, .any, .any, .any, .any, .any, .any, .any, .any, .any, .any, .any, .any, .any, .any, .any, .any, .any, .any, .any, .any, .any, .any, .any, .any, .any, .any, .any, .any, .any, .any, .any, .any, .any, .any, .any, .any, .any, .any, .any, .any, .any, .any, .any, .any, .any, .any, .any, .any, .any, .any, .any, .any, .any, .any, .any, .any, .any, .any, .any, .any, .any, .any, .any, .any, .any, .any, .any, .any, .any, .any, .any, .any, .any, .any, .any, .any, .any, .any, .any, .any, .any, .any, .any, .any, .any, .any, .any, .any, .any, .any, .any, .any, .any, .any, .any, .any, .any, .any, .any, .any, .any, .any, .any, .any, .any, .any, .any, .any, .any, .any, .any])
        (fun i => [some (.box 28 (prmC p)), some (.box 32 (staC s)), some (.box 150 (braC ⟨[p.k0], lock, 0, 0⟩)), some (.row 148 2 (outv (L0 ++ outP p 1 lock (s.pays.take i)))), some (.row 55 2 (plcv (Q0 ++ plcP (s.pays.take i))))]) 0 [0, 16, 512, 1216, 1296]
        (Nat.zero_le _) (by simp [Ptr, I, outP, plcP, ← hL0, ← hQ0]) (by simp [outv, outF, brav, braF, ownB, paidB, waitV, fineB, keyO, intv, iF, plcv, plcF, outP, plcP, staC, ← hL0, ← hQ0]) (by simp) (by simp) (by simp) ?_
      intro i hi
      obtain ⟨Li, hLi⟩ : ∃ Li, L0 ++ outP p 1 lock (s.pays.take i) = Li := ⟨_, rfl⟩
      obtain ⟨Qi, hQi⟩ : ∃ Qi, Q0 ++ plcP (s.pays.take i) = Qi := ⟨_, rfl⟩
      have hlL : Li.length ≤ 20 := by rw [← hLi]; simp [outP]; omega
      have hlQ : Qi.length ≤ 20 := by rw [← hQi]; simp [plcP]; omega
      rw [hLi, hQi]
      simp [Ptr, I, staC]
      refine alt (fun hlt => ?_) (fun hlt => ?_)
      · have hln : i < s.pays.length := by omega
        obtain ⟨x, hc⟩ : ∃ x, s.pays[i]? = some x := ⟨s.pays[i], by simp [hln]⟩
        have hge : (payv s.pays)[i]'(by simp [hln]) = payF x := by
          have e := payv_get hc
          rw [List.getElem?_eq_getElem (by simp [hln])] at e
          exact Option.some.inj e
        have hxo := ok4 x (List.mem_of_getElem? hc)
        have hx := hxo.2.2.2.2
        obtain ⟨ham, hfr⟩ := hpay x (List.mem_of_getElem? hc)
        have w1 : IntKind.i64.wrap ((i : Int) + 1) = ((i + 1 : Nat) : Int) := wrap_i64 (by omega) (by omega)
        have hLn : L0 ++ outP p 1 lock (s.pays.take (i + 1)) = Li ++ [⟨x.am, paidB p 1 lock x⟩] := by rw [take_s hc, ← hLi]; simp [outP]
        have hQn : Q0 ++ plcP (s.pays.take (i + 1)) = Qi ++ [(3, x.id)] := by rw [take_s hc, ← hQi]; simp [plcP]
        have q1 := congrArg List.length hLn
        have q2 := congrArg List.length hQn
        simp only [List.length_append, List.length_singleton] at q1 q2
        obtain ⟨id', fr, am, af, lk⟩ := x
        dsimp only at hfr hx hLn hQn
        rcases hfr with rfl | rfl
        · simp [hln, hge, payF, hx, PVv, SV, staC, I, Ptr, iC, lp, tp, e34, e35, e36, e37, w_0, w_1, wh, hl, hc_t32 hl, take33h, take32h, drop32h, drop33h, drop34h, take33l hl, drop34l hl, take34l hl, hz_len, frzAll_hc, hc_t32 hx, take33l hx, drop34l hx, take34l hx, take34l hz_len, lb, tkb, fb]
          refine ⟨⟨by omega, by omega⟩, ⟨by omega, by omega⟩, ?_⟩
          try simp [w1, -Int.natCast_add]
          refine round (i + 1) [0, 1, 2, 853, 965] (by omega) (by omega) (by simp [Ptr, I, q1, q2]) ?_ (by simp) (by simp) (by simp)
          rw [hLn, hQn]
          simp [q1, q2, w1, -Int.natCast_add, staC]
          simp [outv, outF, brav, braF, ownB, paidB, waitV, fineB, keyO, intv, iF, plcv, plcF]
        · simp [hln, hge, payF, hx, PVv, SV, staC, I, Ptr, iC, lp, tp, e34, e35, e36, e37, w_0, w_1, wh, hl, hc_t32 hl, take33h, take32h, drop32h, drop33h, drop34h, take33l hl, drop34l hl, take34l hl, hz_len, frzAll_hc, hc_t32 hx, take33l hx, drop34l hx, take34l hx, take34l hz_len, lb, tkb, fb]
          refine ⟨⟨by omega, by omega⟩, ⟨by omega, by omega⟩, ?_⟩
          try simp [w1, -Int.natCast_add]
          refine round (i + 1) [0, 1, 2, 853, 965] (by omega) (by omega) (by simp [Ptr, I, q1, q2]) ?_ (by simp) (by simp) (by simp)
          rw [hLn, hQn]
          simp [q1, q2, w1, -Int.natCast_add, staC]
          simp [outv, outF, brav, braF, ownB, paidB, waitV, fineB, keyO, intv, iF, plcv, plcF]
      have hil : i = s.pays.length := by omega
      subst hil
      rw [List.take_length] at hLi hQi
      clear hlt hi
      simp
      refine eloop (α := Nat) (fun i => i ≤ s.holds.length) (fun i => s.holds.length - i)
        (fun i => [.any, .any, .any, .any, .any, Ptr 0, .any, .any, .any, .any, .any, .any, .any, .any, .v (.c (.row 1 (Li ++ outH (s.holds.take i)).length)), .v (.c (.row 2 (Qi ++ plcH (s.holds.take i)).length)), .any, .any, .any, .any, I .i64 i, .any, .any, .any, .any, .any, .any, .any, .any, .any, .any, .any, .any, .any, .any, .any, .any, .any, .any, .any, .any, .any, .any, .any, .any, .any, .any, .any, .any, .any, .any, .any, .any, .any, .any, .any, .any, .any, .any, .any, .any, .any, .any, .any, .any, .any, .any, .any, .any, .any, .any, .any, .any, .any, .any, .any, .any, .any, .any, .any, .any, .any, .any, .any, .any, .any, .any, .any, .any, .any, .any, .any, .any, .any, .any, .any, .any, .any, .any, .any, .any, .any, .any, .any, .any, .any, .any, .any, .any, .any, .any, .any, .any, .any, .any, .any, .any, .any, .any, .any, .any, .any, .any, .any, .any, .any, .any, .any, .any, .any, .any, .any, .any, .any, .any, .any, .any, .any, .any, .any, .any, .any, .any, .any, .any, .any, .any, .any, .any, .any, .any, .any, .any, .any, .any, .any, .any, .any, .any, .any, .any, .any, .any, .any, .any, .any, .any, .any, .any, .any, .any, .any, .any, .any, .any, .any, .any, .any, .any, .any, .any])
        (fun i => [some (.box 32 (staC s)), some (.row 148 2 (outv (Li ++ outH (s.holds.take i)))), some (.row 55 2 (plcv (Qi ++ plcH (s.holds.take i))))]) 0 [1, 3, 4]
        (Nat.zero_le _) (by simp [Ptr, I, outH, plcH]) (by simp [outH, plcH, staC]) (by simp) (by simp) (by simp) ?_
      intro i hi
      obtain ⟨Lj, hLj⟩ : ∃ Lj, Li ++ outH (s.holds.take i) = Lj := ⟨_, rfl⟩
      obtain ⟨Qj, hQj⟩ : ∃ Qj, Qi ++ plcH (s.holds.take i) = Qj := ⟨_, rfl⟩
      have hlL2 : Lj.length ≤ 40 := by rw [← hLj]; simp [outH]; omega
      have hlQ2 : Qj.length ≤ 40 := by rw [← hQj]; simp [plcH]; omega
      rw [hLj, hQj]
      simp [Ptr, I, staC]
      refine alt (fun hlt => ?_) (fun hlt => ?_)
      · have hln : i < s.holds.length := by omega
        obtain ⟨x, hc⟩ : ∃ x, s.holds[i]? = some x := ⟨s.holds[i], by simp [hln]⟩
        have hge : (holv s.holds)[i]'(by simp [hln]) = holF x := by
          have e := holv_get hc
          rw [List.getElem?_eq_getElem (by simp [hln])] at e
          exact Option.some.inj e
        have hk := hhol x (List.mem_of_getElem? hc)
        have w1 : IntKind.i64.wrap ((i : Int) + 1) = ((i + 1 : Nat) : Int) := wrap_i64 (by omega) (by omega)
        have hLn : Li ++ outH (s.holds.take (i + 1)) = Lj ++ [⟨x.am, allB x.keys⟩] := by rw [take_s hc, ← hLj]; simp [outH]
        have hQn : Qi ++ plcH (s.holds.take (i + 1)) = Qj ++ [(4, x.id)] := by rw [take_s hc, ← hQj]; simp [plcH]
        simp [hln, hge, holF]
        refine call0 (rAll_ok x.keys hk) (by simp [IL]) ?_
        rintro y H' ⟨rfl, rfl⟩
        refine ⟨.inl (by simp [CNv]), le_ok rfl, ?_⟩
        simp [CNv, hln, hge, holF]
        refine ⟨⟨by omega, by omega⟩, ⟨by omega, by omega⟩, ?_⟩
        try simp [w1, -Int.natCast_add]
        have q1 := congrArg List.length hLn
        have q2 := congrArg List.length hQn
        simp only [List.length_append, List.length_singleton] at q1 q2
        have hol : outv Lj ++ [[FV.lit (Value.int IntKind.i64 x.am), FV.sl 35 (brav (allB x.keys))]] = outv (Lj ++ [⟨x.am, allB x.keys⟩]) := by simp [outv, outF, iF]
        have hpl : plcv Qj ++ [[FV.lit (Value.int IntKind.i64 4), FV.lit (Value.int IntKind.i64 x.id)]] = plcv (Qj ++ [(4, x.id)]) := by simp [plcv, plcF, iF]
        refine round (i + 1) [0, 339, 515] (by omega) (by omega) (by simp [Ptr, I, q1, q2]) ?_ (by simp) (by simp) (by simp)
        rw [hLn, hQn]
        simp [q1, q2, hol, hpl, staC]
      have hil : i = s.holds.length := by omega
      subst hil
      rw [List.take_length] at hLj hQj
      clear hlt hi
      simp
      have tk1 : List.take Lj.length (outv Lj) = outv Lj := List.take_of_length_le (by simp)
      have tk2 : List.take Qj.length (plcv Qj) = plcv Qj := List.take_of_length_le (by simp)
      refine finW _ (weak_frz (o := 1) (ty := 148) (es := 2) (xs := outv Lj) rfl) ?_
      refine finW _ (weak_frz (o := 2) (ty := 55) (es := 2) (xs := plcv Qj) rfl) ?_
      refine fin [] (by decide) rfl rfl rfl ⟨rfl, ?_⟩
      have hL9 : outsB p s 1 lock = Lj := by rw [hvL, ← hLj, ← hLi, List.append_assoc]
      have hQ9 : plcB p s 1 = Qj := by rw [hvQ, ← hQj, ← hQi, List.append_assoc]
      rw [hL9, hQ9]
      simp [tk1, tk2]
    · have hv2 : out2 p s 1 = ([] : List Outp) := if_neg c1
      have hq2 : plc2 p s 1 = ([] : List (Int × Int)) := if_neg c1
      simp [c1, PVv, SV, staC, I, Ptr, iC, lp, tp, e34, e35, e36, e37, w_0, w_1, wh, hl, hc_t32 hl, take33h, take32h, drop32h, drop33h, drop34h, take33l hl, drop34l hl, take34l hl, hz_len, frzAll_hc]
      obtain ⟨L0, hL0⟩ : ∃ L0, ([⟨s.h1, ownB p 1 lock⟩] ++ [] : List Outp) = L0 := ⟨_, rfl⟩
      obtain ⟨Q0, hQ0⟩ : ∃ Q0, ([(1, 0)] ++ [] : List (Int × Int)) = Q0 := ⟨_, rfl⟩
      have hL8 : L0.length ≤ 2 := by rw [← hL0]; simp
      have hQ8 : Q0.length ≤ 2 := by rw [← hQ0]; simp
      have hvL : outsB p s 1 lock = L0 ++ (outP p 1 lock s.pays ++ outH s.holds) := by rw [← hL0]; unfold outsB; rw [hv1, hv2]
      have hvQ : plcB p s 1 = Q0 ++ (plcP s.pays ++ plcH s.holds) := by rw [← hQ0]; unfold plcB; rw [hq1, hq2]
      refine eloop (α := Nat) (fun i => i ≤ s.pays.length) (fun i => s.pays.length - i)
        (fun i => [.any, .any, I .i64 1, .any, Ptr 0, Ptr 1, .any, .any, .any, .any, .any, .any, .any, Ptr 2, .v (.c (.row 3 (L0 ++ outP p 1 lock (s.pays.take i)).length)), .v (.c (.row 4 (Q0 ++ plcP (s.pays.take i)).length)), I .i64 i, .any, .any, .any, .any, .any, .any, .any, .any, .any, .any, .any, .any, .any, .any, .any, .any, .any, .any, .any, .any, .any, .any, .any, .any, .any, .any, .any, .any, .any, .any, .any, .any, .any, .any, .any, .any, .any, .any, .any, .any, .any, .any, .any, .any, .any, .any, .any, .any, .any, .any, .any, .any, .any, .any, .any, .any, .any, .any, .any, .any, .any, .any, .any, .any, .any, .any, .any, .any, .any, .any, .any, .any, .any, .any, .any, .any, .any, .any, .any, .any, .any, .any, .any, .any, .any, .any, .any, .any, .any, .any, .any, .any, .any, .any, .any, .any, .any, .any, .any, .any, .any, .any, .any, .any, .any, .any, .any, .any, .any, .any, .any, .any, .any, .any, .any, .any, .any, .any, .any, .any, .any, .any, .any, .any, .any, .any, .any, .any, .any, .any, .any, .any, .any, .any, .any, .any, .any, .any, .any, .any, .any, .any, .any, .any, .any, .any, .any, .any, .any, .any, .any, .any, .any, .any, .any, .any, .any, .any, .any, .any, .any, .any, .any, .any])
        (fun i => [some (.box 28 (prmC p)), some (.box 32 (staC s)), some (.box 150 (braC ⟨[p.k0], lock, 0, 0⟩)), some (.row 148 2 (outv (L0 ++ outP p 1 lock (s.pays.take i)))), some (.row 55 2 (plcv (Q0 ++ plcP (s.pays.take i))))]) 0 [0, 16, 512, 864, 944]
        (Nat.zero_le _) (by simp [Ptr, I, outP, plcP, ← hL0, ← hQ0]) (by simp [outv, outF, brav, braF, ownB, paidB, waitV, fineB, keyO, intv, iF, plcv, plcF, outP, plcP, staC, ← hL0, ← hQ0]) (by simp) (by simp) (by simp) ?_
      intro i hi
      obtain ⟨Li, hLi⟩ : ∃ Li, L0 ++ outP p 1 lock (s.pays.take i) = Li := ⟨_, rfl⟩
      obtain ⟨Qi, hQi⟩ : ∃ Qi, Q0 ++ plcP (s.pays.take i) = Qi := ⟨_, rfl⟩
      have hlL : Li.length ≤ 20 := by rw [← hLi]; simp [outP]; omega
      have hlQ : Qi.length ≤ 20 := by rw [← hQi]; simp [plcP]; omega
      rw [hLi, hQi]
      simp [Ptr, I, staC]
      refine alt (fun hlt => ?_) (fun hlt => ?_)
      · have hln : i < s.pays.length := by omega
        obtain ⟨x, hc⟩ : ∃ x, s.pays[i]? = some x := ⟨s.pays[i], by simp [hln]⟩
        have hge : (payv s.pays)[i]'(by simp [hln]) = payF x := by
          have e := payv_get hc
          rw [List.getElem?_eq_getElem (by simp [hln])] at e
          exact Option.some.inj e
        have hxo := ok4 x (List.mem_of_getElem? hc)
        have hx := hxo.2.2.2.2
        obtain ⟨ham, hfr⟩ := hpay x (List.mem_of_getElem? hc)
        have w1 : IntKind.i64.wrap ((i : Int) + 1) = ((i + 1 : Nat) : Int) := wrap_i64 (by omega) (by omega)
        have hLn : L0 ++ outP p 1 lock (s.pays.take (i + 1)) = Li ++ [⟨x.am, paidB p 1 lock x⟩] := by rw [take_s hc, ← hLi]; simp [outP]
        have hQn : Q0 ++ plcP (s.pays.take (i + 1)) = Qi ++ [(3, x.id)] := by rw [take_s hc, ← hQi]; simp [plcP]
        have q1 := congrArg List.length hLn
        have q2 := congrArg List.length hQn
        simp only [List.length_append, List.length_singleton] at q1 q2
        obtain ⟨id', fr, am, af, lk⟩ := x
        dsimp only at hfr hx hLn hQn
        rcases hfr with rfl | rfl
        · simp [hln, hge, payF, hx, PVv, SV, staC, I, Ptr, iC, lp, tp, e34, e35, e36, e37, w_0, w_1, wh, hl, hc_t32 hl, take33h, take32h, drop32h, drop33h, drop34h, take33l hl, drop34l hl, take34l hl, hz_len, frzAll_hc, hc_t32 hx, take33l hx, drop34l hx, take34l hx, take34l hz_len, lb, tkb, fb]
          refine ⟨⟨by omega, by omega⟩, ⟨by omega, by omega⟩, ?_⟩
          try simp [w1, -Int.natCast_add]
          refine round (i + 1) [0, 1, 2, 853, 965] (by omega) (by omega) (by simp [Ptr, I, q1, q2]) ?_ (by simp) (by simp) (by simp)
          rw [hLn, hQn]
          simp [q1, q2, w1, -Int.natCast_add, staC]
          simp [outv, outF, brav, braF, ownB, paidB, waitV, fineB, keyO, intv, iF, plcv, plcF]
        · simp [hln, hge, payF, hx, PVv, SV, staC, I, Ptr, iC, lp, tp, e34, e35, e36, e37, w_0, w_1, wh, hl, hc_t32 hl, take33h, take32h, drop32h, drop33h, drop34h, take33l hl, drop34l hl, take34l hl, hz_len, frzAll_hc, hc_t32 hx, take33l hx, drop34l hx, take34l hx, take34l hz_len, lb, tkb, fb]
          refine ⟨⟨by omega, by omega⟩, ⟨by omega, by omega⟩, ?_⟩
          try simp [w1, -Int.natCast_add]
          refine round (i + 1) [0, 1, 2, 853, 965] (by omega) (by omega) (by simp [Ptr, I, q1, q2]) ?_ (by simp) (by simp) (by simp)
          rw [hLn, hQn]
          simp [q1, q2, w1, -Int.natCast_add, staC]
          simp [outv, outF, brav, braF, ownB, paidB, waitV, fineB, keyO, intv, iF, plcv, plcF]
      have hil : i = s.pays.length := by omega
      subst hil
      rw [List.take_length] at hLi hQi
      clear hlt hi
      simp
      refine eloop (α := Nat) (fun i => i ≤ s.holds.length) (fun i => s.holds.length - i)
        (fun i => [.any, .any, .any, .any, .any, Ptr 0, .any, .any, .any, .any, .any, .any, .any, .any, .v (.c (.row 1 (Li ++ outH (s.holds.take i)).length)), .v (.c (.row 2 (Qi ++ plcH (s.holds.take i)).length)), .any, .any, .any, .any, I .i64 i, .any, .any, .any, .any, .any, .any, .any, .any, .any, .any, .any, .any, .any, .any, .any, .any, .any, .any, .any, .any, .any, .any, .any, .any, .any, .any, .any, .any, .any, .any, .any, .any, .any, .any, .any, .any, .any, .any, .any, .any, .any, .any, .any, .any, .any, .any, .any, .any, .any, .any, .any, .any, .any, .any, .any, .any, .any, .any, .any, .any, .any, .any, .any, .any, .any, .any, .any, .any, .any, .any, .any, .any, .any, .any, .any, .any, .any, .any, .any, .any, .any, .any, .any, .any, .any, .any, .any, .any, .any, .any, .any, .any, .any, .any, .any, .any, .any, .any, .any, .any, .any, .any, .any, .any, .any, .any, .any, .any, .any, .any, .any, .any, .any, .any, .any, .any, .any, .any, .any, .any, .any, .any, .any, .any, .any, .any, .any, .any, .any, .any, .any, .any, .any, .any, .any, .any, .any, .any, .any, .any, .any, .any, .any, .any, .any, .any, .any, .any, .any, .any, .any, .any, .any, .any, .any, .any, .any, .any, .any, .any])
        (fun i => [some (.box 32 (staC s)), some (.row 148 2 (outv (Li ++ outH (s.holds.take i)))), some (.row 55 2 (plcv (Qi ++ plcH (s.holds.take i))))]) 0 [1, 3, 4]
        (Nat.zero_le _) (by simp [Ptr, I, outH, plcH]) (by simp [outH, plcH, staC]) (by simp) (by simp) (by simp) ?_
      intro i hi
      obtain ⟨Lj, hLj⟩ : ∃ Lj, Li ++ outH (s.holds.take i) = Lj := ⟨_, rfl⟩
      obtain ⟨Qj, hQj⟩ : ∃ Qj, Qi ++ plcH (s.holds.take i) = Qj := ⟨_, rfl⟩
      have hlL2 : Lj.length ≤ 40 := by rw [← hLj]; simp [outH]; omega
      have hlQ2 : Qj.length ≤ 40 := by rw [← hQj]; simp [plcH]; omega
      rw [hLj, hQj]
      simp [Ptr, I, staC]
      refine alt (fun hlt => ?_) (fun hlt => ?_)
      · have hln : i < s.holds.length := by omega
        obtain ⟨x, hc⟩ : ∃ x, s.holds[i]? = some x := ⟨s.holds[i], by simp [hln]⟩
        have hge : (holv s.holds)[i]'(by simp [hln]) = holF x := by
          have e := holv_get hc
          rw [List.getElem?_eq_getElem (by simp [hln])] at e
          exact Option.some.inj e
        have hk := hhol x (List.mem_of_getElem? hc)
        have w1 : IntKind.i64.wrap ((i : Int) + 1) = ((i + 1 : Nat) : Int) := wrap_i64 (by omega) (by omega)
        have hLn : Li ++ outH (s.holds.take (i + 1)) = Lj ++ [⟨x.am, allB x.keys⟩] := by rw [take_s hc, ← hLj]; simp [outH]
        have hQn : Qi ++ plcH (s.holds.take (i + 1)) = Qj ++ [(4, x.id)] := by rw [take_s hc, ← hQj]; simp [plcH]
        simp [hln, hge, holF]
        refine call0 (rAll_ok x.keys hk) (by simp [IL]) ?_
        rintro y H' ⟨rfl, rfl⟩
        refine ⟨.inl (by simp [CNv]), le_ok rfl, ?_⟩
        simp [CNv, hln, hge, holF]
        refine ⟨⟨by omega, by omega⟩, ⟨by omega, by omega⟩, ?_⟩
        try simp [w1, -Int.natCast_add]
        have q1 := congrArg List.length hLn
        have q2 := congrArg List.length hQn
        simp only [List.length_append, List.length_singleton] at q1 q2
        have hol : outv Lj ++ [[FV.lit (Value.int IntKind.i64 x.am), FV.sl 35 (brav (allB x.keys))]] = outv (Lj ++ [⟨x.am, allB x.keys⟩]) := by simp [outv, outF, iF]
        have hpl : plcv Qj ++ [[FV.lit (Value.int IntKind.i64 4), FV.lit (Value.int IntKind.i64 x.id)]] = plcv (Qj ++ [(4, x.id)]) := by simp [plcv, plcF, iF]
        refine round (i + 1) [0, 339, 515] (by omega) (by omega) (by simp [Ptr, I, q1, q2]) ?_ (by simp) (by simp) (by simp)
        rw [hLn, hQn]
        simp [q1, q2, hol, hpl, staC]
      have hil : i = s.holds.length := by omega
      subst hil
      rw [List.take_length] at hLj hQj
      clear hlt hi
      simp
      have tk1 : List.take Lj.length (outv Lj) = outv Lj := List.take_of_length_le (by simp)
      have tk2 : List.take Qj.length (plcv Qj) = plcv Qj := List.take_of_length_le (by simp)
      refine finW _ (weak_frz (o := 1) (ty := 148) (es := 2) (xs := outv Lj) rfl) ?_
      refine finW _ (weak_frz (o := 2) (ty := 55) (es := 2) (xs := plcv Qj) rfl) ?_
      refine fin [] (by decide) rfl rfl rfl ⟨rfl, ?_⟩
      have hL9 : outsB p s 1 lock = Lj := by rw [hvL, ← hLj, ← hLi, List.append_assoc]
      have hQ9 : plcB p s 1 = Qj := by rw [hvQ, ← hQj, ← hQi, List.append_assoc]
      rw [hL9, hQ9]
      simp [tk1, tk2]
  · have hv1 : out1 p s 1 lock = ([] : List Outp) := if_neg c0
    have hq1 : plc1 p s 1 = ([] : List (Int × Int)) := if_neg c0
    simp [c0, PVv, SV, staC, I, Ptr, iC, lp, tp, e34, e35, e36, e37, w_0, w_1, wh, hl, hc_t32 hl, take33h, take32h, drop32h, drop33h, drop34h, take33l hl, drop34l hl, take34l hl, hz_len, frzAll_hc, lb, tkb, fb]
    by_cases c1 : 10 ≤ s.h0 - p.fe
    · have hv2 : out2 p s 1 = ([⟨s.h0 - p.fe, allB [p.k0]⟩] : List Outp) := if_pos c1
      have hq2 : plc2 p s 1 = ([(2, 0)] : List (Int × Int)) := if_pos c1
      simp [c1, PVv, SV, staC, I, Ptr, iC, lp, tp, e34, e35, e36, e37, w_0, w_1, wh, hl, hc_t32 hl, take33h, take32h, drop32h, drop33h, drop34h, take33l hl, drop34l hl, take34l hl, hz_len, frzAll_hc]
      refine call0 (rAll_ok [p.k0] (keys_one _).1) (by simp [IL, intv, PVv, SV, staC, I, Ptr, iC, lp, tp, e34, e35, e36, e37, w_0, w_1, wh, hl, hc_t32 hl, take33h, take32h, drop32h, drop33h, drop34h, take33l hl, drop34l hl, take34l hl, hz_len, frzAll_hc]) ?_
      rintro y H' ⟨rfl, rfl⟩
      refine ⟨.inl (by simp [CNv]), le_ok rfl, ?_⟩
      simp [CNv, PVv, SV, staC, I, Ptr, iC, lp, tp, e34, e35, e36, e37, w_0, w_1, wh, hl, hc_t32 hl, take33h, take32h, drop32h, drop33h, drop34h, take33l hl, drop34l hl, take34l hl, hz_len, frzAll_hc]
      obtain ⟨L0, hL0⟩ : ∃ L0, ([] ++ [⟨s.h0 - p.fe, allB [p.k0]⟩] : List Outp) = L0 := ⟨_, rfl⟩
      obtain ⟨Q0, hQ0⟩ : ∃ Q0, ([] ++ [(2, 0)] : List (Int × Int)) = Q0 := ⟨_, rfl⟩
      have hL8 : L0.length ≤ 2 := by rw [← hL0]; simp
      have hQ8 : Q0.length ≤ 2 := by rw [← hQ0]; simp
      have hvL : outsB p s 1 lock = L0 ++ (outP p 1 lock s.pays ++ outH s.holds) := by rw [← hL0]; unfold outsB; rw [hv1, hv2]
      have hvQ : plcB p s 1 = Q0 ++ (plcP s.pays ++ plcH s.holds) := by rw [← hQ0]; unfold plcB; rw [hq1, hq2]
      refine eloop (α := Nat) (fun i => i ≤ s.pays.length) (fun i => s.pays.length - i)
        (fun i => [.any, .any, I .i64 1, .any, Ptr 0, Ptr 1, .any, .any, .any, .any, .any, .any, .any, Ptr 2, .v (.c (.row 3 (L0 ++ outP p 1 lock (s.pays.take i)).length)), .v (.c (.row 4 (Q0 ++ plcP (s.pays.take i)).length)), I .i64 i, .any, .any, .any, .any, .any, .any, .any, .any, .any, .any, .any, .any, .any, .any, .any, .any, .any, .any, .any, .any, .any, .any, .any, .any, .any, .any, .any, .any, .any, .any, .any, .any, .any, .any, .any, .any, .any, .any, .any, .any, .any, .any, .any, .any, .any, .any, .any, .any, .any, .any, .any, .any, .any, .any, .any, .any, .any, .any, .any, .any, .any, .any, .any, .any, .any, .any, .any, .any, .any, .any, .any, .any, .any, .any, .any, .any, .any, .any, .any, .any, .any, .any, .any, .any, .any, .any, .any, .any, .any, .any, .any, .any, .any, .any, .any, .any, .any, .any, .any, .any, .any, .any, .any, .any, .any, .any, .any, .any, .any, .any, .any, .any, .any, .any, .any, .any, .any, .any, .any, .any, .any, .any, .any, .any, .any, .any, .any, .any, .any, .any, .any, .any, .any, .any, .any, .any, .any, .any, .any, .any, .any, .any, .any, .any, .any, .any, .any, .any, .any, .any, .any, .any, .any, .any, .any, .any, .any, .any, .any, .any, .any, .any, .any, .any])
        (fun i => [some (.box 28 (prmC p)), some (.box 32 (staC s)), some (.box 150 (braC ⟨[p.k0], lock, 0, 0⟩)), some (.row 148 2 (outv (L0 ++ outP p 1 lock (s.pays.take i)))), some (.row 55 2 (plcv (Q0 ++ plcP (s.pays.take i))))]) 0 [0, 16, 512, 880, 960]
        (Nat.zero_le _) (by simp [Ptr, I, outP, plcP, ← hL0, ← hQ0]) (by simp [outv, outF, brav, braF, ownB, paidB, waitV, fineB, keyO, intv, iF, plcv, plcF, outP, plcP, staC, ← hL0, ← hQ0]) (by simp) (by simp) (by simp) ?_
      intro i hi
      obtain ⟨Li, hLi⟩ : ∃ Li, L0 ++ outP p 1 lock (s.pays.take i) = Li := ⟨_, rfl⟩
      obtain ⟨Qi, hQi⟩ : ∃ Qi, Q0 ++ plcP (s.pays.take i) = Qi := ⟨_, rfl⟩
      have hlL : Li.length ≤ 20 := by rw [← hLi]; simp [outP]; omega
      have hlQ : Qi.length ≤ 20 := by rw [← hQi]; simp [plcP]; omega
      rw [hLi, hQi]
      simp [Ptr, I, staC]
      refine alt (fun hlt => ?_) (fun hlt => ?_)
      · have hln : i < s.pays.length := by omega
        obtain ⟨x, hc⟩ : ∃ x, s.pays[i]? = some x := ⟨s.pays[i], by simp [hln]⟩
        have hge : (payv s.pays)[i]'(by simp [hln]) = payF x := by
          have e := payv_get hc
          rw [List.getElem?_eq_getElem (by simp [hln])] at e
          exact Option.some.inj e
        have hxo := ok4 x (List.mem_of_getElem? hc)
        have hx := hxo.2.2.2.2
        obtain ⟨ham, hfr⟩ := hpay x (List.mem_of_getElem? hc)
        have w1 : IntKind.i64.wrap ((i : Int) + 1) = ((i + 1 : Nat) : Int) := wrap_i64 (by omega) (by omega)
        have hLn : L0 ++ outP p 1 lock (s.pays.take (i + 1)) = Li ++ [⟨x.am, paidB p 1 lock x⟩] := by rw [take_s hc, ← hLi]; simp [outP]
        have hQn : Q0 ++ plcP (s.pays.take (i + 1)) = Qi ++ [(3, x.id)] := by rw [take_s hc, ← hQi]; simp [plcP]
        have q1 := congrArg List.length hLn
        have q2 := congrArg List.length hQn
        simp only [List.length_append, List.length_singleton] at q1 q2
        obtain ⟨id', fr, am, af, lk⟩ := x
        dsimp only at hfr hx hLn hQn
        rcases hfr with rfl | rfl
        · simp [hln, hge, payF, hx, PVv, SV, staC, I, Ptr, iC, lp, tp, e34, e35, e36, e37, w_0, w_1, wh, hl, hc_t32 hl, take33h, take32h, drop32h, drop33h, drop34h, take33l hl, drop34l hl, take34l hl, hz_len, frzAll_hc, hc_t32 hx, take33l hx, drop34l hx, take34l hx, take34l hz_len, lb, tkb, fb]
          refine ⟨⟨by omega, by omega⟩, ⟨by omega, by omega⟩, ?_⟩
          try simp [w1, -Int.natCast_add]
          refine round (i + 1) [0, 1, 2, 853, 965] (by omega) (by omega) (by simp [Ptr, I, q1, q2]) ?_ (by simp) (by simp) (by simp)
          rw [hLn, hQn]
          simp [q1, q2, w1, -Int.natCast_add, staC]
          simp [outv, outF, brav, braF, ownB, paidB, waitV, fineB, keyO, intv, iF, plcv, plcF]
        · simp [hln, hge, payF, hx, PVv, SV, staC, I, Ptr, iC, lp, tp, e34, e35, e36, e37, w_0, w_1, wh, hl, hc_t32 hl, take33h, take32h, drop32h, drop33h, drop34h, take33l hl, drop34l hl, take34l hl, hz_len, frzAll_hc, hc_t32 hx, take33l hx, drop34l hx, take34l hx, take34l hz_len, lb, tkb, fb]
          refine ⟨⟨by omega, by omega⟩, ⟨by omega, by omega⟩, ?_⟩
          try simp [w1, -Int.natCast_add]
          refine round (i + 1) [0, 1, 2, 853, 965] (by omega) (by omega) (by simp [Ptr, I, q1, q2]) ?_ (by simp) (by simp) (by simp)
          rw [hLn, hQn]
          simp [q1, q2, w1, -Int.natCast_add, staC]
          simp [outv, outF, brav, braF, ownB, paidB, waitV, fineB, keyO, intv, iF, plcv, plcF]
      have hil : i = s.pays.length := by omega
      subst hil
      rw [List.take_length] at hLi hQi
      clear hlt hi
      simp
      refine eloop (α := Nat) (fun i => i ≤ s.holds.length) (fun i => s.holds.length - i)
        (fun i => [.any, .any, .any, .any, .any, Ptr 0, .any, .any, .any, .any, .any, .any, .any, .any, .v (.c (.row 1 (Li ++ outH (s.holds.take i)).length)), .v (.c (.row 2 (Qi ++ plcH (s.holds.take i)).length)), .any, .any, .any, .any, I .i64 i, .any, .any, .any, .any, .any, .any, .any, .any, .any, .any, .any, .any, .any, .any, .any, .any, .any, .any, .any, .any, .any, .any, .any, .any, .any, .any, .any, .any, .any, .any, .any, .any, .any, .any, .any, .any, .any, .any, .any, .any, .any, .any, .any, .any, .any, .any, .any, .any, .any, .any, .any, .any, .any, .any, .any, .any, .any, .any, .any, .any, .any, .any, .any, .any, .any, .any, .any, .any, .any, .any, .any, .any, .any, .any, .any, .any, .any, .any, .any, .any, .any, .any, .any, .any, .any, .any, .any, .any, .any, .any, .any, .any, .any, .any, .any, .any, .any, .any, .any, .any, .any, .any, .any, .any, .any, .any, .any, .any, .any, .any, .any, .any, .any, .any, .any, .any, .any, .any, .any, .any, .any, .any, .any, .any, .any, .any, .any, .any, .any, .any, .any, .any, .any, .any, .any, .any, .any, .any, .any, .any, .any, .any, .any, .any, .any, .any, .any, .any, .any, .any, .any, .any, .any, .any, .any, .any, .any, .any, .any, .any])
        (fun i => [some (.box 32 (staC s)), some (.row 148 2 (outv (Li ++ outH (s.holds.take i)))), some (.row 55 2 (plcv (Qi ++ plcH (s.holds.take i))))]) 0 [1, 3, 4]
        (Nat.zero_le _) (by simp [Ptr, I, outH, plcH]) (by simp [outH, plcH, staC]) (by simp) (by simp) (by simp) ?_
      intro i hi
      obtain ⟨Lj, hLj⟩ : ∃ Lj, Li ++ outH (s.holds.take i) = Lj := ⟨_, rfl⟩
      obtain ⟨Qj, hQj⟩ : ∃ Qj, Qi ++ plcH (s.holds.take i) = Qj := ⟨_, rfl⟩
      have hlL2 : Lj.length ≤ 40 := by rw [← hLj]; simp [outH]; omega
      have hlQ2 : Qj.length ≤ 40 := by rw [← hQj]; simp [plcH]; omega
      rw [hLj, hQj]
      simp [Ptr, I, staC]
      refine alt (fun hlt => ?_) (fun hlt => ?_)
      · have hln : i < s.holds.length := by omega
        obtain ⟨x, hc⟩ : ∃ x, s.holds[i]? = some x := ⟨s.holds[i], by simp [hln]⟩
        have hge : (holv s.holds)[i]'(by simp [hln]) = holF x := by
          have e := holv_get hc
          rw [List.getElem?_eq_getElem (by simp [hln])] at e
          exact Option.some.inj e
        have hk := hhol x (List.mem_of_getElem? hc)
        have w1 : IntKind.i64.wrap ((i : Int) + 1) = ((i + 1 : Nat) : Int) := wrap_i64 (by omega) (by omega)
        have hLn : Li ++ outH (s.holds.take (i + 1)) = Lj ++ [⟨x.am, allB x.keys⟩] := by rw [take_s hc, ← hLj]; simp [outH]
        have hQn : Qi ++ plcH (s.holds.take (i + 1)) = Qj ++ [(4, x.id)] := by rw [take_s hc, ← hQj]; simp [plcH]
        simp [hln, hge, holF]
        refine call0 (rAll_ok x.keys hk) (by simp [IL]) ?_
        rintro y H' ⟨rfl, rfl⟩
        refine ⟨.inl (by simp [CNv]), le_ok rfl, ?_⟩
        simp [CNv, hln, hge, holF]
        refine ⟨⟨by omega, by omega⟩, ⟨by omega, by omega⟩, ?_⟩
        try simp [w1, -Int.natCast_add]
        have q1 := congrArg List.length hLn
        have q2 := congrArg List.length hQn
        simp only [List.length_append, List.length_singleton] at q1 q2
        have hol : outv Lj ++ [[FV.lit (Value.int IntKind.i64 x.am), FV.sl 35 (brav (allB x.keys))]] = outv (Lj ++ [⟨x.am, allB x.keys⟩]) := by simp [outv, outF, iF]
        have hpl : plcv Qj ++ [[FV.lit (Value.int IntKind.i64 4), FV.lit (Value.int IntKind.i64 x.id)]] = plcv (Qj ++ [(4, x.id)]) := by simp [plcv, plcF, iF]
        refine round (i + 1) [0, 339, 515] (by omega) (by omega) (by simp [Ptr, I, q1, q2]) ?_ (by simp) (by simp) (by simp)
        rw [hLn, hQn]
        simp [q1, q2, hol, hpl, staC]
      have hil : i = s.holds.length := by omega
      subst hil
      rw [List.take_length] at hLj hQj
      clear hlt hi
      simp
      have tk1 : List.take Lj.length (outv Lj) = outv Lj := List.take_of_length_le (by simp)
      have tk2 : List.take Qj.length (plcv Qj) = plcv Qj := List.take_of_length_le (by simp)
      refine finW _ (weak_frz (o := 1) (ty := 148) (es := 2) (xs := outv Lj) rfl) ?_
      refine finW _ (weak_frz (o := 2) (ty := 55) (es := 2) (xs := plcv Qj) rfl) ?_
      refine fin [] (by decide) rfl rfl rfl ⟨rfl, ?_⟩
      have hL9 : outsB p s 1 lock = Lj := by rw [hvL, ← hLj, ← hLi, List.append_assoc]
      have hQ9 : plcB p s 1 = Qj := by rw [hvQ, ← hQj, ← hQi, List.append_assoc]
      rw [hL9, hQ9]
      simp [tk1, tk2]
    · have hv2 : out2 p s 1 = ([] : List Outp) := if_neg c1
      have hq2 : plc2 p s 1 = ([] : List (Int × Int)) := if_neg c1
      simp [c1, PVv, SV, staC, I, Ptr, iC, lp, tp, e34, e35, e36, e37, w_0, w_1, wh, hl, hc_t32 hl, take33h, take32h, drop32h, drop33h, drop34h, take33l hl, drop34l hl, take34l hl, hz_len, frzAll_hc]
      refine loopW _ (weak_nilR 14 148 2 rfl (by omega)) (loopW _ (weak_nilR 15 55 2 rfl (by omega)) ?_)
      obtain ⟨L0, hL0⟩ : ∃ L0, ([] ++ [] : List Outp) = L0 := ⟨_, rfl⟩
      obtain ⟨Q0, hQ0⟩ : ∃ Q0, ([] ++ [] : List (Int × Int)) = Q0 := ⟨_, rfl⟩
      have hL8 : L0.length ≤ 2 := by rw [← hL0]; simp
      have hQ8 : Q0.length ≤ 2 := by rw [← hQ0]; simp
      have hvL : outsB p s 1 lock = L0 ++ (outP p 1 lock s.pays ++ outH s.holds) := by rw [← hL0]; unfold outsB; rw [hv1, hv2]
      have hvQ : plcB p s 1 = Q0 ++ (plcP s.pays ++ plcH s.holds) := by rw [← hQ0]; unfold plcB; rw [hq1, hq2]
      refine eloop (α := Nat) (fun i => i ≤ s.pays.length) (fun i => s.pays.length - i)
        (fun i => [.any, .any, I .i64 1, .any, Ptr 0, Ptr 1, .any, .any, .any, .any, .any, .any, .any, Ptr 2, .v (.c (.row 3 (L0 ++ outP p 1 lock (s.pays.take i)).length)), .v (.c (.row 4 (Q0 ++ plcP (s.pays.take i)).length)), I .i64 i, .any, .any, .any, .any, .any, .any, .any, .any, .any, .any, .any, .any, .any, .any, .any, .any, .any, .any, .any, .any, .any, .any, .any, .any, .any, .any, .any, .any, .any, .any, .any, .any, .any, .any, .any, .any, .any, .any, .any, .any, .any, .any, .any, .any, .any, .any, .any, .any, .any, .any, .any, .any, .any, .any, .any, .any, .any, .any, .any, .any, .any, .any, .any, .any, .any, .any, .any, .any, .any, .any, .any, .any, .any, .any, .any, .any, .any, .any, .any, .any, .any, .any, .any, .any, .any, .any, .any, .any, .any, .any, .any, .any, .any, .any, .any, .any, .any, .any, .any, .any, .any, .any, .any, .any, .any, .any, .any, .any, .any, .any, .any, .any, .any, .any, .any, .any, .any, .any, .any, .any, .any, .any, .any, .any, .any, .any, .any, .any, .any, .any, .any, .any, .any, .any, .any, .any, .any, .any, .any, .any, .any, .any, .any, .any, .any, .any, .any, .any, .any, .any, .any, .any, .any, .any, .any, .any, .any, .any, .any, .any, .any, .any, .any, .any])
        (fun i => [some (.box 28 (prmC p)), some (.box 32 (staC s)), some (.box 150 (braC ⟨[p.k0], lock, 0, 0⟩)), some (.row 148 2 (outv (L0 ++ outP p 1 lock (s.pays.take i)))), some (.row 55 2 (plcv (Q0 ++ plcP (s.pays.take i))))]) 0 [0, 16, 512, 736, 737]
        (Nat.zero_le _) (by simp [Ptr, I, outP, plcP, ← hL0, ← hQ0]) (by simp [outv, outF, brav, braF, ownB, paidB, waitV, fineB, keyO, intv, iF, plcv, plcF, outP, plcP, staC, ← hL0, ← hQ0]) (by simp) (by simp) (by simp) ?_
      intro i hi
      obtain ⟨Li, hLi⟩ : ∃ Li, L0 ++ outP p 1 lock (s.pays.take i) = Li := ⟨_, rfl⟩
      obtain ⟨Qi, hQi⟩ : ∃ Qi, Q0 ++ plcP (s.pays.take i) = Qi := ⟨_, rfl⟩
      have hlL : Li.length ≤ 20 := by rw [← hLi]; simp [outP]; omega
      have hlQ : Qi.length ≤ 20 := by rw [← hQi]; simp [plcP]; omega
      rw [hLi, hQi]
      simp [Ptr, I, staC]
      refine alt (fun hlt => ?_) (fun hlt => ?_)
      · have hln : i < s.pays.length := by omega
        obtain ⟨x, hc⟩ : ∃ x, s.pays[i]? = some x := ⟨s.pays[i], by simp [hln]⟩
        have hge : (payv s.pays)[i]'(by simp [hln]) = payF x := by
          have e := payv_get hc
          rw [List.getElem?_eq_getElem (by simp [hln])] at e
          exact Option.some.inj e
        have hxo := ok4 x (List.mem_of_getElem? hc)
        have hx := hxo.2.2.2.2
        obtain ⟨ham, hfr⟩ := hpay x (List.mem_of_getElem? hc)
        have w1 : IntKind.i64.wrap ((i : Int) + 1) = ((i + 1 : Nat) : Int) := wrap_i64 (by omega) (by omega)
        have hLn : L0 ++ outP p 1 lock (s.pays.take (i + 1)) = Li ++ [⟨x.am, paidB p 1 lock x⟩] := by rw [take_s hc, ← hLi]; simp [outP]
        have hQn : Q0 ++ plcP (s.pays.take (i + 1)) = Qi ++ [(3, x.id)] := by rw [take_s hc, ← hQi]; simp [plcP]
        have q1 := congrArg List.length hLn
        have q2 := congrArg List.length hQn
        simp only [List.length_append, List.length_singleton] at q1 q2
        obtain ⟨id', fr, am, af, lk⟩ := x
        dsimp only at hfr hx hLn hQn
        rcases hfr with rfl | rfl
        · simp [hln, hge, payF, hx, PVv, SV, staC, I, Ptr, iC, lp, tp, e34, e35, e36, e37, w_0, w_1, wh, hl, hc_t32 hl, take33h, take32h, drop32h, drop33h, drop34h, take33l hl, drop34l hl, take34l hl, hz_len, frzAll_hc, hc_t32 hx, take33l hx, drop34l hx, take34l hx, take34l hz_len, lb, tkb, fb]
          refine ⟨⟨by omega, by omega⟩, ⟨by omega, by omega⟩, ?_⟩
          try simp [w1, -Int.natCast_add]
          refine round (i + 1) [0, 1, 2, 853, 965] (by omega) (by omega) (by simp [Ptr, I, q1, q2]) ?_ (by simp) (by simp) (by simp)
          rw [hLn, hQn]
          simp [q1, q2, w1, -Int.natCast_add, staC]
          simp [outv, outF, brav, braF, ownB, paidB, waitV, fineB, keyO, intv, iF, plcv, plcF]
        · simp [hln, hge, payF, hx, PVv, SV, staC, I, Ptr, iC, lp, tp, e34, e35, e36, e37, w_0, w_1, wh, hl, hc_t32 hl, take33h, take32h, drop32h, drop33h, drop34h, take33l hl, drop34l hl, take34l hl, hz_len, frzAll_hc, hc_t32 hx, take33l hx, drop34l hx, take34l hx, take34l hz_len, lb, tkb, fb]
          refine ⟨⟨by omega, by omega⟩, ⟨by omega, by omega⟩, ?_⟩
          try simp [w1, -Int.natCast_add]
          refine round (i + 1) [0, 1, 2, 853, 965] (by omega) (by omega) (by simp [Ptr, I, q1, q2]) ?_ (by simp) (by simp) (by simp)
          rw [hLn, hQn]
          simp [q1, q2, w1, -Int.natCast_add, staC]
          simp [outv, outF, brav, braF, ownB, paidB, waitV, fineB, keyO, intv, iF, plcv, plcF]
      have hil : i = s.pays.length := by omega
      subst hil
      rw [List.take_length] at hLi hQi
      clear hlt hi
      simp
      refine eloop (α := Nat) (fun i => i ≤ s.holds.length) (fun i => s.holds.length - i)
        (fun i => [.any, .any, .any, .any, .any, Ptr 0, .any, .any, .any, .any, .any, .any, .any, .any, .v (.c (.row 1 (Li ++ outH (s.holds.take i)).length)), .v (.c (.row 2 (Qi ++ plcH (s.holds.take i)).length)), .any, .any, .any, .any, I .i64 i, .any, .any, .any, .any, .any, .any, .any, .any, .any, .any, .any, .any, .any, .any, .any, .any, .any, .any, .any, .any, .any, .any, .any, .any, .any, .any, .any, .any, .any, .any, .any, .any, .any, .any, .any, .any, .any, .any, .any, .any, .any, .any, .any, .any, .any, .any, .any, .any, .any, .any, .any, .any, .any, .any, .any, .any, .any, .any, .any, .any, .any, .any, .any, .any, .any, .any, .any, .any, .any, .any, .any, .any, .any, .any, .any, .any, .any, .any, .any, .any, .any, .any, .any, .any, .any, .any, .any, .any, .any, .any, .any, .any, .any, .any, .any, .any, .any, .any, .any, .any, .any, .any, .any, .any, .any, .any, .any, .any, .any, .any, .any, .any, .any, .any, .any, .any, .any, .any, .any, .any, .any, .any, .any, .any, .any, .any, .any, .any, .any, .any, .any, .any, .any, .any, .any, .any, .any, .any, .any, .any, .any, .any, .any, .any, .any, .any, .any, .any, .any, .any, .any, .any, .any, .any, .any, .any, .any, .any, .any, .any])
        (fun i => [some (.box 32 (staC s)), some (.row 148 2 (outv (Li ++ outH (s.holds.take i)))), some (.row 55 2 (plcv (Qi ++ plcH (s.holds.take i))))]) 0 [1, 3, 4]
        (Nat.zero_le _) (by simp [Ptr, I, outH, plcH]) (by simp [outH, plcH, staC]) (by simp) (by simp) (by simp) ?_
      intro i hi
      obtain ⟨Lj, hLj⟩ : ∃ Lj, Li ++ outH (s.holds.take i) = Lj := ⟨_, rfl⟩
      obtain ⟨Qj, hQj⟩ : ∃ Qj, Qi ++ plcH (s.holds.take i) = Qj := ⟨_, rfl⟩
      have hlL2 : Lj.length ≤ 40 := by rw [← hLj]; simp [outH]; omega
      have hlQ2 : Qj.length ≤ 40 := by rw [← hQj]; simp [plcH]; omega
      rw [hLj, hQj]
      simp [Ptr, I, staC]
      refine alt (fun hlt => ?_) (fun hlt => ?_)
      · have hln : i < s.holds.length := by omega
        obtain ⟨x, hc⟩ : ∃ x, s.holds[i]? = some x := ⟨s.holds[i], by simp [hln]⟩
        have hge : (holv s.holds)[i]'(by simp [hln]) = holF x := by
          have e := holv_get hc
          rw [List.getElem?_eq_getElem (by simp [hln])] at e
          exact Option.some.inj e
        have hk := hhol x (List.mem_of_getElem? hc)
        have w1 : IntKind.i64.wrap ((i : Int) + 1) = ((i + 1 : Nat) : Int) := wrap_i64 (by omega) (by omega)
        have hLn : Li ++ outH (s.holds.take (i + 1)) = Lj ++ [⟨x.am, allB x.keys⟩] := by rw [take_s hc, ← hLj]; simp [outH]
        have hQn : Qi ++ plcH (s.holds.take (i + 1)) = Qj ++ [(4, x.id)] := by rw [take_s hc, ← hQj]; simp [plcH]
        simp [hln, hge, holF]
        refine call0 (rAll_ok x.keys hk) (by simp [IL]) ?_
        rintro y H' ⟨rfl, rfl⟩
        refine ⟨.inl (by simp [CNv]), le_ok rfl, ?_⟩
        simp [CNv, hln, hge, holF]
        refine ⟨⟨by omega, by omega⟩, ⟨by omega, by omega⟩, ?_⟩
        try simp [w1, -Int.natCast_add]
        have q1 := congrArg List.length hLn
        have q2 := congrArg List.length hQn
        simp only [List.length_append, List.length_singleton] at q1 q2
        have hol : outv Lj ++ [[FV.lit (Value.int IntKind.i64 x.am), FV.sl 35 (brav (allB x.keys))]] = outv (Lj ++ [⟨x.am, allB x.keys⟩]) := by simp [outv, outF, iF]
        have hpl : plcv Qj ++ [[FV.lit (Value.int IntKind.i64 4), FV.lit (Value.int IntKind.i64 x.id)]] = plcv (Qj ++ [(4, x.id)]) := by simp [plcv, plcF, iF]
        refine round (i + 1) [0, 339, 515] (by omega) (by omega) (by simp [Ptr, I, q1, q2]) ?_ (by simp) (by simp) (by simp)
        rw [hLn, hQn]
        simp [q1, q2, hol, hpl, staC]
      have hil : i = s.holds.length := by omega
      subst hil
      rw [List.take_length] at hLj hQj
      clear hlt hi
      simp
      have tk1 : List.take Lj.length (outv Lj) = outv Lj := List.take_of_length_le (by simp)
      have tk2 : List.take Qj.length (plcv Qj) = plcv Qj := List.take_of_length_le (by simp)
      refine finW _ (weak_frz (o := 1) (ty := 148) (es := 2) (xs := outv Lj) rfl) ?_
      refine finW _ (weak_frz (o := 2) (ty := 55) (es := 2) (xs := plcv Qj) rfl) ?_
      refine fin [] (by decide) rfl rfl rfl ⟨rfl, ?_⟩
      have hL9 : outsB p s 1 lock = Lj := by rw [hvL, ← hLj, ← hLi, List.append_assoc]
      have hQ9 : plcB p s 1 = Qj := by rw [hvQ, ← hQj, ← hQi, List.append_assoc]
      rw [hL9, hQ9]
      simp [tk1, tk2]
end Go.Proofs.YtflcfdeanneoeaaGreatDoor
namespace Go.Proofs.YtflcfdeanneoeaaGreatDoor
open Go Go.EW
set_option linter.unusedSimpArgs false
set_option linter.unusedVariables false
def u64n (n : Int) : Nat := (n % 18446744073709551616).toNat
theorem u64n_lt (n : Int) : u64n n < 18446744073709551616 := by unfold u64n; omega
theorem wrap_u64n (n : Int) : IntKind.u64.wrap n = (u64n n : Int) := by
  simp [IntKind.wrap, IntKind.bits, IntKind.signed, u64n]
  omega
def uB (n : Int) : List UInt8 := uintB (u64n n)
def usB (l : List Int) : List UInt8 := l.flatMap uB
theorem uB_len (n : Int) : (uB n).length ≤ 9 := by
  have := nb_8 (u64n_lt n)
  simp [uB, uintB, dg_len]; omega
theorem usB_len : ∀ (l : List Int), (usB l).length ≤ 9 * l.length
  | [] => by simp [usB]
  | n :: r => by
    have h1 := uB_len n
    have h2 := usB_len r
    have : usB (n :: r) = uB n ++ usB r := by simp [usB]
    rw [this, List.length_append, List.length_cons]
    omega
theorem usB_snoc (l : List Int) (n : Int) : usB (l ++ [n]) = usB l ++ uB n := by simp [usB]
def Sta.small (s : Sta) : Prop := s.pays.length ≤ 1000 ∧ s.holds.length ≤ 1000 ∧ ∀ h ∈ s.holds, h.keys.length ≤ 1000
theorem flat_len {α : Type} {f : α → List UInt8} {k : Nat} : ∀ {l : List α}, (∀ x ∈ l, (f x).length ≤ k) → (l.flatMap f).length ≤ k * l.length
  | [], _ => by simp
  | x :: r, h => by
    have h1 := h x (by simp)
    have h2 := flat_len (l := r) (fun y hy => h y (by simp [hy]))
    rw [List.flatMap_cons, List.length_append, List.length_cons, Nat.mul_succ]
    omega
end Go.Proofs.YtflcfdeanneoeaaGreatDoor
