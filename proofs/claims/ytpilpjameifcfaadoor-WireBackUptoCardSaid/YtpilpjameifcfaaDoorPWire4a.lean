import Derived.Test.YtpilpjameifcfaaDoorPWire2
import Derived.Test.YtpilpjameifcfaaDoorPWire3
import Derived.Test.YtpilpjameifcfaaDoorPState4
import Derived.Test.YtpilpjameifcfaaDoorPEwX
namespace Go.Proofs.YtpilpjameifcfaaDoor
open Go Go.EW
set_option linter.unusedSimpArgs false
set_option linter.unusedVariables false

@[simp] def l_SCheck_1 (_ : Unit) : List EOp := [⟨0, (some 1), none, (.q (.box 39 (.t 0))), []⟩, ⟨1, (some 2), none, (.q (.mov (.k .nilIface))), []⟩]
@[simp] def b_SCheck_2 (_ : Unit) : EB := reg0 (hid l_SCheck_1) 2
@[simp] def l_SCheck_3 (_ : Unit) : List EOp := [⟨0, (some 3), none, (.q (.lda 5 (.t 1))), []⟩, ⟨1, (some 4), none, (.call 26 [(.t 3)]), []⟩, ⟨2, (some 5), none, (.q (.un .not (.t 4))), []⟩]
@[simp] def b_SCheck_4 (_ : Unit) : EB := reg0 (hid l_SCheck_3) 3
@[simp] def l_SCheck_5 (_ : Unit) : List EOp := [⟨0, (some 6), none, (.q (.mki 73 (.k (.int .i64 1)))), []⟩, ⟨1, (some 2), none, (.q (.mov (.t 6))), []⟩]
@[simp] def b_SCheck_6 (_ : Unit) : EB := reg0 (hid l_SCheck_5) 2
@[simp] def b_SCheck_7 (_ : Unit) : EB := .seq (hid b_SCheck_6) .ret
@[simp] def b_SCheck_8 (_ : Unit) : EB := .cond (.t 5) (hid b_SCheck_7) .skip
@[simp] def b_SCheck_9 (_ : Unit) : EB := .seq (hid b_SCheck_4) (hid b_SCheck_8)
@[simp] def l_SCheck_10 (_ : Unit) : List EOp := [⟨0, (some 2), none, (.q (.mov (.k .nilIface))), []⟩]
@[simp] def b_SCheck_11 (_ : Unit) : EB := reg0 (hid l_SCheck_10) 1
@[simp] def b_SCheck_12 (_ : Unit) : EB := .seq (hid b_SCheck_11) .ret
@[simp] def b_SCheck_13 (_ : Unit) : EB := .seq (hid b_SCheck_9) (hid b_SCheck_12)
@[simp] def b_SCheck_14 (_ : Unit) : EB := .seq (hid b_SCheck_2) (hid b_SCheck_13)
def c_SCheck : EB × List QOp × Nat := ((hid b_SCheck_14), [(.mov (.t 2))], 7)
theorem k_SCheck : cfun Tryd.prog 20 = some c_SCheck := by kernel_rfl

@[simp] def l_Do_1 (_ : Unit) : List EOp := [⟨0, (some 3), none, (.q (.box 39 (.t 0))), []⟩, ⟨1, (some 5), none, (.q (.box 47 (.t 2))), []⟩, ⟨2, (some 6), none, (.q (.alloc 39 [(.int .i64 0), (.int .i64 0), (.int .i64 0), (.slice none 0 0), (.slice none 0 0)])), []⟩, ⟨3, (some 7), none, (.q (.mov (.k .nilIface))), []⟩]
@[simp] def b_Do_2 (_ : Unit) : EB := reg0 (hid l_Do_1) 4
@[simp] def l_Do_6 (_ : Unit) : List EOp := [⟨18, (some 26), (some (24, false)), (.q (.ldc (.t 25))), []⟩, ⟨19, (some 27), (some (24, false)), (.q (.bin .gtr (.t 26) (.k (.int .i64 4)))), []⟩, ⟨20, (some 28), none, (.q (.pick (.t 24) (.k (.bool true)) (.t 27))), []⟩]
@[simp] def l_Do_5 (_ : Unit) : List EOp := ⟨12, (some 20), (some (19, false)), (.q (.fad 0 (.t 5))), []⟩ :: ⟨13, (some 21), (some (19, false)), (.q (.ldc (.t 20))), []⟩ :: ⟨14, (some 22), (some (19, false)), (.q (.bin .lss (.t 21) (.k (.int .i64 1)))), []⟩ :: ⟨15, (some 23), none, (.q (.pick (.t 19) (.k (.bool true)) (.t 22))), []⟩ :: ⟨16, (some 24), none, (.q (.mov (.t 23))), []⟩ :: ⟨17, (some 25), (some (24, false)), (.q (.fad 0 (.t 5))), []⟩ :: hid l_Do_6
@[simp] def l_Do_4 (_ : Unit) : List EOp := ⟨6, (some 14), none, (.q (.pick (.t 11) (.k (.bool true)) (.t 13))), []⟩ :: ⟨7, (some 15), none, (.q (.mov (.t 14))), []⟩ :: ⟨8, (some 16), (some (15, false)), (.q (.mov (.t 1))), []⟩ :: ⟨9, (some 17), (some (15, false)), (.q (.bin .gtr (.t 16) (.k (.int .i64 1)))), []⟩ :: ⟨10, (some 18), none, (.q (.pick (.t 15) (.k (.bool true)) (.t 17))), []⟩ :: ⟨11, (some 19), none, (.q (.mov (.t 18))), []⟩ :: hid l_Do_5
@[simp] def l_Do_3 (_ : Unit) : List EOp := ⟨0, (some 8), none, (.q (.lda 5 (.t 3))), []⟩ :: ⟨1, (some 9), none, (.call 20 [(.t 8)]), []⟩ :: ⟨2, (some 10), none, (.q (.eqi true (.t 9))), []⟩ :: ⟨3, (some 11), none, (.q (.mov (.t 10))), []⟩ :: ⟨4, (some 12), (some (11, false)), (.q (.mov (.t 1))), []⟩ :: ⟨5, (some 13), (some (11, false)), (.q (.bin .lss (.t 12) (.k (.int .i64 0)))), []⟩ :: hid l_Do_4
@[simp] def b_Do_7 (_ : Unit) : EB := reg0 (hid l_Do_3) 21
@[simp] def l_Do_8 (_ : Unit) : List EOp := [⟨0, (some 29), none, (.q (.build [(.int .i64 0), (.int .i64 0), (.int .i64 0), (.slice none 0 0), (.slice none 0 0)] [])), []⟩, ⟨1, (some 30), none, (.q (.mki 73 (.k (.int .i64 1)))), []⟩, ⟨2, none, none, (.fz (.sto 5 (.t 6) (.t 29))), []⟩, ⟨3, (some 7), none, (.q (.mov (.t 30))), []⟩]
@[simp] def b_Do_9 (_ : Unit) : EB := reg0 (hid l_Do_8) 4
@[simp] def b_Do_10 (_ : Unit) : EB := .seq (hid b_Do_9) .ret
@[simp] def b_Do_11 (_ : Unit) : EB := .cond (.t 28) (hid b_Do_10) .skip
@[simp] def b_Do_12 (_ : Unit) : EB := .seq (hid b_Do_7) (hid b_Do_11)
@[simp] def l_Do_13 (_ : Unit) : List EOp := [⟨0, (some 31), none, (.q (.fad 0 (.t 5))), []⟩, ⟨1, (some 32), none, (.q (.ldc (.t 31))), []⟩]
@[simp] def b_Do_14 (_ : Unit) : EB := reg0 (hid l_Do_13) 2
@[simp] def l_Do_15 (_ : Unit) : List EOp := [⟨0, (some 34), none, (.q (.bin .eql (.t 32) (.k (.int .i64 1)))), []⟩, ⟨1, (some 33), none, (.q (.mov (.t 34))), []⟩]
@[simp] def b_Do_16 (_ : Unit) : EB := reg0 (hid l_Do_15) 2
@[simp] def l_Do_18 (_ : Unit) : List EOp := [⟨6, (some 41), none, (.q (.ext 1 (.t 39))), []⟩, ⟨7, none, none, (.fz (.sto 5 (.t 6) (.t 40))), []⟩, ⟨8, (some 7), none, (.q (.mov (.t 41))), []⟩]
@[simp] def l_Do_17 (_ : Unit) : List EOp := ⟨0, (some 35), none, (.q (.lda 5 (.t 3))), []⟩ :: ⟨1, (some 36), none, (.q (.mov (.t 1))), []⟩ :: ⟨2, (some 37), none, (.q (.fad 1 (.t 5))), []⟩ :: ⟨3, (some 38), none, (.q (.ldc (.t 37))), []⟩ :: ⟨4, (some 39), none, (.call 21 [(.t 35), (.t 36), (.t 38)]), []⟩ :: ⟨5, (some 40), none, (.q (.ext 0 (.t 39))), []⟩ :: hid l_Do_18
@[simp] def b_Do_19 (_ : Unit) : EB := reg0 (hid l_Do_17) 9
@[simp] def b_Do_20 (_ : Unit) : EB := .seq (hid b_Do_19) .ret
@[simp] def l_Do_21 (_ : Unit) : List EOp := [⟨0, (some 43), none, (.q (.bin .eql (.t 32) (.k (.int .i64 2)))), []⟩, ⟨1, (some 42), none, (.q (.mov (.t 43))), []⟩]
@[simp] def b_Do_22 (_ : Unit) : EB := reg0 (hid l_Do_21) 2
@[simp] def l_Do_23 (_ : Unit) : List EOp := [⟨0, (some 44), none, (.q (.fad 3 (.t 5))), []⟩, ⟨1, (some 45), none, (.q (.fad 1 (.t 44))), []⟩, ⟨2, (some 46), none, (.q (.ldc (.t 45))), []⟩, ⟨3, (some 47), none, (.q (.mov (.t 1))), []⟩, ⟨4, (some 48), none, (.q (.bin .neq (.t 46) (.t 47))), []⟩]
@[simp] def b_Do_24 (_ : Unit) : EB := reg0 (hid l_Do_23) 5
@[simp] def l_Do_25 (_ : Unit) : List EOp := [⟨0, (some 49), none, (.q (.build [(.int .i64 0), (.int .i64 0), (.int .i64 0), (.slice none 0 0), (.slice none 0 0)] [])), []⟩, ⟨1, (some 50), none, (.q (.mki 73 (.k (.int .i64 33)))), []⟩, ⟨2, none, none, (.fz (.sto 5 (.t 6) (.t 49))), []⟩, ⟨3, (some 7), none, (.q (.mov (.t 50))), []⟩]
@[simp] def b_Do_26 (_ : Unit) : EB := reg0 (hid l_Do_25) 4
@[simp] def b_Do_27 (_ : Unit) : EB := .seq (hid b_Do_26) .ret
@[simp] def b_Do_28 (_ : Unit) : EB := .cond (.t 48) (hid b_Do_27) .skip
@[simp] def b_Do_29 (_ : Unit) : EB := .seq (hid b_Do_24) (hid b_Do_28)
@[simp] def l_Do_31 (_ : Unit) : List EOp := [⟨6, none, none, (.fz (.sto 5 (.t 6) (.t 55))), []⟩, ⟨7, (some 7), none, (.q (.mov (.t 56))), []⟩]
@[simp] def l_Do_30 (_ : Unit) : List EOp := ⟨0, (some 51), none, (.q (.lda 5 (.t 3))), []⟩ :: ⟨1, (some 52), none, (.q (.fad 3 (.t 5))), []⟩ :: ⟨2, (some 53), none, (.q (.lda 36 (.t 52))), []⟩ :: ⟨3, (some 54), none, (.call 22 [(.t 51), (.t 53)]), []⟩ :: ⟨4, (some 55), none, (.q (.ext 0 (.t 54))), []⟩ :: ⟨5, (some 56), none, (.q (.ext 1 (.t 54))), []⟩ :: hid l_Do_31
@[simp] def b_Do_32 (_ : Unit) : EB := reg0 (hid l_Do_30) 8
@[simp] def b_Do_33 (_ : Unit) : EB := .seq (hid b_Do_32) .ret
@[simp] def b_Do_34 (_ : Unit) : EB := .seq (hid b_Do_29) (hid b_Do_33)
@[simp] def b_Do_35 (_ : Unit) : EB := .cond (.t 42) (hid b_Do_34) .skip
@[simp] def b_Do_36 (_ : Unit) : EB := .seq (hid b_Do_22) (hid b_Do_35)
@[simp] def b_Do_37 (_ : Unit) : EB := .cond (.t 33) (hid b_Do_20) (hid b_Do_36)
@[simp] def b_Do_38 (_ : Unit) : EB := .seq (hid b_Do_16) (hid b_Do_37)
@[simp] def b_Do_39 (_ : Unit) : EB := .block 0 (hid b_Do_38)
@[simp] def b_Do_40 (_ : Unit) : EB := .seq (hid b_Do_14) (hid b_Do_39)
@[simp] def l_Do_41 (_ : Unit) : List EOp := [⟨0, (some 57), none, (.q (.lda 5 (.t 3))), []⟩, ⟨1, (some 58), none, (.q (.fad 2 (.t 5))), []⟩, ⟨2, (some 59), none, (.q (.ldc (.t 58))), []⟩, ⟨3, (some 60), none, (.call 23 [(.t 57), (.t 59)]), []⟩]
@[simp] def b_Do_42 (_ : Unit) : EB := reg0 (hid l_Do_41) 4
@[simp] def l_Do_43 (_ : Unit) : List EOp := [⟨0, (some 62), none, (.q (.bin .eql (.t 60) (.k (.int .i64 (-1))))), []⟩, ⟨1, (some 61), none, (.q (.mov (.t 62))), []⟩]
@[simp] def b_Do_44 (_ : Unit) : EB := reg0 (hid l_Do_43) 2
@[simp] def l_Do_45 (_ : Unit) : List EOp := [⟨0, (some 63), none, (.q (.build [(.int .i64 0), (.int .i64 0), (.int .i64 0), (.slice none 0 0), (.slice none 0 0)] [])), []⟩, ⟨1, (some 64), none, (.q (.mki 73 (.k (.int .i64 8)))), []⟩, ⟨2, none, none, (.fz (.sto 5 (.t 6) (.t 63))), []⟩, ⟨3, (some 7), none, (.q (.mov (.t 64))), []⟩]
@[simp] def b_Do_46 (_ : Unit) : EB := reg0 (hid l_Do_45) 4
@[simp] def b_Do_47 (_ : Unit) : EB := .seq (hid b_Do_46) .ret
@[simp] def l_Do_48 (_ : Unit) : List EOp := [⟨0, (some 66), none, (.q (.mov (.t 1))), []⟩, ⟨1, (some 67), none, (.q (.bin .eql (.t 60) (.t 66))), []⟩, ⟨2, (some 65), none, (.q (.mov (.t 67))), []⟩]
@[simp] def b_Do_49 (_ : Unit) : EB := reg0 (hid l_Do_48) 3
@[simp] def l_Do_50 (_ : Unit) : List EOp := [⟨0, (some 68), none, (.q (.build [(.int .i64 0), (.int .i64 0), (.int .i64 0), (.slice none 0 0), (.slice none 0 0)] [])), []⟩, ⟨1, (some 69), none, (.q (.mki 73 (.k (.int .i64 33)))), []⟩, ⟨2, none, none, (.fz (.sto 5 (.t 6) (.t 68))), []⟩, ⟨3, (some 7), none, (.q (.mov (.t 69))), []⟩]
@[simp] def b_Do_51 (_ : Unit) : EB := reg0 (hid l_Do_50) 4
@[simp] def b_Do_52 (_ : Unit) : EB := .seq (hid b_Do_51) .ret
@[simp] def b_Do_53 (_ : Unit) : EB := .cond (.t 65) (hid b_Do_52) .skip
@[simp] def b_Do_54 (_ : Unit) : EB := .seq (hid b_Do_49) (hid b_Do_53)
@[simp] def b_Do_55 (_ : Unit) : EB := .cond (.t 61) (hid b_Do_47) (hid b_Do_54)
@[simp] def b_Do_56 (_ : Unit) : EB := .seq (hid b_Do_44) (hid b_Do_55)
@[simp] def b_Do_57 (_ : Unit) : EB := .block 1 (hid b_Do_56)
@[simp] def b_Do_58 (_ : Unit) : EB := .seq (hid b_Do_42) (hid b_Do_57)
@[simp] def l_Do_59 (_ : Unit) : List EOp := [⟨0, (some 70), none, (.q (.fad 0 (.t 5))), []⟩, ⟨1, (some 71), none, (.q (.ldc (.t 70))), []⟩, ⟨2, (some 72), none, (.q (.bin .eql (.t 71) (.k (.int .i64 3)))), []⟩]
@[simp] def b_Do_60 (_ : Unit) : EB := reg0 (hid l_Do_59) 3
@[simp] def l_Do_62 (_ : Unit) : List EOp := [⟨6, (some 79), none, (.q (.ext 0 (.t 78))), []⟩, ⟨7, (some 80), none, (.q (.ext 1 (.t 78))), []⟩, ⟨8, none, none, (.fz (.sto 5 (.t 6) (.t 79))), []⟩, ⟨9, (some 7), none, (.q (.mov (.t 80))), []⟩]
@[simp] def l_Do_61 (_ : Unit) : List EOp := ⟨0, (some 73), none, (.q (.lda 5 (.t 3))), []⟩ :: ⟨1, (some 74), none, (.q (.fad 2 (.t 5))), []⟩ :: ⟨2, (some 75), none, (.q (.ldc (.t 74))), []⟩ :: ⟨3, (some 76), none, (.q (.fad 39 (.t 5))), []⟩ :: ⟨4, (some 77), none, (.q (.ldc (.t 76))), []⟩ :: ⟨5, (some 78), none, (.call 24 [(.t 73), (.t 75), (.t 77)]), []⟩ :: hid l_Do_62
@[simp] def b_Do_63 (_ : Unit) : EB := reg0 (hid l_Do_61) 10
@[simp] def b_Do_64 (_ : Unit) : EB := .seq (hid b_Do_63) .ret
@[simp] def b_Do_65 (_ : Unit) : EB := .cond (.t 72) (hid b_Do_64) .skip
@[simp] def b_Do_66 (_ : Unit) : EB := .seq (hid b_Do_60) (hid b_Do_65)
@[simp] def l_Do_68 (_ : Unit) : List EOp := [⟨6, none, none, (.fz (.sto 5 (.t 6) (.t 85))), []⟩, ⟨7, (some 7), none, (.q (.mov (.t 86))), []⟩]
@[simp] def l_Do_67 (_ : Unit) : List EOp := ⟨0, (some 81), none, (.q (.lda 5 (.t 3))), []⟩ :: ⟨1, (some 82), none, (.q (.fad 2 (.t 5))), []⟩ :: ⟨2, (some 83), none, (.q (.ldc (.t 82))), []⟩ :: ⟨3, (some 84), none, (.call 25 [(.t 81), (.t 83)]), []⟩ :: ⟨4, (some 85), none, (.q (.ext 0 (.t 84))), []⟩ :: ⟨5, (some 86), none, (.q (.ext 1 (.t 84))), []⟩ :: hid l_Do_68
@[simp] def b_Do_69 (_ : Unit) : EB := reg0 (hid l_Do_67) 8
@[simp] def b_Do_70 (_ : Unit) : EB := .seq (hid b_Do_69) .ret
@[simp] def b_Do_71 (_ : Unit) : EB := .seq (hid b_Do_66) (hid b_Do_70)
@[simp] def b_Do_72 (_ : Unit) : EB := .seq (hid b_Do_58) (hid b_Do_71)
@[simp] def b_Do_73 (_ : Unit) : EB := .seq (hid b_Do_40) (hid b_Do_72)
@[simp] def b_Do_74 (_ : Unit) : EB := .seq (hid b_Do_12) (hid b_Do_73)
@[simp] def b_Do_75 (_ : Unit) : EB := .seq (hid b_Do_2) (hid b_Do_74)
def c_Do : EB × List QOp × Nat := ((hid b_Do_75), [(.lda 5 (.t 6)), (.mov (.t 7))], 87)
theorem k_Do : cfun Tryd.prog 9 = some c_Do := by kernel_rfl

@[simp] def l_sure_1 (_ : Unit) : List EOp := [⟨0, (some 0), none, (.q (.mov (.k (.bool false)))), []⟩]
@[simp] def b_sure_2 (_ : Unit) : EB := reg0 (hid l_sure_1) 1
@[simp] def l_sure_4 (_ : Unit) : List EOp := [⟨6, (some 9), none, (.q (.ext 1 (.t 3))), []⟩, ⟨7, (some 1), none, (.q (.alloc 39 [(.int .i64 0), (.int .i64 0), (.int .i64 0), (.slice none 0 0), (.slice none 0 0)])), []⟩, ⟨8, none, none, (.fz (.sto 5 (.t 1) (.t 8))), []⟩, ⟨9, (some 2), none, (.q (.mov (.t 9))), []⟩]
@[simp] def l_sure_3 (_ : Unit) : List EOp := ⟨0, (some 4), none, (.q (.build [(.int .i64 0), (.int .i64 0)] [(0, 1, (.k (.int .i64 50))), (1, 1, (.k (.int .i64 50)))])), []⟩ :: ⟨1, (some 5), none, (.q (.build [(.int .i64 0), (.int .i64 0), (.int .i64 0), (.slice none 0 0), (.slice none 0 0)] [(1, 2, (.t 4))])), []⟩ :: ⟨2, (some 6), none, (.q (.build (([(.int .i64 0), (.int .i64 0), (.int .i64 0), (.int .i64 0), (.int .i64 0), (.int .i64 0), (.int .i64 0)] : List Value) ++ zU8 ++ [(.slice none 0 0)]) [(0, 1, (.k (.int .i64 1))), (1, 1, (.k (.int .i64 20)))])), []⟩ :: ⟨3, (some 7), none, (.call 9 [(.t 5), (.k (.int .i64 1)), (.t 6)]), []⟩ :: ⟨4, (some 3), none, (.q (.mov (.t 7))), []⟩ :: ⟨5, (some 8), none, (.q (.ext 0 (.t 3))), []⟩ :: hid l_sure_4
@[simp] def b_sure_5 (_ : Unit) : EB := reg0 (hid l_sure_3) 10
@[simp] def l_sure_7 (_ : Unit) : List EOp := [⟨6, (some 16), (some (12, true)), (.q (.eqa false 2 .i64 (.t 14) (.t 15))), []⟩, ⟨7, (some 17), none, (.q (.pick (.t 12) (.t 16) (.k (.bool false)))), []⟩, ⟨8, (some 0), none, (.q (.mov (.t 17))), []⟩]
@[simp] def l_sure_6 (_ : Unit) : List EOp := ⟨0, (some 10), none, (.q (.mov (.t 2))), []⟩ :: ⟨1, (some 11), none, (.q (.eqi false (.t 10))), []⟩ :: ⟨2, (some 12), none, (.q (.mov (.t 11))), []⟩ :: ⟨3, (some 13), (some (12, true)), (.q (.fad 1 (.t 1))), []⟩ :: ⟨4, (some 14), (some (12, true)), (.q (.lda 2 (.t 13))), []⟩ :: ⟨5, (some 15), (some (12, true)), (.q (.build [(.int .i64 0), (.int .i64 0)] [(0, 1, (.k (.int .i64 70))), (1, 1, (.k (.int .i64 30)))])), []⟩ :: hid l_sure_7
@[simp] def b_sure_8 (_ : Unit) : EB := reg0 (hid l_sure_6) 9
@[simp] def b_sure_9 (_ : Unit) : EB := .seq (hid b_sure_8) .ret
@[simp] def b_sure_10 (_ : Unit) : EB := .seq (hid b_sure_5) (hid b_sure_9)
@[simp] def b_sure_11 (_ : Unit) : EB := .seq (hid b_sure_2) (hid b_sure_10)
def c_sure : EB × List QOp × Nat := ((hid b_sure_11), [(.mov (.t 0))], 18)
theorem k_sure : cfun Tryd.prog 7 = some c_sure := by kernel_rfl


/-- What is said of a state without payments and holds is said of one whose slices are nil. -/
theorem ecalls_nlS {P : Program} {f : FuncId} {e1 e2 : Nat} {a b c : EC} {rest : List EV} {H : List EO} {post : EV → List (Option EO) → Prop} (h : ECalls P f (.v (.agg [a, b, c, .fz (.sl e1 []), .fz (.sl e2 [])]) :: rest) H post) :
    ECalls P f (.v (.agg [a, b, c, .fz (.lit (.slice none 0 0)), .fz (.lit (.slice none 0 0))]) :: rest) H post := by
  intro ρ Φ w vals r ha
  refine h ρ Φ w vals r ?_
  obtain ⟨u, us, rfl, h1, h2⟩ := ha.cons_left
  refine All2.cons ?_ h2
  obtain ⟨vs, rfl, hv⟩ := h1
  refine ⟨vs, rfl, by simpa using hv.1, ?_⟩
  intro i x y hx hy
  rcases i with _ | _ | _ | _ | _ | i
  · exact hv.2 0 x y hx hy
  · exact hv.2 1 x y hx hy
  · exact hv.2 2 x y hx hy
  · have := hv.2 3 _ y rfl hy
    simp at hx; subst hx
    exact nl_vr this
  · have := hv.2 4 _ y rfl hy
    simp at hx; subst hx
    exact nl_vr this
  · simp at hx

theorem SCheck_ok (s : Sta) (hs : s.ok) : ECalls Tryd.prog 20 [SV s] [] fun y H' => H' = [] ∧ y = .lit (errV (if mayS s = true then 0 else 1)) := by
  refine ecalls k_SCheck ?_
  simp [c_SCheck, SV, staC]
  refine call0 (Smay_ok s hs) (by simp [Ptr, I, EV.lit, Bs, SV, staC, SE, WV, wopC]) ?_
  rintro y H' ⟨rfl, rfl⟩
  refine ⟨.inl (by simp [Ptr, I, EV.lit, Bs, SV, staC, SE, WV, wopC]), le_ok rfl, ?_⟩
  simp [Ptr, I, EV.lit, Bs, SV, staC, SE, WV, wopC]
  cases h : mayS s
  · simp
    exact fin [] (by decide) rfl rfl rfl ⟨rfl, rfl⟩
  · simp
    exact fin [] (by decide) rfl rfl rfl ⟨rfl, rfl⟩

def stS : EV := .v (.agg [.fz (.lit (.int .i64 0)), .fz (.lit (.int .i64 50)), .fz (.lit (.int .i64 50)), .fz (.lit (.slice none 0 0)), .fz (.lit (.slice none 0 0))])
def opS : EV := .v (.agg (.fz (.lit (.int .i64 1)) :: .fz (.lit (.int .i64 20)) :: .fz (.lit (.int .i64 0)) :: .fz (.lit (.int .i64 0)) :: .fz (.lit (.int .i64 0)) :: .fz (.lit (.int .i64 0)) :: .fz (.lit (.int .i64 0)) :: (hc hz ++ [.fz (.lit (.slice none 0 0))])))
theorem s50_ok : (Sta.mk 0 50 50 [] []).ok := by simp [Sta.ok, i64]
theorem s50_may : mayS (Sta.mk 0 50 50 [] []) = true := by simp [mayS, total, sumP, sumH, payL, holL]

set_option maxHeartbeats 4000000 in
theorem Do_sure : ECalls Tryd.prog 9 [stS, I .i64 1, opS] [] fun y H' => H' = [] ∧ y = SE (⟨1, 70, 30, [], []⟩, 0) := by
  have hv : moveS ⟨0, 50, 50, [], []⟩ 1 20 = (⟨1, 70, 30, [], []⟩, 0) := by simp [moveS, nxt, mayS, total, sumP, sumH, payL, holL]
  have hmv := Move_ok ⟨0, 50, 50, [], []⟩ 1 20 s50_ok (by simp [i64]) (by simp [i64])
  rw [hv] at hmv
  have hck := SCheck_ok ⟨0, 50, 50, [], []⟩ s50_ok
  rw [s50_may] at hck
  simp only [if_true] at hck
  refine ecalls k_Do ?_
  simp [c_Do, stS, opS, I]
  refine call0 (ecalls_nlS hck) (by simp [Ptr, I, EV.lit, Bs, SV, staC, SE, WV, wopC]) ?_
  rintro y H' ⟨rfl, rfl⟩
  refine ⟨.inl (by simp [Ptr, I, EV.lit, Bs, SV, staC, SE, WV, wopC]), le_ok rfl, ?_⟩
  simp
  refine call0 (ecalls_nlS hmv) (by simp [Ptr, I, EV.lit, Bs, SV, staC, SE, WV, wopC]) ?_
  rintro y H' ⟨rfl, rfl⟩
  refine ⟨.inl (by simp [Ptr, I, EV.lit, Bs, SV, staC, SE, WV, wopC]), le_ok rfl, ?_⟩
  simp [SE, staC]
  exact fin [] (by decide) rfl rfl rfl ⟨rfl, rfl⟩

set_option maxHeartbeats 4000000 in
theorem sure_ok : ECalls Tryd.prog 7 [] [] fun y H' => H' = [] ∧ y = .lit (.bool true) := by
  refine ecalls k_sure ?_
  simp [c_sure]
  refine call0 Do_sure (by simp [stS, opS, I]) ?_
  rintro y H' ⟨rfl, rfl⟩
  refine ⟨.inl (by simp [stS, opS]), le_ok rfl, ?_⟩
  simp [SE, staC]
  exact fin [] (by decide) rfl rfl rfl ⟨rfl, rfl⟩

end Go.Proofs.YtpilpjameifcfaaDoor
