import Derived.Test.YtflcfdeanneoeaaGreatDoorAll13
namespace Go.Proofs.YtflcfdeanneoeaaGreatDoor
open Go Go.EW
set_option linter.unusedSimpArgs false
set_option linter.unusedVariables false
@[simp] def l_RCCheck_1 (_ : Unit) : List EOp := [xQ 0 1 (.box 145 (.t 0)), xQ 1 2 (.mov (.k (.int .i64 0)))]
@[simp] def b_RCCheck_2 (_ : Unit) : EB := reg0 (hid l_RCCheck_1) 2
@[simp] def l_RCCheck_4 (_ : Unit) : List EOp := [xG 6 13 11 false (.ldc (.t 12)), xG 7 14 11 false (.len (.t 13)), xG 8 15 11 false (.bin .gtr (.t 14) (.k (.int .i64 8))), xQ 9 16 (.pick (.t 11) (.k (.bool true)) (.t 15))]
@[simp] def l_RCCheck_3 (_ : Unit) : List EOp := xQ 0 7 (.fad 0 (.t 1)) :: xQ 1 8 (.ldc (.t 7)) :: xQ 2 9 (.len (.t 8)) :: xQ 3 10 (.bin .lss (.t 9) (.k (.int .i64 1))) :: xM 4 11 10 :: xG 5 12 11 false (.fad 0 (.t 1)) :: hid l_RCCheck_4
@[simp] def b_RCCheck_5 (_ : Unit) : EB := reg0 (hid l_RCCheck_3) 10
@[simp] def l_RCCheck_6 (_ : Unit) : List EOp := [xQ 0 2 (.mov (.k (.int .i64 1)))]
@[simp] def b_RCCheck_7 (_ : Unit) : EB := reg0 (hid l_RCCheck_6) 1
@[simp] def b_RCCheck_8 (_ : Unit) : EB := .seq (hid b_RCCheck_7) .ret
@[simp] def b_RCCheck_9 (_ : Unit) : EB := .cond (.t 16) (hid b_RCCheck_8) .skip
@[simp] def b_RCCheck_10 (_ : Unit) : EB := .seq (hid b_RCCheck_5) (hid b_RCCheck_9)
@[simp] def l_RCCheck_11 (_ : Unit) : List EOp := [xQ 0 3 (.mov (.k (.int .i64 0)))]
@[simp] def b_RCCheck_12 (_ : Unit) : EB := reg0 (hid l_RCCheck_11) 1
@[simp] def l_RCCheck_13 (_ : Unit) : List EOp := [xM 0 17 3, xQ 1 18 (.fad 0 (.t 1)), xQ 2 19 (.ldc (.t 18)), xQ 3 20 (.len (.t 19)), xQ 4 21 (.bin .lss (.t 17) (.t 20))]
@[simp] def b_RCCheck_14 (_ : Unit) : EB := reg0 (hid l_RCCheck_13) 5
@[simp] def b_RCCheck_15 (_ : Unit) : EB := .cond (.t 21) .skip (.exit 0)
@[simp] def b_RCCheck_16 (_ : Unit) : EB := .seq (hid b_RCCheck_14) (hid b_RCCheck_15)
@[simp] def l_RCCheck_18 (_ : Unit) : List EOp := [xN 6 (.fz (.sto 35 (.t 4) (.t 28)))]
@[simp] def l_RCCheck_17 (_ : Unit) : List EOp := xQ 0 24 (.fad 0 (.t 1)) :: xQ 1 25 (.ldc (.t 24)) :: xM 2 26 3 :: xQ 3 27 (.isl 35 (.t 25) (.t 26)) :: xQ 4 28 (.lda 35 (.t 27)) :: xQ 5 4 (.alloc 150 (([(.slice none 0 0)] : List Value) ++ zU8 ++ [(.int .i64 0), (.int .i64 0)])) :: hid l_RCCheck_18
@[simp] def b_RCCheck_19 (_ : Unit) : EB := reg0 (hid l_RCCheck_17) 7
@[simp] def l_RCCheck_23 (_ : Unit) : List EOp := [xQ 18 47 (.pick (.t 43) (.k (.bool true)) (.t 46)), xM 19 48 47, xG 20 49 48 false (.fad 34 (.t 4)), xG 21 50 48 false (.ldc (.t 49)), xG 22 51 48 false (.bin .gtr (.t 50) (.k (.int .i64 65536))), xQ 23 52 (.pick (.t 48) (.k (.bool true)) (.t 51))]
@[simp] def l_RCCheck_22 (_ : Unit) : List EOp := xG 12 41 38 false (.bin .gtr (.t 40) (.k (.int .i64 1099511627776))) :: xQ 13 42 (.pick (.t 38) (.k (.bool true)) (.t 41)) :: xM 14 43 42 :: xG 15 44 43 false (.fad 34 (.t 4)) :: xG 16 45 43 false (.ldc (.t 44)) :: xG 17 46 43 false (.bin .lss (.t 45) (.k (.int .i64 0))) :: hid l_RCCheck_23
@[simp] def l_RCCheck_21 (_ : Unit) : List EOp := xG 6 35 33 false (.ldc (.t 34)) :: xG 7 36 33 false (.bin .lss (.t 35) (.k (.int .i64 0))) :: xQ 8 37 (.pick (.t 33) (.k (.bool true)) (.t 36)) :: xM 9 38 37 :: xG 10 39 38 false (.fad 33 (.t 4)) :: xG 11 40 38 false (.ldc (.t 39)) :: hid l_RCCheck_22
@[simp] def l_RCCheck_20 (_ : Unit) : List EOp := xQ 0 29 (.fad 0 (.t 4)) :: xQ 1 30 (.ldc (.t 29)) :: xQ 2 31 (.len (.t 30)) :: xQ 3 32 (.bin .lss (.t 31) (.k (.int .i64 1))) :: xM 4 33 32 :: xG 5 34 33 false (.fad 33 (.t 4)) :: hid l_RCCheck_21
@[simp] def b_RCCheck_24 (_ : Unit) : EB := reg0 (hid l_RCCheck_20) 24
@[simp] def l_RCCheck_25 (_ : Unit) : List EOp := [xQ 0 2 (.mov (.k (.int .i64 1)))]
@[simp] def b_RCCheck_26 (_ : Unit) : EB := reg0 (hid l_RCCheck_25) 1
@[simp] def b_RCCheck_27 (_ : Unit) : EB := .seq (hid b_RCCheck_26) .ret
@[simp] def b_RCCheck_28 (_ : Unit) : EB := .cond (.t 52) (hid b_RCCheck_27) .skip
@[simp] def b_RCCheck_29 (_ : Unit) : EB := .seq (hid b_RCCheck_24) (hid b_RCCheck_28)
@[simp] def l_RCCheck_30 (_ : Unit) : List EOp := [xQ 0 5 (.mov (.k (.int .i64 (-1))))]
@[simp] def b_RCCheck_31 (_ : Unit) : EB := reg0 (hid l_RCCheck_30) 1
@[simp] def l_RCCheck_32 (_ : Unit) : List EOp := [xQ 0 6 (.mov (.k (.int .i64 0)))]
@[simp] def b_RCCheck_33 (_ : Unit) : EB := reg0 (hid l_RCCheck_32) 1
@[simp] def l_RCCheck_34 (_ : Unit) : List EOp := [xM 0 53 6, xQ 1 54 (.fad 0 (.t 4)), xQ 2 55 (.ldc (.t 54)), xQ 3 56 (.len (.t 55)), xQ 4 57 (.bin .lss (.t 53) (.t 56))]
@[simp] def b_RCCheck_35 (_ : Unit) : EB := reg0 (hid l_RCCheck_34) 5
@[simp] def b_RCCheck_36 (_ : Unit) : EB := .cond (.t 57) .skip (.exit 2)
@[simp] def b_RCCheck_37 (_ : Unit) : EB := .seq (hid b_RCCheck_35) (hid b_RCCheck_36)
@[simp] def l_RCCheck_40 (_ : Unit) : List EOp := [xG 12 72 67 false (.ldc (.t 71)), xG 13 73 67 false (.bin .gtr (.t 72) (.k (.int .i64 15))), xQ 14 74 (.pick (.t 67) (.k (.bool true)) (.t 73))]
@[simp] def l_RCCheck_39 (_ : Unit) : List EOp := xQ 6 66 (.bin .leq (.t 64) (.t 65)) :: xM 7 67 66 :: xG 8 68 67 false (.fad 0 (.t 4)) :: xG 9 69 67 false (.ldc (.t 68)) :: xG 10 70 67 false (.mov (.t 6)) :: xG 11 71 67 false (.isl 1 (.t 69) (.t 70)) :: hid l_RCCheck_40
@[simp] def l_RCCheck_38 (_ : Unit) : List EOp := xQ 0 60 (.fad 0 (.t 4)) :: xQ 1 61 (.ldc (.t 60)) :: xM 2 62 6 :: xQ 3 63 (.isl 1 (.t 61) (.t 62)) :: xQ 4 64 (.ldc (.t 63)) :: xM 5 65 5 :: hid l_RCCheck_39
@[simp] def b_RCCheck_41 (_ : Unit) : EB := reg0 (hid l_RCCheck_38) 15
@[simp] def l_RCCheck_42 (_ : Unit) : List EOp := [xQ 0 2 (.mov (.k (.int .i64 1)))]
@[simp] def b_RCCheck_43 (_ : Unit) : EB := reg0 (hid l_RCCheck_42) 1
@[simp] def b_RCCheck_44 (_ : Unit) : EB := .seq (hid b_RCCheck_43) .ret
@[simp] def b_RCCheck_45 (_ : Unit) : EB := .cond (.t 74) (hid b_RCCheck_44) .skip
@[simp] def b_RCCheck_46 (_ : Unit) : EB := .seq (hid b_RCCheck_41) (hid b_RCCheck_45)
@[simp] def l_RCCheck_47 (_ : Unit) : List EOp := [xQ 0 75 (.fad 0 (.t 4)), xQ 1 76 (.ldc (.t 75)), xM 2 77 6, xQ 3 78 (.isl 1 (.t 76) (.t 77)), xQ 4 79 (.ldc (.t 78)), xM 5 5 79]
@[simp] def b_RCCheck_48 (_ : Unit) : EB := reg0 (hid l_RCCheck_47) 6
@[simp] def b_RCCheck_49 (_ : Unit) : EB := .seq (hid b_RCCheck_46) (hid b_RCCheck_48)
@[simp] def b_RCCheck_50 (_ : Unit) : EB := .block 3 (hid b_RCCheck_49)
@[simp] def l_RCCheck_51 (_ : Unit) : List EOp := [xM 0 58 6, xQ 1 59 (.bin .add (.t 58) (.k (.int .i64 1))), xM 2 6 59]
@[simp] def b_RCCheck_52 (_ : Unit) : EB := reg0 (hid l_RCCheck_51) 3
@[simp] def b_RCCheck_53 (_ : Unit) : EB := .seq (hid b_RCCheck_50) (hid b_RCCheck_52)
@[simp] def b_RCCheck_54 (_ : Unit) : EB := .seq (hid b_RCCheck_37) (hid b_RCCheck_53)
@[simp] def b_RCCheck_55 (_ : Unit) : EB := .loop (hid b_RCCheck_54)
@[simp] def b_RCCheck_56 (_ : Unit) : EB := .block 2 (hid b_RCCheck_55)
@[simp] def b_RCCheck_57 (_ : Unit) : EB := .seq (hid b_RCCheck_33) (hid b_RCCheck_56)
@[simp] def b_RCCheck_58 (_ : Unit) : EB := .seq (hid b_RCCheck_31) (hid b_RCCheck_57)
@[simp] def b_RCCheck_59 (_ : Unit) : EB := .seq (hid b_RCCheck_29) (hid b_RCCheck_58)
@[simp] def b_RCCheck_60 (_ : Unit) : EB := .seq (hid b_RCCheck_19) (hid b_RCCheck_59)
@[simp] def b_RCCheck_61 (_ : Unit) : EB := .block 1 (hid b_RCCheck_60)
@[simp] def l_RCCheck_62 (_ : Unit) : List EOp := [xM 0 22 3, xQ 1 23 (.bin .add (.t 22) (.k (.int .i64 1))), xM 2 3 23]
@[simp] def b_RCCheck_63 (_ : Unit) : EB := reg0 (hid l_RCCheck_62) 3
@[simp] def b_RCCheck_64 (_ : Unit) : EB := .seq (hid b_RCCheck_61) (hid b_RCCheck_63)
@[simp] def b_RCCheck_65 (_ : Unit) : EB := .seq (hid b_RCCheck_16) (hid b_RCCheck_64)
@[simp] def b_RCCheck_66 (_ : Unit) : EB := .loop (hid b_RCCheck_65)
@[simp] def b_RCCheck_67 (_ : Unit) : EB := .block 0 (hid b_RCCheck_66)
@[simp] def b_RCCheck_68 (_ : Unit) : EB := .seq (hid b_RCCheck_12) (hid b_RCCheck_67)
@[simp] def l_RCCheck_69 (_ : Unit) : List EOp := [xQ 0 2 (.mov (.k (.int .i64 0)))]
@[simp] def b_RCCheck_70 (_ : Unit) : EB := reg0 (hid l_RCCheck_69) 1
@[simp] def b_RCCheck_71 (_ : Unit) : EB := .seq (hid b_RCCheck_70) .ret
@[simp] def b_RCCheck_72 (_ : Unit) : EB := .seq (hid b_RCCheck_68) (hid b_RCCheck_71)
@[simp] def b_RCCheck_73 (_ : Unit) : EB := .seq (hid b_RCCheck_10) (hid b_RCCheck_72)
@[simp] def b_RCCheck_74 (_ : Unit) : EB := .seq (hid b_RCCheck_2) (hid b_RCCheck_73)
def c_RCCheck : EB × List QOp × Nat := ((hid b_RCCheck_74), [(.mov (.t 2))], 80)
theorem k_RCCheck : cfun Tryz.prog 146 = some c_RCCheck := by kernel_rfl
@[simp] def l_RTxTotal_1 (_ : Unit) : List EOp := [xQ 0 1 (.box 69 (.t 0)), xQ 1 2 (.mov (.k (.int .i64 0))), xQ 2 3 (.mov (.k (.int .i64 0)))]
@[simp] def b_RTxTotal_2 (_ : Unit) : EB := reg0 (hid l_RTxTotal_1) 3
@[simp] def l_RTxTotal_3 (_ : Unit) : List EOp := [xQ 0 4 (.mov (.k (.int .i64 0)))]
@[simp] def b_RTxTotal_4 (_ : Unit) : EB := reg0 (hid l_RTxTotal_3) 1
@[simp] def l_RTxTotal_5 (_ : Unit) : List EOp := [xQ 0 5 (.mov (.k (.int .i64 0)))]
@[simp] def b_RTxTotal_6 (_ : Unit) : EB := reg0 (hid l_RTxTotal_5) 1
@[simp] def l_RTxTotal_7 (_ : Unit) : List EOp := [xM 0 7 5, xQ 1 8 (.fad 2 (.t 1)), xQ 2 9 (.ldc (.t 8)), xQ 3 10 (.len (.t 9)), xQ 4 11 (.bin .lss (.t 7) (.t 10))]
@[simp] def b_RTxTotal_8 (_ : Unit) : EB := reg0 (hid l_RTxTotal_7) 5
@[simp] def b_RTxTotal_9 (_ : Unit) : EB := .cond (.t 11) .skip (.exit 0)
@[simp] def b_RTxTotal_10 (_ : Unit) : EB := .seq (hid b_RTxTotal_8) (hid b_RTxTotal_9)
@[simp] def l_RTxTotal_12 (_ : Unit) : List EOp := [xM 6 6 19]
@[simp] def l_RTxTotal_11 (_ : Unit) : List EOp := xQ 0 14 (.fad 2 (.t 1)) :: xQ 1 15 (.ldc (.t 14)) :: xM 2 16 5 :: xQ 3 17 (.isl 2 (.t 15) (.t 16)) :: xQ 4 18 (.fad 0 (.t 17)) :: xQ 5 19 (.ldc (.t 18)) :: hid l_RTxTotal_12
@[simp] def b_RTxTotal_13 (_ : Unit) : EB := reg0 (hid l_RTxTotal_11) 7
@[simp] def l_RTxTotal_15 (_ : Unit) : List EOp := [xM 6 26 25, xG 7 27 26 false (.mov (.t 4)), xG 8 28 26 false (.mov (.t 6)), xG 9 29 26 false (.bin .add (.t 27) (.t 28)), xG 10 30 26 false (.bin .gtr (.t 29) (.k (.int .i64 1125899906842624))), xQ 11 31 (.pick (.t 26) (.k (.bool true)) (.t 30))]
@[simp] def l_RTxTotal_14 (_ : Unit) : List EOp := xM 0 20 6 :: xQ 1 21 (.bin .lss (.t 20) (.k (.int .i64 0))) :: xM 2 22 21 :: xG 3 23 22 false (.mov (.t 6)) :: xG 4 24 22 false (.bin .gtr (.t 23) (.k (.int .i64 1125899906842624))) :: xQ 5 25 (.pick (.t 22) (.k (.bool true)) (.t 24)) :: hid l_RTxTotal_15
@[simp] def b_RTxTotal_16 (_ : Unit) : EB := reg0 (hid l_RTxTotal_14) 12
@[simp] def l_RTxTotal_17 (_ : Unit) : List EOp := [xQ 0 2 (.mov (.k (.int .i64 0))), xQ 1 3 (.mov (.k (.int .i64 5)))]
@[simp] def b_RTxTotal_18 (_ : Unit) : EB := reg0 (hid l_RTxTotal_17) 2
@[simp] def b_RTxTotal_19 (_ : Unit) : EB := .seq (hid b_RTxTotal_18) .ret
@[simp] def b_RTxTotal_20 (_ : Unit) : EB := .cond (.t 31) (hid b_RTxTotal_19) .skip
@[simp] def b_RTxTotal_21 (_ : Unit) : EB := .seq (hid b_RTxTotal_16) (hid b_RTxTotal_20)
@[simp] def l_RTxTotal_22 (_ : Unit) : List EOp := [xM 0 32 4, xM 1 33 6, xQ 2 34 (.bin .add (.t 32) (.t 33)), xM 3 4 34]
@[simp] def b_RTxTotal_23 (_ : Unit) : EB := reg0 (hid l_RTxTotal_22) 4
@[simp] def b_RTxTotal_24 (_ : Unit) : EB := .seq (hid b_RTxTotal_21) (hid b_RTxTotal_23)
@[simp] def b_RTxTotal_25 (_ : Unit) : EB := .seq (hid b_RTxTotal_13) (hid b_RTxTotal_24)
@[simp] def b_RTxTotal_26 (_ : Unit) : EB := .block 1 (hid b_RTxTotal_25)
@[simp] def l_RTxTotal_27 (_ : Unit) : List EOp := [xM 0 12 5, xQ 1 13 (.bin .add (.t 12) (.k (.int .i64 1))), xM 2 5 13]
@[simp] def b_RTxTotal_28 (_ : Unit) : EB := reg0 (hid l_RTxTotal_27) 3
@[simp] def b_RTxTotal_29 (_ : Unit) : EB := .seq (hid b_RTxTotal_26) (hid b_RTxTotal_28)
@[simp] def b_RTxTotal_30 (_ : Unit) : EB := .seq (hid b_RTxTotal_10) (hid b_RTxTotal_29)
@[simp] def b_RTxTotal_31 (_ : Unit) : EB := .loop (hid b_RTxTotal_30)
@[simp] def b_RTxTotal_32 (_ : Unit) : EB := .block 0 (hid b_RTxTotal_31)
@[simp] def b_RTxTotal_33 (_ : Unit) : EB := .seq (hid b_RTxTotal_6) (hid b_RTxTotal_32)
@[simp] def l_RTxTotal_34 (_ : Unit) : List EOp := [xM 0 35 4, xM 1 2 35, xQ 2 3 (.mov (.k (.int .i64 0)))]
@[simp] def b_RTxTotal_35 (_ : Unit) : EB := reg0 (hid l_RTxTotal_34) 3
@[simp] def b_RTxTotal_36 (_ : Unit) : EB := .seq (hid b_RTxTotal_35) .ret
@[simp] def b_RTxTotal_37 (_ : Unit) : EB := .seq (hid b_RTxTotal_33) (hid b_RTxTotal_36)
@[simp] def b_RTxTotal_38 (_ : Unit) : EB := .seq (hid b_RTxTotal_4) (hid b_RTxTotal_37)
@[simp] def b_RTxTotal_39 (_ : Unit) : EB := .seq (hid b_RTxTotal_2) (hid b_RTxTotal_38)
def c_RTxTotal : EB × List QOp × Nat := ((hid b_RTxTotal_39), [(.mov (.t 2)), (.mov (.t 3))], 36)
theorem k_RTxTotal : cfun Tryz.prog 106 = some c_RTxTotal := by kernel_rfl
@[simp] def l_RTxCheck_1 (_ : Unit) : List EOp := [xQ 0 1 (.box 69 (.t 0)), xQ 1 2 (.mov (.k (.int .i64 0)))]
@[simp] def b_RTxCheck_2 (_ : Unit) : EB := reg0 (hid l_RTxCheck_1) 2
@[simp] def l_RTxCheck_8 (_ : Unit) : List EOp := [xG 30 41 37 false (.bin .gtr (.t 40) (.k (.int .i64 64))), xQ 31 42 (.pick (.t 37) (.k (.bool true)) (.t 41))]
@[simp] def l_RTxCheck_7 (_ : Unit) : List EOp := xG 24 35 31 false (.bin .lss (.t 34) (.k (.int .i64 1))) :: xQ 25 36 (.pick (.t 31) (.k (.bool true)) (.t 35)) :: xM 26 37 36 :: xG 27 38 37 false (.fad 2 (.t 1)) :: xG 28 39 37 false (.ldc (.t 38)) :: xG 29 40 37 false (.len (.t 39)) :: hid l_RTxCheck_8
@[simp] def l_RTxCheck_6 (_ : Unit) : List EOp := xG 18 29 25 false (.bin .gtr (.t 28) (.k (.int .i64 64))) :: xQ 19 30 (.pick (.t 25) (.k (.bool true)) (.t 29)) :: xM 20 31 30 :: xG 21 32 31 false (.fad 2 (.t 1)) :: xG 22 33 31 false (.ldc (.t 32)) :: xG 23 34 31 false (.len (.t 33)) :: hid l_RTxCheck_7
@[simp] def l_RTxCheck_5 (_ : Unit) : List EOp := xG 12 23 19 false (.bin .lss (.t 22) (.k (.int .i64 1))) :: xQ 13 24 (.pick (.t 19) (.k (.bool true)) (.t 23)) :: xM 14 25 24 :: xG 15 26 25 false (.fad 1 (.t 1)) :: xG 16 27 25 false (.ldc (.t 26)) :: xG 17 28 25 false (.len (.t 27)) :: hid l_RTxCheck_6
@[simp] def l_RTxCheck_4 (_ : Unit) : List EOp := xG 6 17 14 false (.bin .gtr (.t 16) (.k (.int .i64 1099511627776))) :: xQ 7 18 (.pick (.t 14) (.k (.bool true)) (.t 17)) :: xM 8 19 18 :: xG 9 20 19 false (.fad 1 (.t 1)) :: xG 10 21 19 false (.ldc (.t 20)) :: xG 11 22 19 false (.len (.t 21)) :: hid l_RTxCheck_5
@[simp] def l_RTxCheck_3 (_ : Unit) : List EOp := xQ 0 11 (.fad 0 (.t 1)) :: xQ 1 12 (.ldc (.t 11)) :: xQ 2 13 (.bin .lss (.t 12) (.k (.int .i64 0))) :: xM 3 14 13 :: xG 4 15 14 false (.fad 0 (.t 1)) :: xG 5 16 14 false (.ldc (.t 15)) :: hid l_RTxCheck_4
@[simp] def b_RTxCheck_9 (_ : Unit) : EB := reg0 (hid l_RTxCheck_3) 32
@[simp] def l_RTxCheck_10 (_ : Unit) : List EOp := [xQ 0 2 (.mov (.k (.int .i64 4)))]
@[simp] def b_RTxCheck_11 (_ : Unit) : EB := reg0 (hid l_RTxCheck_10) 1
@[simp] def b_RTxCheck_12 (_ : Unit) : EB := .seq (hid b_RTxCheck_11) .ret
@[simp] def b_RTxCheck_13 (_ : Unit) : EB := .cond (.t 42) (hid b_RTxCheck_12) .skip
@[simp] def b_RTxCheck_14 (_ : Unit) : EB := .seq (hid b_RTxCheck_9) (hid b_RTxCheck_13)
@[simp] def l_RTxCheck_15 (_ : Unit) : List EOp := [xQ 0 3 (.mov (.k (.int .i64 0)))]
@[simp] def b_RTxCheck_16 (_ : Unit) : EB := reg0 (hid l_RTxCheck_15) 1
@[simp] def l_RTxCheck_17 (_ : Unit) : List EOp := [xM 0 43 3, xQ 1 44 (.fad 1 (.t 1)), xQ 2 45 (.ldc (.t 44)), xQ 3 46 (.len (.t 45)), xQ 4 47 (.bin .lss (.t 43) (.t 46))]
@[simp] def b_RTxCheck_18 (_ : Unit) : EB := reg0 (hid l_RTxCheck_17) 5
@[simp] def b_RTxCheck_19 (_ : Unit) : EB := .cond (.t 47) .skip (.exit 0)
@[simp] def b_RTxCheck_20 (_ : Unit) : EB := .seq (hid b_RTxCheck_18) (hid b_RTxCheck_19)
@[simp] def l_RTxCheck_22 (_ : Unit) : List EOp := [xN 6 (.fz (.sto 35 (.t 4) (.t 54)))]
@[simp] def l_RTxCheck_21 (_ : Unit) : List EOp := xQ 0 50 (.fad 1 (.t 1)) :: xQ 1 51 (.ldc (.t 50)) :: xM 2 52 3 :: xQ 3 53 (.isl 35 (.t 51) (.t 52)) :: xQ 4 54 (.lda 35 (.t 53)) :: xQ 5 4 (.alloc 83 (zU8 ++ [(.int .i64 0), (.int .i64 0), (.slice none 0 0)])) :: hid l_RTxCheck_22
@[simp] def b_RTxCheck_23 (_ : Unit) : EB := reg0 (hid l_RTxCheck_21) 7
@[simp] def l_RTxCheck_28 (_ : Unit) : List EOp := [xG 24 79 75 false (.bin .gtr (.t 78) (.k (.int .i64 64))), xQ 25 80 (.pick (.t 75) (.k (.bool true)) (.t 79))]
@[simp] def l_RTxCheck_27 (_ : Unit) : List EOp := xG 18 73 70 false (.bin .gtr (.t 72) (.k (.int .i64 7))) :: xQ 19 74 (.pick (.t 70) (.k (.bool true)) (.t 73)) :: xM 20 75 74 :: xG 21 76 75 false (.fad 34 (.t 4)) :: xG 22 77 75 false (.ldc (.t 76)) :: xG 23 78 75 false (.len (.t 77)) :: hid l_RTxCheck_28
@[simp] def l_RTxCheck_26 (_ : Unit) : List EOp := xG 12 67 65 false (.ldc (.t 66)) :: xG 13 68 65 false (.bin .lss (.t 67) (.k (.int .i64 0))) :: xQ 14 69 (.pick (.t 65) (.k (.bool true)) (.t 68)) :: xM 15 70 69 :: xG 16 71 70 false (.fad 33 (.t 4)) :: xG 17 72 70 false (.ldc (.t 71)) :: hid l_RTxCheck_27
@[simp] def l_RTxCheck_25 (_ : Unit) : List EOp := xG 6 61 59 false (.fad 32 (.t 60)) :: xG 7 62 59 false (.ldc (.t 61)) :: xG 8 63 59 false (.bin .gtr (.t 62) (.k (.int .i64 63))) :: xQ 9 64 (.pick (.t 59) (.k (.bool true)) (.t 63)) :: xM 10 65 64 :: xG 11 66 65 false (.fad 33 (.t 4)) :: hid l_RTxCheck_26
@[simp] def l_RTxCheck_24 (_ : Unit) : List EOp := xQ 0 55 (.fad 0 (.t 4)) :: xQ 1 56 (.fad 32 (.t 55)) :: xQ 2 57 (.ldc (.t 56)) :: xQ 3 58 (.bin .lss (.t 57) (.k (.int .i64 0))) :: xM 4 59 58 :: xG 5 60 59 false (.fad 0 (.t 4)) :: hid l_RTxCheck_25
@[simp] def b_RTxCheck_29 (_ : Unit) : EB := reg0 (hid l_RTxCheck_24) 26
@[simp] def l_RTxCheck_30 (_ : Unit) : List EOp := [xQ 0 2 (.mov (.k (.int .i64 4)))]
@[simp] def b_RTxCheck_31 (_ : Unit) : EB := reg0 (hid l_RTxCheck_30) 1
@[simp] def b_RTxCheck_32 (_ : Unit) : EB := .seq (hid b_RTxCheck_31) .ret
@[simp] def b_RTxCheck_33 (_ : Unit) : EB := .cond (.t 80) (hid b_RTxCheck_32) .skip
@[simp] def b_RTxCheck_34 (_ : Unit) : EB := .seq (hid b_RTxCheck_29) (hid b_RTxCheck_33)
@[simp] def b_RTxCheck_35 (_ : Unit) : EB := .seq (hid b_RTxCheck_23) (hid b_RTxCheck_34)
@[simp] def b_RTxCheck_36 (_ : Unit) : EB := .block 1 (hid b_RTxCheck_35)
@[simp] def l_RTxCheck_37 (_ : Unit) : List EOp := [xM 0 48 3, xQ 1 49 (.bin .add (.t 48) (.k (.int .i64 1))), xM 2 3 49]
@[simp] def b_RTxCheck_38 (_ : Unit) : EB := reg0 (hid l_RTxCheck_37) 3
@[simp] def b_RTxCheck_39 (_ : Unit) : EB := .seq (hid b_RTxCheck_36) (hid b_RTxCheck_38)
@[simp] def b_RTxCheck_40 (_ : Unit) : EB := .seq (hid b_RTxCheck_20) (hid b_RTxCheck_39)
@[simp] def b_RTxCheck_41 (_ : Unit) : EB := .loop (hid b_RTxCheck_40)
@[simp] def b_RTxCheck_42 (_ : Unit) : EB := .block 0 (hid b_RTxCheck_41)
@[simp] def b_RTxCheck_43 (_ : Unit) : EB := .seq (hid b_RTxCheck_16) (hid b_RTxCheck_42)
@[simp] def l_RTxCheck_44 (_ : Unit) : List EOp := [xQ 0 5 (.mov (.k (.int .i64 0)))]
@[simp] def b_RTxCheck_45 (_ : Unit) : EB := reg0 (hid l_RTxCheck_44) 1
@[simp] def l_RTxCheck_46 (_ : Unit) : List EOp := [xM 0 81 5, xQ 1 82 (.fad 1 (.t 1)), xQ 2 83 (.ldc (.t 82)), xQ 3 84 (.len (.t 83)), xQ 4 85 (.bin .lss (.t 81) (.t 84))]
@[simp] def b_RTxCheck_47 (_ : Unit) : EB := reg0 (hid l_RTxCheck_46) 5
@[simp] def b_RTxCheck_48 (_ : Unit) : EB := .cond (.t 85) .skip (.exit 2)
@[simp] def b_RTxCheck_49 (_ : Unit) : EB := .seq (hid b_RTxCheck_47) (hid b_RTxCheck_48)
@[simp] def l_RTxCheck_50 (_ : Unit) : List EOp := [xQ 0 6 (.mov (.k (.int .i64 0)))]
@[simp] def b_RTxCheck_51 (_ : Unit) : EB := reg0 (hid l_RTxCheck_50) 1
@[simp] def l_RTxCheck_52 (_ : Unit) : List EOp := [xM 0 88 6, xM 1 89 5, xQ 2 90 (.bin .lss (.t 88) (.t 89))]
@[simp] def b_RTxCheck_53 (_ : Unit) : EB := reg0 (hid l_RTxCheck_52) 3
@[simp] def b_RTxCheck_54 (_ : Unit) : EB := .cond (.t 90) .skip (.exit 4)
@[simp] def b_RTxCheck_55 (_ : Unit) : EB := .seq (hid b_RTxCheck_53) (hid b_RTxCheck_54)
@[simp] def l_RTxCheck_58 (_ : Unit) : List EOp := [xQ 12 105 (.eqw false [(32, .u8), (1, .i64)] (.t 98) (.t 104))]
@[simp] def l_RTxCheck_57 (_ : Unit) : List EOp := xQ 6 99 (.fad 1 (.t 1)) :: xQ 7 100 (.ldc (.t 99)) :: xM 8 101 6 :: xQ 9 102 (.isl 35 (.t 100) (.t 101)) :: xQ 10 103 (.fad 0 (.t 102)) :: xQ 11 104 (.lda 33 (.t 103)) :: hid l_RTxCheck_58
@[simp] def l_RTxCheck_56 (_ : Unit) : List EOp := xQ 0 93 (.fad 1 (.t 1)) :: xQ 1 94 (.ldc (.t 93)) :: xM 2 95 5 :: xQ 3 96 (.isl 35 (.t 94) (.t 95)) :: xQ 4 97 (.fad 0 (.t 96)) :: xQ 5 98 (.lda 33 (.t 97)) :: hid l_RTxCheck_57
@[simp] def b_RTxCheck_59 (_ : Unit) : EB := reg0 (hid l_RTxCheck_56) 13
@[simp] def l_RTxCheck_60 (_ : Unit) : List EOp := [xQ 0 2 (.mov (.k (.int .i64 9)))]
@[simp] def b_RTxCheck_61 (_ : Unit) : EB := reg0 (hid l_RTxCheck_60) 1
@[simp] def b_RTxCheck_62 (_ : Unit) : EB := .seq (hid b_RTxCheck_61) .ret
@[simp] def b_RTxCheck_63 (_ : Unit) : EB := .cond (.t 105) (hid b_RTxCheck_62) .skip
@[simp] def b_RTxCheck_64 (_ : Unit) : EB := .seq (hid b_RTxCheck_59) (hid b_RTxCheck_63)
@[simp] def b_RTxCheck_65 (_ : Unit) : EB := .block 5 (hid b_RTxCheck_64)
@[simp] def l_RTxCheck_66 (_ : Unit) : List EOp := [xM 0 91 6, xQ 1 92 (.bin .add (.t 91) (.k (.int .i64 1))), xM 2 6 92]
@[simp] def b_RTxCheck_67 (_ : Unit) : EB := reg0 (hid l_RTxCheck_66) 3
@[simp] def b_RTxCheck_68 (_ : Unit) : EB := .seq (hid b_RTxCheck_65) (hid b_RTxCheck_67)
@[simp] def b_RTxCheck_69 (_ : Unit) : EB := .seq (hid b_RTxCheck_55) (hid b_RTxCheck_68)
@[simp] def b_RTxCheck_70 (_ : Unit) : EB := .loop (hid b_RTxCheck_69)
@[simp] def b_RTxCheck_71 (_ : Unit) : EB := .block 4 (hid b_RTxCheck_70)
@[simp] def b_RTxCheck_72 (_ : Unit) : EB := .seq (hid b_RTxCheck_51) (hid b_RTxCheck_71)
@[simp] def b_RTxCheck_73 (_ : Unit) : EB := .block 3 (hid b_RTxCheck_72)
@[simp] def l_RTxCheck_74 (_ : Unit) : List EOp := [xM 0 86 5, xQ 1 87 (.bin .add (.t 86) (.k (.int .i64 1))), xM 2 5 87]
@[simp] def b_RTxCheck_75 (_ : Unit) : EB := reg0 (hid l_RTxCheck_74) 3
@[simp] def b_RTxCheck_76 (_ : Unit) : EB := .seq (hid b_RTxCheck_73) (hid b_RTxCheck_75)
@[simp] def b_RTxCheck_77 (_ : Unit) : EB := .seq (hid b_RTxCheck_49) (hid b_RTxCheck_76)
@[simp] def b_RTxCheck_78 (_ : Unit) : EB := .loop (hid b_RTxCheck_77)
@[simp] def b_RTxCheck_79 (_ : Unit) : EB := .block 2 (hid b_RTxCheck_78)
@[simp] def b_RTxCheck_80 (_ : Unit) : EB := .seq (hid b_RTxCheck_45) (hid b_RTxCheck_79)
@[simp] def l_RTxCheck_81 (_ : Unit) : List EOp := [xQ 0 7 (.mov (.k (.int .i64 0)))]
@[simp] def b_RTxCheck_82 (_ : Unit) : EB := reg0 (hid l_RTxCheck_81) 1
@[simp] def l_RTxCheck_83 (_ : Unit) : List EOp := [xM 0 106 7, xQ 1 107 (.fad 2 (.t 1)), xQ 2 108 (.ldc (.t 107)), xQ 3 109 (.len (.t 108)), xQ 4 110 (.bin .lss (.t 106) (.t 109))]
@[simp] def b_RTxCheck_84 (_ : Unit) : EB := reg0 (hid l_RTxCheck_83) 5
@[simp] def b_RTxCheck_85 (_ : Unit) : EB := .cond (.t 110) .skip (.exit 6)
@[simp] def b_RTxCheck_86 (_ : Unit) : EB := .seq (hid b_RTxCheck_84) (hid b_RTxCheck_85)
@[simp] def l_RTxCheck_88 (_ : Unit) : List EOp := [xQ 6 119 (.bin .lss (.t 118) (.k (.int .i64 10)))]
@[simp] def l_RTxCheck_87 (_ : Unit) : List EOp := xQ 0 113 (.fad 2 (.t 1)) :: xQ 1 114 (.ldc (.t 113)) :: xM 2 115 7 :: xQ 3 116 (.isl 2 (.t 114) (.t 115)) :: xQ 4 117 (.fad 0 (.t 116)) :: xQ 5 118 (.ldc (.t 117)) :: hid l_RTxCheck_88
@[simp] def b_RTxCheck_89 (_ : Unit) : EB := reg0 (hid l_RTxCheck_87) 7
@[simp] def l_RTxCheck_90 (_ : Unit) : List EOp := [xQ 0 2 (.mov (.k (.int .i64 27)))]
@[simp] def b_RTxCheck_91 (_ : Unit) : EB := reg0 (hid l_RTxCheck_90) 1
@[simp] def b_RTxCheck_92 (_ : Unit) : EB := .seq (hid b_RTxCheck_91) .ret
@[simp] def b_RTxCheck_93 (_ : Unit) : EB := .cond (.t 119) (hid b_RTxCheck_92) .skip
@[simp] def b_RTxCheck_94 (_ : Unit) : EB := .seq (hid b_RTxCheck_89) (hid b_RTxCheck_93)
@[simp] def l_RTxCheck_96 (_ : Unit) : List EOp := [xQ 6 126 (.bin .gtr (.t 125) (.k (.int .i64 1125899906842624)))]
@[simp] def l_RTxCheck_95 (_ : Unit) : List EOp := xQ 0 120 (.fad 2 (.t 1)) :: xQ 1 121 (.ldc (.t 120)) :: xM 2 122 7 :: xQ 3 123 (.isl 2 (.t 121) (.t 122)) :: xQ 4 124 (.fad 0 (.t 123)) :: xQ 5 125 (.ldc (.t 124)) :: hid l_RTxCheck_96
@[simp] def b_RTxCheck_97 (_ : Unit) : EB := reg0 (hid l_RTxCheck_95) 7
@[simp] def l_RTxCheck_98 (_ : Unit) : List EOp := [xQ 0 2 (.mov (.k (.int .i64 5)))]
@[simp] def b_RTxCheck_99 (_ : Unit) : EB := reg0 (hid l_RTxCheck_98) 1
@[simp] def b_RTxCheck_100 (_ : Unit) : EB := .seq (hid b_RTxCheck_99) .ret
@[simp] def b_RTxCheck_101 (_ : Unit) : EB := .cond (.t 126) (hid b_RTxCheck_100) .skip
@[simp] def b_RTxCheck_102 (_ : Unit) : EB := .seq (hid b_RTxCheck_97) (hid b_RTxCheck_101)
@[simp] def l_RTxCheck_104 (_ : Unit) : List EOp := [xO 6 133 (.call 146 [(.t 132)]), xM 7 8 133]
@[simp] def l_RTxCheck_103 (_ : Unit) : List EOp := xQ 0 127 (.fad 2 (.t 1)) :: xQ 1 128 (.ldc (.t 127)) :: xM 2 129 7 :: xQ 3 130 (.isl 2 (.t 128) (.t 129)) :: xQ 4 131 (.fad 1 (.t 130)) :: xQ 5 132 (.lda 1 (.t 131)) :: hid l_RTxCheck_104
@[simp] def b_RTxCheck_105 (_ : Unit) : EB := reg0 (hid l_RTxCheck_103) 8
@[simp] def l_RTxCheck_106 (_ : Unit) : List EOp := [xM 0 134 8, xQ 1 135 (.bin .neq (.t 134) (.k (.int .i64 0)))]
@[simp] def b_RTxCheck_107 (_ : Unit) : EB := reg0 (hid l_RTxCheck_106) 2
@[simp] def l_RTxCheck_108 (_ : Unit) : List EOp := [xM 0 136 8, xM 1 2 136]
@[simp] def b_RTxCheck_109 (_ : Unit) : EB := reg0 (hid l_RTxCheck_108) 2
@[simp] def b_RTxCheck_110 (_ : Unit) : EB := .seq (hid b_RTxCheck_109) .ret
@[simp] def b_RTxCheck_111 (_ : Unit) : EB := .cond (.t 135) (hid b_RTxCheck_110) .skip
@[simp] def b_RTxCheck_112 (_ : Unit) : EB := .seq (hid b_RTxCheck_107) (hid b_RTxCheck_111)
@[simp] def b_RTxCheck_113 (_ : Unit) : EB := .seq (hid b_RTxCheck_105) (hid b_RTxCheck_112)
@[simp] def b_RTxCheck_114 (_ : Unit) : EB := .seq (hid b_RTxCheck_102) (hid b_RTxCheck_113)
@[simp] def b_RTxCheck_115 (_ : Unit) : EB := .seq (hid b_RTxCheck_94) (hid b_RTxCheck_114)
@[simp] def b_RTxCheck_116 (_ : Unit) : EB := .block 7 (hid b_RTxCheck_115)
@[simp] def l_RTxCheck_117 (_ : Unit) : List EOp := [xM 0 111 7, xQ 1 112 (.bin .add (.t 111) (.k (.int .i64 1))), xM 2 7 112]
@[simp] def b_RTxCheck_118 (_ : Unit) : EB := reg0 (hid l_RTxCheck_117) 3
@[simp] def b_RTxCheck_119 (_ : Unit) : EB := .seq (hid b_RTxCheck_116) (hid b_RTxCheck_118)
@[simp] def b_RTxCheck_120 (_ : Unit) : EB := .seq (hid b_RTxCheck_86) (hid b_RTxCheck_119)
@[simp] def b_RTxCheck_121 (_ : Unit) : EB := .loop (hid b_RTxCheck_120)
@[simp] def b_RTxCheck_122 (_ : Unit) : EB := .block 6 (hid b_RTxCheck_121)
@[simp] def b_RTxCheck_123 (_ : Unit) : EB := .seq (hid b_RTxCheck_82) (hid b_RTxCheck_122)
@[simp] def l_RTxCheck_125 (_ : Unit) : List EOp := [xM 6 10 141]
@[simp] def l_RTxCheck_124 (_ : Unit) : List EOp := xQ 0 138 (.lda 3 (.t 1)) :: xO 1 139 (.call 106 [(.t 138)]) :: xM 2 137 139 :: xQ 3 140 (.ext 0 (.t 137)) :: xQ 4 141 (.ext 1 (.t 137)) :: xM 5 9 140 :: hid l_RTxCheck_125
@[simp] def b_RTxCheck_126 (_ : Unit) : EB := reg0 (hid l_RTxCheck_124) 7
@[simp] def l_RTxCheck_127 (_ : Unit) : List EOp := [xM 0 142 10, xM 1 2 142]
@[simp] def b_RTxCheck_128 (_ : Unit) : EB := reg0 (hid l_RTxCheck_127) 2
@[simp] def b_RTxCheck_129 (_ : Unit) : EB := .seq (hid b_RTxCheck_128) .ret
@[simp] def b_RTxCheck_130 (_ : Unit) : EB := .seq (hid b_RTxCheck_126) (hid b_RTxCheck_129)
@[simp] def b_RTxCheck_131 (_ : Unit) : EB := .seq (hid b_RTxCheck_123) (hid b_RTxCheck_130)
@[simp] def b_RTxCheck_132 (_ : Unit) : EB := .seq (hid b_RTxCheck_80) (hid b_RTxCheck_131)
@[simp] def b_RTxCheck_133 (_ : Unit) : EB := .seq (hid b_RTxCheck_43) (hid b_RTxCheck_132)
@[simp] def b_RTxCheck_134 (_ : Unit) : EB := .seq (hid b_RTxCheck_14) (hid b_RTxCheck_133)
@[simp] def b_RTxCheck_135 (_ : Unit) : EB := .seq (hid b_RTxCheck_2) (hid b_RTxCheck_134)
def c_RTxCheck : EB × List QOp × Nat := ((hid b_RTxCheck_135), [(.mov (.t 2))], 143)
theorem k_RTxCheck : cfun Tryz.prog 93 = some c_RTxCheck := by kernel_rfl
theorem drop35b (a b c : EC) : List.drop 35 (a :: (hc hz ++ [b, c])) = [] := by rw [List.drop_eq_nil_iff]; simp [hz]
def AllB (l : List Bra) (i : Nat) : Prop := (l.take i).all brM = true
theorem all_take {l : List Bra} {i : Nat} {b : Bra} (h : l[i]? = some b) (ht : AllB l i) (hb : brM b = true) : AllB l (i + 1) := by
  unfold AllB at *
  rw [List.take_add_one, h, List.all_append, ht]; simp [hb]
def AllI (l : List Inp) (i : Nat) : Prop := (l.take i).all inM = true
theorem alli_take {l : List Inp} {i : Nat} {b : Inp} (h : l[i]? = some b) (ht : AllI l i) (hb : inM b = true) : AllI l (i + 1) := by
  unfold AllI at *
  rw [List.take_add_one, h, List.all_append, ht]; simp [hb]
theorem cnE_bad {l : List Bra} {i : Nat} {b : Bra} (h : l[i]? = some b) (hb : brM b = false) : cnE l = 1 := by
  refine if_neg ?_
  rintro ⟨_, h2⟩
  have := (List.all_eq_true.1 h2) b (List.mem_of_getElem? h)
  rw [hb] at this
  simp at this
set_option maxHeartbeats 8000000 in
theorem RCCheck_ok (l : List Bra) (hl : ∀ h ∈ l, h.ok) (hn : l.length ≤ 100000000) : ECalls Tryz.prog 146 [CNv l] [] fun y H' => H' = [] ∧ y = I .i64 (cnE l) := by
  refine ecalls k_RCCheck ?_
  simp [c_RCCheck, CNv, I]
  by_cases c1 : l.length < 1
  · have c1' : (l.length : Int) < 1 := by omega
    have d1 : ¬ 1 ≤ l.length := by omega
    have d1' : ¬ (1 : Int) ≤ (l.length : Int) := by omega
    have hv : cnE l = 1 := if_neg (by omega)
    rw [hv]
    simp [c1, c1', d1, d1']
    exact fin [] (by decide) rfl rfl rfl ⟨rfl, rfl⟩
  have c1' : ¬ (l.length : Int) < 1 := by omega
  have d1 : 1 ≤ l.length := by omega
  have d1' : (1 : Int) ≤ (l.length : Int) := by omega
  by_cases c2 : 8 < l.length
  · have c2' : (8 : Int) < (l.length : Int) := by omega
    have d2 : ¬ l.length ≤ 8 := by omega
    have d2' : ¬ (l.length : Int) ≤ 8 := by omega
    have hv : cnE l = 1 := if_neg (by omega)
    rw [hv]
    simp [c1, c1', d1, d1', c2, c2', d2, d2']
    exact fin [] (by decide) rfl rfl rfl ⟨rfl, rfl⟩
  have c2' : ¬ (8 : Int) < (l.length : Int) := by omega
  have d2 : l.length ≤ 8 := by omega
  have d2' : (l.length : Int) ≤ 8 := by omega
  simp [c1, c1', d1, d1', c2, c2', d2, d2']
  refine eloop (α := Nat) (fun i => i ≤ l.length ∧ AllB l i) (fun i => l.length - i)
    (fun i => [.any, Ptr 0, .any, I .i64 i, .any, .any, .any, .any, .any, .any, .any, .any, .any, .any, .any, .any, .any, .any, .any, .any, .any, .any, .any, .any, .any, .any, .any, .any, .any, .any, .any, .any, .any, .any, .any, .any, .any, .any, .any, .any, .any, .any, .any, .any, .any, .any, .any, .any, .any, .any, .any, .any, .any, .any, .any, .any, .any, .any, .any, .any, .any, .any, .any, .any, .any, .any, .any, .any, .any, .any, .any, .any, .any, .any, .any, .any, .any, .any, .any, .any]) (fun _ => [some (.box 145 [.fz (.sl 35 (brav l))])]) 0 [0]
    ⟨by simp, by simp [AllB]⟩ (by simp [Ptr, I]) (by simp) (by simp) (by simp) (by simp) ?_
  rintro i ⟨hi1, hi2⟩
  simp [Ptr, I]
  refine alt (fun hlt => ?_) (fun hlt => ?_)
  rotate_left
  · have hil : i = l.length := by omega
    subst hil
    unfold AllB at hi2
    rw [List.take_length] at hi2
    have hv : cnE l = 0 := if_pos ⟨by omega, hi2⟩
    rw [hv]
    simp
    exact fin [] (by decide) rfl rfl rfl ⟨rfl, rfl⟩
  have hln : i < l.length := by omega
  obtain ⟨b, hcb⟩ : ∃ b, l[i]? = some b := ⟨l[i], by simp [hln]⟩
  have hge : (brav l)[i]'(by simp [hln]) = braF b := by
    have e := brav_get hcb
    rw [List.getElem?_eq_getElem (by simp [hln])] at e
    exact Option.some.inj e
  obtain ⟨hk, h1, ha, ho, h4⟩ := hl b (List.mem_of_getElem? hcb)
  have l0 := bc_len h1
  have l1 := bf_len h1
  have tk := bc_take h1
  have e0 := idx_of (bc_0 b) (by omega)
  have e33 := idx_of (bc_33 h1) (by omega)
  have e34 := idx_of (bc_34 h1) (by omega)
  simp [hln, hge, braF_fz, l0, l1, tk, drop35b, e0, e33, e34, iC]
  have hbad : ∀ q : ¬ (1 ≤ b.keys.length ∧ 0 ≤ b.af ∧ b.af ≤ 1099511627776 ∧ 0 ≤ b.ol ∧ b.ol ≤ 65536), cnE l = 1 := fun q => cnE_bad hcb (by unfold brM; rw [decide_eq_false q, Bool.and_false])
  by_cases c3 : b.keys.length < 1
  · have c3' : (b.keys.length : Int) < 1 := by omega
    have d3 : ¬ 1 ≤ b.keys.length := by omega
    have d3' : ¬ (1 : Int) ≤ (b.keys.length : Int) := by omega
    rw [hbad (by omega)]
    simp [c3, c3', d3, d3']
    exact fin [] (by decide) rfl rfl rfl ⟨rfl, rfl⟩
  have c3' : ¬ (b.keys.length : Int) < 1 := by omega
  have d3 : 1 ≤ b.keys.length := by omega
  have d3' : (1 : Int) ≤ (b.keys.length : Int) := by omega
  by_cases c4 : b.af < 0
  · have d4 : ¬ 0 ≤ b.af := by omega
    rw [hbad (by omega)]
    simp [c3, c3', d3, d3', c4, d4, l0, e33, e34, iC]
    exact fin [] (by decide) rfl rfl rfl ⟨rfl, rfl⟩
  have d4 : 0 ≤ b.af := by omega
  by_cases c5 : 1099511627776 < b.af
  · have d5 : ¬ b.af ≤ 1099511627776 := by omega
    rw [hbad (by omega)]
    simp [c3, c3', d3, d3', c4, d4, c5, d5, l0, e33, e34, iC]
    exact fin [] (by decide) rfl rfl rfl ⟨rfl, rfl⟩
  have d5 : b.af ≤ 1099511627776 := by omega
  by_cases c6 : b.ol < 0
  · have d6 : ¬ 0 ≤ b.ol := by omega
    rw [hbad (by omega)]
    simp [c3, c3', d3, d3', c4, d4, c5, d5, c6, d6, l0, e33, e34, iC]
    exact fin [] (by decide) rfl rfl rfl ⟨rfl, rfl⟩
  have d6 : 0 ≤ b.ol := by omega
  by_cases c7 : 65536 < b.ol
  · have d7 : ¬ b.ol ≤ 65536 := by omega
    rw [hbad (by omega)]
    simp [c3, c3', d3, d3', c4, d4, c5, d5, c6, d6, c7, d7, l0, e33, e34, iC]
    exact fin [] (by decide) rfl rfl rfl ⟨rfl, rfl⟩
  have d7 : b.ol ≤ 65536 := by omega
  simp [c3, c3', d3, d3', c4, d4, c5, d5, c6, d6, c7, d7, l0, e33, e34, iC]
  refine eloop (α := Nat × Int) (fun a => a.1 ≤ b.keys.length ∧ keysS (-1) b.keys = keysS a.2 (b.keys.drop a.1)) (fun a => b.keys.length - a.1)
    (fun a => [.any, Ptr 0, .any, I .i64 i, Ptr 1, I .i64 a.2, I .i64 a.1, .any, .any, .any, .any, .any, .any, .any, .any, .any, .any, .any, .any, .any, .any, .any, .any, .any, .any, .any, .any, .any, .any, .any, .any, .any, .any, .any, .any, .any, .any, .any, .any, .any, .any, .any, .any, .any, .any, .any, .any, .any, .any, .any, .any, .any, .any, .any, .any, .any, .any, .any, .any, .any, .any, .any, .any, .any, .any, .any, .any, .any, .any, .any, .any, .any, .any, .any, .any, .any, .any, .any, .any, .any]) (fun _ => [some (.box 145 [.fz (.sl 35 (brav l))]), some (.box 150 (braC b))]) (0, -1) [0, 161]
    ⟨by simp, by simp⟩ (by simp [Ptr, I]) (by simp) (by simp) (by simp) (by simp) ?_
  rintro ⟨j, last⟩ ⟨hj1, hj2⟩
  dsimp only at hj1 hj2
  simp [Ptr, I, l0, e0]
  refine alt (fun hlt2 => ?_) (fun hlt2 => ?_)
  · have hjn : j < b.keys.length := by omega
    obtain ⟨k, hck⟩ : ∃ k, b.keys[j]? = some k := ⟨b.keys[j], by simp [hjn]⟩
    have ga : ∀ h2, (intv b.keys)[j]'h2 = [.lit (.int .i64 k)] := fun h2 => by rw [intv_at hjn, hck]; rfl
    rw [drop_cons hck] at hj2
    have w1 : IntKind.i64.wrap ((j : Int) + 1) = ((j + 1 : Nat) : Int) := wrap_i64 (by omega) (by omega)
    have hbk : ¬ (last < k ∧ k < 16) → cnE l = 1 := fun q => cnE_bad hcb (by unfold brM; rw [hj2]; simp only [keysS, decide_eq_false q, Bool.false_and])
    simp [hjn, ga, l0, e0]
    by_cases g1 : k ≤ last
    · have g1' : ¬ last < k := by omega
      rw [hbk (by omega)]
      simp [g1, g1']
      exact fin [] (by decide) rfl rfl rfl ⟨rfl, rfl⟩
    have g1' : last < k := by omega
    by_cases g2 : 15 < k
    · have g2' : ¬ k ≤ 15 := by omega
      rw [hbk (by omega)]
      simp [g1, g1', g2, g2', hjn, ga, l0, e0]
      exact fin [] (by decide) rfl rfl rfl ⟨rfl, rfl⟩
    have g2' : k ≤ 15 := by omega
    simp [g1, g1', g2, g2', hjn, ga, l0, e0, w1, -Int.natCast_add]
    exact round (j + 1, k) [0, 1] ⟨by dsimp only; omega, by dsimp only; rw [hj2, keysS, decide_eq_true ⟨g1', by omega⟩, Bool.true_and]⟩ (by dsimp only; omega) (by simp [Ptr, I]) (by simp) (by simp) (by simp) (by simp)
  · have hd : b.keys.drop j = [] := by rw [List.drop_eq_nil_iff]; omega
    have hks : keysS (-1) b.keys = true := by rw [hj2, hd]; rfl
    have hbm : brM b = true := by unfold brM; rw [hks, Bool.true_and]; exact decide_eq_true ⟨d3, d4, d5, d6, d7⟩
    have w1 : IntKind.i64.wrap ((i : Int) + 1) = ((i + 1 : Nat) : Int) := wrap_i64 (by omega) (by omega)
    simp [w1, -Int.natCast_add]
    exact round (i + 1) [0] ⟨by omega, all_take hcb hi2 hbm⟩ (by omega) (by simp [Ptr, I]) (by simp) (by simp) (by simp) (by simp)
set_option maxHeartbeats 4000000 in
theorem RTxTotal_ok (t : Txn) (ht : t.ok) : ECalls Tryz.prog 106 [TXv t] [] fun y H' => H' = [] ∧ y = .tup [.c (iC (totO 0 t.outs).1), .c (iC ((totO 0 t.outs).2 : Int))] := by
  obtain ⟨h1, h2, h3, h4, h5⟩ := ht
  obtain ⟨F, hF⟩ : ∃ F, totO 0 t.outs = F := ⟨_, rfl⟩
  rw [hF]
  refine ecalls k_RTxTotal ?_
  simp [c_RTxTotal, TXv, txC, I, iC]
  refine eloop (α := Nat × Int) (fun a => a.1 ≤ t.outs.length ∧ totO a.2 (t.outs.drop a.1) = F ∧ 0 ≤ a.2 ∧ a.2 ≤ 1125899906842624) (fun a => t.outs.length - a.1)
    (fun a => [.any, Ptr 0, .any, .any, I .i64 a.2, I .i64 a.1, .any, .any, .any, .any, .any, .any, .any, .any, .any, .any, .any, .any, .any, .any, .any, .any, .any, .any, .any, .any, .any, .any, .any, .any, .any, .any, .any, .any, .any, .any]) (fun _ => [some (.box 69 (txC t))]) (0, 0) [0]
    ⟨by simp, by simpa using hF, by simp, by simp⟩ (by simp [I, Ptr]) (by simp [txC, iC]) (by simp) (by simp) (by simp) ?_
  rintro ⟨i, n⟩ ⟨hi1, hi2, hi3, hi4⟩
  dsimp only at hi1 hi2 hi3 hi4
  simp [I, Ptr, txC, iC]
  refine alt (fun hlt => ?_) (fun hlt => ?_)
  · have hln : i < t.outs.length := by omega
    obtain ⟨p, hc⟩ : ∃ p, t.outs[i]? = some p := ⟨t.outs[i], by simp [hln]⟩
    have hge : (outv t.outs)[i]'(by simp [hln]) = outF p := by
      have e := outv_get hc
      rw [List.getElem?_eq_getElem (by simp [hln])] at e
      exact Option.some.inj e
    have hpo := h3 p (List.mem_of_getElem? hc)
    have hpa := hpo.1
    unfold i64 at hpa
    rw [drop_cons hc] at hi2
    have w1 : IntKind.i64.wrap ((i : Int) + 1) = ((i + 1 : Nat) : Int) := wrap_i64 (by omega) (by omega)
    simp [hln, hge, outF, iF]
    by_cases c1 : p.am < 0
    · have c1' : ¬ 0 ≤ p.am := by omega
      have hv : F = (0, 5) := by rw [← hi2]; exact if_pos (.inl c1)
      rw [hv]
      simp [c1, c1']
      exact fin [] (by decide) rfl rfl rfl ⟨rfl, rfl⟩
    have c1' : 0 ≤ p.am := by omega
    by_cases c3 : 1125899906842624 < p.am
    · have c3' : ¬ p.am ≤ 1125899906842624 := by omega
      have hv : F = (0, 5) := by rw [← hi2]; exact if_pos (.inr (by omega))
      rw [hv]
      simp [c1, c1', c3, c3']
      exact fin [] (by decide) rfl rfl rfl ⟨rfl, rfl⟩
    have c3' : p.am ≤ 1125899906842624 := by omega
    have w3 : IntKind.i64.wrap (n + p.am) = n + p.am := wrap_i64 (by omega) (by omega)
    by_cases c2 : 1125899906842624 < n + p.am
    · have c2' : ¬ n + p.am ≤ 1125899906842624 := by omega
      have hv : F = (0, 5) := by rw [← hi2]; exact if_pos (.inr (by omega))
      rw [hv]
      simp [c1, c1', c3, c3', w3, c2, c2']
      exact fin [] (by decide) rfl rfl rfl ⟨rfl, rfl⟩
    have c2' : n + p.am ≤ 1125899906842624 := by omega
    have hn : totO (n + p.am) (t.outs.drop (i + 1)) = F := by rw [← hi2]; exact (if_neg (by omega)).symm
    simp [c1, c1', c3, c3', c2, c2', w3, w1, -Int.natCast_add]
    exact round (i + 1, n + p.am) [0] ⟨by dsimp only; omega, hn, by dsimp only; omega, by dsimp only; omega⟩ (by dsimp only; omega) (by simp [I, Ptr]) (by simp) (by simp) (by simp) (by simp)
  · have hd : t.outs.drop i = [] := by rw [List.drop_eq_nil_iff]; omega
    rw [hd] at hi2
    rw [← hi2]
    simp
    exact fin [] (by decide) rfl rfl rfl ⟨rfl, rfl⟩
set_option maxHeartbeats 16000000 in
theorem RTxCheck_ok (t : Txn) (ht : t.ok) : ECalls Tryz.prog 93 [TXv t] [] fun y H' => H' = [] ∧ y = I .i64 (chkT t) := by
  obtain ⟨h1, h2, h3, h4, h5⟩ := id ht
  have hv4 : (t.lk < 0 ∨ 1099511627776 < t.lk ∨ ¬ (1 ≤ t.ins.length ∧ t.ins.length ≤ 64) ∨ ¬ (1 ≤ t.outs.length ∧ t.outs.length ≤ 64) ∨ t.ins.all inM = false) → chkT t = 4 := fun h => if_pos h
  refine ecalls k_RTxCheck ?_
  simp [c_RTxCheck, TXv, txC, I, iC]
  by_cases c1 : t.lk < 0
  · have c1' : ¬ 0 ≤ t.lk := by omega
    rw [hv4 (.inl c1)]
    simp [c1, c1']
    exact fin [] (by decide) rfl rfl rfl ⟨rfl, rfl⟩
  have c1' : 0 ≤ t.lk := by omega
  by_cases c2 : 1099511627776 < t.lk
  · have c2' : ¬ t.lk ≤ 1099511627776 := by omega
    rw [hv4 (.inr (.inl c2))]
    simp [c1, c1', c2, c2']
    exact fin [] (by decide) rfl rfl rfl ⟨rfl, rfl⟩
  have c2' : t.lk ≤ 1099511627776 := by omega
  by_cases c3 : t.ins.length < 1
  · have c3' : (t.ins.length : Int) < 1 := by omega
    have d3 : ¬ 1 ≤ t.ins.length := by omega
    have d3' : ¬ (1 : Int) ≤ (t.ins.length : Int) := by omega
    rw [hv4 (.inr (.inr (.inl (by omega))))]
    simp [c1, c1', c2, c2', c3, c3', d3, d3']
    exact fin [] (by decide) rfl rfl rfl ⟨rfl, rfl⟩
  have c3' : ¬ (t.ins.length : Int) < 1 := by omega
  have d3 : 1 ≤ t.ins.length := by omega
  have d3' : (1 : Int) ≤ (t.ins.length : Int) := by omega
  by_cases c4 : 64 < t.ins.length
  · have c4' : (64 : Int) < (t.ins.length : Int) := by omega
    have d4 : ¬ t.ins.length ≤ 64 := by omega
    have d4' : ¬ (t.ins.length : Int) ≤ 64 := by omega
    rw [hv4 (.inr (.inr (.inl (by omega))))]
    simp [c1, c1', c2, c2', c3, c3', d3, d3', c4, c4', d4, d4']
    exact fin [] (by decide) rfl rfl rfl ⟨rfl, rfl⟩
  have c4' : ¬ (64 : Int) < (t.ins.length : Int) := by omega
  have d4 : t.ins.length ≤ 64 := by omega
  have d4' : (t.ins.length : Int) ≤ 64 := by omega
  by_cases c5 : t.outs.length < 1
  · have c5' : (t.outs.length : Int) < 1 := by omega
    have d5 : ¬ 1 ≤ t.outs.length := by omega
    have d5' : ¬ (1 : Int) ≤ (t.outs.length : Int) := by omega
    rw [hv4 (.inr (.inr (.inr (.inl (by omega)))))]
    simp [c1, c1', c2, c2', c3, c3', d3, d3', c4, c4', d4, d4', c5, c5', d5, d5']
    exact fin [] (by decide) rfl rfl rfl ⟨rfl, rfl⟩
  have c5' : ¬ (t.outs.length : Int) < 1 := by omega
  have d5 : 1 ≤ t.outs.length := by omega
  have d5' : (1 : Int) ≤ (t.outs.length : Int) := by omega
  by_cases c6 : 64 < t.outs.length
  · have c6' : (64 : Int) < (t.outs.length : Int) := by omega
    have d6 : ¬ t.outs.length ≤ 64 := by omega
    have d6' : ¬ (t.outs.length : Int) ≤ 64 := by omega
    rw [hv4 (.inr (.inr (.inr (.inl (by omega)))))]
    simp [c1, c1', c2, c2', c3, c3', d3, d3', c4, c4', d4, d4', c5, c5', d5, d5', c6, c6', d6, d6']
    exact fin [] (by decide) rfl rfl rfl ⟨rfl, rfl⟩
  have c6' : ¬ (64 : Int) < (t.outs.length : Int) := by omega
  have d6 : t.outs.length ≤ 64 := by omega
  have d6' : (t.outs.length : Int) ≤ 64 := by omega
  simp [c1, c1', c2, c2', c3, c3', d3, d3', c4, c4', d4, d4', c5, c5', d5, d5', c6, c6', d6, d6']
  refine eloop (α := Nat) (fun i => i ≤ t.ins.length ∧ AllI t.ins i) (fun i => t.ins.length - i)
    (fun i => [.any, Ptr 0, .any, I .i64 i, .any, .any, .any, .any, .any, .any, .any, .any, .any, .any, .any, .any, .any, .any, .any, .any, .any, .any, .any, .any, .any, .any, .any, .any, .any, .any, .any, .any, .any, .any, .any, .any, .any, .any, .any, .any, .any, .any, .any, .any, .any, .any, .any, .any, .any, .any, .any, .any, .any, .any, .any, .any, .any, .any, .any, .any, .any, .any, .any, .any, .any, .any, .any, .any, .any, .any, .any, .any, .any, .any, .any, .any, .any, .any, .any, .any, .any, .any, .any, .any, .any, .any, .any, .any, .any, .any, .any, .any, .any, .any, .any, .any, .any, .any, .any, .any, .any, .any, .any, .any, .any, .any, .any, .any, .any, .any, .any, .any, .any, .any, .any, .any, .any, .any, .any, .any, .any, .any, .any, .any, .any, .any, .any, .any, .any, .any, .any, .any, .any, .any, .any, .any, .any, .any, .any, .any, .any, .any, .any]) (fun _ => [some (.box 69 (txC t))]) 0 [0]
    ⟨by simp, by simp [AllI]⟩ (by simp [Ptr, I]) (by simp [txC, iC]) (by simp) (by simp) (by simp) ?_
  rintro i ⟨hi1, hi2⟩
  simp [Ptr, I, txC, iC]
  refine alt (fun hlt => ?_) (fun hlt => ?_)
  · have hln : i < t.ins.length := by omega
    obtain ⟨p, hcp⟩ : ∃ p, t.ins[i]? = some p := ⟨t.ins[i], by simp [hln]⟩
    have hge : (inpv t.ins)[i]'(by simp [hln]) = inpF p := by
      have e := inpv_get hcp
      rw [List.getElem?_eq_getElem (by simp [hln])] at e
      exact Option.some.inj e
    have hpo := h2 p (List.mem_of_getElem? hcp)
    have l0 := ic_len hpo.1
    have l1 := if_len hpo.1
    have tk := ic_take hpo.1
    have e32 := idx_of (ic_32 hpo.1) (by omega)
    have e33 := idx_of (ic_33 hpo.1) (by omega)
    have e34 := idx_of (ic_34 hpo.1) (by omega)
    have w1 : IntKind.i64.wrap ((i : Int) + 1) = ((i + 1 : Nat) : Int) := wrap_i64 (by omega) (by omega)
    have hb : (bsv p.sec).length = p.sec.length := by simp
    have hbad : ¬ (0 ≤ p.n ∧ p.n < 64 ∧ 0 ≤ p.br ∧ p.br < 8 ∧ p.sec.length ≤ 64) → chkT t = 4 := fun q => hv4 (.inr (.inr (.inr (.inr (by rw [List.all_eq_false]; exact ⟨p, List.mem_of_getElem? hcp, by unfold inM; rw [decide_eq_false q]; simp⟩)))))
    simp [hln, hge, inpF_fz, l0, l1, tk, drop35i, e32, e33, e34, iC]
    by_cases g1 : p.n < 0
    · have g1' : ¬ 0 ≤ p.n := by omega
      rw [hbad (by omega)]
      simp [g1, g1']
      exact fin [] (by decide) rfl rfl rfl ⟨rfl, rfl⟩
    have g1' : 0 ≤ p.n := by omega
    by_cases g2 : 63 < p.n
    · have g2' : ¬ p.n ≤ 63 := by omega
      rw [hbad (by omega)]
      simp [g1, g1', g2, g2', l0, e32, e33, e34, iC]
      exact fin [] (by decide) rfl rfl rfl ⟨rfl, rfl⟩
    have g2' : p.n ≤ 63 := by omega
    by_cases g3 : p.br < 0
    · have g3' : ¬ 0 ≤ p.br := by omega
      rw [hbad (by omega)]
      simp [g1, g1', g2, g2', g3, g3', l0, e32, e33, e34, iC]
      exact fin [] (by decide) rfl rfl rfl ⟨rfl, rfl⟩
    have g3' : 0 ≤ p.br := by omega
    by_cases g4 : 7 < p.br
    · have g4' : ¬ p.br ≤ 7 := by omega
      rw [hbad (by omega)]
      simp [g1, g1', g2, g2', g3, g3', g4, g4', l0, e32, e33, e34, iC]
      exact fin [] (by decide) rfl rfl rfl ⟨rfl, rfl⟩
    have g4' : p.br ≤ 7 := by omega
    by_cases g5 : 64 < p.sec.length
    · have g5' : (64 : Int) < (p.sec.length : Int) := by omega
      have k5 : ¬ p.sec.length ≤ 64 := by omega
      have k5' : ¬ (p.sec.length : Int) ≤ 64 := by omega
      rw [hbad (by omega)]
      simp [g1, g1', g2, g2', g3, g3', g4, g4', g5, g5', k5, k5', hb, l0, e32, e33, e34, iC]
      exact fin [] (by decide) rfl rfl rfl ⟨rfl, rfl⟩
    have g5' : ¬ (64 : Int) < (p.sec.length : Int) := by omega
    have k5 : p.sec.length ≤ 64 := by omega
    have k5' : (p.sec.length : Int) ≤ 64 := by omega
    have hgd : inM p = true := decide_eq_true ⟨by omega, by omega, by omega, by omega, by omega⟩
    simp [g1, g1', g2, g2', g3, g3', g4, g4', g5, g5', k5, k5', hb, l0, e32, e33, e34, iC, w1, -Int.natCast_add]
    exact round (i + 1) [0] ⟨by omega, alli_take hcp hi2 hgd⟩ (by omega) (by simp [Ptr, I]) (by simp) (by simp) (by simp) (by simp)
  have hil : i = t.ins.length := by omega
  subst hil
  unfold AllI at hi2
  rw [List.take_length] at hi2
  have hv9 : chkT t = if ¬ (t.ins.map ptI).Nodup then 9 else if outsE t.outs ≠ 0 then outsE t.outs else (totO 0 t.outs).2 := by
    unfold chkT
    rw [if_neg]
    rintro (h | h | h | h | h)
    · exact c1 h
    · exact c2 h
    · omega
    · omega
    · rw [hi2] at h; simp at h
  clear hi1 hlt
  simp
  refine eloop (α := Nat) (fun i => i ≤ t.ins.length ∧ ((t.ins.take i).map ptI).Nodup) (fun i => t.ins.length - i)
    (fun i => [.any, Ptr 0, .any, .any, .any, I .i64 i, .any, .any, .any, .any, .any, .any, .any, .any, .any, .any, .any, .any, .any, .any, .any, .any, .any, .any, .any, .any, .any, .any, .any, .any, .any, .any, .any, .any, .any, .any, .any, .any, .any, .any, .any, .any, .any, .any, .any, .any, .any, .any, .any, .any, .any, .any, .any, .any, .any, .any, .any, .any, .any, .any, .any, .any, .any, .any, .any, .any, .any, .any, .any, .any, .any, .any, .any, .any, .any, .any, .any, .any, .any, .any, .any, .any, .any, .any, .any, .any, .any, .any, .any, .any, .any, .any, .any, .any, .any, .any, .any, .any, .any, .any, .any, .any, .any, .any, .any, .any, .any, .any, .any, .any, .any, .any, .any, .any, .any, .any, .any, .any, .any, .any, .any, .any, .any, .any, .any, .any, .any, .any, .any, .any, .any, .any, .any, .any, .any, .any, .any, .any, .any, .any, .any, .any, .any]) (fun _ => [some (.box 69 (txC t))]) 0 [0]
    ⟨by simp, by simp⟩ (by simp [Ptr, I]) (by simp [txC, iC]) (by simp) (by simp) (by simp) ?_
  rintro i ⟨hi1, hn1⟩
  simp [Ptr, I, txC, iC]
  refine alt (fun hlt => ?_) (fun hlt => ?_)
  · have hln : i < t.ins.length := by omega
    obtain ⟨p, hcp⟩ : ∃ p, t.ins[i]? = some p := ⟨t.ins[i], by simp [hln]⟩
    have hge : (inpv t.ins)[i]'(by simp [hln]) = inpF p := by
      have e := inpv_get hcp
      rw [List.getElem?_eq_getElem (by simp [hln])] at e
      exact Option.some.inj e
    have hpo := h2 p (List.mem_of_getElem? hcp)
    simp
    refine eloop (α := Nat) (fun k => k ≤ i ∧ ∀ (j : Nat) (x : Inp), j < k → t.ins[j]? = some x → ptI p ≠ ptI x) (fun k => i - k)
      (fun k => [.any, Ptr 0, .any, .any, .any, I .i64 i, I .i64 k, .any, .any, .any, .any, .any, .any, .any, .any, .any, .any, .any, .any, .any, .any, .any, .any, .any, .any, .any, .any, .any, .any, .any, .any, .any, .any, .any, .any, .any, .any, .any, .any, .any, .any, .any, .any, .any, .any, .any, .any, .any, .any, .any, .any, .any, .any, .any, .any, .any, .any, .any, .any, .any, .any, .any, .any, .any, .any, .any, .any, .any, .any, .any, .any, .any, .any, .any, .any, .any, .any, .any, .any, .any, .any, .any, .any, .any, .any, .any, .any, .any, .any, .any, .any, .any, .any, .any, .any, .any, .any, .any, .any, .any, .any, .any, .any, .any, .any, .any, .any, .any, .any, .any, .any, .any, .any, .any, .any, .any, .any, .any, .any, .any, .any, .any, .any, .any, .any, .any, .any, .any, .any, .any, .any, .any, .any, .any, .any, .any, .any, .any, .any, .any, .any, .any, .any]) (fun _ => [some (.box 69 (txC t))]) 0 [0]
      ⟨by simp, by intro j x h; omega⟩ (by simp [Ptr, I]) (by simp [txC, iC]) (by simp) (by simp) (by simp) ?_
    rintro k ⟨hk1, hk2⟩
    simp [Ptr, I, txC, iC]
    refine alt (fun hlk => ?_) (fun hlk => ?_)
    · have hkn : k < t.ins.length := by omega
      obtain ⟨q, hcq⟩ : ∃ q, t.ins[k]? = some q := ⟨t.ins[k], by simp [hkn]⟩
      have hgq : (inpv t.ins)[k]'(by simp [hkn]) = inpF q := by
        have e := inpv_get hcq
        rw [List.getElem?_eq_getElem (by simp [hkn])] at e
        exact Option.some.inj e
      have hqo := h2 q (List.mem_of_getElem? hcq)
      have lp := ic_len hpo.1
      have lq := ic_len hqo.1
      have fp := if_len hpo.1
      have fq := if_len hqo.1
      have pp := ic_pt hpo.1
      have pq := ic_pt hqo.1
      have kp := litK_pt hpo
      have kq := litK_pt hqo
      have kp' : litK (unrle [(32, .u8), (1, .i64)]) (hc p.tx ++ [EC.fz (FV.lit (Value.int IntKind.i64 p.n))]) = some (ptI p) := kp
      have kq' : litK (unrle [(32, .u8), (1, .i64)]) (hc q.tx ++ [EC.fz (FV.lit (Value.int IntKind.i64 q.n))]) = some (ptI q) := kq
      have w1 : IntKind.i64.wrap ((k : Int) + 1) = ((k + 1 : Nat) : Int) := wrap_i64 (by omega) (by omega)
      simp [hln, hkn, hge, hgq, inpF_fz, lp, lq, fp, fq, pp, pq, iC, kp', kq']
      refine alt (fun he => ?_) (fun he => ?_)
      · have hnd : ¬ (t.ins.map ptI).Nodup := by
          intro h
          have := (List.pairwise_iff_getElem.1 h) k i (by simp; omega) (by simp; omega) (by omega)
          simp only [List.getElem_map] at this
          have e1 : t.ins[k] = q := by rw [List.getElem?_eq_getElem hkn] at hcq; exact Option.some.inj hcq
          have e2 : t.ins[i] = p := by rw [List.getElem?_eq_getElem hln] at hcp; exact Option.some.inj hcp
          rw [e1, e2] at this
          exact this he.symm
        rw [hv9, if_pos hnd]
        simp
        exact fin [] (by decide) rfl rfl rfl ⟨rfl, rfl⟩
      · simp [w1, -Int.natCast_add]
        refine round (k + 1) [0] ⟨by omega, ?_⟩ (by omega) (by simp [Ptr, I]) (by simp) (by simp) (by simp) (by simp)
        intro j x hj hx
        rcases Nat.lt_or_ge j k with g | g
        · exact hk2 j x g hx
        · obtain rfl : j = k := by omega
          rw [hcq] at hx
          obtain rfl := Option.some.inj hx
          exact he
    · have hki : k = i := by omega
      subst hki
      have w1 : IntKind.i64.wrap ((k : Int) + 1) = ((k + 1 : Nat) : Int) := wrap_i64 (by omega) (by omega)
      have hn2 : ((t.ins.take (k + 1)).map ptI).Nodup := by
        rw [take_s hcp, List.map_append, List.map_singleton, List.nodup_append]
        refine ⟨hn1, by simp, ?_⟩
        intro a ha b hb
        simp at hb; subst hb
        obtain ⟨x, hx, rfl⟩ := List.mem_map.1 ha
        obtain ⟨j, hj⟩ := List.getElem?_of_mem hx
        rw [List.getElem?_take] at hj
        split at hj
        · rename_i hjk
          exact fun e => hk2 j x hjk hj e.symm
        · simp at hj
      simp [w1, -Int.natCast_add]
      exact round (k + 1) [0] ⟨by omega, by rw [← List.map_take]; exact hn2⟩ (by omega) (by simp [Ptr, I]) (by simp) (by simp) (by simp) (by simp)
  have hil : i = t.ins.length := by omega
  subst hil
  rw [List.take_length] at hn1
  rw [hv9, if_neg (by simpa using hn1)]
  obtain ⟨V, hV⟩ : ∃ V, (if outsE t.outs ≠ 0 then outsE t.outs else (totO 0 t.outs).2) = V := ⟨_, rfl⟩
  rw [hV]
  clear hi1 hlt
  simp
  refine eloop (α := Nat) (fun i => i ≤ t.outs.length ∧ outsE t.outs = outsE (t.outs.drop i)) (fun i => t.outs.length - i)
    (fun i => [.any, Ptr 0, .any, .any, .any, .any, .any, I .i64 i, .any, .any, .any, .any, .any, .any, .any, .any, .any, .any, .any, .any, .any, .any, .any, .any, .any, .any, .any, .any, .any, .any, .any, .any, .any, .any, .any, .any, .any, .any, .any, .any, .any, .any, .any, .any, .any, .any, .any, .any, .any, .any, .any, .any, .any, .any, .any, .any, .any, .any, .any, .any, .any, .any, .any, .any, .any, .any, .any, .any, .any, .any, .any, .any, .any, .any, .any, .any, .any, .any, .any, .any, .any, .any, .any, .any, .any, .any, .any, .any, .any, .any, .any, .any, .any, .any, .any, .any, .any, .any, .any, .any, .any, .any, .any, .any, .any, .any, .any, .any, .any, .any, .any, .any, .any, .any, .any, .any, .any, .any, .any, .any, .any, .any, .any, .any, .any, .any, .any, .any, .any, .any, .any, .any, .any, .any, .any, .any, .any, .any, .any, .any, .any, .any, .any]) (fun _ => [some (.box 69 (txC t))]) 0 [0]
    ⟨by simp, by simp⟩ (by simp [I, Ptr]) (by simp [txC, iC]) (by simp) (by simp) (by simp) ?_
  rintro i ⟨hi1, hi2'⟩
  simp [I, Ptr, txC, iC]
  refine alt (fun hlt => ?_) (fun hlt => ?_)
  · have hln : i < t.outs.length := by omega
    obtain ⟨p, hcp⟩ : ∃ p, t.outs[i]? = some p := ⟨t.outs[i], by simp [hln]⟩
    have hge : (outv t.outs)[i]'(by simp [hln]) = outF p := by
      have e := outv_get hcp
      rw [List.getElem?_eq_getElem (by simp [hln])] at e
      exact Option.some.inj e
    have hpo := h3 p (List.mem_of_getElem? hcp)
    rw [drop_cons hcp] at hi2'
    have w1 : IntKind.i64.wrap ((i : Int) + 1) = ((i + 1 : Nat) : Int) := wrap_i64 (by omega) (by omega)
    have hbad : ouE p ≠ 0 → V = ouE p := fun q => by
      have hn : outsE t.outs = ouE p := by rw [hi2']; exact if_pos q
      rw [← hV, if_pos (by rw [hn]; exact q), hn]
    simp [hln, hge, outF, iF]
    by_cases g1 : p.am < 10
    · have g1' : ¬ 10 ≤ p.am := by omega
      have hou : ouE p = 27 := if_pos g1
      rw [hbad (by omega), hou]
      simp [g1, g1']
      exact fin [] (by decide) rfl rfl rfl ⟨rfl, rfl⟩
    have g1' : 10 ≤ p.am := by omega
    by_cases g2 : 1125899906842624 < p.am
    · have g2' : ¬ p.am ≤ 1125899906842624 := by omega
      have hou : ouE p = 5 := by unfold ouE; rw [if_neg g1, if_pos g2]
      rw [hbad (by omega), hou]
      simp [g1, g1', g2, g2', hln, hge, outF, iF]
      exact fin [] (by decide) rfl rfl rfl ⟨rfl, rfl⟩
    have g2' : p.am ≤ 1125899906842624 := by omega
    have hou : ouE p = cnE p.cs := by unfold ouE; rw [if_neg g1, if_neg g2]
    simp [g1, g1', g2, g2', hln, hge, outF, iF]
    refine call0 (RCCheck_ok p.cs hpo.2.1 hpo.2.2) (by simp [CNv]) ?_
    rintro y H' ⟨rfl, rfl⟩
    refine ⟨.inl (by simp [I]), le_ok rfl, ?_⟩
    by_cases c7 : cnE p.cs = 0
    · have hn : outsE t.outs = outsE (t.outs.drop (i + 1)) := by rw [hi2']; exact if_neg (by rw [hou]; simpa using c7)
      simp [I, c7, w1, -Int.natCast_add]
      exact round (i + 1) [0] ⟨by omega, hn⟩ (by omega) (by simp [I, Ptr]) (by simp) (by simp) (by simp) (by simp)
    · rw [hbad (by rw [hou]; exact c7), hou]
      simp [I, c7]
      exact fin [] (by decide) rfl rfl rfl ⟨rfl, rfl⟩
  have hil : i = t.outs.length := by omega
  subst hil
  rw [List.drop_length] at hi2'
  have hz0 : outsE t.outs = 0 := hi2'
  rw [show V = (totO 0 t.outs).2 by rw [← hV, if_neg (by simpa using hz0)]]
  simp
  refine call0 (RTxTotal_ok t ht) (by simp [TXv, txC, iC]) ?_
  rintro y H' ⟨rfl, rfl⟩
  refine ⟨.inl (by simp [iC]), le_ok rfl, ?_⟩
  simp [iC]
  exact fin [] (by decide) rfl rfl rfl ⟨rfl, rfl⟩
end Go.Proofs.YtflcfdeanneoeaaGreatDoor
