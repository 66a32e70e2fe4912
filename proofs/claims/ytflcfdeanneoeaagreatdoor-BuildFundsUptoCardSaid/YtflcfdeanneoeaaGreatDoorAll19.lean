import Derived.Test.YtflcfdeanneoeaaGreatDoorAll18
import Derived.Test.YtflcfdeanneoeaaGreatDoorAll15
import Derived.Test.YtflcfdeanneoeaaGreatDoorAll10
import Derived.Test.YtflcfdeanneoeaaGreatDoorProg
import Derived.Test.YtflcfdeanneoeaaGreatDoorAll7
import Derived.LoopN
import Derived.RegionTactic
namespace Go.Proofs.YtflcfdeanneoeaaGreatDoor
open Go Go.EW
set_option linter.unusedSimpArgs false
set_option linter.unusedVariables false
@[simp] def l_longTx_1 (_ : Unit) : List EOp := [xQ 0 1 (.box 69 (.t 0)), xQ 1 2 (.mov (.k (.bool false)))]
@[simp] def b_longTx_2 (_ : Unit) : EB := reg0 (hid l_longTx_1) 2
@[simp] def l_longTx_4 (_ : Unit) : List EOp := [xQ 6 13 (.bin .add (.t 9) (.t 12)), xM 7 3 13]
@[simp] def l_longTx_3 (_ : Unit) : List EOp := xQ 0 7 (.fad 1 (.t 1)) :: xQ 1 8 (.ldc (.t 7)) :: xQ 2 9 (.len (.t 8)) :: xQ 3 10 (.fad 2 (.t 1)) :: xQ 4 11 (.ldc (.t 10)) :: xQ 5 12 (.len (.t 11)) :: hid l_longTx_4
@[simp] def b_longTx_5 (_ : Unit) : EB := reg0 (hid l_longTx_3) 8
@[simp] def l_longTx_6 (_ : Unit) : List EOp := [xM 0 14 3, xQ 1 15 (.bin .gtr (.t 14) (.k (.int .i64 300)))]
@[simp] def b_longTx_7 (_ : Unit) : EB := reg0 (hid l_longTx_6) 2
@[simp] def l_longTx_8 (_ : Unit) : List EOp := [xQ 0 2 (.mov (.k (.bool true)))]
@[simp] def b_longTx_9 (_ : Unit) : EB := reg0 (hid l_longTx_8) 1
@[simp] def b_longTx_10 (_ : Unit) : EB := .seq (hid b_longTx_9) .ret
@[simp] def b_longTx_11 (_ : Unit) : EB := .cond (.t 15) (hid b_longTx_10) .skip
@[simp] def b_longTx_12 (_ : Unit) : EB := .seq (hid b_longTx_7) (hid b_longTx_11)
@[simp] def l_longTx_13 (_ : Unit) : List EOp := [xQ 0 4 (.mov (.k (.int .i64 0)))]
@[simp] def b_longTx_14 (_ : Unit) : EB := reg0 (hid l_longTx_13) 1
@[simp] def l_longTx_15 (_ : Unit) : List EOp := [xM 0 16 4, xQ 1 17 (.fad 1 (.t 1)), xQ 2 18 (.ldc (.t 17)), xQ 3 19 (.len (.t 18)), xQ 4 20 (.bin .lss (.t 16) (.t 19))]
@[simp] def b_longTx_16 (_ : Unit) : EB := reg0 (hid l_longTx_15) 5
@[simp] def b_longTx_17 (_ : Unit) : EB := .cond (.t 20) .skip (.exit 0)
@[simp] def b_longTx_18 (_ : Unit) : EB := .seq (hid b_longTx_16) (hid b_longTx_17)
@[simp] def l_longTx_20 (_ : Unit) : List EOp := [xQ 6 29 (.ldc (.t 28)), xQ 7 30 (.len (.t 29)), xQ 8 31 (.bin .quo (.t 30) (.k (.int .i64 16))), xQ 9 32 (.bin .add (.t 23) (.t 31)), xM 10 3 32]
@[simp] def l_longTx_19 (_ : Unit) : List EOp := xM 0 23 3 :: xQ 1 24 (.fad 1 (.t 1)) :: xQ 2 25 (.ldc (.t 24)) :: xM 3 26 4 :: xQ 4 27 (.isl 35 (.t 25) (.t 26)) :: xQ 5 28 (.fad 34 (.t 27)) :: hid l_longTx_20
@[simp] def b_longTx_21 (_ : Unit) : EB := reg0 (hid l_longTx_19) 11
@[simp] def b_longTx_22 (_ : Unit) : EB := .block 1 (hid b_longTx_21)
@[simp] def l_longTx_23 (_ : Unit) : List EOp := [xM 0 21 4, xQ 1 22 (.bin .add (.t 21) (.k (.int .i64 1))), xM 2 4 22]
@[simp] def b_longTx_24 (_ : Unit) : EB := reg0 (hid l_longTx_23) 3
@[simp] def b_longTx_25 (_ : Unit) : EB := .seq (hid b_longTx_22) (hid b_longTx_24)
@[simp] def b_longTx_26 (_ : Unit) : EB := .seq (hid b_longTx_18) (hid b_longTx_25)
@[simp] def b_longTx_27 (_ : Unit) : EB := .loop (hid b_longTx_26)
@[simp] def b_longTx_28 (_ : Unit) : EB := .block 0 (hid b_longTx_27)
@[simp] def b_longTx_29 (_ : Unit) : EB := .seq (hid b_longTx_14) (hid b_longTx_28)
@[simp] def l_longTx_30 (_ : Unit) : List EOp := [xQ 0 5 (.mov (.k (.int .i64 0)))]
@[simp] def b_longTx_31 (_ : Unit) : EB := reg0 (hid l_longTx_30) 1
@[simp] def l_longTx_32 (_ : Unit) : List EOp := [xM 0 33 5, xQ 1 34 (.fad 2 (.t 1)), xQ 2 35 (.ldc (.t 34)), xQ 3 36 (.len (.t 35)), xQ 4 37 (.bin .lss (.t 33) (.t 36))]
@[simp] def b_longTx_33 (_ : Unit) : EB := reg0 (hid l_longTx_32) 5
@[simp] def b_longTx_34 (_ : Unit) : EB := .cond (.t 37) .skip (.exit 2)
@[simp] def b_longTx_35 (_ : Unit) : EB := .seq (hid b_longTx_33) (hid b_longTx_34)
@[simp] def l_longTx_37 (_ : Unit) : List EOp := [xQ 6 46 (.fad 0 (.t 45)), xQ 7 47 (.ldc (.t 46)), xQ 8 48 (.len (.t 47)), xQ 9 49 (.bin .add (.t 40) (.t 48)), xM 10 3 49]
@[simp] def l_longTx_36 (_ : Unit) : List EOp := xM 0 40 3 :: xQ 1 41 (.fad 2 (.t 1)) :: xQ 2 42 (.ldc (.t 41)) :: xM 3 43 5 :: xQ 4 44 (.isl 2 (.t 42) (.t 43)) :: xQ 5 45 (.fad 1 (.t 44)) :: hid l_longTx_37
@[simp] def b_longTx_38 (_ : Unit) : EB := reg0 (hid l_longTx_36) 11
@[simp] def l_longTx_39 (_ : Unit) : List EOp := [xQ 0 6 (.mov (.k (.int .i64 0)))]
@[simp] def b_longTx_40 (_ : Unit) : EB := reg0 (hid l_longTx_39) 1
@[simp] def l_longTx_43 (_ : Unit) : List EOp := [xG 12 62 60 true (.bin .lss (.t 61) (.k (.int .i64 400))), xQ 13 63 (.pick (.t 60) (.t 62) (.k (.bool false)))]
@[simp] def l_longTx_42 (_ : Unit) : List EOp := xQ 6 56 (.fad 0 (.t 55)) :: xQ 7 57 (.ldc (.t 56)) :: xQ 8 58 (.len (.t 57)) :: xQ 9 59 (.bin .lss (.t 50) (.t 58)) :: xM 10 60 59 :: xG 11 61 60 true (.mov (.t 3)) :: hid l_longTx_43
@[simp] def l_longTx_41 (_ : Unit) : List EOp := xM 0 50 6 :: xQ 1 51 (.fad 2 (.t 1)) :: xQ 2 52 (.ldc (.t 51)) :: xM 3 53 5 :: xQ 4 54 (.isl 2 (.t 52) (.t 53)) :: xQ 5 55 (.fad 1 (.t 54)) :: hid l_longTx_42
@[simp] def b_longTx_44 (_ : Unit) : EB := reg0 (hid l_longTx_41) 14
@[simp] def b_longTx_45 (_ : Unit) : EB := .cond (.t 63) .skip (.exit 4)
@[simp] def b_longTx_46 (_ : Unit) : EB := .seq (hid b_longTx_44) (hid b_longTx_45)
@[simp] def l_longTx_49 (_ : Unit) : List EOp := [xQ 12 78 (.len (.t 77)), xQ 13 79 (.bin .add (.t 66) (.t 78)), xM 14 3 79]
@[simp] def l_longTx_48 (_ : Unit) : List EOp := xQ 6 72 (.fad 0 (.t 71)) :: xQ 7 73 (.ldc (.t 72)) :: xM 8 74 6 :: xQ 9 75 (.isl 35 (.t 73) (.t 74)) :: xQ 10 76 (.fad 0 (.t 75)) :: xQ 11 77 (.ldc (.t 76)) :: hid l_longTx_49
@[simp] def l_longTx_47 (_ : Unit) : List EOp := xM 0 66 3 :: xQ 1 67 (.fad 2 (.t 1)) :: xQ 2 68 (.ldc (.t 67)) :: xM 3 69 5 :: xQ 4 70 (.isl 2 (.t 68) (.t 69)) :: xQ 5 71 (.fad 1 (.t 70)) :: hid l_longTx_48
@[simp] def b_longTx_50 (_ : Unit) : EB := reg0 (hid l_longTx_47) 15
@[simp] def b_longTx_51 (_ : Unit) : EB := .block 5 (hid b_longTx_50)
@[simp] def l_longTx_52 (_ : Unit) : List EOp := [xM 0 64 6, xQ 1 65 (.bin .add (.t 64) (.k (.int .i64 1))), xM 2 6 65]
@[simp] def b_longTx_53 (_ : Unit) : EB := reg0 (hid l_longTx_52) 3
@[simp] def b_longTx_54 (_ : Unit) : EB := .seq (hid b_longTx_51) (hid b_longTx_53)
@[simp] def b_longTx_55 (_ : Unit) : EB := .seq (hid b_longTx_46) (hid b_longTx_54)
@[simp] def b_longTx_56 (_ : Unit) : EB := .loop (hid b_longTx_55)
@[simp] def b_longTx_57 (_ : Unit) : EB := .block 4 (hid b_longTx_56)
@[simp] def b_longTx_58 (_ : Unit) : EB := .seq (hid b_longTx_40) (hid b_longTx_57)
@[simp] def b_longTx_59 (_ : Unit) : EB := .seq (hid b_longTx_38) (hid b_longTx_58)
@[simp] def b_longTx_60 (_ : Unit) : EB := .block 3 (hid b_longTx_59)
@[simp] def l_longTx_61 (_ : Unit) : List EOp := [xM 0 38 5, xQ 1 39 (.bin .add (.t 38) (.k (.int .i64 1))), xM 2 5 39]
@[simp] def b_longTx_62 (_ : Unit) : EB := reg0 (hid l_longTx_61) 3
@[simp] def b_longTx_63 (_ : Unit) : EB := .seq (hid b_longTx_60) (hid b_longTx_62)
@[simp] def b_longTx_64 (_ : Unit) : EB := .seq (hid b_longTx_35) (hid b_longTx_63)
@[simp] def b_longTx_65 (_ : Unit) : EB := .loop (hid b_longTx_64)
@[simp] def b_longTx_66 (_ : Unit) : EB := .block 2 (hid b_longTx_65)
@[simp] def b_longTx_67 (_ : Unit) : EB := .seq (hid b_longTx_31) (hid b_longTx_66)
@[simp] def l_longTx_68 (_ : Unit) : List EOp := [xM 0 80 3, xQ 1 81 (.bin .gtr (.t 80) (.k (.int .i64 400))), xM 2 2 81]
@[simp] def b_longTx_69 (_ : Unit) : EB := reg0 (hid l_longTx_68) 3
@[simp] def b_longTx_70 (_ : Unit) : EB := .seq (hid b_longTx_69) .ret
@[simp] def b_longTx_71 (_ : Unit) : EB := .seq (hid b_longTx_67) (hid b_longTx_70)
@[simp] def b_longTx_72 (_ : Unit) : EB := .seq (hid b_longTx_29) (hid b_longTx_71)
@[simp] def b_longTx_73 (_ : Unit) : EB := .seq (hid b_longTx_12) (hid b_longTx_72)
@[simp] def b_longTx_74 (_ : Unit) : EB := .seq (hid b_longTx_5) (hid b_longTx_73)
@[simp] def b_longTx_75 (_ : Unit) : EB := .seq (hid b_longTx_2) (hid b_longTx_74)
def c_longTx : EB × List QOp × Nat := ((hid b_longTx_75), [(.mov (.t 2))], 82)
theorem k_longTx : cfun Tryz.prog 25 = some c_longTx := by kernel_rfl
@[simp] def l_giveCond_1 (_ : Unit) : List EOp := [xQ 0 1 (.box 145 (.t 0)), xQ 1 2 (.alloc 116 [(.slice none 0 0)])]
@[simp] def b_giveCond_2 (_ : Unit) : EB := reg0 (hid l_giveCond_1) 2
@[simp] def l_giveCond_3 (_ : Unit) : List EOp := [xQ 0 3 (.mov (.k (.slice none 0 0)))]
@[simp] def b_giveCond_4 (_ : Unit) : EB := reg0 (hid l_giveCond_3) 1
@[simp] def l_giveCond_5 (_ : Unit) : List EOp := [xQ 0 4 (.mov (.k (.int .i64 0)))]
@[simp] def b_giveCond_6 (_ : Unit) : EB := reg0 (hid l_giveCond_5) 1
@[simp] def l_giveCond_7 (_ : Unit) : List EOp := [xM 0 7 4, xQ 1 8 (.fad 0 (.t 1)), xQ 2 9 (.ldc (.t 8)), xQ 3 10 (.len (.t 9)), xQ 4 11 (.bin .lss (.t 7) (.t 10))]
@[simp] def b_giveCond_8 (_ : Unit) : EB := reg0 (hid l_giveCond_7) 5
@[simp] def b_giveCond_9 (_ : Unit) : EB := .cond (.t 11) .skip (.exit 0)
@[simp] def b_giveCond_10 (_ : Unit) : EB := .seq (hid b_giveCond_8) (hid b_giveCond_9)
@[simp] def l_giveCond_12 (_ : Unit) : List EOp := [xN 6 (.fz (.sto 35 (.t 5) (.t 18)))]
@[simp] def l_giveCond_11 (_ : Unit) : List EOp := xQ 0 14 (.fad 0 (.t 1)) :: xQ 1 15 (.ldc (.t 14)) :: xM 2 16 4 :: xQ 3 17 (.isl 35 (.t 15) (.t 16)) :: xQ 4 18 (.lda 35 (.t 17)) :: xQ 5 5 (.alloc 187 (([(.slice none 0 0)] : List Value) ++ zU8 ++ [(.int .i64 0), (.int .i64 0)])) :: hid l_giveCond_12
@[simp] def b_giveCond_13 (_ : Unit) : EB := reg0 (hid l_giveCond_11) 7
@[simp] def l_giveCond_14 (_ : Unit) : List EOp := [xQ 0 6 (.mov (.k (.slice none 0 0)))]
@[simp] def b_giveCond_15 (_ : Unit) : EB := reg0 (hid l_giveCond_14) 1
@[simp] def l_giveCond_17 (_ : Unit) : List EOp := [xQ 6 25 (.ldc (.t 24)), xO 7 26 (.app 3 1 8 (.t 19) (.t 25)), xQ 8 27 (.fad 0 (.t 5)), xN 9 (.fz (.sto 1 (.t 27) (.t 26)))]
@[simp] def l_giveCond_16 (_ : Unit) : List EOp := xM 0 19 6 :: xQ 1 20 (.fad 0 (.t 1)) :: xQ 2 21 (.ldc (.t 20)) :: xM 3 22 4 :: xQ 4 23 (.isl 35 (.t 21) (.t 22)) :: xQ 5 24 (.fad 0 (.t 23)) :: hid l_giveCond_17
@[simp] def b_giveCond_18 (_ : Unit) : EB := reg0 (hid l_giveCond_16) 10
@[simp] def l_giveCond_19 (_ : Unit) : List EOp := [xM 0 28 3, xQ 1 29 (.lda 35 (.t 5)), xO 2 30 (.fz (.q (.bsl 35 (([(.slice none 0 0)] : List Value) ++ zU8 ++ [(.int .i64 0), (.int .i64 0)]) 1 [(0, (.t 29))]))), xO 3 31 (.app 187 35 72 (.t 28) (.t 30)), xM 4 3 31]
@[simp] def b_giveCond_20 (_ : Unit) : EB := reg0 (hid l_giveCond_19) 5
@[simp] def b_giveCond_21 (_ : Unit) : EB := .seq (hid b_giveCond_18) (hid b_giveCond_20)
@[simp] def b_giveCond_22 (_ : Unit) : EB := .seq (hid b_giveCond_15) (hid b_giveCond_21)
@[simp] def b_giveCond_23 (_ : Unit) : EB := .seq (hid b_giveCond_13) (hid b_giveCond_22)
@[simp] def b_giveCond_24 (_ : Unit) : EB := .block 1 (hid b_giveCond_23)
@[simp] def l_giveCond_25 (_ : Unit) : List EOp := [xM 0 12 4, xQ 1 13 (.bin .add (.t 12) (.k (.int .i64 1))), xM 2 4 13]
@[simp] def b_giveCond_26 (_ : Unit) : EB := reg0 (hid l_giveCond_25) 3
@[simp] def b_giveCond_27 (_ : Unit) : EB := .seq (hid b_giveCond_24) (hid b_giveCond_26)
@[simp] def b_giveCond_28 (_ : Unit) : EB := .seq (hid b_giveCond_10) (hid b_giveCond_27)
@[simp] def b_giveCond_29 (_ : Unit) : EB := .loop (hid b_giveCond_28)
@[simp] def b_giveCond_30 (_ : Unit) : EB := .block 0 (hid b_giveCond_29)
@[simp] def b_giveCond_31 (_ : Unit) : EB := .seq (hid b_giveCond_6) (hid b_giveCond_30)
@[simp] def l_giveCond_32 (_ : Unit) : List EOp := [xM 0 32 3, xQ 1 33 (.build [(.slice none 0 0)] [(0, 1, (.t 32))]), xN 2 (.fz (.sto 1 (.t 2) (.t 33)))]
@[simp] def b_giveCond_33 (_ : Unit) : EB := reg0 (hid l_giveCond_32) 3
@[simp] def b_giveCond_34 (_ : Unit) : EB := .seq (hid b_giveCond_33) .ret
@[simp] def b_giveCond_35 (_ : Unit) : EB := .seq (hid b_giveCond_31) (hid b_giveCond_34)
@[simp] def b_giveCond_36 (_ : Unit) : EB := .seq (hid b_giveCond_4) (hid b_giveCond_35)
@[simp] def b_giveCond_37 (_ : Unit) : EB := .seq (hid b_giveCond_2) (hid b_giveCond_36)
def c_giveCond : EB × List QOp × Nat := ((hid b_giveCond_37), [(.lda 1 (.t 2))], 34)
theorem k_giveCond : cfun Tryz.prog 60 = some c_giveCond := by kernel_rfl
@[simp] def l_giveTx_1 (_ : Unit) : List EOp := [xQ 0 1 (.box 69 (.t 0)), xQ 1 2 (.alloc 63 [(.int .i64 0), (.slice none 0 0), (.slice none 0 0)])]
@[simp] def b_giveTx_2 (_ : Unit) : EB := reg0 (hid l_giveTx_1) 2
@[simp] def l_giveTx_3 (_ : Unit) : List EOp := [xQ 0 7 (.fad 0 (.t 1)), xQ 1 8 (.ldc (.t 7)), xQ 2 9 (.build [(.int .i64 0), (.slice none 0 0), (.slice none 0 0)] [(0, 1, (.t 8))]), xQ 3 3 (.alloc 63 [(.int .i64 0), (.slice none 0 0), (.slice none 0 0)]), xN 4 (.fz (.sto 3 (.t 3) (.t 9)))]
@[simp] def b_giveTx_4 (_ : Unit) : EB := reg0 (hid l_giveTx_3) 5
@[simp] def l_giveTx_5 (_ : Unit) : List EOp := [xQ 0 4 (.mov (.k (.int .i64 0)))]
@[simp] def b_giveTx_6 (_ : Unit) : EB := reg0 (hid l_giveTx_5) 1
@[simp] def l_giveTx_7 (_ : Unit) : List EOp := [xM 0 10 4, xQ 1 11 (.fad 1 (.t 1)), xQ 2 12 (.ldc (.t 11)), xQ 3 13 (.len (.t 12)), xQ 4 14 (.bin .lss (.t 10) (.t 13))]
@[simp] def b_giveTx_8 (_ : Unit) : EB := reg0 (hid l_giveTx_7) 5
@[simp] def b_giveTx_9 (_ : Unit) : EB := .cond (.t 14) .skip (.exit 0)
@[simp] def b_giveTx_10 (_ : Unit) : EB := .seq (hid b_giveTx_8) (hid b_giveTx_9)
@[simp] def l_giveTx_11 (_ : Unit) : List EOp := [xQ 0 5 (.mov (.k (.slice none 0 0)))]
@[simp] def b_giveTx_12 (_ : Unit) : EB := reg0 (hid l_giveTx_11) 1
@[simp] def l_giveTx_17 (_ : Unit) : List EOp := [xO 24 41 (.app 135 35 72 (.t 18) (.t 40)), xQ 25 42 (.fad 1 (.t 3)), xN 26 (.fz (.sto 1 (.t 42) (.t 41)))]
@[simp] def l_giveTx_16 (_ : Unit) : List EOp := xQ 18 35 (.isl 35 (.t 33) (.t 34)) :: xQ 19 36 (.fad 34 (.t 35)) :: xQ 20 37 (.ldc (.t 36)) :: ⟨21, (some 38), none, (.app 5 1 1 (.t 31) (.t 37)), [0, 1, 2, 3, 4, 5, 6, 7, 8, 9, 10, 11, 12, 13]⟩ :: xQ 22 39 (.build (zU8 ++ [(.int .i64 0), (.int .i64 0), (.slice none 0 0)]) [(0, 33, (.t 24)), (33, 1, (.t 30)), (34, 1, (.t 38))]) :: ⟨23, (some 40), none, (.fz (.q (.bsl 35 (zU8 ++ [(.int .i64 0), (.int .i64 0), (.slice none 0 0)]) 1 [(0, (.t 39))]))), [0, 1]⟩ :: hid l_giveTx_17
@[simp] def l_giveTx_15 (_ : Unit) : List EOp := xQ 12 29 (.fad 33 (.t 28)) :: xQ 13 30 (.ldc (.t 29)) :: xM 14 31 5 :: xQ 15 32 (.fad 1 (.t 1)) :: xQ 16 33 (.ldc (.t 32)) :: xM 17 34 4 :: hid l_giveTx_16
@[simp] def l_giveTx_14 (_ : Unit) : List EOp := xQ 6 23 (.fad 0 (.t 22)) :: xQ 7 24 (.lda 33 (.t 23)) :: xQ 8 25 (.fad 1 (.t 1)) :: xQ 9 26 (.ldc (.t 25)) :: xM 10 27 4 :: xQ 11 28 (.isl 35 (.t 26) (.t 27)) :: hid l_giveTx_15
@[simp] def l_giveTx_13 (_ : Unit) : List EOp := xQ 0 17 (.fad 1 (.t 3)) :: xQ 1 18 (.ldc (.t 17)) :: xQ 2 19 (.fad 1 (.t 1)) :: xQ 3 20 (.ldc (.t 19)) :: xM 4 21 4 :: xQ 5 22 (.isl 35 (.t 20) (.t 21)) :: hid l_giveTx_14
@[simp] def b_giveTx_18 (_ : Unit) : EB := reg1 (hid l_giveTx_13) 27
@[simp] def b_giveTx_19 (_ : Unit) : EB := .seq (hid b_giveTx_12) (hid b_giveTx_18)
@[simp] def b_giveTx_20 (_ : Unit) : EB := .block 1 (hid b_giveTx_19)
@[simp] def l_giveTx_21 (_ : Unit) : List EOp := [xM 0 15 4, xQ 1 16 (.bin .add (.t 15) (.k (.int .i64 1))), xM 2 4 16]
@[simp] def b_giveTx_22 (_ : Unit) : EB := reg0 (hid l_giveTx_21) 3
@[simp] def b_giveTx_23 (_ : Unit) : EB := .seq (hid b_giveTx_20) (hid b_giveTx_22)
@[simp] def b_giveTx_24 (_ : Unit) : EB := .seq (hid b_giveTx_10) (hid b_giveTx_23)
@[simp] def b_giveTx_25 (_ : Unit) : EB := .loop (hid b_giveTx_24)
@[simp] def b_giveTx_26 (_ : Unit) : EB := .block 0 (hid b_giveTx_25)
@[simp] def b_giveTx_27 (_ : Unit) : EB := .seq (hid b_giveTx_6) (hid b_giveTx_26)
@[simp] def l_giveTx_28 (_ : Unit) : List EOp := [xQ 0 6 (.mov (.k (.int .i64 0)))]
@[simp] def b_giveTx_29 (_ : Unit) : EB := reg0 (hid l_giveTx_28) 1
@[simp] def l_giveTx_30 (_ : Unit) : List EOp := [xM 0 43 6, xQ 1 44 (.fad 2 (.t 1)), xQ 2 45 (.ldc (.t 44)), xQ 3 46 (.len (.t 45)), xQ 4 47 (.bin .lss (.t 43) (.t 46))]
@[simp] def b_giveTx_31 (_ : Unit) : EB := reg0 (hid l_giveTx_30) 5
@[simp] def b_giveTx_32 (_ : Unit) : EB := .cond (.t 47) .skip (.exit 2)
@[simp] def b_giveTx_33 (_ : Unit) : EB := .seq (hid b_giveTx_31) (hid b_giveTx_32)
@[simp] def l_giveTx_37 (_ : Unit) : List EOp := [xQ 18 68 (.fad 2 (.t 3)), xN 19 (.fz (.sto 1 (.t 68) (.t 67)))]
@[simp] def l_giveTx_36 (_ : Unit) : List EOp := xQ 12 62 (.fad 1 (.t 61)) :: xQ 13 63 (.lda 1 (.t 62)) :: ⟨14, (some 64), none, (.call 60 [(.t 63)]), [0, 1, 2, 3, 4, 5, 6, 7]⟩ :: xQ 15 65 (.build [(.int .i64 0), (.slice none 0 0)] [(0, 1, (.t 57)), (1, 1, (.t 64))]) :: ⟨16, (some 66), none, (.fz (.q (.bsl 2 [(.int .i64 0), (.slice none 0 0)] 1 [(0, (.t 65))]))), [0, 1]⟩ :: xO 17 67 (.app 118 2 32 (.t 51) (.t 66)) :: hid l_giveTx_37
@[simp] def l_giveTx_35 (_ : Unit) : List EOp := xQ 6 56 (.fad 0 (.t 55)) :: xQ 7 57 (.ldc (.t 56)) :: xQ 8 58 (.fad 2 (.t 1)) :: xQ 9 59 (.ldc (.t 58)) :: xM 10 60 6 :: xQ 11 61 (.isl 2 (.t 59) (.t 60)) :: hid l_giveTx_36
@[simp] def l_giveTx_34 (_ : Unit) : List EOp := xQ 0 50 (.fad 2 (.t 3)) :: xQ 1 51 (.ldc (.t 50)) :: xQ 2 52 (.fad 2 (.t 1)) :: xQ 3 53 (.ldc (.t 52)) :: xM 4 54 6 :: xQ 5 55 (.isl 2 (.t 53) (.t 54)) :: hid l_giveTx_35
@[simp] def b_giveTx_38 (_ : Unit) : EB := reg1 (hid l_giveTx_34) 20
@[simp] def b_giveTx_39 (_ : Unit) : EB := .block 3 (hid b_giveTx_38)
@[simp] def l_giveTx_40 (_ : Unit) : List EOp := [xM 0 48 6, xQ 1 49 (.bin .add (.t 48) (.k (.int .i64 1))), xM 2 6 49]
@[simp] def b_giveTx_41 (_ : Unit) : EB := reg0 (hid l_giveTx_40) 3
@[simp] def b_giveTx_42 (_ : Unit) : EB := .seq (hid b_giveTx_39) (hid b_giveTx_41)
@[simp] def b_giveTx_43 (_ : Unit) : EB := .seq (hid b_giveTx_33) (hid b_giveTx_42)
@[simp] def b_giveTx_44 (_ : Unit) : EB := .loop (hid b_giveTx_43)
@[simp] def b_giveTx_45 (_ : Unit) : EB := .block 2 (hid b_giveTx_44)
@[simp] def b_giveTx_46 (_ : Unit) : EB := .seq (hid b_giveTx_29) (hid b_giveTx_45)
@[simp] def l_giveTx_47 (_ : Unit) : List EOp := [xQ 0 69 (.lda 3 (.t 3)), xN 1 (.fz (.sto 3 (.t 2) (.t 69)))]
@[simp] def b_giveTx_48 (_ : Unit) : EB := reg0 (hid l_giveTx_47) 2
@[simp] def b_giveTx_49 (_ : Unit) : EB := .seq (hid b_giveTx_48) .ret
@[simp] def b_giveTx_50 (_ : Unit) : EB := .seq (hid b_giveTx_46) (hid b_giveTx_49)
@[simp] def b_giveTx_51 (_ : Unit) : EB := .seq (hid b_giveTx_27) (hid b_giveTx_50)
@[simp] def b_giveTx_52 (_ : Unit) : EB := .seq (hid b_giveTx_4) (hid b_giveTx_51)
@[simp] def b_giveTx_53 (_ : Unit) : EB := .seq (hid b_giveTx_2) (hid b_giveTx_52)
def c_giveTx : EB × List QOp × Nat := ((hid b_giveTx_53), [(.lda 3 (.t 2))], 70)
theorem k_giveTx : cfun Tryz.prog 27 = some c_giveTx := by kernel_rfl
def AnyB (y : EV) : Prop := ∃ b, y = .lit (.bool b)
set_option maxHeartbeats 16000000 in
theorem longTx_ok (t : Txn) (ht : t.bk) : ECalls Tryz.prog 25 [TXv t] [] fun y H' => H' = [] ∧ AnyB y := by
  obtain ⟨⟨h1, h2, h3, h4, h5⟩, b1, b2, b3, b4⟩ := ht
  obtain ⟨N, hN⟩ : ∃ N : Nat, t.ins.length + t.outs.length = N := ⟨_, rfl⟩
  have w0 : IntKind.i64.wrap ((t.ins.length : Int) + (t.outs.length : Int)) = (N : Int) := by rw [wrap_i64 (by omega) (by omega)]; omega
  refine ecalls k_longTx ?_
  simp [c_longTx, TXv, txC, I, iC, w0, -Int.natCast_add]
  refine alt (fun c => ?_) (fun c => ?_)
  · exact fin [] (by decide) rfl rfl rfl ⟨rfl, _, rfl⟩
  have n1 : t.ins.length ≤ 300 := by omega
  have n2 : t.outs.length ≤ 300 := by omega
  simp
  refine eloop (α := Nat × Nat) (fun a => a.1 ≤ t.ins.length ∧ a.2 ≤ 300 + a.1 * 1048576) (fun a => t.ins.length - a.1)
    (fun a => [.any, Ptr 0, .any, I .i64 a.2, I .i64 a.1, .any, .any, .any, .any, .any, .any, .any, .any, .any, .any, .any, .any, .any, .any, .any, .any, .any, .any, .any, .any, .any, .any, .any, .any, .any, .any, .any, .any, .any, .any, .any, .any, .any, .any, .any, .any, .any, .any, .any, .any, .any, .any, .any, .any, .any, .any, .any, .any, .any, .any, .any, .any, .any, .any, .any, .any, .any, .any, .any, .any, .any, .any, .any, .any, .any, .any, .any, .any, .any, .any, .any, .any, .any, .any, .any, .any, .any]) (fun _ => [some (.box 69 (txC t))]) (0, N) [0]
    ⟨by simp, by dsimp only; omega⟩ (by simp [I, Ptr]) (by simp [txC, iC]) (by simp) (by simp) (by simp) ?_
  rintro ⟨i, n⟩ ⟨hi1, hi2⟩
  dsimp only at hi1 hi2
  simp [I, Ptr, txC, iC, -Int.natCast_add]
  refine alt (fun hlt => ?_) (fun hlt => ?_)
  · have hln : i < t.ins.length := by omega
    obtain ⟨p, hc⟩ : ∃ p, t.ins[i]? = some p := ⟨t.ins[i], by simp [hln]⟩
    have hge : (inpv t.ins)[i]'(by simp [hln]) = inpF p := by
      have e := inpv_get hc
      rw [List.getElem?_eq_getElem (by simp [hln])] at e
      exact Option.some.inj e
    have hpo := h2 p (List.mem_of_getElem? hc)
    have hb := b3 p (List.mem_of_getElem? hc)
    have l0 := ic_len hpo.1
    have l1 := if_len hpo.1
    have e34 := idx_of (ic_34 hpo.1) (by omega)
    have w1 : IntKind.i64.wrap ((i : Int) + 1) = ((i + 1 : Nat) : Int) := wrap_i64 (by omega) (by omega)
    simp [hln, hge, inpF_fz, l0, l1, e34, -Int.natCast_add]
    obtain ⟨q, hq⟩ : ∃ q : Nat, p.sec.length / 16 = q := ⟨_, rfl⟩
    have w2 : IntKind.i64.wrap ((p.sec.length : Int) / 16) = (q : Int) := by rw [wrap_i64 (by omega) (by omega)]; omega
    have w3 : IntKind.i64.wrap ((n : Int) + (q : Int)) = ((n + q : Nat) : Int) := by rw [wrap_i64 (by omega) (by omega)]; omega
    simp [w1, w2, w3, -Int.natCast_add]
    exact round (i + 1, n + q) [0] ⟨by dsimp only; omega, by dsimp only; omega⟩ (by dsimp only; omega) (by simp [I, Ptr, -Int.natCast_add]) (by simp) (by simp) (by simp) (by simp)
  simp
  refine eloop (α := Nat × Nat) (fun a => a.1 ≤ t.outs.length ∧ a.2 ≤ 400000000 + a.1 * 2097152) (fun a => t.outs.length - a.1)
    (fun a => [.any, Ptr 0, .any, I .i64 a.2, .any, I .i64 a.1, .any, .any, .any, .any, .any, .any, .any, .any, .any, .any, .any, .any, .any, .any, .any, .any, .any, .any, .any, .any, .any, .any, .any, .any, .any, .any, .any, .any, .any, .any, .any, .any, .any, .any, .any, .any, .any, .any, .any, .any, .any, .any, .any, .any, .any, .any, .any, .any, .any, .any, .any, .any, .any, .any, .any, .any, .any, .any, .any, .any, .any, .any, .any, .any, .any, .any, .any, .any, .any, .any, .any, .any, .any, .any, .any, .any]) (fun _ => [some (.box 69 (txC t))]) (0, n) [0]
    ⟨by simp, by dsimp only; omega⟩ (by simp [I, Ptr]) (by simp [txC, iC]) (by simp) (by simp) (by simp) ?_
  clear hi2
  rintro ⟨i, n⟩ ⟨hi1, hi2⟩
  dsimp only at hi1 hi2
  simp [I, Ptr, txC, iC, -Int.natCast_add]
  refine alt (fun hlt => ?_) (fun hlt => ?_)
  rotate_left
  · simp
    exact fin [] (by decide) rfl rfl rfl ⟨rfl, _, rfl⟩
  have hln : i < t.outs.length := by omega
  obtain ⟨p, hc⟩ : ∃ p, t.outs[i]? = some p := ⟨t.outs[i], by simp [hln]⟩
  have hge : (outv t.outs)[i]'(by simp [hln]) = outF p := by
    have e := outv_get hc
    rw [List.getElem?_eq_getElem (by simp [hln])] at e
    exact Option.some.inj e
  have hpo := h3 p (List.mem_of_getElem? hc)
  obtain ⟨hb1, hb2⟩ := b4 p (List.mem_of_getElem? hc)
  have w1 : IntKind.i64.wrap ((i : Int) + 1) = ((i + 1 : Nat) : Int) := wrap_i64 (by omega) (by omega)
  have w3 : IntKind.i64.wrap ((n : Int) + (p.cs.length : Int)) = ((n + p.cs.length : Nat) : Int) := by rw [wrap_i64 (by omega) (by omega)]; omega
  obtain ⟨M, hM⟩ : ∃ M : Nat, n + p.cs.length = M := ⟨_, rfl⟩
  rw [hM] at w3
  simp [hln, hge, outF, iF, w3, -Int.natCast_add]
  refine eloop (α := Nat × Nat) (fun a => a.1 ≤ p.cs.length ∧ a.2 ≤ 400000000 + (i + 1) * 2097152) (fun a => p.cs.length - a.1)
    (fun a => [.any, Ptr 0, .any, I .i64 a.2, .any, I .i64 i, I .i64 a.1, .any, .any, .any, .any, .any, .any, .any, .any, .any, .any, .any, .any, .any, .any, .any, .any, .any, .any, .any, .any, .any, .any, .any, .any, .any, .any, .any, .any, .any, .any, .any, .any, .any, .any, .any, .any, .any, .any, .any, .any, .any, .any, .any, .any, .any, .any, .any, .any, .any, .any, .any, .any, .any, .any, .any, .any, .any, .any, .any, .any, .any, .any, .any, .any, .any, .any, .any, .any, .any, .any, .any, .any, .any, .any, .any]) (fun _ => [some (.box 69 (txC t))]) (0, M) [0]
    ⟨by simp, by dsimp only; omega⟩ (by simp [I, Ptr]) (by simp [txC, iC]) (by simp) (by simp) (by simp) ?_
  rintro ⟨k, m⟩ ⟨hk1, hk2⟩
  dsimp only at hk1 hk2
  simp [I, Ptr, txC, iC, hln, hge, outF, iF, -Int.natCast_add]
  by_cases ck : k < p.cs.length
  rotate_left
  · have ck' : ¬ (k : Int) < p.cs.length := by omega
    simp [ck, ck', w1, -Int.natCast_add]
    exact round (i + 1, m) [0] ⟨by dsimp only; omega, by dsimp only; omega⟩ (by dsimp only; omega) (by simp [I, Ptr, -Int.natCast_add]) (by simp) (by simp) (by simp) (by simp)
  have ck' : (k : Int) < p.cs.length := by omega
  by_cases cm : m < 400
  rotate_left
  · have cm' : ¬ (m : Int) < 400 := by omega
    simp [ck, ck', cm, cm', w1, -Int.natCast_add]
    exact round (i + 1, m) [0] ⟨by dsimp only; omega, by dsimp only; omega⟩ (by dsimp only; omega) (by simp [I, Ptr, -Int.natCast_add]) (by simp) (by simp) (by simp) (by simp)
  have cm' : (m : Int) < 400 := by omega
  obtain ⟨b, hcb⟩ : ∃ b, p.cs[k]? = some b := ⟨p.cs[k], by simp [ck]⟩
  have hgb : (brav p.cs)[k]'(by simp [ck]) = braF b := by
    have e := brav_get hcb
    rw [List.getElem?_eq_getElem (by simp [ck])] at e
    exact Option.some.inj e
  have hbo := hpo.2.1 b (List.mem_of_getElem? hcb)
  have hbk := hb2 b (List.mem_of_getElem? hcb)
  have l0 := bc_len hbo.2.1
  have e0 := idx_of (bc_0 b) (by omega)
  have l1 := bf_len hbo.2.1
  have w4 : IntKind.i64.wrap ((k : Int) + 1) = ((k + 1 : Nat) : Int) := wrap_i64 (by omega) (by omega)
  have w5 : IntKind.i64.wrap ((m : Int) + (b.keys.length : Int)) = ((m + b.keys.length : Nat) : Int) := by rw [wrap_i64 (by omega) (by omega)]; omega
  simp [ck, ck', cm, cm', hln, hge, hgb, braF_fz, l0, l1, e0, outF, iF, w4, w5, -Int.natCast_add]
  exact round (k + 1, m + b.keys.length) [0] ⟨by dsimp only; omega, by dsimp only; omega⟩ (by dsimp only; omega) (by simp [I, Ptr, -Int.natCast_add]) (by simp) (by simp) (by simp) (by simp)
theorem braC_tl (b : Bra) : (braC b).tail = hc b.lock ++ [EC.fz (.lit (.int .i64 b.af)), EC.fz (.lit (.int .i64 b.ol))] := rfl
theorem braF_tl (b : Bra) : FV.sl 1 (intv b.keys) :: (hf b.lock ++ [FV.lit (.int .i64 b.af), FV.lit (.int .i64 b.ol)]) = braF b := rfl
set_option maxHeartbeats 16000000 in
theorem giveCond_ok (l : List Bra) (hl : ∀ b ∈ l, b.ok) (hn : l.length ≤ 1048576) : ECalls Tryz.prog 60 [CNv l] [] fun y H' => H' = [] ∧ y = CNv l := by
  refine ecalls k_giveCond ?_
  simp [c_giveCond, CNv, I]
  refine loopW _ (weak_nilR 3 187 35 rfl (by omega)) ?_
  refine eloop (α := Nat) (fun i => i ≤ l.length) (fun i => l.length - i)
    (fun i => [.any, Ptr 0, Ptr 1, .v (.c (.row 2 i)), I .i64 i, .any, .any, .any, .any, .any, .any, .any, .any, .any, .any, .any, .any, .any, .any, .any, .any, .any, .any, .any, .any, .any, .any, .any, .any, .any, .any, .any, .any, .any]) (fun i => [some (.box 145 [.fz (.sl 35 (brav l))]), some (.box 116 [.fz (.lit (.slice none 0 0))]), some (.row 187 35 (brav (l.take i)))]) 0 [0, 16, 64]
    (Nat.zero_le _) (by simp [I, Ptr]) (by simp [brav]) (by simp) (by simp) (by simp) ?_
  intro i hi
  simp [I, Ptr, -Int.natCast_add]
  refine alt (fun hlt => ?_) (fun hlt => ?_)
  · have hln : i < l.length := by omega
    obtain ⟨b, hcb⟩ : ∃ b, l[i]? = some b := ⟨l[i], by simp [hln]⟩
    have hgb : (brav l)[i]'(by simp [hln]) = braF b := by
      have e := brav_get hcb
      rw [List.getElem?_eq_getElem (by simp [hln])] at e
      exact Option.some.inj e
    have hbo := hl b (List.mem_of_getElem? hcb)
    have hbk := hbo.2.2.2.2
    have l0 := bc_len hbo.2.1
    have e0 := idx_of (bc_0 b) (by omega)
    have l1 := bf_len hbo.2.1
    have tk := bc_take hbo.2.1
    have tkk : List.take b.keys.length (intv b.keys) = intv b.keys := List.take_of_length_le (by simp)
    have w1 : IntKind.i64.wrap ((i : Int) + 1) = ((i + 1 : Nat) : Int) := wrap_i64 (by omega) (by omega)
    have hT : brav (l.take (i + 1)) = brav (l.take i) ++ [braF b] := by rw [List.take_add_one, hcb]; simp [brav]
    have hTl : (l.take i).length = i := by simp; omega
    simp [hln, hgb, braF_fz, l0, l1, e0, tk, tkk, hTl, w1, drop34h, braC_tl, take34l hbo.2.1, frzAll_hc, hbo.2.1, braF_tl, -Int.natCast_add]
    refine ⟨⟨by omega, by omega⟩, ⟨by omega, by omega⟩, ?_⟩
    exact round (i + 1) [0, 1, 419] (by omega) (by omega) (by simp [I, Ptr, -Int.natCast_add]) (by simp [hT]) (by simp) (by simp) (by simp)
  · have hil : i = l.length := by omega
    subst hil
    simp
    refine finW _ (weak_frz (o := 2) (ty := 187) (es := 35) (xs := brav l) rfl) ?_
    exact fin [] (by decide) rfl rfl rfl ⟨rfl, by simp [List.take_of_length_le]⟩
set_option maxHeartbeats 16000000 in
theorem giveTx_ok (t : Txn) (ht : t.bk) : ECalls Tryz.prog 27 [TXv t] [] fun y H' => H' = [] ∧ y = TXv t := by
  obtain ⟨⟨h1, h2, h3, h4, h5⟩, b1, b2, b3, b4⟩ := ht
  refine ecalls k_giveTx ?_
  simp [c_giveTx, TXv, txC, I, iC]
  refine loopW _ (weak_nil (o := 80) (k := 1) (ty := 135) (es := 35) rfl rfl (by omega)) (loopW _ (weak_nil (o := 80) (k := 2) (ty := 118) (es := 2) rfl rfl (by omega)) ?_)
  refine eloop (α := Nat) (fun i => i ≤ t.ins.length) (fun i => t.ins.length - i)
    (fun i => [.any, Ptr 0, Ptr 1, Ptr 2, I .i64 i, .any, .any, .any, .any, .any, .any, .any, .any, .any, .any, .any, .any, .any, .any, .any, .any, .any, .any, .any, .any, .any, .any, .any, .any, .any, .any, .any, .any, .any, .any, .any, .any, .any, .any, .any, .any, .any, .any, .any, .any, .any, .any, .any, .any, .any, .any, .any, .any, .any, .any, .any, .any, .any, .any, .any, .any, .any, .any, .any, .any, .any, .any, .any, .any, .any]) (fun i => [some (.box 69 (txC t)), some (.box 63 [iC 0, .fz (.lit (.slice none 0 0)), .fz (.lit (.slice none 0 0))]), some (.box 63 [iC t.lk, .row 3 i, .row 4 0]), some (.row 135 35 (inpv (t.ins.take i))), some (.row 118 2 [])]) 0 [0, 16, 80, 128, 129]
    (Nat.zero_le _) (by simp [I, Ptr]) (by simp [txC, iC, inpv]) (by simp) (by simp) (by simp) ?_
  intro i hi
  simp [I, Ptr, txC, iC, -Int.natCast_add]
  refine alt (fun hlt => ?_) (fun hlt => ?_)
  · have hln : i < t.ins.length := by omega
    obtain ⟨p, hcp⟩ : ∃ p, t.ins[i]? = some p := ⟨t.ins[i], by simp [hln]⟩
    have hge : (inpv t.ins)[i]'(by simp [hln]) = inpF p := by
      have e := inpv_get hcp
      rw [List.getElem?_eq_getElem (by simp [hln])] at e
      exact Option.some.inj e
    have hpo := h2 p (List.mem_of_getElem? hcp)
    have hb := b3 p (List.mem_of_getElem? hcp)
    have l0 := ic_len hpo.1
    have l1 := if_len hpo.1
    have tk := ic_take hpo.1
    have tp := ic_pt hpo.1
    have e33 := idx_of (ic_33 hpo.1) (by omega)
    have e34 := idx_of (ic_34 hpo.1) (by omega)
    have w1 : IntKind.i64.wrap ((i : Int) + 1) = ((i + 1 : Nat) : Int) := wrap_i64 (by omega) (by omega)
    have hT : inpv (t.ins.take (i + 1)) = inpv (t.ins.take i) ++ [inpF p] := by rw [List.take_add_one, hcp]; simp [inpv]
    have hTl : (t.ins.take i).length = i := by simp; omega
    have tks : List.take p.sec.length (bsv p.sec) = bsv p.sec := List.take_of_length_le (by simp)
    simp [hln, hge, inpF_fz, l0, l1, tk, tp, e33, e34, hTl, tks, w1, frzAll_hc, iC, drop33i, hpo.1, tk33x hpo.1, tk34x hpo.1, dr34x hpo.1, dr35x hpo.1, -Int.natCast_add]
    refine ⟨⟨by omega, by omega⟩, ⟨by omega, by omega⟩, ?_⟩
    exact round (i + 1) [0, 1, 2, 485, 4] (by omega) (by omega) (by simp [I, Ptr, -Int.natCast_add]) (by simp [hT, inpF, iF, txC, iC]) (by simp) (by simp) (by simp)
  have hil : i = t.ins.length := by omega
  subst hil
  simp
  refine eloop (α := Nat) (fun i => i ≤ t.outs.length) (fun i => t.outs.length - i)
    (fun i => [.any, Ptr 0, Ptr 1, Ptr 2, .any, .any, I .i64 i, .any, .any, .any, .any, .any, .any, .any, .any, .any, .any, .any, .any, .any, .any, .any, .any, .any, .any, .any, .any, .any, .any, .any, .any, .any, .any, .any, .any, .any, .any, .any, .any, .any, .any, .any, .any, .any, .any, .any, .any, .any, .any, .any, .any, .any, .any, .any, .any, .any, .any, .any, .any, .any, .any, .any, .any, .any, .any, .any, .any, .any, .any, .any]) (fun i => [some (.box 69 (txC t)), some (.box 63 [iC 0, .fz (.lit (.slice none 0 0)), .fz (.lit (.slice none 0 0))]), some (.box 63 [iC t.lk, .row 3 t.ins.length, .row 4 i]), some (.row 135 35 (inpv t.ins)), some (.row 118 2 (outv (t.outs.take i)))]) 0 [0, 1, 2, 3, 4]
    (Nat.zero_le _) (by simp [I, Ptr]) (by simp [txC, iC, outv]) (by simp) (by simp) (by simp) ?_
  clear hlt hi
  intro i hi
  simp [I, Ptr, txC, iC, -Int.natCast_add]
  refine alt (fun hlt => ?_) (fun hlt => ?_)
  · have hln : i < t.outs.length := by omega
    obtain ⟨p, hcp⟩ : ∃ p, t.outs[i]? = some p := ⟨t.outs[i], by simp [hln]⟩
    have hge : (outv t.outs)[i]'(by simp [hln]) = outF p := by
      have e := outv_get hcp
      rw [List.getElem?_eq_getElem (by simp [hln])] at e
      exact Option.some.inj e
    have hpo := h3 p (List.mem_of_getElem? hcp)
    have hb := (b4 p (List.mem_of_getElem? hcp)).1
    have w1 : IntKind.i64.wrap ((i : Int) + 1) = ((i + 1 : Nat) : Int) := wrap_i64 (by omega) (by omega)
    have hT : outv (t.outs.take (i + 1)) = outv (t.outs.take i) ++ [outF p] := by rw [List.take_add_one, hcp]; simp [outv]
    have hTl : (t.outs.take i).length = i := by simp; omega
    simp [hln, hge, outF, iF, -Int.natCast_add]
    refine call0 (giveCond_ok p.cs hpo.2.1 hb) (by simp [CNv]) ?_
    rintro y H' ⟨rfl, rfl⟩
    refine ⟨.inl (by simp [CNv]), le_ok rfl, ?_⟩
    simp [hln, hge, outF, iF, CNv, hTl, w1, -Int.natCast_add]
    refine ⟨⟨by omega, by omega⟩, ?_⟩
    exact round (i + 1) [0, 1, 2, 3, 357] (by omega) (by omega) (by simp [I, Ptr, -Int.natCast_add]) (by simp [hT, outF, iF, txC, iC]) (by simp) (by simp) (by simp)
  · have hil : i = t.outs.length := by omega
    subst hil
    simp
    refine finW _ (weak_frz (o := 3) (ty := 135) (es := 35) (xs := inpv t.ins) rfl) ?_
    refine finW _ (weak_frz (o := 4) (ty := 118) (es := 2) (xs := outv t.outs) rfl) ?_
    exact fin [] (by decide) rfl rfl rfl ⟨rfl, by simp [List.take_of_length_le]⟩
end Go.Proofs.YtflcfdeanneoeaaGreatDoor
set_option linter.unusedVariables false
set_option linter.unusedSimpArgs false
namespace Go.Proofs.YtflcfdeanneoeaaGreatDoor
open Go.RowKit Go.Lib Go.EW
set_option maxHeartbeats 4000000 in
set_option maxRecDepth 100000 in
theorem cmp_w (k : Int) (g c : Nat) (cur : Array Value) (W1 w : World) (hg : w.heap[g]? = some (.cells cur 3 (0, 0))) (h0 : cur[0]? = some (.int .i64 k)) (h1 : cur[1]? = some (.int .i64 k)) (hc : 2 ≤ c) (hc63 : c ≤ 9223372036854775807)
    (hcl : ∀ ty, (Builtin.clear_ #[111] ty #[.slice (some ⟨g, 1, none⟩) 1 (c - 1)]).run Tryz.prog w.drew = .ok (.tuple #[]) W1) :
    Calls Tryz.prog 102 #[.slice (some ⟨g, 0, none⟩) 2 c] w fun e w' => e = .returned (.slice (some ⟨g, 0, none⟩) 1 c) ∧ w' = W1 := by
  have hc0 : w.cell? ⟨g, 0, none⟩ = some (.int .i64 k) := by rw [cell_of_row w g 0 cur 3 (0, 0) hg]; exact h0
  have hc1 : w.cell? ⟨g, 1, none⟩ = some (.int .i64 k) := by rw [cell_of_row w g 1 cur 3 (0, 0) hg]; exact h1
  have hb4 : ¬ (c = 1) := by omega
  have hb5 : (1 : Int) ≤ (c : Int) := by omega
  have hb6 : (2 : Int) ≤ (c : Int) := by omega
  have hb7 : 1 ≤ c := by omega
  go_enter Tryz.func102, Tryz.ntmps102
  go_wp2
  refine wp_loop_rounds 1 ?_
  rw [rounds_succ]
  go_wp2
  go_region
  all_goals go_wp2
  all_goals (refine wp_loop_rounds 1 ?_; rw [rounds_succ]; go_wp2)
  go_ret
  exact ⟨rfl, rfl⟩
theorem cmp_run (w : World) (base : Option Addr) (cap : Nat) (k : Int) (how : w.ownsRow 0 3 1 (.slice base 2 cap) 2 [.int .i64 k, .int .i64 k]) :
    ∃ v' W', (Calls Tryz.prog 102 #[.slice base 2 cap] w fun e w' => e = .returned v' ∧ w' = W') ∧ W'.ownsRow 0 3 1 v' 1 [.int .i64 k] ∧
      w.grownBy W' (Value.slice base 2 cap).ownBlock ∧ v'.ownBlock = (Value.slice base 2 cap).ownBlock := by
  obtain ⟨ti, z, E⟩ : ∃ ti z, ElemT Tryz.prog 111 3 1 8 ti z := elemT_of (by kernel_rfl) (by kernel_rfl) (by kernel_rfl) (by kernel_rfl) (by decide)
  have hi' := E.hi
  rcases how.2 with ⟨h1, h2⟩ | ⟨g, cap', cur, h1, _, hg, hnc, hcm, hcs, htk⟩
  · omega
  simp only [Value.slice.injEq] at h1
  obtain ⟨rfl, _, rfl⟩ := h1
  have hml : cap ≤ 9223372036854775807 := by unfold maxLen at hcm; omega
  simp only [Nat.mul_one] at hcs htk
  have q0 : cur[0]? = some (.int .i64 k) := by
    have : (cur.toList.take 2)[0]? = some (.int .i64 k) := by rw [htk]; rfl
    rw [List.getElem?_take] at this
    simpa using this
  have q1 : cur[1]? = some (.int .i64 k) := by
    have : (cur.toList.take 2)[1]? = some (.int .i64 k) := by rw [htk]; rfl
    rw [List.getElem?_take] at this
    simpa using this
  have hg' : w.drew.heap[g]? = some (.cells cur 3 (0, 0)) := hg
  have hzc : (Builtin.zeroCells z.cells 1).toList.length = 1 := by
    have := size_zeroCells z.cells 1
    rw [E.zs] at this
    simpa using this
  have hzo : ∀ u ∈ (Builtin.zeroCells z.cells 1).toList, u.oneCell' = true := by
    intro u hu
    refine E.zo u ?_
    obtain ⟨a, ha, rfl⟩ : ∃ a, a < z.cells.size ∧ z.cells[a % z.cells.size]! = u := by simpa [Builtin.zeroCells] using hu
    have hlt : a % z.cells.size < z.cells.size := Nat.mod_lt _ (by omega)
    rw [getElem!_pos z.cells _ hlt]
    simp
  obtain ⟨ZZ, hZZ⟩ : ∃ ZZ, (Builtin.zeroCells z.cells 1).toList = ZZ := ⟨_, rfl⟩
  rw [hZZ] at hzc hzo
  have hst := run_storeCells_at Tryz.prog g 1 3 ZZ 0 cur w.drew hg' (by rw [hzc, hcs]; omega) hzo
  simp only [Nat.add_zero] at hst
  have hclr : ∀ ty, (Builtin.clear_ #[111] ty #[.slice (some ⟨g, 1, none⟩) 1 (cap - 1)]).run Tryz.prog w.drew = .ok (.tuple #[]) _ := fun ty => by
    simp only [Builtin.clear_]
    simp only [List.getElem?_toArray, List.getElem?_cons_zero, Sem.run_bind, run_underlying E.u, zeroValue, typeInfo, hi', E.hz]
    simp [zeroValue, typeInfo, hi', E.hz, hZZ, hst]
    rfl
  refine ⟨_, _, cmp_w k g cap cur _ w hg q0 q1 hnc hml hclr, ⟨rfl, .inr ⟨g, cap, _, rfl, Nat.zero_le _, setRow_heap _ _ _ _ _ _ hg', by omega, hcm, ?_, ?_⟩⟩, ⟨rfl, rfl, rfl, by simp, ?_⟩, rfl⟩
  · simp only [List.size_toArray, List.length_append, List.length_take, List.length_drop, hzc]
    have : cur.toList.length = cap := by simpa using hcs
    omega
  · simp only [Nat.mul_one]
    rw [List.take_append_of_le_length (by simp [hcs]; omega), List.take_take]
    have e1 : cur.toList.take 1 = (cur.toList.take 2).take 1 := by rw [List.take_take]; rfl
    simp only [Nat.min_self]
    rw [e1, htk]
    rfl
  · intro i hi hne
    have hkg : i ≠ g := by rintro rfl; exact hne rfl
    rw [setRow_other _ _ _ _ hkg]
    rfl
theorem cmp_ok (k : Int) : ECalls Tryz.prog 102 [.v (.c (.row 0 2))] [.row 3 1 [[.lit (.int .i64 k)], [.lit (.int .i64 k)]]] fun y H' =>
      H' = [none, some (.row 3 1 [[.lit (.int .i64 k)]])] ∧ y = .v (.c (.row 1 1)) := by
  intro ρ Φ w vals r ha
  obtain ⟨v0, vs0, rfl, h0, ha⟩ := ha.cons_left
  obtain rfl := ha.nil_left
  obtain ⟨base, cap, flat, rfl, hρ0, hp, hl, how, hall⟩ := row_own r (o := 0) (e := 3) (es := 1) (xs := [[.lit (.int .i64 k)], [.lit (.int .i64 k)]]) rfl h0
  obtain rfl : flat = [.int .i64 k, .int .i64 k] := by
    obtain ⟨a, as1, rfl, ha1, ha2⟩ := hall.cons_left
    obtain ⟨b, bs1, rfl, hb1, hb2⟩ := ha2.cons_left
    obtain rfl := hb2.nil_left
    cases ha1
    cases hb1
    rfl
  obtain ⟨v', W', hcalls, hown, hg, hat⟩ := cmp_run w base cap k how
  refine hcalls.mono ?_
  rintro e' w' ⟨rfl, rfl⟩
  have hob : (Value.slice base 2 cap).ownBlock = hb (Value.slice base 2 cap) := own_hb _ rfl
  obtain ⟨a', n', hv'⟩ : ∃ a' c', v' = .slice a' 1 c' ∧ 1 ≤ c' := by
    rcases hown.2 with ⟨h1, h2⟩ | ⟨g, cap', cur, h1, _, _, h2, _⟩
    · omega
    · exact ⟨_, cap', h1, h2⟩
  have hob' := own_hb v' hv'.1
  have nbo : ∀ b, Φ b → some b ≠ (Value.slice base 2 cap).ownBlock := by
    intro b hb' e'
    refine r.dis 0 _ b rfl ?_ hb'
    have : ρ 0 = _ := hρ0
    show hb (ρ 0) = some b
    rw [this]
    exact hob.symm.trans e'.symm
  have hl0 : Later ⟨fun o => o < 1, ρ, Φ, w⟩ { U := fun o => o < 1 ∨ o = 1, ρ := upd ρ 1 v', Φ := Φ, w := w' } :=
    ⟨fun _ h => .inl h, fun o hu => upd_ne _ _ _ (by have : o < 1 := hu; omega), fun _ h => h, fun b hb' => hg.block b (r.fro b hb') (nbo b hb')⟩
  obtain ⟨r', l'⟩ := r.grow (some 0) (Value.slice base 2 cap).ownBlock (.inr ⟨0, _, rfl, rfl, by have : ρ 0 = _ := hρ0; show hb (ρ 0) = _; rw [this]; exact hob.symm⟩) hg (id := 1) (by show ¬ (1 < 1); omega) (Nat.le_refl _) v'
    (by rw [← hob']; exact .inr (.inl hat)) (.row 3 1 [[.lit (.int .i64 k)]])
    ⟨by omega, by simp, _, hown, All2.cons (FR.lit _ rfl) All2.nil⟩
  have hU : (fun o => o < 1 ∨ o = 1) = fun o => o < 2 := funext fun o => propext (by omega)
  have hH : upd (dropO (ofL [EO.row 3 1 [[.lit (.int .i64 k)], [.lit (.int .i64 k)]]]) (some 0)) 1 (some (.row 3 1 [[.lit (.int .i64 k)]])) = ofO [none, some (.row 3 1 [[.lit (.int .i64 k)]])] := by
    funext o
    match o with
    | 0 => rfl
    | 1 => rfl
    | o + 2 => simp [upd, dropO, ofL, ofO]
  refine ⟨_, _, v', upd ρ 1 v', Φ, rfl, ⟨rfl, rfl⟩, by simp, ?_, ?_⟩
  · exact ⟨by show 1 < _; simp, a', 1, n', by simp [upd_same, hv'.1], Nat.le_refl _, hv'.2, hv'.1⟩
  · have r2 : Rel w 1 ρ Φ _ { U := fun o => o < 1 ∨ o = 1, ρ := upd ρ 1 v', Φ := Φ, w := w' } := r'
    rw [hU] at r2
    have r3 := hH ▸ r2
    exact r3
end Go.Proofs.YtflcfdeanneoeaaGreatDoor
namespace Go.Proofs.YtflcfdeanneoeaaGreatDoor
open Go Go.EW
set_option linter.unusedSimpArgs false
set_option linter.unusedVariables false
@[simp] def l_BClose_1 (_ : Unit) : List EOp := [xQ 0 2 (.box 42 (.t 0)), xQ 1 3 (.box 47 (.t 1)), xQ 2 4 (.alloc 63 [(.int .i64 0), (.slice none 0 0), (.slice none 0 0)]), xQ 3 5 (.mov (.k .nilIface))]
@[simp] def b_BClose_2 (_ : Unit) : EB := reg0 (hid l_BClose_1) 4
@[simp] def l_BClose_3 (_ : Unit) : List EOp := [xQ 0 10 (.lda 38 (.t 2)), xQ 1 11 (.lda 5 (.t 3)), xO 2 12 (.call 20 [(.t 10), (.t 11)]), xM 3 6 12]
@[simp] def b_BClose_4 (_ : Unit) : EB := reg0 (hid l_BClose_3) 4
@[simp] def l_BClose_5 (_ : Unit) : List EOp := [xM 0 13 6, xQ 1 14 (.eqi true (.t 13))]
@[simp] def b_BClose_6 (_ : Unit) : EB := reg0 (hid l_BClose_5) 2
@[simp] def l_BClose_7 (_ : Unit) : List EOp := [xQ 0 15 (.build [(.int .i64 0), (.slice none 0 0), (.slice none 0 0)] []), xM 1 16 6, xN 2 (.fz (.sto 3 (.t 4) (.t 15))), xM 3 5 16]
@[simp] def b_BClose_8 (_ : Unit) : EB := reg0 (hid l_BClose_7) 4
@[simp] def b_BClose_9 (_ : Unit) : EB := .seq (hid b_BClose_8) .ret
@[simp] def b_BClose_10 (_ : Unit) : EB := .cond (.t 14) (hid b_BClose_9) .skip
@[simp] def b_BClose_11 (_ : Unit) : EB := .seq (hid b_BClose_6) (hid b_BClose_10)
@[simp] def b_BClose_12 (_ : Unit) : EB := .seq (hid b_BClose_4) (hid b_BClose_11)
@[simp] def l_BClose_14 (_ : Unit) : List EOp := [xQ 6 23 (.bin .add (.t 19) (.t 22)), xQ 7 24 (.bin .gtr (.t 23) (.k (.int .i64 0)))]
@[simp] def l_BClose_13 (_ : Unit) : List EOp := xQ 0 17 (.fad 3 (.t 3)) :: xQ 1 18 (.ldc (.t 17)) :: xQ 2 19 (.len (.t 18)) :: xQ 3 20 (.fad 4 (.t 3)) :: xQ 4 21 (.ldc (.t 20)) :: xQ 5 22 (.len (.t 21)) :: hid l_BClose_14
@[simp] def b_BClose_15 (_ : Unit) : EB := reg0 (hid l_BClose_13) 8
@[simp] def l_BClose_16 (_ : Unit) : List EOp := [xQ 0 25 (.build [(.int .i64 0), (.slice none 0 0), (.slice none 0 0)] []), xQ 1 26 (.mki 120 (.k (.int .i64 31))), xN 2 (.fz (.sto 3 (.t 4) (.t 25))), xM 3 5 26]
@[simp] def b_BClose_17 (_ : Unit) : EB := reg0 (hid l_BClose_16) 4
@[simp] def b_BClose_18 (_ : Unit) : EB := .seq (hid b_BClose_17) .ret
@[simp] def b_BClose_19 (_ : Unit) : EB := .cond (.t 24) (hid b_BClose_18) .skip
@[simp] def b_BClose_20 (_ : Unit) : EB := .seq (hid b_BClose_15) (hid b_BClose_19)
@[simp] def l_BClose_22 (_ : Unit) : List EOp := [xN 6 (.fz (.sto 3 (.t 7) (.t 31)))]
@[simp] def l_BClose_21 (_ : Unit) : List EOp := xQ 0 27 (.fad 0 (.t 2)) :: xQ 1 28 (.lda 33 (.t 27)) :: xQ 2 29 (.build (zU8 ++ [(.int .i64 0), (.int .i64 0), (.slice none 0 0)]) [(0, 33, (.t 28))]) :: xO 3 30 (.fz (.q (.bsl 35 (zU8 ++ [(.int .i64 0), (.int .i64 0), (.slice none 0 0)]) 1 [(0, (.t 29))]))) :: xQ 4 31 (.build [(.int .i64 0), (.slice none 0 0), (.slice none 0 0)] [(1, 1, (.t 30))]) :: xQ 5 7 (.alloc 63 [(.int .i64 0), (.slice none 0 0), (.slice none 0 0)]) :: hid l_BClose_22
@[simp] def b_BClose_23 (_ : Unit) : EB := reg0 (hid l_BClose_21) 7
@[simp] def l_BClose_24 (_ : Unit) : List EOp := [xQ 0 32 (.mov (.k (.int .i64 0)))]
@[simp] def b_BClose_25 (_ : Unit) : EB := reg0 (hid l_BClose_24) 1
@[simp] def l_BClose_26 (_ : Unit) : List EOp := [xQ 0 33 (.bin .lss (.t 32) (.k (.int .i64 2)))]
@[simp] def b_BClose_27 (_ : Unit) : EB := reg0 (hid l_BClose_26) 1
@[simp] def b_BClose_28 (_ : Unit) : EB := .cond (.t 33) .skip (.exit 0)
@[simp] def l_BClose_29 (_ : Unit) : List EOp := [xM 0 34 32, xM 1 8 34]
@[simp] def b_BClose_30 (_ : Unit) : EB := reg0 (hid l_BClose_29) 2
@[simp] def l_BClose_31 (_ : Unit) : List EOp := [xQ 0 35 (.lda 38 (.t 2)), xQ 1 36 (.lda 5 (.t 3)), xM 2 37 8, xO 3 38 (.call 56 [(.t 35), (.t 36), (.t 37)]), xM 4 9 38]
@[simp] def b_BClose_32 (_ : Unit) : EB := reg0 (hid l_BClose_31) 5
@[simp] def l_BClose_33 (_ : Unit) : List EOp := [xM 0 39 9, xQ 1 40 (.bin .geq (.t 39) (.k (.int .i64 10)))]
@[simp] def b_BClose_34 (_ : Unit) : EB := reg0 (hid l_BClose_33) 2
@[simp] def l_BClose_37 (_ : Unit) : List EOp := [xQ 12 53 (.fad 2 (.t 7)), xN 13 (.fz (.sto 1 (.t 53) (.t 52)))]
@[simp] def l_BClose_36 (_ : Unit) : List EOp := xQ 6 47 (.ldc (.t 46)) :: xQ 7 48 (.bsl 1 [(.int .i64 0)] 1 [(0, (.t 47))]) :: ⟨8, (some 49), none, (.call 57 [(.t 48)]), [0, 1, 2]⟩ :: xQ 9 50 (.build [(.int .i64 0), (.slice none 0 0)] [(0, 1, (.t 43)), (1, 1, (.t 49))]) :: ⟨10, (some 51), none, (.fz (.q (.bsl 2 [(.int .i64 0), (.slice none 0 0)] 1 [(0, (.t 50))]))), [0, 1]⟩ :: xO 11 52 (.app 118 2 32 (.t 42) (.t 51)) :: hid l_BClose_37
@[simp] def l_BClose_35 (_ : Unit) : List EOp := xQ 0 41 (.fad 2 (.t 7)) :: xQ 1 42 (.ldc (.t 41)) :: xM 2 43 9 :: xM 3 44 8 :: xQ 4 45 (.fad 34 (.t 2)) :: xQ 5 46 (.iad 2 1 (.t 45) (.t 44)) :: hid l_BClose_36
@[simp] def b_BClose_38 (_ : Unit) : EB := reg1 (hid l_BClose_35) 14
@[simp] def b_BClose_39 (_ : Unit) : EB := .cond (.t 40) (hid b_BClose_38) .skip
@[simp] def b_BClose_40 (_ : Unit) : EB := .seq (hid b_BClose_34) (hid b_BClose_39)
@[simp] def b_BClose_41 (_ : Unit) : EB := .seq (hid b_BClose_32) (hid b_BClose_40)
@[simp] def b_BClose_42 (_ : Unit) : EB := .seq (hid b_BClose_30) (hid b_BClose_41)
@[simp] def b_BClose_43 (_ : Unit) : EB := .block 1 (hid b_BClose_42)
@[simp] def l_BClose_44 (_ : Unit) : List EOp := [xQ 0 54 (.bin .add (.t 32) (.k (.int .i64 1))), xM 1 32 54]
@[simp] def b_BClose_45 (_ : Unit) : EB := reg0 (hid l_BClose_44) 2
@[simp] def b_BClose_46 (_ : Unit) : EB := .seq (hid b_BClose_43) (hid b_BClose_45)
@[simp] def b_BClose_47 (_ : Unit) : EB := .seq (hid b_BClose_28) (hid b_BClose_46)
@[simp] def b_BClose_48 (_ : Unit) : EB := .seq (hid b_BClose_27) (hid b_BClose_47)
@[simp] def b_BClose_49 (_ : Unit) : EB := .loop (hid b_BClose_48)
@[simp] def b_BClose_50 (_ : Unit) : EB := .block 0 (hid b_BClose_49)
@[simp] def b_BClose_51 (_ : Unit) : EB := .seq (hid b_BClose_25) (hid b_BClose_50)
@[simp] def l_BClose_52 (_ : Unit) : List EOp := [xQ 0 55 (.lda 3 (.t 7)), xO 1 56 (.call 47 [(.t 55)]), xQ 2 57 (.ext 0 (.t 56)), xQ 3 58 (.ext 1 (.t 56)), xN 4 (.fz (.sto 3 (.t 4) (.t 57))), xM 5 5 58]
@[simp] def b_BClose_53 (_ : Unit) : EB := reg0 (hid l_BClose_52) 6
@[simp] def b_BClose_54 (_ : Unit) : EB := .seq (hid b_BClose_53) .ret
@[simp] def b_BClose_55 (_ : Unit) : EB := .seq (hid b_BClose_51) (hid b_BClose_54)
@[simp] def b_BClose_56 (_ : Unit) : EB := .seq (hid b_BClose_23) (hid b_BClose_55)
@[simp] def b_BClose_57 (_ : Unit) : EB := .seq (hid b_BClose_20) (hid b_BClose_56)
@[simp] def b_BClose_58 (_ : Unit) : EB := .seq (hid b_BClose_12) (hid b_BClose_57)
@[simp] def b_BClose_59 (_ : Unit) : EB := .seq (hid b_BClose_2) (hid b_BClose_58)
def c_BClose : EB × List QOp × Nat := ((hid b_BClose_59), [(.lda 3 (.t 4)), (.mov (.t 5))], 59)
theorem k_BClose : cfun Tryz.prog 23 = some c_BClose := by kernel_rfl
@[simp] def l_RBClose_1 (_ : Unit) : List EOp := [xQ 0 2 (.box 28 (.t 0)), xQ 1 3 (.box 32 (.t 1)), xQ 2 4 (.alloc 69 [(.int .i64 0), (.slice none 0 0), (.slice none 0 0)]), xQ 3 5 (.mov (.k (.int .i64 0)))]
@[simp] def b_RBClose_2 (_ : Unit) : EB := reg0 (hid l_RBClose_1) 4
@[simp] def l_RBClose_3 (_ : Unit) : List EOp := [xQ 0 8 (.lda 38 (.t 2)), xQ 1 9 (.lda 5 (.t 3)), xO 2 10 (.call 21 [(.t 8), (.t 9)]), xM 3 6 10]
@[simp] def b_RBClose_4 (_ : Unit) : EB := reg0 (hid l_RBClose_3) 4
@[simp] def l_RBClose_5 (_ : Unit) : List EOp := [xM 0 11 6, xQ 1 12 (.bin .neq (.t 11) (.k (.int .i64 0)))]
@[simp] def b_RBClose_6 (_ : Unit) : EB := reg0 (hid l_RBClose_5) 2
@[simp] def l_RBClose_7 (_ : Unit) : List EOp := [xQ 0 13 (.build [(.int .i64 0), (.slice none 0 0), (.slice none 0 0)] []), xM 1 14 6, xN 2 (.fz (.sto 3 (.t 4) (.t 13))), xM 3 5 14]
@[simp] def b_RBClose_8 (_ : Unit) : EB := reg0 (hid l_RBClose_7) 4
@[simp] def b_RBClose_9 (_ : Unit) : EB := .seq (hid b_RBClose_8) .ret
@[simp] def b_RBClose_10 (_ : Unit) : EB := .cond (.t 12) (hid b_RBClose_9) .skip
@[simp] def b_RBClose_11 (_ : Unit) : EB := .seq (hid b_RBClose_6) (hid b_RBClose_10)
@[simp] def l_RBClose_13 (_ : Unit) : List EOp := [xG 6 21 19 false (.ldc (.t 20)), xG 7 22 19 false (.len (.t 21)), xG 8 23 19 false (.bin .gtr (.t 22) (.k (.int .i64 0))), xQ 9 24 (.pick (.t 19) (.k (.bool true)) (.t 23))]
@[simp] def l_RBClose_12 (_ : Unit) : List EOp := xQ 0 15 (.fad 3 (.t 3)) :: xQ 1 16 (.ldc (.t 15)) :: xQ 2 17 (.len (.t 16)) :: xQ 3 18 (.bin .gtr (.t 17) (.k (.int .i64 0))) :: xM 4 19 18 :: xG 5 20 19 false (.fad 4 (.t 3)) :: hid l_RBClose_13
@[simp] def b_RBClose_14 (_ : Unit) : EB := reg0 (hid l_RBClose_12) 10
@[simp] def l_RBClose_15 (_ : Unit) : List EOp := [xQ 0 25 (.build [(.int .i64 0), (.slice none 0 0), (.slice none 0 0)] []), xN 1 (.fz (.sto 3 (.t 4) (.t 25))), xQ 2 5 (.mov (.k (.int .i64 31)))]
@[simp] def b_RBClose_16 (_ : Unit) : EB := reg0 (hid l_RBClose_15) 3
@[simp] def b_RBClose_17 (_ : Unit) : EB := .seq (hid b_RBClose_16) .ret
@[simp] def b_RBClose_18 (_ : Unit) : EB := .cond (.t 24) (hid b_RBClose_17) .skip
@[simp] def b_RBClose_19 (_ : Unit) : EB := .seq (hid b_RBClose_14) (hid b_RBClose_18)
@[simp] def l_RBClose_21 (_ : Unit) : List EOp := [xN 6 (.fz (.sto 3 (.t 7) (.t 30)))]
@[simp] def l_RBClose_20 (_ : Unit) : List EOp := xQ 0 26 (.fad 0 (.t 2)) :: xQ 1 27 (.lda 33 (.t 26)) :: xQ 2 28 (.build (zU8 ++ [(.int .i64 0), (.int .i64 0), (.slice none 0 0)]) [(0, 33, (.t 27))]) :: xO 3 29 (.fz (.q (.bsl 35 (zU8 ++ [(.int .i64 0), (.int .i64 0), (.slice none 0 0)]) 1 [(0, (.t 28))]))) :: xQ 4 30 (.build [(.int .i64 0), (.slice none 0 0), (.slice none 0 0)] [(1, 1, (.t 29))]) :: xQ 5 7 (.alloc 69 [(.int .i64 0), (.slice none 0 0), (.slice none 0 0)]) :: hid l_RBClose_21
@[simp] def b_RBClose_22 (_ : Unit) : EB := reg0 (hid l_RBClose_20) 7
@[simp] def l_RBClose_24 (_ : Unit) : List EOp := [xQ 6 37 (.bin .geq (.t 36) (.k (.int .i64 10)))]
@[simp] def l_RBClose_23 (_ : Unit) : List EOp := xQ 0 31 (.fad 1 (.t 3)) :: xQ 1 32 (.iad 2 1 (.t 31) (.k (.int .i64 0))) :: xQ 2 33 (.ldc (.t 32)) :: xQ 3 34 (.fad 37 (.t 2)) :: xQ 4 35 (.ldc (.t 34)) :: xQ 5 36 (.bin .sub (.t 33) (.t 35)) :: hid l_RBClose_24
@[simp] def b_RBClose_25 (_ : Unit) : EB := reg0 (hid l_RBClose_23) 7
@[simp] def l_RBClose_28 (_ : Unit) : List EOp := [⟨12, (some 50), none, (.call 58 [(.t 49)]), [0, 1, 2, 3, 4, 5, 6, 7]⟩, xQ 13 51 (.build [(.int .i64 0), (.slice none 0 0)] [(0, 1, (.t 45)), (1, 1, (.t 50))]), ⟨14, (some 52), none, (.fz (.q (.bsl 2 [(.int .i64 0), (.slice none 0 0)] 1 [(0, (.t 51))]))), [0, 1]⟩, xO 15 53 (.app 148 2 32 (.t 39) (.t 52)), xQ 16 54 (.fad 2 (.t 7)), xN 17 (.fz (.sto 1 (.t 54) (.t 53)))]
@[simp] def l_RBClose_27 (_ : Unit) : List EOp := xQ 6 44 (.ldc (.t 43)) :: xQ 7 45 (.bin .sub (.t 42) (.t 44)) :: xQ 8 46 (.fad 34 (.t 2)) :: xQ 9 47 (.iad 2 1 (.t 46) (.k (.int .i64 0))) :: xQ 10 48 (.ldc (.t 47)) :: xQ 11 49 (.bsl 1 [(.int .i64 0)] 1 [(0, (.t 48))]) :: hid l_RBClose_28
@[simp] def l_RBClose_26 (_ : Unit) : List EOp := xQ 0 38 (.fad 2 (.t 7)) :: xQ 1 39 (.ldc (.t 38)) :: xQ 2 40 (.fad 1 (.t 3)) :: xQ 3 41 (.iad 2 1 (.t 40) (.k (.int .i64 0))) :: xQ 4 42 (.ldc (.t 41)) :: xQ 5 43 (.fad 37 (.t 2)) :: hid l_RBClose_27
@[simp] def b_RBClose_29 (_ : Unit) : EB := reg1 (hid l_RBClose_26) 18
@[simp] def b_RBClose_30 (_ : Unit) : EB := .cond (.t 37) (hid b_RBClose_29) .skip
@[simp] def b_RBClose_31 (_ : Unit) : EB := .seq (hid b_RBClose_25) (hid b_RBClose_30)
@[simp] def l_RBClose_32 (_ : Unit) : List EOp := [xQ 0 55 (.fad 1 (.t 3)), xQ 1 56 (.iad 2 1 (.t 55) (.k (.int .i64 1))), xQ 2 57 (.ldc (.t 56)), xQ 3 58 (.bin .geq (.t 57) (.k (.int .i64 10)))]
@[simp] def b_RBClose_33 (_ : Unit) : EB := reg0 (hid l_RBClose_32) 4
@[simp] def l_RBClose_36 (_ : Unit) : List EOp := [xO 12 71 (.app 148 2 32 (.t 60) (.t 70)), xQ 13 72 (.fad 2 (.t 7)), xN 14 (.fz (.sto 1 (.t 72) (.t 71)))]
@[simp] def l_RBClose_35 (_ : Unit) : List EOp := xQ 6 65 (.iad 2 1 (.t 64) (.k (.int .i64 1))) :: xQ 7 66 (.ldc (.t 65)) :: xQ 8 67 (.bsl 1 [(.int .i64 0)] 1 [(0, (.t 66))]) :: ⟨9, (some 68), none, (.call 58 [(.t 67)]), [0, 1, 2, 3, 4]⟩ :: xQ 10 69 (.build [(.int .i64 0), (.slice none 0 0)] [(0, 1, (.t 63)), (1, 1, (.t 68))]) :: ⟨11, (some 70), none, (.fz (.q (.bsl 2 [(.int .i64 0), (.slice none 0 0)] 1 [(0, (.t 69))]))), [0, 1]⟩ :: hid l_RBClose_36
@[simp] def l_RBClose_34 (_ : Unit) : List EOp := xQ 0 59 (.fad 2 (.t 7)) :: xQ 1 60 (.ldc (.t 59)) :: xQ 2 61 (.fad 1 (.t 3)) :: xQ 3 62 (.iad 2 1 (.t 61) (.k (.int .i64 1))) :: xQ 4 63 (.ldc (.t 62)) :: xQ 5 64 (.fad 34 (.t 2)) :: hid l_RBClose_35
@[simp] def b_RBClose_37 (_ : Unit) : EB := reg1 (hid l_RBClose_34) 15
@[simp] def b_RBClose_38 (_ : Unit) : EB := .cond (.t 58) (hid b_RBClose_37) .skip
@[simp] def b_RBClose_39 (_ : Unit) : EB := .seq (hid b_RBClose_33) (hid b_RBClose_38)
@[simp] def l_RBClose_40 (_ : Unit) : List EOp := [xQ 0 73 (.lda 3 (.t 7)), xO 1 74 (.call 48 [(.t 73)]), xQ 2 75 (.ext 0 (.t 74)), xQ 3 76 (.ext 1 (.t 74)), xN 4 (.fz (.sto 3 (.t 4) (.t 75))), xM 5 5 76]
@[simp] def b_RBClose_41 (_ : Unit) : EB := reg0 (hid l_RBClose_40) 6
@[simp] def b_RBClose_42 (_ : Unit) : EB := .seq (hid b_RBClose_41) .ret
@[simp] def b_RBClose_43 (_ : Unit) : EB := .seq (hid b_RBClose_39) (hid b_RBClose_42)
@[simp] def b_RBClose_44 (_ : Unit) : EB := .seq (hid b_RBClose_31) (hid b_RBClose_43)
@[simp] def b_RBClose_45 (_ : Unit) : EB := .seq (hid b_RBClose_22) (hid b_RBClose_44)
@[simp] def b_RBClose_46 (_ : Unit) : EB := .seq (hid b_RBClose_19) (hid b_RBClose_45)
@[simp] def b_RBClose_47 (_ : Unit) : EB := .seq (hid b_RBClose_11) (hid b_RBClose_46)
@[simp] def b_RBClose_48 (_ : Unit) : EB := .seq (hid b_RBClose_4) (hid b_RBClose_47)
@[simp] def b_RBClose_49 (_ : Unit) : EB := .seq (hid b_RBClose_2) (hid b_RBClose_48)
def c_RBClose : EB × List QOp × Nat := ((hid b_RBClose_49), [(.lda 3 (.t 4)), (.mov (.t 5))], 77)
theorem k_RBClose : cfun Tryz.prog 24 = some c_RBClose := by kernel_rfl
def cloO (p : Prm) (s : Sta) (w : Int) : List Outp := if 10 ≤ hasP p s w then [⟨hasP p s w, allB [keyO p w]⟩] else []
def cloT (p : Prm) (s : Sta) : Txn := ⟨0, [⟨p.tx, p.n, 0, []⟩], cloO p s 0 ++ cloO p s 1⟩
def cloB (p : Prm) (s : Sta) : Txn × Nat :=
  if bldE p s ≠ 0 then (zTx, bldE p s) else if 0 < s.pays.length + s.holds.length then (zTx, 31) else donT (cloT p s)
theorem cloO_ok {p : Prm} {s : Sta} {w : Int} (hp : p.ok) (hs : s.ok) (h : i64 (s.h0 - p.fe)) : (∀ x ∈ cloO p s w, x.ok ∧ x.sm) ∧ (cloO p s w).length ≤ 1 := by
  have hh : i64 (hasP p s w) := by unfold hasP; split; exact h; exact hs.2.2.1
  have hz' : hz.length = 32 := rfl
  unfold cloO
  split
  · refine ⟨?_, by simp⟩
    intro x hx
    simp at hx
    subst hx
    refine ⟨⟨hh, ?_, by simp [allB]⟩, ?_, by simp [allB]⟩
    · intro b hb
      simp [allB] at hb
      subst hb
      rw [(keys_one _).2]
      exact ⟨by intro k hk; simp at hk; subst hk; exact keyO_i64 hp _, hz', by simp [i64], by simp [i64], by simp⟩
    · intro b hb
      simp [allB] at hb
      subst hb
      exact ⟨hz', by simp [insN_len]⟩
  · simp
theorem cloT_ok {p : Prm} {s : Sta} (hp : p.ok) (hs : s.ok) (h : i64 (s.h0 - p.fe)) : (cloT p s).ok ∧ (cloT p s).sm := by
  obtain ⟨a1, a2⟩ := cloO_ok (w := 0) hp hs h
  obtain ⟨b1, b2⟩ := cloO_ok (w := 1) hp hs h
  have hm : ∀ x ∈ cloO p s 0 ++ cloO p s 1, x.ok ∧ x.sm := by
    intro x hx
    rcases List.mem_append.1 hx with hx | hx
    · exact a1 x hx
    · exact b1 x hx
  have hn : (cloO p s 0 ++ cloO p s 1).length ≤ 2 := by rw [List.length_append]; omega
  refine ⟨⟨by simp [cloT, i64], ?_, fun x hx => (hm x hx).1, by simp [cloT], by show (cloO p s 0 ++ cloO p s 1).length ≤ _; omega⟩, ?_, fun x hx => (hm x hx).2, by simp [cloT], by show (cloO p s 0 ++ cloO p s 1).length ≤ _; omega⟩
  · intro x hx
    simp [cloT] at hx
    subst hx
    exact ⟨hp.1, hp.2.1, by simp [i64], by simp⟩
  · intro x hx
    simp [cloT] at hx
    subst hx
    exact ⟨hp.1, by simp⟩
theorem cloB_ok {p : Prm} {s : Sta} (hp : p.ok) (hs : s.ok) : (cloB p s).1.ok ∧ (cloB p s).1.sm := by
  unfold cloB
  split
  · exact zTx_okS
  rename_i c
  split
  · exact zTx_okS
  exact donT_ok (cloT_ok hp hs (outs_cond (Classical.not_not.1 c)).1)
def cloK (p : Prm) (s : Sta) (i : Nat) : List Outp := if i = 0 then [] else if i = 1 then cloO p s 0 else cloO p s 0 ++ cloO p s 1
theorem clo_ins (p : Prm) (s : Sta) : (inpv (cloT p s).ins).map (·.map gN) = [(hf p.tx ++ [iF p.n, iF 0]) ++ [.lit (.slice none 0 0)]] := by
  have h : ∀ l : List UInt8, (hf l).map gN = hf l := fun l => by have := hf_gN l []; simpa using this
  simp [cloT, inpv, inpF, h, gN, iF]
set_option maxRecDepth 8000 in
set_option maxHeartbeats 16000000 in
theorem BClose_ok (p : Prm) (s : Sta) (hp : p.ok) (hs : s.ok) : ECalls Tryz.prog 23 [PVv p, SV s] [] fun y H' => H' = [] ∧ y = .tup [.agg (txC (cloB p s).1), .c (.fz (.lit (errV (cloB p s).2)))] := by
  have h1 := hp.1
  have lp := prmC_len h1
  have tp := pm_take h1
  have t33 := pm_33 h1
  have e34 := idx_of (pm_at h1 2) (by omega)
  have e35 := idx_of (pm_at h1 3) (by omega)
  obtain ⟨ok1, ok2, ok3, ok4, ok5, ok6, ok7⟩ := id hs
  have w0 : IntKind.i64.wrap ((s.pays.length : Int) + (s.holds.length : Int)) = ((s.pays.length + s.holds.length : Nat) : Int) := by rw [wrap_i64 (by omega) (by omega)]; simp
  refine ecalls k_BClose ?_
  simp [c_BClose, PVv, SV, staC, I, lp, tp, -errV_0]
  refine call0 (BCheck_ok p s hp hs) (by simp [PVv, SV, staC]) ?_
  rintro y H' ⟨rfl, rfl⟩
  refine ⟨.inl (by simp), le_ok rfl, ?_⟩
  by_cases c : bldE p s = 0
  rotate_left
  · rw [show cloB p s = (zTx, bldE p s) from if_pos c]
    simp [c, -errV_0]
    refine finW _ (weak_nlB (o := 32) (k := 1) 35 rfl rfl) (finW _ (weak_nlB (o := 32) (k := 2) 2 rfl rfl) ?_)
    exact fin [] (by decide) rfl rfl rfl ⟨rfl, rfl⟩
  obtain ⟨k1, k2, k3, k4⟩ := outs_cond c
  simp [c, w0, -Int.natCast_add, -errV_0]
  refine alt (fun c2 => ?_) (fun c2 => ?_)
  · rw [show cloB p s = (zTx, 31) by unfold cloB; rw [if_neg (by simpa using c), if_pos (by omega)]]
    simp [-errV_0]
    refine finW _ (weak_nlB (o := 32) (k := 1) 35 rfl rfl) (finW _ (weak_nlB (o := 32) (k := 2) 2 rfl rfl) ?_)
    exact fin [] (by decide) rfl rfl rfl ⟨rfl, rfl⟩
  rw [show cloB p s = donT (cloT p s) by unfold cloB; rw [if_neg (by simpa using c), if_neg (by omega)]]
  simp [lp, t33, iC, drop33i, h1, frzAll_hc, -errV_0]
  refine loopW _ (weak_nil (o := 368) (k := 2) (ty := 118) (es := 2) rfl rfl (by omega)) ?_
  have hK : ∀ i, (cloK p s i).length ≤ 2 := by
    intro i
    have b0 := (cloO_ok (w := 0) hp hs k1).2
    have b1 := (cloO_ok (w := 1) hp hs k1).2
    unfold cloK
    split
    · simp
    split
    · omega
    · rw [List.length_append]; omega
  obtain ⟨K, hKd⟩ : ∃ K : Nat → List Outp, K = cloK p s := ⟨_, rfl⟩
  have hK0 : K 0 = [] := by rw [hKd]; rfl
  have hK1 : K 1 = cloO p s 0 := by rw [hKd]; rfl
  have hK2 : K 2 = K 1 ++ cloO p s 1 := by rw [hKd]; rfl
  rw [← hKd] at hK
  obtain ⟨In, hIn⟩ : ∃ In : List (List FV), In = [hf p.tx ++ [iF p.n, iF 0, .lit (.slice none 0 0)]] := ⟨_, rfl⟩
  refine eloop (α := Nat) (fun i => i ≤ 2) (fun i => 2 - i)
    (fun i => [.any, .any, Ptr 0, Ptr 1, Ptr 2, .any, .any, Ptr 3, .any, .any, .any, .any, .any, .any, .any, .any, .any, .any, .any, .any, .any, .any, .any, .any, .any, .any, .any, .any, .any, .any, .any, .any, I .i64 i, .any, .any, .any, .any, .any, .any, .any, .any, .any, .any, .any, .any, .any, .any, .any, .any, .any, .any, .any, .any, .any, .any, .any, .any, .any, .any]) (fun i => [some (.box 42 (prmC p)), some (.box 47 (staC s)), some (.box 63 [iC 0, .fz (.lit (.slice none 0 0)), .fz (.lit (.slice none 0 0))]), some (.box 63 [iC 0, .fz (.sl 35 In), .row 4 (K i).length]), some (.row 118 2 (outv (K i)))]) 0 [0, 16, 32, 368, 416]
    (by omega) (by simp [I, Ptr]) (by simp [staC, iC, iF, hIn, hK0, outv]) (by simp) (by simp) (by simp) ?_
  intro i hi
  have hKi := hK i
  simp [I, Ptr, staC, iC, lp, tp, -errV_0]
  obtain rfl | rfl | rfl : i = 0 ∨ i = 1 ∨ i = 2 := by omega
  · have u1 : IntKind.i64.wrap 1 = 1 := by decide +kernel
    simp [I, Ptr, lp, tp, u1, iC, -errV_0]
    refine call0 (BHas_ok p s 0 h1 k1) (by simp [PVv, SV, staC, I]) ?_
    rintro y H' ⟨rfl, rfl⟩
    refine ⟨.inl (by simp [I]), le_ok rfl, ?_⟩
    simp [I, lp, tp, e34, e35, iC, -errV_0]
    refine alt (fun c3 => ?_) (fun c3 => ?_)
    · have hv : K 1 = K 0 ++ [⟨hasP p s 0, allB [keyO p 0]⟩] := by rw [hK1, hK0]; exact if_pos c3
      have hl' := congrArg List.length hv
      simp only [List.length_append, List.length_singleton] at hl'
      simp [I, lp, tp, e34, e35, iC, -errV_0]
      refine call0 (PAll_ok [p.k0] (keys_one _).1) (by simp [IL, intv]) ?_
      rintro y H' ⟨rfl, rfl⟩
      refine ⟨.inl (by simp [CNv]), le_ok rfl, ?_⟩
      simp [CNv, u1, -errV_0]
      refine ⟨⟨by omega, by omega⟩, ?_⟩
      refine round 1 [0, 1, 2, 3, 341] (by omega) (by omega) (by simp [I, Ptr]) ?_ (by simp) (by simp) (by simp)
      rw [hv]
      simp [hl', staC, iC, outv, outF, iF, keyO]
    · have hv : K 1 = K 0 := by rw [hK1, hK0]; exact if_neg c3
      simp [u1, -errV_0]
      refine round 1 [0, 1, 2, 3, 4] (by omega) (by omega) (by simp [I, Ptr]) ?_ (by simp) (by simp) (by simp)
      rw [hv]
      simp [staC, iC]
  · have u1 : IntKind.i64.wrap 2 = 2 := by decide +kernel
    simp [I, Ptr, lp, tp, u1, iC, -errV_0]
    refine call0 (BHas_ok p s 1 h1 k1) (by simp [PVv, SV, staC, I]) ?_
    rintro y H' ⟨rfl, rfl⟩
    refine ⟨.inl (by simp [I]), le_ok rfl, ?_⟩
    simp [I, lp, tp, e34, e35, iC, -errV_0]
    refine alt (fun c3 => ?_) (fun c3 => ?_)
    · have hv : K 2 = K 1 ++ [⟨hasP p s 1, allB [keyO p 1]⟩] := by rw [hK2]; congr 1; exact if_pos c3
      have hl' := congrArg List.length hv
      simp only [List.length_append, List.length_singleton] at hl'
      simp [I, lp, tp, e34, e35, iC, -errV_0]
      refine call0 (PAll_ok [p.k1] (keys_one _).1) (by simp [IL, intv]) ?_
      rintro y H' ⟨rfl, rfl⟩
      refine ⟨.inl (by simp [CNv]), le_ok rfl, ?_⟩
      simp [CNv, u1, -errV_0]
      refine ⟨⟨by omega, by omega⟩, ?_⟩
      refine round 2 [0, 1, 2, 3, 341] (by omega) (by omega) (by simp [I, Ptr]) ?_ (by simp) (by simp) (by simp)
      rw [hv]
      simp [hl', staC, iC, outv, outF, iF, keyO]
    · have hv : K 2 = K 1 := by rw [hK2, show cloO p s 1 = [] from if_neg c3, List.append_nil]
      simp [u1, -errV_0]
      refine round 2 [0, 1, 2, 3, 4] (by omega) (by omega) (by simp [I, Ptr]) ?_ (by simp) (by simp) (by simp)
      rw [hv]
      simp [staC, iC]
  have hKo : outv (K 2) = outv (cloT p s).outs := by rw [hK2, hK1]; rfl
  have hKn : (K 2).length = (outv (cloT p s).outs).length := by rw [← hKo]; simp
  have hC := BDone_ok (cloT p s) (cloT_ok hp hs k1).1
  have hC' : ECalls Tryz.prog 47 [.v (.agg [iC 0, .fz (.sl 35 In), .fz (.sl 2 (outv (cloT p s).outs))])] [] (fun y H' => H' = [] ∧ y = .tup [.agg (txC (donT (cloT p s)).1), .c (.fz (.lit (errV (donT (cloT p s)).2)))]) := by
    have := ecalls_nlG hC
    rw [clo_ins, List.append_assoc] at this
    rw [hIn]
    exact this
  have hT : ECalls Tryz.prog 47 [.v (.agg [iC 0, .fz (.sl 35 In), .row 0 (K 2).length])] [.row 118 2 (outv (K 2))] (fun y H' => H' = [none] ∧ y = .tup [.agg (txC (donT (cloT p s)).1), .c (.fz (.lit (errV (donT (cloT p s)).2)))]) :=
    ecalls_thaw hC' (by simp [iC, hKo, hKn, List.take_of_length_le])
  simp [-errV_0]
  refine callH [4] hT (by simp [iC]) (by simp) (by simp) (by simp) (by simp) ?_
  rintro y H' ⟨rfl, rfl⟩
  refine ⟨.inl (by simp), by simp, ?_⟩
  simp [txC, iC, -errV_0]
  exact fin [] (by decide) rfl rfl rfl ⟨rfl, rfl⟩
theorem cAll_ok' (ks : List Int) (h : KeysOK ks) : ECalls Tryz.prog 58 [IL ks] [] fun y H' => H' = [] ∧ y = CNv (allB ks) := by
  obtain ⟨h1, h2, h3, h4, h5, h6⟩ := h
  have := cAll_ok ks h5 (by omega)
  rw [h6] at this
  exact this
theorem ecalls_nlO {P : Program} {f : FuncId} {e : Nat} {a b : EC} {rest : List EV} {H : List EO} {post : EV → List (Option EO) → Prop} (h : ECalls P f (.v (.agg [a, b, .fz (.sl e [])]) :: rest) H post) :
    ECalls P f (.v (.agg [a, b, .fz (.lit (.slice none 0 0))]) :: rest) H post := by
  intro ρ Φ w vals r' ha
  refine h ρ Φ w vals r' ?_
  obtain ⟨u, us, rfl, h1, h2⟩ := ha.cons_left
  refine All2.cons ?_ h2
  obtain ⟨vs, rfl, hv⟩ := h1
  refine ⟨vs, rfl, by simpa using hv.1, ?_⟩
  intro i x y hx hy
  rcases i with _ | _ | _ | i
  · exact hv.2 0 x y hx hy
  · exact hv.2 1 x y hx hy
  · have := hv.2 2 _ y rfl hy
    simp at hx; subst hx
    exact nl_vr this
  · simp at hx
set_option maxRecDepth 8000 in
set_option maxHeartbeats 16000000 in
theorem RBClose_ok (p : Prm) (s : Sta) (hp : p.ok) (hs : s.ok) : ECalls Tryz.prog 24 [PVv p, SV s] [] fun y H' => H' = [] ∧ y = .tup [.agg (txC (cloB p s).1), .c (.fz (.lit (.int .i64 (cloB p s).2)))] := by
  have h1 := hp.1
  have lp := prmC_len h1
  have tp := pm_take h1
  have t33 := pm_33 h1
  have e34 := idx_of (pm_at h1 2) (by omega)
  have e35 := idx_of (pm_at h1 3) (by omega)
  have e37 := idx_of (pm_at h1 5) (by omega)
  obtain ⟨ok1, ok2, ok3, ok4, ok5, ok6, ok7⟩ := id hs
  refine ecalls k_RBClose ?_
  simp [c_RBClose, PVv, SV, staC, I, lp, tp]
  refine call0 (RBCheck_ok p s hp hs) (by simp [PVv, SV, staC]) ?_
  rintro y H' ⟨rfl, rfl⟩
  refine ⟨.inl (by simp [I]), le_ok rfl, ?_⟩
  by_cases c : bldE p s = 0
  rotate_left
  · rw [show cloB p s = (zTx, bldE p s) from if_pos c]
    simp [c, I]
    refine finW _ (weak_nlB (o := 32) (k := 1) 35 rfl rfl) (finW _ (weak_nlB (o := 32) (k := 2) 2 rfl rfl) ?_)
    exact fin [] (by decide) rfl rfl rfl ⟨rfl, rfl⟩
  obtain ⟨k1, k2, k3, k4⟩ := outs_cond c
  have wh : IntKind.i64.wrap (s.h0 - p.fe) = s.h0 - p.fe := by unfold i64 at k1; exact wrap_i64 (by omega) (by omega)
  simp [c, I]
  by_cases c2 : 0 < s.pays.length + s.holds.length
  · rw [show cloB p s = (zTx, 31) by unfold cloB; rw [if_neg (by simpa using c), if_pos (by omega)]]
    refine alt (fun c5 => ?_) (fun c5 => ?_)
    · have c6 : ¬ s.holds = [] := by rintro q; rw [c5, q] at c2; simp at c2
      have c7 : 0 < s.holds.length := List.length_pos_iff.2 c6
      simp [c5, c6, c7]
      refine finW _ (weak_nlB (o := 32) (k := 1) 35 rfl rfl) (finW _ (weak_nlB (o := 32) (k := 2) 2 rfl rfl) ?_)
      exact fin [] (by decide) rfl rfl rfl ⟨rfl, rfl⟩
    · have c7 : 0 < s.pays.length := List.length_pos_iff.2 c5
      simp [c5, c7]
      refine finW _ (weak_nlB (o := 32) (k := 1) 35 rfl rfl) (finW _ (weak_nlB (o := 32) (k := 2) 2 rfl rfl) ?_)
      exact fin [] (by decide) rfl rfl rfl ⟨rfl, rfl⟩
  rw [show cloB p s = donT (cloT p s) by unfold cloB; rw [if_neg (by simpa using c), if_neg c2]]
  have c7 : s.pays = [] := List.length_eq_zero_iff.1 (by omega)
  have c8 : s.holds = [] := List.length_eq_zero_iff.1 (by omega)
  obtain ⟨In, hIn⟩ : ∃ In : List (List FV), In = [hf p.tx ++ [iF p.n, iF 0, .lit (.slice none 0 0)]] := ⟨_, rfl⟩
  have hD : ∀ L, L = (cloT p s).outs → ECalls Tryz.prog 48 [.v (.agg [iC 0, .fz (.sl 35 In), .fz (.sl 2 (outv L))])] [] (fun y H' => H' = [] ∧ y = .tup [.agg (txC (donT (cloT p s)).1), .c (.fz (.lit (.int .i64 (donT (cloT p s)).2)))]) := by
    rintro L rfl
    have := ecalls_nlG (RDone_ok (cloT p s) (cloT_ok hp hs k1).1)
    rw [clo_ins, List.append_assoc] at this
    rw [hIn]
    exact this
  simp [c7, c8, PVv, SV, staC, I, lp, tp, t33, iC, drop33i, h1, frzAll_hc, e34, e35, e37, wh]
  by_cases c3 : 10 ≤ s.h0 - p.fe
  · have hv0 : cloO p s 0 = [⟨s.h0 - p.fe, allB [p.k0]⟩] := if_pos c3
    simp [c3, PVv, SV, staC, I, lp, tp, t33, iC, drop33i, h1, frzAll_hc, e34, e35, e37, wh]
    refine call0 (cAll_ok' [p.k0] (keys_one _).1) (by simp [IL, intv]) ?_
    rintro y H' ⟨rfl, rfl⟩
    refine ⟨.inl (by simp [CNv]), le_ok rfl, ?_⟩
    simp [CNv, PVv, SV, staC, I, lp, tp, t33, iC, drop33i, h1, frzAll_hc, e34, e35, e37, wh]
    by_cases c4 : 10 ≤ s.h1
    · have hv1 : cloO p s 1 = [⟨s.h1, allB [p.k1]⟩] := if_pos c4
      have hcl : (cloT p s).outs = [⟨s.h0 - p.fe, allB [p.k0]⟩] ++ [⟨s.h1, allB [p.k1]⟩] := by show cloO p s 0 ++ cloO p s 1 = _; rw [hv0, hv1]
      simp [c4, PVv, SV, staC, I, lp, tp, t33, iC, drop33i, h1, frzAll_hc, e34, e35, e37, wh]
      refine call0 (cAll_ok' [p.k1] (keys_one _).1) (by simp [IL, intv]) ?_
      rintro y H' ⟨rfl, rfl⟩
      refine ⟨.inl (by simp [CNv]), le_ok rfl, ?_⟩
      simp [CNv, PVv, SV, staC, I, lp, tp, t33, iC, drop33i, h1, frzAll_hc, e34, e35, e37, wh]
      have hx := (rfl : (0 : Nat) = 0)
      have hT : ECalls Tryz.prog 48 [.v (.agg [iC 0, .fz (.sl 35 In), .row 0 2])] [.row 148 2 (outv (cloT p s).outs)] (fun y H' => H' = [none] ∧ y = .tup [.agg (txC (donT (cloT p s)).1), .c (.fz (.lit (.int .i64 (donT (cloT p s)).2)))]) :=
        ecalls_thaw (hD _ rfl) (by rw [hcl]; simp [iC, outv, List.take_of_length_le])
      rw [hcl] at hT
      refine callH [1088] hT (by simp [iC, hIn, iF]) (by simp [outv, outF, iF, keyO]) (by simp) (by simp) (by simp) ?_
      rintro y H' ⟨rfl, rfl⟩
      refine ⟨.inl (by simp), by simp, ?_⟩
      simp [txC, iC, hx]
      exact fin [] (by decide) rfl rfl rfl ⟨rfl, rfl⟩
    · have hv1 : cloO p s 1 = [] := if_neg c4
      have hcl : (cloT p s).outs = [⟨s.h0 - p.fe, allB [p.k0]⟩] ++ [] := by show cloO p s 0 ++ cloO p s 1 = _; rw [hv0, hv1]
      simp [c4, PVv, SV, staC, I, lp, tp, t33, iC, drop33i, h1, frzAll_hc, e34, e35, e37, wh]
      have hx := (rfl : (0 : Nat) = 0)
      have hT : ECalls Tryz.prog 48 [.v (.agg [iC 0, .fz (.sl 35 In), .row 0 1])] [.row 148 2 (outv (cloT p s).outs)] (fun y H' => H' = [none] ∧ y = .tup [.agg (txC (donT (cloT p s)).1), .c (.fz (.lit (.int .i64 (donT (cloT p s)).2)))]) :=
        ecalls_thaw (hD _ rfl) (by rw [hcl]; simp [iC, outv, List.take_of_length_le])
      rw [hcl] at hT
      refine callH [784] hT (by simp [iC, hIn, iF]) (by simp [outv, outF, iF, keyO]) (by simp) (by simp) (by simp) ?_
      rintro y H' ⟨rfl, rfl⟩
      refine ⟨.inl (by simp), by simp, ?_⟩
      simp [txC, iC, hx]
      exact fin [] (by decide) rfl rfl rfl ⟨rfl, rfl⟩
  · have hv0 : cloO p s 0 = [] := if_neg c3
    simp [c3, PVv, SV, staC, I, lp, tp, t33, iC, drop33i, h1, frzAll_hc, e34, e35, e37, wh]
    by_cases c4 : 10 ≤ s.h1
    · have hv1 : cloO p s 1 = [⟨s.h1, allB [p.k1]⟩] := if_pos c4
      have hcl : (cloT p s).outs = [] ++ [⟨s.h1, allB [p.k1]⟩] := by show cloO p s 0 ++ cloO p s 1 = _; rw [hv0, hv1]
      simp [c4, PVv, SV, staC, I, lp, tp, t33, iC, drop33i, h1, frzAll_hc, e34, e35, e37, wh]
      refine call0 (cAll_ok' [p.k1] (keys_one _).1) (by simp [IL, intv]) ?_
      rintro y H' ⟨rfl, rfl⟩
      refine ⟨.inl (by simp [CNv]), le_ok rfl, ?_⟩
      simp [CNv, PVv, SV, staC, I, lp, tp, t33, iC, drop33i, h1, frzAll_hc, e34, e35, e37, wh]
      have hx := (rfl : (0 : Nat) = 0)
      have hT : ECalls Tryz.prog 48 [.v (.agg [iC 0, .fz (.sl 35 In), .row 0 1])] [.row 148 2 (outv (cloT p s).outs)] (fun y H' => H' = [none] ∧ y = .tup [.agg (txC (donT (cloT p s)).1), .c (.fz (.lit (.int .i64 (donT (cloT p s)).2)))]) :=
        ecalls_thaw (hD _ rfl) (by rw [hcl]; simp [iC, outv, List.take_of_length_le])
      rw [hcl] at hT
      refine callH [800] hT (by simp [iC, hIn, iF]) (by simp [outv, outF, iF, keyO]) (by simp) (by simp) (by simp) ?_
      rintro y H' ⟨rfl, rfl⟩
      refine ⟨.inl (by simp), by simp, ?_⟩
      simp [txC, iC, hx]
      exact fin [] (by decide) rfl rfl rfl ⟨rfl, rfl⟩
    · have hv1 : cloO p s 1 = [] := if_neg c4
      have hcl : (cloT p s).outs = [] ++ [] := by show cloO p s 0 ++ cloO p s 1 = _; rw [hv0, hv1]
      simp [c4, PVv, SV, staC, I, lp, tp, t33, iC, drop33i, h1, frzAll_hc, e34, e35, e37, wh]
      have hx := (rfl : (0 : Nat) = 0)
      refine call0 (ecalls_nlO (hD [] (by rw [hcl]; rfl))) (by simp [iC, hIn, iF]) ?_
      rintro y H' ⟨rfl, rfl⟩
      refine ⟨.inl (by simp [txC, iC]), le_ok rfl, ?_⟩
      simp [txC, iC, hx]
      exact fin [] (by decide) rfl rfl rfl ⟨rfl, rfl⟩
end Go.Proofs.YtflcfdeanneoeaaGreatDoor
namespace Go.Proofs.YtflcfdeanneoeaaGreatDoor
open Go Go.EW
set_option linter.unusedSimpArgs false
set_option linter.unusedVariables false
theorem chasY_ok (x : Int) : ECalls Tryz.prog 103 [IL [x], I .i64 x] [] fun y H' => H' = [] ∧ y = .lit (.bool true) := by
  refine ecalls k_chas ?_
  simp [c_chas, I, IL]
  refine eloop (α := Nat) (fun i => i = 0) (fun i => 0)
    (fun i => [IL [x], I .i64 x, .any, .any, EV.lit (.bool false), I .i64 i, .any, .any, .any, .any, .any, .any, .any, .any, .any, .any, .any, .any]) (fun _ => []) 0 []
    rfl (by simp [I, IL]) (by simp) (by simp) (by simp) (by simp) ?_
  rintro i rfl
  simp [I, IL, intv]
  exact fin [] (by decide) rfl rfl rfl ⟨rfl, rfl⟩
theorem PAll2_ok (k : Int) : ECalls Tryz.prog 57 [IL [k, k]] [] fun y H' => H' = [] ∧ y = CNv (allB [k]) := by
  have e1 : insN [k, k] = [k, k] := by rw [ins_two, if_neg (by omega)]
  have e2 := (keys_one k).2
  refine ecalls k_PAll ?_
  simp [c_PAll, IL]
  refine call0 (cloneI_ok [k, k] (by simp)) (by simp [IL]) ?_
  rintro y H' ⟨rfl, rfl⟩
  refine ⟨.inl (by simp), by simp, ?_⟩
  simp
  have hS := SortN_ok [k, k] 2 rfl (by omega) (by omega) (.inl (by omega))
  rw [e1] at hS
  refine callH [32] hS (by simp) (by simp) (by simp) (by simp) (by simp) ?_
  rintro y H' ⟨rfl, rfl⟩
  refine ⟨.inl (by simp), by simp, ?_⟩
  simp [intv]
  refine callH [32] (cmp_ok k) (by simp) (by simp) (by simp) (by simp) (by simp) ?_
  rintro y H' ⟨rfl, rfl⟩
  refine ⟨.inl (by simp), by simp, ?_⟩
  simp [frzAll_hc]
  exact fin [] (by decide) rfl rfl rfl ⟨rfl, by simp [CNv, allB, e2, brav, braF, intv, iF]⟩
set_option maxHeartbeats 2000000 in
theorem cAll2_ok (k : Int) : ECalls Tryz.prog 58 [IL [k, k]] [] fun y H' => H' = [] ∧ y = CNv (allB [k]) := by
  obtain ⟨K, hK⟩ : ∃ K : Nat → List Int, K = fun i => if i = 0 then [] else [k] := ⟨_, rfl⟩
  have e2 := (keys_one k).2
  have u1 : IntKind.i64.wrap 1 = 1 := by decide +kernel
  have u2 : IntKind.i64.wrap 2 = 2 := by decide +kernel
  refine ecalls k_cAll ?_
  simp [c_cAll, I, IL]
  refine loopW _ (weak_nilF 3 1 rfl) ?_
  simp
  refine eloop (α := Nat) (fun i => i ≤ 2) (fun i => 2 - i)
    (fun i => [IL [k, k], .any, Ptr 0, IL (K i), I .i64 i, .any, .any, .any, .any, .any, .any, .any, .any, .any, .any, .any, .any, .any, .any, .any, .any, .any, .any, .any, .any, .any, .any, .any, .any, .any, .any, .any, .any, .any, .any, .any, .any, .any, .any, .any, .any, .any, .any, .any, .any, .any, .any, .any, .any, .any, .any, .any, .any, .any, .any]) (fun _ => [some (.box 145 [.fz (.lit (.slice none 0 0))])]) 0 [0]
    (Nat.zero_le _) (by simp [I, IL, Ptr, intv, hK]) (by simp) (by simp) (by simp) (by simp) ?_
  intro i hi
  obtain rfl | rfl | rfl : i = 0 ∨ i = 1 ∨ i = 2 := by omega
  · have k0 : K 0 = [] := by rw [hK]; rfl
    have k1 : K 1 = [k] := by rw [hK]; rfl
    simp [I, IL, Ptr, k0, intv]
    refine call0 (chas_ok [] k (by simp) (by simp)) (by simp [IL, I, intv]) ?_
    rintro y H' ⟨rfl, rfl⟩
    refine ⟨.inl (by simp), le_ok rfl, ?_⟩
    simp
    refine eloop (α := Nat) (fun j => j = 0) (fun j => 0)
      (fun j => [IL [k, k], .any, Ptr 0, IL [], I .i64 0, I .i64 j, .any, .any, .any, .any, .any, .any, .any, .any, .any, .any, .any, .any, .any, .any, .any, .any, .any, .any, .any, .any, .any, .any, .any, .any, .any, .any, .any, .any, .any, .any, .any, .any, .any, .any, .any, .any, .any, .any, .any, .any, .any, .any, .any, .any, .any, .any, .any, .any, .any]) (fun _ => [some (.box 145 [.fz (.lit (.slice none 0 0))])]) 0 [0]
      rfl (by simp [I, IL, Ptr, intv]) (by simp) (by simp) (by simp) (by simp) ?_
    rintro j rfl
    simp [I, IL, Ptr, intv]
    simp only [u1]
    refine ⟨1, by omega, by show 2 - 1 < 2 - 0; omega, (weak_frz (o := 481) (ty := 3) (es := 1) (xs := [[FV.lit (.int .i64 k)]]) rfl).trans (weak_norm [0] _ _ ?_ ?_ (by simp) (by simp) (by simp))⟩
    · simp [fzEV, k1]
    · simp
  · have k1 : K 1 = [k] := by rw [hK]; rfl
    have k2 : K 2 = [k] := by rw [hK]; rfl
    simp [I, IL, Ptr, k1, intv]
    refine call0 (chasY_ok k) (by simp [IL, I, intv]) ?_
    rintro y H' ⟨rfl, rfl⟩
    refine ⟨.inl (by simp), le_ok rfl, ?_⟩
    simp [u2]
    exact round 2 [0] (by omega) (by omega) (by simp [I, IL, Ptr, intv, k1, k2]) (by simp) (by simp) (by simp) (by simp)
  · have k2 : K 2 = [k] := by rw [hK]; rfl
    have hr0 : (hc hz).flatMap rowsE = [] := rfl
    have hfz : frzAll (hc hz ++ [.fz (.lit (.int .i64 0)), .fz (.lit (.int .i64 0))]) = some (hf hz ++ [.lit (.int .i64 0), .lit (.int .i64 0)]) := rfl
    have hfl : (hf hz).length = 32 := rfl
    simp [I, IL, Ptr, intv, hr0, k2, hfz, hfl]
    exact fin [] (by decide) rfl rfl rfl ⟨rfl, by simp [CNv, allB, e2, brav, braF, intv, iF]⟩
end Go.Proofs.YtflcfdeanneoeaaGreatDoor
namespace Go.Proofs.YtflcfdeanneoeaaGreatDoor
open Go Go.EW
set_option linter.unusedSimpArgs false
set_option linter.unusedVariables false
@[simp] def l_BFund_1 (_ : Unit) : List EOp := [xQ 0 5 (.box 26 (.t 1)), xQ 1 8 (.alloc 63 [(.int .i64 0), (.slice none 0 0), (.slice none 0 0)]), xQ 2 9 (.mov (.k .nilIface))]
@[simp] def b_BFund_2 (_ : Unit) : EB := reg0 (hid l_BFund_1) 3
@[simp] def l_BFund_3 (_ : Unit) : List EOp := [xQ 0 10 (.alloc 63 [(.int .i64 0), (.slice none 0 0), (.slice none 0 0)])]
@[simp] def b_BFund_4 (_ : Unit) : EB := reg0 (hid l_BFund_3) 1
@[simp] def l_BFund_5 (_ : Unit) : List EOp := [xM 0 15 0, xQ 1 16 (.len (.t 15)), xQ 2 17 (.mov (.k (.int .i64 0)))]
@[simp] def b_BFund_6 (_ : Unit) : EB := reg0 (hid l_BFund_5) 3
@[simp] def l_BFund_7 (_ : Unit) : List EOp := [xQ 0 18 (.bin .lss (.t 17) (.t 16))]
@[simp] def b_BFund_8 (_ : Unit) : EB := reg0 (hid l_BFund_7) 1
@[simp] def b_BFund_9 (_ : Unit) : EB := .cond (.t 18) .skip (.exit 0)
@[simp] def l_BFund_10 (_ : Unit) : List EOp := [xQ 0 19 (.isl 33 (.t 15) (.t 17)), xQ 1 20 (.lda 33 (.t 19)), xQ 2 12 (.alloc 40 (zU8 ++ [(.int .i64 0)])), xN 3 (.sto 33 (.t 12) (.t 20))]
@[simp] def b_BFund_11 (_ : Unit) : EB := reg0 (hid l_BFund_10) 4
@[simp] def l_BFund_13 (_ : Unit) : List EOp := [xQ 6 27 (.fad 1 (.t 10)), xN 7 (.fz (.sto 1 (.t 27) (.t 26)))]
@[simp] def l_BFund_12 (_ : Unit) : List EOp := xQ 0 21 (.fad 1 (.t 10)) :: xQ 1 22 (.ldc (.t 21)) :: xQ 2 23 (.lda 33 (.t 12)) :: xQ 3 24 (.build (zU8 ++ [(.int .i64 0), (.int .i64 0), (.slice none 0 0)]) [(0, 33, (.t 23))]) :: xO 4 25 (.fz (.q (.bsl 35 (zU8 ++ [(.int .i64 0), (.int .i64 0), (.slice none 0 0)]) 1 [(0, (.t 24))]))) :: xO 5 26 (.app 135 35 72 (.t 22) (.t 25)) :: hid l_BFund_13
@[simp] def b_BFund_14 (_ : Unit) : EB := reg0 (hid l_BFund_12) 8
@[simp] def b_BFund_15 (_ : Unit) : EB := .seq (hid b_BFund_11) (hid b_BFund_14)
@[simp] def b_BFund_16 (_ : Unit) : EB := .block 1 (hid b_BFund_15)
@[simp] def l_BFund_17 (_ : Unit) : List EOp := [xQ 0 28 (.bin .add (.t 17) (.k (.int .i64 1))), xM 1 17 28]
@[simp] def b_BFund_18 (_ : Unit) : EB := reg0 (hid l_BFund_17) 2
@[simp] def b_BFund_19 (_ : Unit) : EB := .seq (hid b_BFund_16) (hid b_BFund_18)
@[simp] def b_BFund_20 (_ : Unit) : EB := .seq (hid b_BFund_9) (hid b_BFund_19)
@[simp] def b_BFund_21 (_ : Unit) : EB := .seq (hid b_BFund_8) (hid b_BFund_20)
@[simp] def b_BFund_22 (_ : Unit) : EB := .loop (hid b_BFund_21)
@[simp] def b_BFund_23 (_ : Unit) : EB := .block 0 (hid b_BFund_22)
@[simp] def b_BFund_24 (_ : Unit) : EB := .seq (hid b_BFund_6) (hid b_BFund_23)
@[simp] def l_BFund_27 (_ : Unit) : List EOp := [xQ 12 41 (.fad 2 (.t 10)), xN 13 (.fz (.sto 1 (.t 41) (.t 40)))]
@[simp] def l_BFund_26 (_ : Unit) : List EOp := xQ 6 35 (.ldc (.t 34)) :: xQ 7 36 (.bsl 1 [(.int .i64 0)] 2 [(0, (.t 33)), (1, (.t 35))]) :: ⟨8, (some 37), none, (.call 57 [(.t 36)]), [0, 1, 2]⟩ :: xQ 9 38 (.build [(.int .i64 0), (.slice none 0 0)] [(0, 1, (.t 31)), (1, 1, (.t 37))]) :: ⟨10, (some 39), none, (.fz (.q (.bsl 2 [(.int .i64 0), (.slice none 0 0)] 1 [(0, (.t 38))]))), [0, 1]⟩ :: xO 11 40 (.app 118 2 32 (.t 30) (.t 39)) :: hid l_BFund_27
@[simp] def l_BFund_25 (_ : Unit) : List EOp := xQ 0 29 (.fad 2 (.t 10)) :: xQ 1 30 (.ldc (.t 29)) :: xM 2 31 2 :: xQ 3 32 (.iad 2 1 (.t 5) (.k (.int .i64 0))) :: xQ 4 33 (.ldc (.t 32)) :: xQ 5 34 (.iad 2 1 (.t 5) (.k (.int .i64 1))) :: hid l_BFund_26
@[simp] def b_BFund_28 (_ : Unit) : EB := reg1 (hid l_BFund_25) 14
@[simp] def l_BFund_29 (_ : Unit) : List EOp := [xM 0 42 3, xQ 1 43 (.len (.t 42)), xQ 2 44 (.mov (.k (.int .i64 0)))]
@[simp] def b_BFund_30 (_ : Unit) : EB := reg0 (hid l_BFund_29) 3
@[simp] def l_BFund_31 (_ : Unit) : List EOp := [xQ 0 45 (.bin .lss (.t 44) (.t 43))]
@[simp] def b_BFund_32 (_ : Unit) : EB := reg0 (hid l_BFund_31) 1
@[simp] def b_BFund_33 (_ : Unit) : EB := .cond (.t 45) .skip (.exit 2)
@[simp] def l_BFund_34 (_ : Unit) : List EOp := [xQ 0 46 (.isl 2 (.t 42) (.t 44)), xQ 1 47 (.lda 2 (.t 46)), xQ 2 14 (.alloc 118 [(.int .i64 0), (.slice none 0 0)]), xN 3 (.fz (.sto 2 (.t 14) (.t 47)))]
@[simp] def b_BFund_35 (_ : Unit) : EB := reg0 (hid l_BFund_34) 4
@[simp] def l_BFund_38 (_ : Unit) : List EOp := [xN 12 (.fz (.sto 1 (.t 59) (.t 58)))]
@[simp] def l_BFund_37 (_ : Unit) : List EOp := xQ 6 54 (.build [(.slice none 0 0)] []) :: ⟨7, (some 55), none, (.call 59 [(.t 53), (.t 54)]), [0, 1, 2, 3]⟩ :: xQ 8 56 (.build [(.int .i64 0), (.slice none 0 0)] [(0, 1, (.t 51)), (1, 1, (.t 55))]) :: ⟨9, (some 57), none, (.fz (.q (.bsl 2 [(.int .i64 0), (.slice none 0 0)] 1 [(0, (.t 56))]))), [0, 1]⟩ :: xO 10 58 (.app 118 2 32 (.t 49) (.t 57)) :: xQ 11 59 (.fad 2 (.t 10)) :: hid l_BFund_38
@[simp] def l_BFund_36 (_ : Unit) : List EOp := xQ 0 48 (.fad 2 (.t 10)) :: xQ 1 49 (.ldc (.t 48)) :: xQ 2 50 (.fad 0 (.t 14)) :: xQ 3 51 (.ldc (.t 50)) :: xQ 4 52 (.fad 1 (.t 14)) :: xQ 5 53 (.lda 1 (.t 52)) :: hid l_BFund_37
@[simp] def b_BFund_39 (_ : Unit) : EB := reg1 (hid l_BFund_36) 13
@[simp] def b_BFund_40 (_ : Unit) : EB := .seq (hid b_BFund_35) (hid b_BFund_39)
@[simp] def b_BFund_41 (_ : Unit) : EB := .block 3 (hid b_BFund_40)
@[simp] def l_BFund_42 (_ : Unit) : List EOp := [xQ 0 60 (.bin .add (.t 44) (.k (.int .i64 1))), xM 1 44 60]
@[simp] def b_BFund_43 (_ : Unit) : EB := reg0 (hid l_BFund_42) 2
@[simp] def b_BFund_44 (_ : Unit) : EB := .seq (hid b_BFund_41) (hid b_BFund_43)
@[simp] def b_BFund_45 (_ : Unit) : EB := .seq (hid b_BFund_33) (hid b_BFund_44)
@[simp] def b_BFund_46 (_ : Unit) : EB := .seq (hid b_BFund_32) (hid b_BFund_45)
@[simp] def b_BFund_47 (_ : Unit) : EB := .loop (hid b_BFund_46)
@[simp] def b_BFund_48 (_ : Unit) : EB := .block 2 (hid b_BFund_47)
@[simp] def b_BFund_49 (_ : Unit) : EB := .seq (hid b_BFund_30) (hid b_BFund_48)
@[simp] def l_BFund_50 (_ : Unit) : List EOp := [xQ 0 61 (.lda 3 (.t 10)), xO 1 62 (.call 47 [(.t 61)]), xQ 2 63 (.ext 0 (.t 62)), xQ 3 64 (.ext 1 (.t 62)), xN 4 (.fz (.sto 3 (.t 8) (.t 63))), xM 5 9 64]
@[simp] def b_BFund_51 (_ : Unit) : EB := reg0 (hid l_BFund_50) 6
@[simp] def b_BFund_52 (_ : Unit) : EB := .seq (hid b_BFund_51) .ret
@[simp] def b_BFund_53 (_ : Unit) : EB := .seq (hid b_BFund_49) (hid b_BFund_52)
@[simp] def b_BFund_54 (_ : Unit) : EB := .seq (hid b_BFund_28) (hid b_BFund_53)
@[simp] def b_BFund_55 (_ : Unit) : EB := .seq (hid b_BFund_24) (hid b_BFund_54)
@[simp] def b_BFund_56 (_ : Unit) : EB := .seq (hid b_BFund_4) (hid b_BFund_55)
@[simp] def b_BFund_57 (_ : Unit) : EB := .seq (hid b_BFund_2) (hid b_BFund_56)
def c_BFund : EB × List QOp × Nat := ((hid b_BFund_57), [(.lda 3 (.t 8)), (.mov (.t 9))], 65)
theorem k_BFund : cfun Tryz.prog 26 = some c_BFund := by kernel_rfl
@[simp] def l_RBFund_1 (_ : Unit) : List EOp := [xQ 0 5 (.box 26 (.t 1)), xQ 1 8 (.alloc 69 [(.int .i64 0), (.slice none 0 0), (.slice none 0 0)]), xQ 2 9 (.mov (.k (.int .i64 0)))]
@[simp] def b_RBFund_2 (_ : Unit) : EB := reg0 (hid l_RBFund_1) 3
@[simp] def l_RBFund_3 (_ : Unit) : List EOp := [xQ 0 12 (.build [(.int .i64 0), (.slice none 0 0), (.slice none 0 0)] []), xQ 1 10 (.alloc 69 [(.int .i64 0), (.slice none 0 0), (.slice none 0 0)]), xN 2 (.fz (.sto 3 (.t 10) (.t 12)))]
@[simp] def b_RBFund_4 (_ : Unit) : EB := reg0 (hid l_RBFund_3) 3
@[simp] def l_RBFund_5 (_ : Unit) : List EOp := [xQ 0 11 (.mov (.k (.int .i64 0)))]
@[simp] def b_RBFund_6 (_ : Unit) : EB := reg0 (hid l_RBFund_5) 1
@[simp] def l_RBFund_7 (_ : Unit) : List EOp := [xM 0 13 11, xM 1 14 0, xQ 2 15 (.len (.t 14)), xQ 3 16 (.bin .lss (.t 13) (.t 15))]
@[simp] def b_RBFund_8 (_ : Unit) : EB := reg0 (hid l_RBFund_7) 4
@[simp] def b_RBFund_9 (_ : Unit) : EB := .cond (.t 16) .skip (.exit 0)
@[simp] def b_RBFund_10 (_ : Unit) : EB := .seq (hid b_RBFund_8) (hid b_RBFund_9)
@[simp] def l_RBFund_12 (_ : Unit) : List EOp := [xQ 6 25 (.build (zU8 ++ [(.int .i64 0), (.int .i64 0), (.slice none 0 0)]) [(0, 33, (.t 24))]), ⟨7, (some 26), none, (.fz (.q (.bsl 35 (zU8 ++ [(.int .i64 0), (.int .i64 0), (.slice none 0 0)]) 1 [(0, (.t 25))]))), [0, 1]⟩, xO 8 27 (.app 83 35 72 (.t 20) (.t 26)), xQ 9 28 (.fad 1 (.t 10)), xN 10 (.fz (.sto 1 (.t 28) (.t 27)))]
@[simp] def l_RBFund_11 (_ : Unit) : List EOp := xQ 0 19 (.fad 1 (.t 10)) :: xQ 1 20 (.ldc (.t 19)) :: xM 2 21 0 :: xM 3 22 11 :: xQ 4 23 (.isl 33 (.t 21) (.t 22)) :: xQ 5 24 (.lda 33 (.t 23)) :: hid l_RBFund_12
@[simp] def b_RBFund_13 (_ : Unit) : EB := reg1 (hid l_RBFund_11) 11
@[simp] def b_RBFund_14 (_ : Unit) : EB := .block 1 (hid b_RBFund_13)
@[simp] def l_RBFund_15 (_ : Unit) : List EOp := [xM 0 17 11, xQ 1 18 (.bin .add (.t 17) (.k (.int .i64 1))), xM 2 11 18]
@[simp] def b_RBFund_16 (_ : Unit) : EB := reg0 (hid l_RBFund_15) 3
@[simp] def b_RBFund_17 (_ : Unit) : EB := .seq (hid b_RBFund_14) (hid b_RBFund_16)
@[simp] def b_RBFund_18 (_ : Unit) : EB := .seq (hid b_RBFund_10) (hid b_RBFund_17)
@[simp] def b_RBFund_19 (_ : Unit) : EB := .loop (hid b_RBFund_18)
@[simp] def b_RBFund_20 (_ : Unit) : EB := .block 0 (hid b_RBFund_19)
@[simp] def b_RBFund_21 (_ : Unit) : EB := .seq (hid b_RBFund_6) (hid b_RBFund_20)
@[simp] def l_RBFund_23 (_ : Unit) : List EOp := [⟨6, (some 35), none, (.fz (.q (.bsl 2 [(.int .i64 0), (.slice none 0 0)] 1 [(0, (.t 34))]))), [0, 1]⟩, xO 7 36 (.app 148 2 32 (.t 30) (.t 35)), xQ 8 37 (.fad 2 (.t 10)), xN 9 (.fz (.sto 1 (.t 37) (.t 36)))]
@[simp] def l_RBFund_22 (_ : Unit) : List EOp := xQ 0 29 (.fad 2 (.t 10)) :: xQ 1 30 (.ldc (.t 29)) :: xM 2 31 2 :: xQ 3 32 (.sar 2 (.t 5) none none) :: ⟨4, (some 33), none, (.call 58 [(.t 32)]), [0, 1, 2]⟩ :: xQ 5 34 (.build [(.int .i64 0), (.slice none 0 0)] [(0, 1, (.t 31)), (1, 1, (.t 33))]) :: hid l_RBFund_23
@[simp] def b_RBFund_24 (_ : Unit) : EB := reg1 (hid l_RBFund_22) 10
@[simp] def l_RBFund_25 (_ : Unit) : List EOp := [xQ 0 38 (.fad 2 (.t 10)), xQ 1 39 (.ldc (.t 38)), xM 2 40 3, xO 3 41 (.app 148 2 32 (.t 39) (.t 40)), xQ 4 42 (.fad 2 (.t 10)), xN 5 (.fz (.sto 1 (.t 42) (.t 41)))]
@[simp] def b_RBFund_26 (_ : Unit) : EB := reg0 (hid l_RBFund_25) 6
@[simp] def l_RBFund_27 (_ : Unit) : List EOp := [xQ 0 43 (.lda 3 (.t 10)), xO 1 44 (.call 48 [(.t 43)]), xQ 2 45 (.ext 0 (.t 44)), xQ 3 46 (.ext 1 (.t 44)), xN 4 (.fz (.sto 3 (.t 8) (.t 45))), xM 5 9 46]
@[simp] def b_RBFund_28 (_ : Unit) : EB := reg0 (hid l_RBFund_27) 6
@[simp] def b_RBFund_29 (_ : Unit) : EB := .seq (hid b_RBFund_28) .ret
@[simp] def b_RBFund_30 (_ : Unit) : EB := .seq (hid b_RBFund_26) (hid b_RBFund_29)
@[simp] def b_RBFund_31 (_ : Unit) : EB := .seq (hid b_RBFund_24) (hid b_RBFund_30)
@[simp] def b_RBFund_32 (_ : Unit) : EB := .seq (hid b_RBFund_21) (hid b_RBFund_31)
@[simp] def b_RBFund_33 (_ : Unit) : EB := .seq (hid b_RBFund_4) (hid b_RBFund_32)
@[simp] def b_RBFund_34 (_ : Unit) : EB := .seq (hid b_RBFund_2) (hid b_RBFund_33)
def c_RBFund : EB × List QOp × Nat := ((hid b_RBFund_34), [(.lda 3 (.t 8)), (.mov (.t 9))], 47)
theorem k_RBFund : cfun Tryz.prog 28 = some c_RBFund := by kernel_rfl
def ptF (x : Inp) : List FV := hf x.tx ++ [iF x.n]
def ptv (l : List Inp) : List (List FV) := l.map ptF
def PTL (l : List Inp) : EV := .v (.c (.fz (.sl 33 (ptv l))))
def nin (l : List Inp) : List (List FV) := (inpv (fuI l)).map (·.map gN)
@[simp] theorem ptv_len (l : List Inp) : (ptv l).length = l.length := by simp [ptv]
@[simp] theorem nin_len (l : List Inp) : (nin l).length = l.length := by simp [nin, fuI]
theorem ptv_get {l : List Inp} {i : Nat} {p : Inp} (h : l[i]? = some p) : (ptv l)[i]? = some (ptF p) := by simp [ptv, h]
theorem nin_snoc (l : List Inp) (x : Inp) : nin (l ++ [x]) = nin l ++ [hf x.tx ++ [.lit (.int .i64 x.n), .lit (.int .i64 0), .lit (.slice none 0 0)]] := by
  have h : ∀ l : List UInt8, (hf l).map gN = hf l := fun l => by have := hf_gN l []; simpa using this
  simp [nin, fuI, inpv, inpF, h, gN, iF]
def ptC (x : Inp) : List EC := hc x.tx ++ [iC x.n]
theorem ptF_fz (x : Inp) : (ptF x).map EC.fz = ptC x := by simp [ptF, ptC, iF, iC]
theorem ecalls_nlF {P : Program} {f : FuncId} {e : Nat} {x : EV} {rest : List EV} {H : List EO} {post : EV → List (Option EO) → Prop} (h : ECalls P f (x :: .v (.agg [.fz (.sl e [])]) :: rest) H post) :
    ECalls P f (x :: .v (.agg [.fz (.lit (.slice none 0 0))]) :: rest) H post := by
  intro ρ Φ w vals r' ha
  refine h ρ Φ w vals r' ?_
  obtain ⟨u0, us0, rfl, h0, ha⟩ := ha.cons_left
  obtain ⟨u, us, rfl, h1, h2⟩ := ha.cons_left
  refine All2.cons h0 (All2.cons ?_ h2)
  obtain ⟨vs, rfl, hv⟩ := h1
  refine ⟨vs, rfl, by simpa using hv.1, ?_⟩
  intro i x y hx hy
  rcases i with _ | i
  · have := hv.2 0 _ y rfl hy
    simp at hx; subst hx
    exact nl_vr this
  · simp at hx
theorem ecalls_thawA {P : Program} {f : FuncId} {tb : TypeId} {a b : Int} {post : EV → Prop} (h : ECalls P f [IL [a, b]] [] fun y H' => H' = [] ∧ post y) :
    ECalls P f [.v (.c (.bsl 0 0 2))] [.box tb [iC a, iC b]] fun y H' => H' = [none] ∧ post y := by
  intro ρ Φ w vals r ha
  obtain ⟨v, vs, rfl, hv, h2⟩ := ha.cons_left
  obtain rfl := h2.nil_left
  obtain ⟨hu, bb, hρ, cap, hcap, rfl⟩ := hv
  obtain ⟨_, b', c, hρ', hcell, hall⟩ := r.obj 0 _ rfl
  have hbb : bb = b' := by
    have e := hρ.symm.trans hρ'
    simpa using e
  subst hbb
  have hcl : c.toList = [.int .i64 a, .int .i64 b] := by
    obtain ⟨x, xs, hx, q1, q2⟩ := hall.cons_left
    obtain ⟨y, ys, hy, q3, q4⟩ := q2.cons_left
    obtain rfl := q4.nil_left
    rw [hx, hy]
    have q1' : FR Φ w (.lit (.int .i64 a)) x := q1
    have q3' : FR Φ w (.lit (.int .i64 b)) y := q3
    cases q1'
    cases q3'
    rfl
  have hh : w.heap[bb]? = some (.cells c tb (0, 0)) := hcell
  have ra : Rel w 0 ρ (fun x => Φ x ∨ x = bb) (ofL []) ⟨fun o => o < 0, ρ, fun x => Φ x ∨ x = bb, w⟩ := by
    refine ⟨rfl, rfl, rfl, Nat.le_refl _, fun _ _ _ => rfl, fun _ _ => rfl, ?_, ?_, ?_, ?_, ?_, fun b hb => .inl hb, r.glob.mono (fun _ h => .inl h) (fun _ _ => rfl)⟩
    · intro o x hx; simp [ofL] at hx
    · intro o o' x x' b hx; simp [ofL] at hx
    · intro o x b hx; simp [ofL] at hx
    · intro o x b hx; simp [ofL] at hx
    · rintro x (hx | rfl)
      · exact r.fro x hx
      · exact (Array.getElem?_eq_some_iff.1 hh).1
  have a2 : FR (fun x => Φ x ∨ x = bb) w (.sl 1 (intv [a, b])) (.slice (some ⟨bb, 0, none⟩) 2 cap) := by
    refine FR.sl 1 (intv [a, b]) bb 0 cap [.int .i64 a, .int .i64 b] (.inr rfl) (by omega) (by simp [intv]) (by simp [intv]) (by simpa [intv] using hcap) ?_ ?_
    · intro j u hj
      rw [Nat.zero_add, cell_of_row w bb j c tb (0, 0) hh, ← hj, ← hcl]
      simp
    · intro j x u hx hj
      rcases j with _ | _ | j
      · simp [intv] at hx hj; subst hx hj; exact FR.lit _ rfl
      · simp [intv] at hx hj; subst hx hj; exact FR.lit _ rfl
      · simp at hj
  refine (h ρ _ w _ ra (All2.cons a2 All2.nil)).mono ?_
  rintro e w' ⟨y, H', v, ρ', Φ', he, ⟨rfl, hp⟩, hlen, hv, hr⟩
  have hl : Later ⟨fun o => o < 0, ρ', Φ', w'⟩ ⟨fun o => o < 1, ρ, Φ', w'⟩ := ⟨fun o ho => absurd ho (Nat.not_lt_zero _), fun o ho => absurd ho (Nat.not_lt_zero _), fun _ h => h, fun _ _ => rfl⟩
  refine ⟨y, [none], v, ρ, Φ', he, ⟨rfl, hp⟩, Nat.le_refl _, hl.vv hv, ?_⟩
  refine ⟨hr.os, hr.tape, hr.output, hr.size, ?_, fun _ _ => rfl, ?_, ?_, ?_, ?_, hr.fro, ?_, hr.glob⟩
  · intro b hb1 hn
    exact hr.block b hb1 fun o ho => absurd ho (Nat.not_lt_zero _)
  · intro o x hx; rcases o with _ | o <;> simp [ofO] at hx
  · intro o o' x x' b hx; rcases o with _ | o <;> simp [ofO] at hx
  · intro o x b hx; rcases o with _ | o <;> simp [ofO] at hx
  · intro o x b hx; rcases o with _ | o <;> simp [ofO] at hx
  · intro b hb1
    rcases hr.phi b hb1 with (h3 | rfl) | h3 | ⟨o', h3, h4⟩
    · exact .inl h3
    · exact .inr (.inr ⟨0, by show 0 < 1; omega, by show hb (ρ 0) = _; have e : ρ 0 = _ := hρ'; rw [e]; rfl⟩)
    · exact .inr (.inl h3)
    · exact absurd h3 (Nat.not_lt_zero _)
theorem PAllP_ok (a b : Int) : ECalls Tryz.prog 57 [IL [a, b]] [] fun y H' => H' = [] ∧ y = CNv (allP a b) := by
  by_cases h : a = b
  · subst h
    rw [show allP a a = allB [a] from if_pos rfl]
    exact PAll2_ok a
  · rw [show allP a b = allB [a, b] from if_neg h]
    exact PAll_ok [a, b] (keys_two h)
theorem cAllP_ok (a b : Int) : ECalls Tryz.prog 58 [IL [a, b]] [] fun y H' => H' = [] ∧ y = CNv (allP a b) := by
  by_cases h : a = b
  · subst h
    rw [show allP a a = allB [a] from if_pos rfl]
    exact cAll2_ok a
  · rw [show allP a b = allB [a, b] from if_neg h]
    exact cAll_ok' [a, b] (keys_two h)
set_option maxRecDepth 8000 in
set_option maxHeartbeats 16000000 in
theorem BFund_ok (t : Txn) (a b am : Int) (ht : t.bk) (ha : i64 a) (hb : i64 b) (hm : i64 am) : ECalls Tryz.prog 26 [PTL t.ins, .v (.agg [iC a, iC b]), I .i64 am, OUL t.outs] [] fun y H' => H' = [] ∧ y = .tup [.agg (txC (donT (fndT t a b am)).1), .c (.fz (.lit (errV (donT (fndT t a b am)).2)))] := by
  have hok := fndT_ok ht.1 (by have := ht.2.2.1; omega) ha hb hm
  obtain ⟨⟨h1, h2, h3, h4, h5⟩, b1, b2, b3, b4⟩ := ht
  refine ecalls k_BFund ?_
  simp [c_BFund, PTL, OUL, I, iC, -errV_0]
  refine loopW _ (weak_nil (o := 48) (k := 1) (ty := 135) (es := 35) rfl rfl (by omega)) (loopW _ (weak_nil (o := 48) (k := 2) (ty := 118) (es := 2) rfl rfl (by omega)) ?_)
  refine eloop (α := Nat) (fun i => i ≤ t.ins.length) (fun i => t.ins.length - i)
    (fun i => [.any, .any, I .i64 am, OUL t.outs, .any, Ptr 0, .any, .any, Ptr 1, .any, Ptr 2, .any, .any, .any, .any, PTL t.ins, I .i64 t.ins.length, I .i64 i, .any, .any, .any, .any, .any, .any, .any, .any, .any, .any, .any, .any, .any, .any, .any, .any, .any, .any, .any, .any, .any, .any, .any, .any, .any, .any, .any, .any, .any, .any, .any, .any, .any, .any, .any, .any, .any, .any, .any, .any, .any, .any, .any, .any, .any, .any, .any]) (fun i => [some (.box 26 [iC a, iC b]), some (.box 63 [iC 0, .fz (.lit (.slice none 0 0)), .fz (.lit (.slice none 0 0))]), some (.box 63 [iC 0, .row 3 i, .row 4 0]), some (.row 135 35 (nin (t.ins.take i))), some (.row 118 2 [])]) 0 [0, 16, 48, 112, 113]
    (Nat.zero_le _) (by simp [I, Ptr, OUL, PTL]) (by simp [iC, nin, fuI, inpv]) (by simp) (by simp) (by simp) ?_
  intro i hi
  simp [I, Ptr, iC, OUL, PTL, -Int.natCast_add, -errV_0]
  refine alt (fun hlt => ?_) (fun hlt => ?_)
  · have hln : i < t.ins.length := by omega
    obtain ⟨p, hcp⟩ : ∃ p, t.ins[i]? = some p := ⟨t.ins[i], by simp [hln]⟩
    have hge : (ptv t.ins)[i]'(by simp [hln]) = ptF p := by
      have e := ptv_get hcp
      rw [List.getElem?_eq_getElem (by simp [hln])] at e
      exact Option.some.inj e
    have hpo := h2 p (List.mem_of_getElem? hcp)
    have hz0 : hz.length = 32 := rfl
    have w1 : IntKind.i64.wrap ((i : Int) + 1) = ((i + 1 : Nat) : Int) := wrap_i64 (by omega) (by omega)
    have hT : nin (t.ins.take (i + 1)) = nin (t.ins.take i) ++ [hf p.tx ++ [.lit (.int .i64 p.n), .lit (.int .i64 0), .lit (.slice none 0 0)]] := by rw [List.take_add_one, hcp]; exact nin_snoc _ _
    have hTl : (t.ins.take i).length = i := by simp; omega
    have l33 : (ptF p).length = 33 := by simp [ptF, hpo.1]
    have l33' : (ptC p).length = 33 := by simp [ptC, hpo.1]
    have tk : List.take 33 (ptC p) = ptC p := List.take_of_length_le (by omega)
    simp [hln, hge, ptF_fz, l33, l33', tk, hTl, w1, -Int.natCast_add, -errV_0]
    simp [ptC, iC, drop33i, drop33z, frzAll_hc, hpo.1, hTl, w1, -Int.natCast_add, -errV_0]
    refine ⟨⟨by omega, by omega⟩, ?_⟩
    exact round (i + 1) [0, 1, 2, 165, 4] (by omega) (by omega) (by simp [I, Ptr, OUL, PTL, -Int.natCast_add]) (by simp [hT, iC]) (by simp) (by simp) (by simp)
  have hil : i = t.ins.length := by omega
  subst hil
  simp [-errV_0]
  refine call0 (PAllP_ok a b) (by simp [IL, intv]) ?_
  rintro y H' ⟨rfl, rfl⟩
  refine ⟨.inl (by simp [CNv]), le_ok rfl, ?_⟩
  simp [CNv, -errV_0]
  have hz0 := (rfl : (0 : Nat) = 0)
  refine eloop (α := Nat) (fun i => i ≤ t.outs.length) (fun i => t.outs.length - i)
    (fun i => [.any, .any, .any, .any, .any, .any, .any, .any, Ptr 1, .any, Ptr 2, .any, .any, .any, .any, .any, .any, .any, .any, .any, .any, .any, .any, .any, .any, .any, .any, .any, .any, .any, .any, .any, .any, .any, .any, .any, .any, .any, .any, .any, .any, .any, OUL t.outs, I .i64 t.outs.length, I .i64 i, .any, .any, .any, .any, .any, .any, .any, .any, .any, .any, .any, .any, .any, .any, .any, .any, .any, .any, .any, .any]) (fun i => [some (.box 26 [iC a, iC b]), some (.box 63 [iC 0, .fz (.lit (.slice none 0 0)), .fz (.lit (.slice none 0 0))]), some (.box 63 [iC 0, .row 3 t.ins.length, .row 4 (i + 1)]), some (.row 135 35 (nin t.ins)), some (.row 118 2 (outv (⟨am, allP a b⟩ :: t.outs.take i)))]) 0 [0, 1, 2, 3, 197]
    (Nat.zero_le _) (by simp [I, Ptr, OUL, PTL]) (by simp [iC, outv, outF, iF]) (by simp) (by simp) (by simp) ?_
  clear hlt hi
  intro i hi
  simp [I, Ptr, iC, OUL, -Int.natCast_add, -errV_0]
  refine alt (fun hlt => ?_) (fun hlt => ?_)
  · have hln : i < t.outs.length := by omega
    obtain ⟨p, hcp⟩ : ∃ p, t.outs[i]? = some p := ⟨t.outs[i], by simp [hln]⟩
    have hge : (outv t.outs)[i]'(by simp [hln]) = outF p := by
      have e := outv_get hcp
      rw [List.getElem?_eq_getElem (by simp [hln])] at e
      exact Option.some.inj e
    have hpo := h3 p (List.mem_of_getElem? hcp)
    have hbp := (b4 p (List.mem_of_getElem? hcp)).1
    have w1 : IntKind.i64.wrap ((i : Int) + 1) = ((i + 1 : Nat) : Int) := wrap_i64 (by omega) (by omega)
    have hT : outv (⟨am, allP a b⟩ :: t.outs.take (i + 1)) = outv (⟨am, allP a b⟩ :: t.outs.take i) ++ [outF p] := by rw [List.take_add_one, hcp]; simp [outv]
    have hTl : (t.outs.take i).length = i := by simp; omega
    simp [hln, hge, outF, iF, -Int.natCast_add, -errV_0]
    have hO := POr_ok p.cs [] hpo.2.1 (by simp) (by omega) (by simp)
    rw [List.append_nil] at hO
    refine call0 (ecalls_nlF hO) (by simp [CNv]) ?_
    rintro y H' ⟨rfl, rfl⟩
    refine ⟨.inl (by simp [CNv]), le_ok rfl, ?_⟩
    simp [hln, hge, outF, iF, CNv, hTl, w1, -Int.natCast_add, -errV_0]
    refine ⟨⟨by omega, by omega⟩, ?_⟩
    exact round (i + 1) [0, 1, 2, 3, 245] (by omega) (by omega) (by simp [I, Ptr, OUL, -Int.natCast_add]) (by simp [hT, outF, iF, iC]) (by simp) (by simp) (by simp)
  have hil : i = t.outs.length := by omega
  subst hil
  simp [-errV_0]
  have hD : ECalls Tryz.prog 47 [.v (.agg [iC 0, .fz (.sl 35 (nin t.ins)), .fz (.sl 2 (outv (⟨am, allP a b⟩ :: t.outs)))])] [] (fun y H' => H' = [] ∧ y = .tup [.agg (txC (donT (fndT t a b am)).1), .c (.fz (.lit (errV (donT (fndT t a b am)).2)))]) := ecalls_nlG (BDone_ok (fndT t a b am) hok)
  have hT : ECalls Tryz.prog 47 [.v (.agg [iC 0, .row 0 t.ins.length, .row 1 (t.outs.length + 1)])] [.row 135 35 (nin t.ins), .row 118 2 (outv (⟨am, allP a b⟩ :: t.outs))] (fun y H' => H' = [none, none] ∧ y = .tup [.agg (txC (donT (fndT t a b am)).1), .c (.fz (.lit (errV (donT (fndT t a b am)).2)))]) :=
    ecalls_thaw2 hD (by simp [iC, List.take_of_length_le])
  refine callH [3, 4] hT (by simp [iC]) (by simp) (by simp) (by simp) (by simp) ?_
  rintro y H' ⟨rfl, rfl⟩
  refine ⟨.inl (by simp), by simp, ?_⟩
  simp [txC, iC, -errV_0]
  exact fin [] (by decide) rfl rfl rfl ⟨rfl, rfl⟩
set_option maxRecDepth 8000 in
set_option maxHeartbeats 16000000 in
theorem RBFund_ok (t : Txn) (a b am : Int) (ht : t.bk) (ha : i64 a) (hb : i64 b) (hm : i64 am) : ECalls Tryz.prog 28 [PTL t.ins, .v (.agg [iC a, iC b]), I .i64 am, OUL t.outs] [] fun y H' => H' = [] ∧ y = .tup [.agg (txC (donT (fndT t a b am)).1), .c (.fz (.lit (.int .i64 (donT (fndT t a b am)).2)))] := by
  have hok := fndT_ok ht.1 (by have := ht.2.2.1; omega) ha hb hm
  obtain ⟨⟨h1, h2, h3, h4, h5⟩, b1, b2, b3, b4⟩ := ht
  refine ecalls k_RBFund ?_
  simp [c_RBFund, PTL, OUL, I, iC]
  refine loopW _ (weak_nil (o := 64) (k := 1) (ty := 83) (es := 35) rfl rfl (by omega)) (loopW _ (weak_nil (o := 64) (k := 2) (ty := 148) (es := 2) rfl rfl (by omega)) ?_)
  refine eloop (α := Nat) (fun i => i ≤ t.ins.length) (fun i => t.ins.length - i)
    (fun i => [PTL t.ins, .any, I .i64 am, OUL t.outs, .any, Ptr 0, .any, .any, Ptr 1, .any, Ptr 2, I .i64 i, .any, .any, .any, .any, .any, .any, .any, .any, .any, .any, .any, .any, .any, .any, .any, .any, .any, .any, .any, .any, .any, .any, .any, .any, .any, .any, .any, .any, .any, .any, .any, .any, .any, .any, .any]) (fun i => [some (.box 26 [iC a, iC b]), some (.box 69 [iC 0, .fz (.lit (.slice none 0 0)), .fz (.lit (.slice none 0 0))]), some (.box 69 [iC 0, .row 3 i, .row 4 0]), some (.row 83 35 (nin (t.ins.take i))), some (.row 148 2 [])]) 0 [0, 16, 64, 112, 113]
    (Nat.zero_le _) (by simp [I, Ptr, OUL, PTL]) (by simp [iC, nin, fuI, inpv]) (by simp) (by simp) (by simp) ?_
  intro i hi
  simp [I, Ptr, iC, OUL, PTL, -Int.natCast_add]
  refine alt (fun hlt => ?_) (fun hlt => ?_)
  · have hln : i < t.ins.length := by omega
    obtain ⟨p, hcp⟩ : ∃ p, t.ins[i]? = some p := ⟨t.ins[i], by simp [hln]⟩
    have hge : (ptv t.ins)[i]'(by simp [hln]) = ptF p := by
      have e := ptv_get hcp
      rw [List.getElem?_eq_getElem (by simp [hln])] at e
      exact Option.some.inj e
    have hpo := h2 p (List.mem_of_getElem? hcp)
    have w1 : IntKind.i64.wrap ((i : Int) + 1) = ((i + 1 : Nat) : Int) := wrap_i64 (by omega) (by omega)
    have hT : nin (t.ins.take (i + 1)) = nin (t.ins.take i) ++ [hf p.tx ++ [.lit (.int .i64 p.n), .lit (.int .i64 0), .lit (.slice none 0 0)]] := by rw [List.take_add_one, hcp]; exact nin_snoc _ _
    have hTl : (t.ins.take i).length = i := by simp; omega
    have l33 : (ptF p).length = 33 := by simp [ptF, hpo.1]
    have l33' : (ptC p).length = 33 := by simp [ptC, hpo.1]
    have tk : List.take 33 (ptC p) = ptC p := List.take_of_length_le (by omega)
    simp [hln, hge, ptF_fz, l33, l33', tk, hTl, w1, -Int.natCast_add]
    simp [ptC, iC, drop33i, drop33z, frzAll_hc, hpo.1, hTl, w1, -Int.natCast_add]
    refine ⟨⟨by omega, by omega⟩, ?_⟩
    exact round (i + 1) [0, 1, 2, 197, 4] (by omega) (by omega) (by simp [I, Ptr, OUL, PTL, -Int.natCast_add]) (by simp [hT, iC]) (by simp) (by simp) (by simp)
  have hil : i = t.ins.length := by omega
  subst hil
  simp
  refine callH [0] (ecalls_thawA (tb := 26) (cAllP_ok a b)) (by simp) (by simp [iC]) (by simp) (by simp) (by simp) ?_
  rintro y H' ⟨rfl, rfl⟩
  refine ⟨.inl (by simp), by simp, ?_⟩
  simp [CNv]
  refine ⟨⟨by omega, by omega⟩, ?_⟩
  have hD : ECalls Tryz.prog 48 [.v (.agg [iC 0, .fz (.sl 35 (nin t.ins)), .fz (.sl 2 (outv (⟨am, allP a b⟩ :: t.outs)))])] [] (fun y H' => H' = [] ∧ y = .tup [.agg (txC (donT (fndT t a b am)).1), .c (.fz (.lit (.int .i64 (donT (fndT t a b am)).2)))]) := ecalls_nlG (RDone_ok (fndT t a b am) hok)
  have hT : ECalls Tryz.prog 48 [.v (.agg [iC 0, .row 0 t.ins.length, .row 1 (1 + t.outs.length)])] [.row 83 35 (nin t.ins), .row 148 2 (outv (⟨am, allP a b⟩ :: t.outs))] (fun y H' => H' = [none, none] ∧ y = .tup [.agg (txC (donT (fndT t a b am)).1), .c (.fz (.lit (.int .i64 (donT (fndT t a b am)).2)))]) :=
    ecalls_thaw2 hD (by simp [iC, List.take_of_length_le, Nat.add_comm 1])
  refine callH [3, 277] hT (by simp [iC]) (by simp [outv, outF, iF]) (by simp) (by simp) (by simp) ?_
  rintro y H' ⟨rfl, rfl⟩
  refine ⟨.inl (by simp), by simp, ?_⟩
  simp [txC, iC]
  exact fin [] (by decide) rfl rfl rfl ⟨rfl, rfl⟩
end Go.Proofs.YtflcfdeanneoeaaGreatDoor
