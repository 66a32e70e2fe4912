import Derived.Test.YtoomdgmggkcgfaaDoorTree8
namespace Go.Proofs.YtoomdgmggkcgfaaDoor
open Go Go.EW
set_option linter.unusedSimpArgs false
set_option linter.unusedVariables false

@[simp] def l_NaN_1 (_ : Unit) : List EOp := [⟨0, (some 2), none, (.q (.mov (.k (.bool false)))), []⟩]
@[simp] def b_NaN_2 (_ : Unit) : EB := reg0 (hid l_NaN_1) 1
@[simp] def l_NaN_3 (_ : Unit) : List EOp := [⟨0, (some 3), none, (.q (.mov (.t 0))), []⟩, ⟨1, (some 4), none, (.q (.mov (.t 0))), []⟩, ⟨2, (some 5), none, (.q (.bin .neq (.t 3) (.t 4))), []⟩, ⟨3, (some 2), none, (.q (.mov (.t 5))), []⟩]
@[simp] def b_NaN_4 (_ : Unit) : EB := reg0 (hid l_NaN_3) 4
@[simp] def b_NaN_5 (_ : Unit) : EB := .seq (hid b_NaN_4) .ret
@[simp] def b_NaN_6 (_ : Unit) : EB := .seq (hid b_NaN_2) (hid b_NaN_5)
def c_NaN : EB × List QOp × Nat := ((hid b_NaN_6), [(.mov (.t 2))], 6)
theorem k_NaN : cfun Tryd.prog 77 = some c_NaN := by kernel_rfl

@[simp] def l_Cmp_1 (_ : Unit) : List EOp := [⟨0, (some 4), none, (.q (.mov (.k (.int .i64 0)))), []⟩]
@[simp] def b_Cmp_2 (_ : Unit) : EB := reg0 (hid l_Cmp_1) 1
@[simp] def l_Cmp_3 (_ : Unit) : List EOp := [⟨0, (some 7), none, (.q (.mov (.t 0))), []⟩, ⟨1, (some 8), none, (.call 77 [(.t 7)]), []⟩, ⟨2, (some 5), none, (.q (.mov (.t 8))), []⟩]
@[simp] def b_Cmp_4 (_ : Unit) : EB := reg0 (hid l_Cmp_3) 3
@[simp] def l_Cmp_5 (_ : Unit) : List EOp := [⟨0, (some 9), none, (.q (.mov (.t 1))), []⟩, ⟨1, (some 10), none, (.call 77 [(.t 9)]), []⟩, ⟨2, (some 6), none, (.q (.mov (.t 10))), []⟩]
@[simp] def b_Cmp_6 (_ : Unit) : EB := reg0 (hid l_Cmp_5) 3
@[simp] def l_Cmp_7 (_ : Unit) : List EOp := [⟨0, (some 11), none, (.q (.mov (.t 5))), []⟩]
@[simp] def b_Cmp_8 (_ : Unit) : EB := reg0 (hid l_Cmp_7) 1
@[simp] def l_Cmp_9 (_ : Unit) : List EOp := [⟨0, (some 12), none, (.q (.mov (.t 6))), []⟩]
@[simp] def b_Cmp_10 (_ : Unit) : EB := reg0 (hid l_Cmp_9) 1
@[simp] def l_Cmp_11 (_ : Unit) : List EOp := [⟨0, (some 4), none, (.q (.mov (.k (.int .i64 0)))), []⟩]
@[simp] def b_Cmp_12 (_ : Unit) : EB := reg0 (hid l_Cmp_11) 1
@[simp] def b_Cmp_13 (_ : Unit) : EB := .seq (hid b_Cmp_12) .ret
@[simp] def b_Cmp_14 (_ : Unit) : EB := .cond (.t 12) (hid b_Cmp_13) .skip
@[simp] def b_Cmp_15 (_ : Unit) : EB := .seq (hid b_Cmp_10) (hid b_Cmp_14)
@[simp] def l_Cmp_16 (_ : Unit) : List EOp := [⟨0, (some 4), none, (.q (.mov (.k (.int .i64 (-1))))), []⟩]
@[simp] def b_Cmp_17 (_ : Unit) : EB := reg0 (hid l_Cmp_16) 1
@[simp] def b_Cmp_18 (_ : Unit) : EB := .seq (hid b_Cmp_17) .ret
@[simp] def b_Cmp_19 (_ : Unit) : EB := .seq (hid b_Cmp_15) (hid b_Cmp_18)
@[simp] def b_Cmp_20 (_ : Unit) : EB := .cond (.t 11) (hid b_Cmp_19) .skip
@[simp] def b_Cmp_21 (_ : Unit) : EB := .seq (hid b_Cmp_8) (hid b_Cmp_20)
@[simp] def l_Cmp_22 (_ : Unit) : List EOp := [⟨0, (some 13), none, (.q (.mov (.t 6))), []⟩]
@[simp] def b_Cmp_23 (_ : Unit) : EB := reg0 (hid l_Cmp_22) 1
@[simp] def l_Cmp_24 (_ : Unit) : List EOp := [⟨0, (some 4), none, (.q (.mov (.k (.int .i64 1)))), []⟩]
@[simp] def b_Cmp_25 (_ : Unit) : EB := reg0 (hid l_Cmp_24) 1
@[simp] def b_Cmp_26 (_ : Unit) : EB := .seq (hid b_Cmp_25) .ret
@[simp] def b_Cmp_27 (_ : Unit) : EB := .cond (.t 13) (hid b_Cmp_26) .skip
@[simp] def b_Cmp_28 (_ : Unit) : EB := .seq (hid b_Cmp_23) (hid b_Cmp_27)
@[simp] def l_Cmp_29 (_ : Unit) : List EOp := [⟨0, (some 14), none, (.q (.mov (.t 0))), []⟩, ⟨1, (some 15), none, (.q (.mov (.t 1))), []⟩, ⟨2, (some 16), none, (.q (.bin .lss (.t 14) (.t 15))), []⟩]
@[simp] def b_Cmp_30 (_ : Unit) : EB := reg0 (hid l_Cmp_29) 3
@[simp] def l_Cmp_31 (_ : Unit) : List EOp := [⟨0, (some 4), none, (.q (.mov (.k (.int .i64 (-1))))), []⟩]
@[simp] def b_Cmp_32 (_ : Unit) : EB := reg0 (hid l_Cmp_31) 1
@[simp] def b_Cmp_33 (_ : Unit) : EB := .seq (hid b_Cmp_32) .ret
@[simp] def b_Cmp_34 (_ : Unit) : EB := .cond (.t 16) (hid b_Cmp_33) .skip
@[simp] def b_Cmp_35 (_ : Unit) : EB := .seq (hid b_Cmp_30) (hid b_Cmp_34)
@[simp] def l_Cmp_36 (_ : Unit) : List EOp := [⟨0, (some 17), none, (.q (.mov (.t 0))), []⟩, ⟨1, (some 18), none, (.q (.mov (.t 1))), []⟩, ⟨2, (some 19), none, (.q (.bin .gtr (.t 17) (.t 18))), []⟩]
@[simp] def b_Cmp_37 (_ : Unit) : EB := reg0 (hid l_Cmp_36) 3
@[simp] def l_Cmp_38 (_ : Unit) : List EOp := [⟨0, (some 4), none, (.q (.mov (.k (.int .i64 1)))), []⟩]
@[simp] def b_Cmp_39 (_ : Unit) : EB := reg0 (hid l_Cmp_38) 1
@[simp] def b_Cmp_40 (_ : Unit) : EB := .seq (hid b_Cmp_39) .ret
@[simp] def b_Cmp_41 (_ : Unit) : EB := .cond (.t 19) (hid b_Cmp_40) .skip
@[simp] def b_Cmp_42 (_ : Unit) : EB := .seq (hid b_Cmp_37) (hid b_Cmp_41)
@[simp] def l_Cmp_43 (_ : Unit) : List EOp := [⟨0, (some 4), none, (.q (.mov (.k (.int .i64 0)))), []⟩]
@[simp] def b_Cmp_44 (_ : Unit) : EB := reg0 (hid l_Cmp_43) 1
@[simp] def b_Cmp_45 (_ : Unit) : EB := .seq (hid b_Cmp_44) .ret
@[simp] def b_Cmp_46 (_ : Unit) : EB := .seq (hid b_Cmp_42) (hid b_Cmp_45)
@[simp] def b_Cmp_47 (_ : Unit) : EB := .seq (hid b_Cmp_35) (hid b_Cmp_46)
@[simp] def b_Cmp_48 (_ : Unit) : EB := .seq (hid b_Cmp_28) (hid b_Cmp_47)
@[simp] def b_Cmp_49 (_ : Unit) : EB := .seq (hid b_Cmp_21) (hid b_Cmp_48)
@[simp] def b_Cmp_50 (_ : Unit) : EB := .seq (hid b_Cmp_6) (hid b_Cmp_49)
@[simp] def b_Cmp_51 (_ : Unit) : EB := .seq (hid b_Cmp_4) (hid b_Cmp_50)
@[simp] def b_Cmp_52 (_ : Unit) : EB := .seq (hid b_Cmp_2) (hid b_Cmp_51)
def c_Cmp : EB × List QOp × Nat := ((hid b_Cmp_52), [(.mov (.t 4))], 20)
theorem k_Cmp : cfun Tryd.prog 52 = some c_Cmp := by kernel_rfl

@[simp] def l_TCompare_1 (_ : Unit) : List EOp := [⟨0, (some 4), none, (.q (.mov (.k (.int .i64 0)))), []⟩]
@[simp] def b_TCompare_2 (_ : Unit) : EB := reg0 (hid l_TCompare_1) 1
@[simp] def l_TCompare_3 (_ : Unit) : List EOp := [⟨0, (some 9), none, (.q (.mov (.t 0))), []⟩, ⟨1, (some 10), none, (.q (.len (.t 9))), []⟩, ⟨2, (some 11), none, (.q (.mov (.k (.int .i64 0)))), []⟩]
@[simp] def b_TCompare_4 (_ : Unit) : EB := reg0 (hid l_TCompare_3) 3
@[simp] def l_TCompare_5 (_ : Unit) : List EOp := [⟨0, (some 12), none, (.q (.bin .lss (.t 11) (.t 10))), []⟩]
@[simp] def b_TCompare_6 (_ : Unit) : EB := reg0 (hid l_TCompare_5) 1
@[simp] def b_TCompare_7 (_ : Unit) : EB := .cond (.t 12) .skip (.exit 0)
@[simp] def l_TCompare_8 (_ : Unit) : List EOp := [⟨0, (some 13), none, (.q (.mov (.t 11))), []⟩, ⟨1, (some 14), none, (.q (.isl 1 (.t 9) (.t 11))), []⟩, ⟨2, (some 15), none, (.q (.ldc (.t 14))), []⟩, ⟨3, (some 5), none, (.q (.mov (.t 13))), []⟩, ⟨4, (some 6), none, (.q (.mov (.t 15))), []⟩]
@[simp] def b_TCompare_9 (_ : Unit) : EB := reg0 (hid l_TCompare_8) 5
@[simp] def l_TCompare_10 (_ : Unit) : List EOp := [⟨0, (some 16), none, (.q (.mov (.t 5))), []⟩, ⟨1, (some 17), none, (.q (.mov (.t 1))), []⟩, ⟨2, (some 18), none, (.q (.len (.t 17))), []⟩, ⟨3, (some 19), none, (.q (.bin .geq (.t 16) (.t 18))), []⟩]
@[simp] def b_TCompare_11 (_ : Unit) : EB := reg0 (hid l_TCompare_10) 4
@[simp] def l_TCompare_12 (_ : Unit) : List EOp := [⟨0, (some 4), none, (.q (.mov (.k (.int .i64 1)))), []⟩]
@[simp] def b_TCompare_13 (_ : Unit) : EB := reg0 (hid l_TCompare_12) 1
@[simp] def b_TCompare_14 (_ : Unit) : EB := .seq (hid b_TCompare_13) .ret
@[simp] def b_TCompare_15 (_ : Unit) : EB := .cond (.t 19) (hid b_TCompare_14) .skip
@[simp] def b_TCompare_16 (_ : Unit) : EB := .seq (hid b_TCompare_11) (hid b_TCompare_15)
@[simp] def l_TCompare_17 (_ : Unit) : List EOp := [⟨0, (some 20), none, (.q (.mov (.t 1))), []⟩, ⟨1, (some 21), none, (.q (.mov (.t 5))), []⟩, ⟨2, (some 22), none, (.q (.isl 1 (.t 20) (.t 21))), []⟩, ⟨3, (some 23), none, (.q (.ldc (.t 22))), []⟩, ⟨4, (some 7), none, (.q (.mov (.t 23))), []⟩]
@[simp] def b_TCompare_18 (_ : Unit) : EB := reg0 (hid l_TCompare_17) 5
@[simp] def l_TCompare_19 (_ : Unit) : List EOp := [⟨0, (some 24), none, (.q (.mov (.t 6))), []⟩, ⟨1, (some 25), none, (.q (.mov (.t 7))), []⟩, ⟨2, (some 26), none, (.call 52 [(.t 24), (.t 25)]), []⟩, ⟨3, (some 8), none, (.q (.mov (.t 26))), []⟩]
@[simp] def b_TCompare_20 (_ : Unit) : EB := reg0 (hid l_TCompare_19) 4
@[simp] def l_TCompare_21 (_ : Unit) : List EOp := [⟨0, (some 27), none, (.q (.mov (.t 8))), []⟩, ⟨1, (some 28), none, (.q (.bin .neq (.t 27) (.k (.int .i64 0)))), []⟩]
@[simp] def b_TCompare_22 (_ : Unit) : EB := reg0 (hid l_TCompare_21) 2
@[simp] def l_TCompare_23 (_ : Unit) : List EOp := [⟨0, (some 29), none, (.q (.mov (.t 8))), []⟩, ⟨1, (some 4), none, (.q (.mov (.t 29))), []⟩]
@[simp] def b_TCompare_24 (_ : Unit) : EB := reg0 (hid l_TCompare_23) 2
@[simp] def b_TCompare_25 (_ : Unit) : EB := .seq (hid b_TCompare_24) .ret
@[simp] def b_TCompare_26 (_ : Unit) : EB := .cond (.t 28) (hid b_TCompare_25) .skip
@[simp] def b_TCompare_27 (_ : Unit) : EB := .seq (hid b_TCompare_22) (hid b_TCompare_26)
@[simp] def b_TCompare_28 (_ : Unit) : EB := .seq (hid b_TCompare_20) (hid b_TCompare_27)
@[simp] def b_TCompare_29 (_ : Unit) : EB := .seq (hid b_TCompare_18) (hid b_TCompare_28)
@[simp] def b_TCompare_30 (_ : Unit) : EB := .seq (hid b_TCompare_16) (hid b_TCompare_29)
@[simp] def b_TCompare_31 (_ : Unit) : EB := .seq (hid b_TCompare_9) (hid b_TCompare_30)
@[simp] def b_TCompare_32 (_ : Unit) : EB := .block 1 (hid b_TCompare_31)
@[simp] def l_TCompare_33 (_ : Unit) : List EOp := [⟨0, (some 30), none, (.q (.bin .add (.t 11) (.k (.int .i64 1)))), []⟩, ⟨1, (some 11), none, (.q (.mov (.t 30))), []⟩]
@[simp] def b_TCompare_34 (_ : Unit) : EB := reg0 (hid l_TCompare_33) 2
@[simp] def b_TCompare_35 (_ : Unit) : EB := .seq (hid b_TCompare_32) (hid b_TCompare_34)
@[simp] def b_TCompare_36 (_ : Unit) : EB := .seq (hid b_TCompare_7) (hid b_TCompare_35)
@[simp] def b_TCompare_37 (_ : Unit) : EB := .seq (hid b_TCompare_6) (hid b_TCompare_36)
@[simp] def b_TCompare_38 (_ : Unit) : EB := .loop (hid b_TCompare_37)
@[simp] def b_TCompare_39 (_ : Unit) : EB := .block 0 (hid b_TCompare_38)
@[simp] def b_TCompare_40 (_ : Unit) : EB := .seq (hid b_TCompare_4) (hid b_TCompare_39)
@[simp] def l_TCompare_41 (_ : Unit) : List EOp := [⟨0, (some 31), none, (.q (.mov (.t 0))), []⟩, ⟨1, (some 32), none, (.q (.len (.t 31))), []⟩, ⟨2, (some 33), none, (.q (.mov (.t 1))), []⟩, ⟨3, (some 34), none, (.q (.len (.t 33))), []⟩, ⟨4, (some 35), none, (.q (.bin .lss (.t 32) (.t 34))), []⟩]
@[simp] def b_TCompare_42 (_ : Unit) : EB := reg0 (hid l_TCompare_41) 5
@[simp] def l_TCompare_43 (_ : Unit) : List EOp := [⟨0, (some 4), none, (.q (.mov (.k (.int .i64 (-1))))), []⟩]
@[simp] def b_TCompare_44 (_ : Unit) : EB := reg0 (hid l_TCompare_43) 1
@[simp] def b_TCompare_45 (_ : Unit) : EB := .seq (hid b_TCompare_44) .ret
@[simp] def b_TCompare_46 (_ : Unit) : EB := .cond (.t 35) (hid b_TCompare_45) .skip
@[simp] def b_TCompare_47 (_ : Unit) : EB := .seq (hid b_TCompare_42) (hid b_TCompare_46)
@[simp] def l_TCompare_48 (_ : Unit) : List EOp := [⟨0, (some 4), none, (.q (.mov (.k (.int .i64 0)))), []⟩]
@[simp] def b_TCompare_49 (_ : Unit) : EB := reg0 (hid l_TCompare_48) 1
@[simp] def b_TCompare_50 (_ : Unit) : EB := .seq (hid b_TCompare_49) .ret
@[simp] def b_TCompare_51 (_ : Unit) : EB := .seq (hid b_TCompare_47) (hid b_TCompare_50)
@[simp] def b_TCompare_52 (_ : Unit) : EB := .seq (hid b_TCompare_40) (hid b_TCompare_51)
@[simp] def b_TCompare_53 (_ : Unit) : EB := .seq (hid b_TCompare_2) (hid b_TCompare_52)
def c_TCompare : EB × List QOp × Nat := ((hid b_TCompare_53), [(.mov (.t 4))], 36)
theorem k_TCompare : cfun Tryd.prog 31 = some c_TCompare := by kernel_rfl

@[simp] def l_TNewer_1 (_ : Unit) : List EOp := [⟨0, (some 3), none, (.q (.box 31 (.t 0))), []⟩, ⟨1, (some 6), none, (.q (.mov (.k (.bool false)))), []⟩]
@[simp] def b_TNewer_2 (_ : Unit) : EB := reg0 (hid l_TNewer_1) 2
@[simp] def l_TNewer_5 (_ : Unit) : List EOp := [⟨12, (some 19), (some (17, true)), (.q (.mov (.t 2))), []⟩, ⟨13, (some 20), (some (17, true)), (.call 31 [(.t 18), (.t 19)]), []⟩, ⟨14, (some 21), (some (17, true)), (.q (.bin .lss (.t 20) (.k (.int .i64 0)))), []⟩, ⟨15, (some 22), none, (.q (.pick (.t 17) (.t 21) (.k (.bool false)))), []⟩, ⟨16, (some 6), none, (.q (.mov (.t 22))), []⟩]
@[simp] def l_TNewer_4 (_ : Unit) : List EOp := ⟨6, (some 13), (some (11, true)), (.q (.mov (.t 2))), []⟩ :: ⟨7, (some 14), (some (11, true)), (.call 28 [(.t 12), (.t 13)]), []⟩ :: ⟨8, (some 15), (some (11, true)), (.q (.eqi false (.t 14))), []⟩ :: ⟨9, (some 16), none, (.q (.pick (.t 11) (.t 15) (.k (.bool false)))), []⟩ :: ⟨10, (some 17), none, (.q (.mov (.t 16))), []⟩ :: ⟨11, (some 18), (some (17, true)), (.q (.mov (.t 1))), []⟩ :: hid l_TNewer_5
@[simp] def l_TNewer_3 (_ : Unit) : List EOp := ⟨0, (some 7), none, (.q (.lda 40 (.t 3))), []⟩ :: ⟨1, (some 8), none, (.q (.mov (.t 1))), []⟩ :: ⟨2, (some 9), none, (.call 28 [(.t 7), (.t 8)]), []⟩ :: ⟨3, (some 10), none, (.q (.eqi false (.t 9))), []⟩ :: ⟨4, (some 11), none, (.q (.mov (.t 10))), []⟩ :: ⟨5, (some 12), (some (11, true)), (.q (.lda 40 (.t 3))), []⟩ :: hid l_TNewer_4
@[simp] def b_TNewer_6 (_ : Unit) : EB := reg0 (hid l_TNewer_3) 17
@[simp] def b_TNewer_7 (_ : Unit) : EB := .seq (hid b_TNewer_6) .ret
@[simp] def b_TNewer_8 (_ : Unit) : EB := .seq (hid b_TNewer_2) (hid b_TNewer_7)
def c_TNewer : EB × List QOp × Nat := ((hid b_TNewer_8), [(.mov (.t 6))], 23)
theorem k_TNewer : cfun Tryd.prog 11 = some c_TNewer := by kernel_rfl

@[simp] def l_RTNewer_1 (_ : Unit) : List EOp := [⟨0, (some 3), none, (.q (.box 28 (.t 0))), []⟩, ⟨1, (some 6), none, (.q (.mov (.k (.bool false)))), []⟩]
@[simp] def b_RTNewer_2 (_ : Unit) : EB := reg0 (hid l_RTNewer_1) 2
@[simp] def l_RTNewer_4 (_ : Unit) : List EOp := [⟨6, (some 14), (some (12, false)), (.q (.mov (.t 2))), []⟩, ⟨7, (some 15), (some (12, false)), (.call 34 [(.t 13), (.t 14)]), []⟩, ⟨8, (some 16), (some (12, false)), (.q (.bin .neq (.t 15) (.k (.int .i64 0)))), []⟩, ⟨9, (some 17), none, (.q (.pick (.t 12) (.k (.bool true)) (.t 16))), []⟩]
@[simp] def l_RTNewer_3 (_ : Unit) : List EOp := ⟨0, (some 8), none, (.q (.lda 40 (.t 3))), []⟩ :: ⟨1, (some 9), none, (.q (.mov (.t 1))), []⟩ :: ⟨2, (some 10), none, (.call 34 [(.t 8), (.t 9)]), []⟩ :: ⟨3, (some 11), none, (.q (.bin .neq (.t 10) (.k (.int .i64 0)))), []⟩ :: ⟨4, (some 12), none, (.q (.mov (.t 11))), []⟩ :: ⟨5, (some 13), (some (12, false)), (.q (.lda 40 (.t 3))), []⟩ :: hid l_RTNewer_4
@[simp] def b_RTNewer_5 (_ : Unit) : EB := reg0 (hid l_RTNewer_3) 10
@[simp] def l_RTNewer_6 (_ : Unit) : List EOp := [⟨0, (some 6), none, (.q (.mov (.k (.bool false)))), []⟩]
@[simp] def b_RTNewer_7 (_ : Unit) : EB := reg0 (hid l_RTNewer_6) 1
@[simp] def b_RTNewer_8 (_ : Unit) : EB := .seq (hid b_RTNewer_7) .ret
@[simp] def b_RTNewer_9 (_ : Unit) : EB := .cond (.t 17) (hid b_RTNewer_8) .skip
@[simp] def b_RTNewer_10 (_ : Unit) : EB := .seq (hid b_RTNewer_5) (hid b_RTNewer_9)
@[simp] def l_RTNewer_11 (_ : Unit) : List EOp := [⟨0, (some 7), none, (.q (.mov (.k (.int .i64 0)))), []⟩]
@[simp] def b_RTNewer_12 (_ : Unit) : EB := reg0 (hid l_RTNewer_11) 1
@[simp] def l_RTNewer_13 (_ : Unit) : List EOp := [⟨0, (some 18), none, (.q (.mov (.t 7))), []⟩, ⟨1, (some 19), none, (.q (.mov (.t 1))), []⟩, ⟨2, (some 20), none, (.q (.len (.t 19))), []⟩, ⟨3, (some 21), none, (.q (.bin .lss (.t 18) (.t 20))), []⟩]
@[simp] def b_RTNewer_14 (_ : Unit) : EB := reg0 (hid l_RTNewer_13) 4
@[simp] def b_RTNewer_15 (_ : Unit) : EB := .cond (.t 21) .skip (.exit 0)
@[simp] def b_RTNewer_16 (_ : Unit) : EB := .seq (hid b_RTNewer_14) (hid b_RTNewer_15)
@[simp] def l_RTNewer_18 (_ : Unit) : List EOp := [⟨6, (some 30), none, (.q (.isl 1 (.t 28) (.t 29))), []⟩, ⟨7, (some 31), none, (.q (.ldc (.t 30))), []⟩, ⟨8, (some 32), none, (.q (.bin .neq (.t 27) (.t 31))), []⟩]
@[simp] def l_RTNewer_17 (_ : Unit) : List EOp := ⟨0, (some 24), none, (.q (.mov (.t 1))), []⟩ :: ⟨1, (some 25), none, (.q (.mov (.t 7))), []⟩ :: ⟨2, (some 26), none, (.q (.isl 1 (.t 24) (.t 25))), []⟩ :: ⟨3, (some 27), none, (.q (.ldc (.t 26))), []⟩ :: ⟨4, (some 28), none, (.q (.mov (.t 2))), []⟩ :: ⟨5, (some 29), none, (.q (.mov (.t 7))), []⟩ :: hid l_RTNewer_18
@[simp] def b_RTNewer_19 (_ : Unit) : EB := reg0 (hid l_RTNewer_17) 9
@[simp] def l_RTNewer_21 (_ : Unit) : List EOp := [⟨6, (some 39), none, (.q (.isl 1 (.t 37) (.t 38))), []⟩, ⟨7, (some 40), none, (.q (.ldc (.t 39))), []⟩, ⟨8, (some 41), none, (.q (.bin .lss (.t 36) (.t 40))), []⟩, ⟨9, (some 6), none, (.q (.mov (.t 41))), []⟩]
@[simp] def l_RTNewer_20 (_ : Unit) : List EOp := ⟨0, (some 33), none, (.q (.mov (.t 1))), []⟩ :: ⟨1, (some 34), none, (.q (.mov (.t 7))), []⟩ :: ⟨2, (some 35), none, (.q (.isl 1 (.t 33) (.t 34))), []⟩ :: ⟨3, (some 36), none, (.q (.ldc (.t 35))), []⟩ :: ⟨4, (some 37), none, (.q (.mov (.t 2))), []⟩ :: ⟨5, (some 38), none, (.q (.mov (.t 7))), []⟩ :: hid l_RTNewer_21
@[simp] def b_RTNewer_22 (_ : Unit) : EB := reg0 (hid l_RTNewer_20) 10
@[simp] def b_RTNewer_23 (_ : Unit) : EB := .seq (hid b_RTNewer_22) .ret
@[simp] def b_RTNewer_24 (_ : Unit) : EB := .cond (.t 32) (hid b_RTNewer_23) .skip
@[simp] def b_RTNewer_25 (_ : Unit) : EB := .seq (hid b_RTNewer_19) (hid b_RTNewer_24)
@[simp] def b_RTNewer_26 (_ : Unit) : EB := .block 1 (hid b_RTNewer_25)
@[simp] def l_RTNewer_27 (_ : Unit) : List EOp := [⟨0, (some 22), none, (.q (.mov (.t 7))), []⟩, ⟨1, (some 23), none, (.q (.bin .add (.t 22) (.k (.int .i64 1)))), []⟩, ⟨2, (some 7), none, (.q (.mov (.t 23))), []⟩]
@[simp] def b_RTNewer_28 (_ : Unit) : EB := reg0 (hid l_RTNewer_27) 3
@[simp] def b_RTNewer_29 (_ : Unit) : EB := .seq (hid b_RTNewer_26) (hid b_RTNewer_28)
@[simp] def b_RTNewer_30 (_ : Unit) : EB := .seq (hid b_RTNewer_16) (hid b_RTNewer_29)
@[simp] def b_RTNewer_31 (_ : Unit) : EB := .loop (hid b_RTNewer_30)
@[simp] def b_RTNewer_32 (_ : Unit) : EB := .block 0 (hid b_RTNewer_31)
@[simp] def b_RTNewer_33 (_ : Unit) : EB := .seq (hid b_RTNewer_12) (hid b_RTNewer_32)
@[simp] def l_RTNewer_34 (_ : Unit) : List EOp := [⟨0, (some 6), none, (.q (.mov (.k (.bool false)))), []⟩]
@[simp] def b_RTNewer_35 (_ : Unit) : EB := reg0 (hid l_RTNewer_34) 1
@[simp] def b_RTNewer_36 (_ : Unit) : EB := .seq (hid b_RTNewer_35) .ret
@[simp] def b_RTNewer_37 (_ : Unit) : EB := .seq (hid b_RTNewer_33) (hid b_RTNewer_36)
@[simp] def b_RTNewer_38 (_ : Unit) : EB := .seq (hid b_RTNewer_10) (hid b_RTNewer_37)
@[simp] def b_RTNewer_39 (_ : Unit) : EB := .seq (hid b_RTNewer_2) (hid b_RTNewer_38)
def c_RTNewer : EB × List QOp × Nat := ((hid b_RTNewer_39), [(.mov (.t 6))], 42)
theorem k_RTNewer : cfun Tryd.prog 23 = some c_RTNewer := by kernel_rfl

@[simp] def l_ints_1 (_ : Unit) : List EOp := [⟨0, (some 4), none, (.q (.mov (.k (.bool false)))), []⟩]
@[simp] def b_ints_2 (_ : Unit) : EB := reg0 (hid l_ints_1) 1
@[simp] def l_ints_3 (_ : Unit) : List EOp := [⟨0, (some 6), none, (.q (.mov (.t 0))), []⟩, ⟨1, (some 7), none, (.q (.len (.t 6))), []⟩, ⟨2, (some 8), none, (.q (.mov (.t 1))), []⟩, ⟨3, (some 9), none, (.q (.len (.t 8))), []⟩, ⟨4, (some 10), none, (.q (.bin .neq (.t 7) (.t 9))), []⟩]
@[simp] def b_ints_4 (_ : Unit) : EB := reg0 (hid l_ints_3) 5
@[simp] def l_ints_5 (_ : Unit) : List EOp := [⟨0, (some 4), none, (.q (.mov (.k (.bool false)))), []⟩]
@[simp] def b_ints_6 (_ : Unit) : EB := reg0 (hid l_ints_5) 1
@[simp] def b_ints_7 (_ : Unit) : EB := .seq (hid b_ints_6) .ret
@[simp] def b_ints_8 (_ : Unit) : EB := .cond (.t 10) (hid b_ints_7) .skip
@[simp] def b_ints_9 (_ : Unit) : EB := .seq (hid b_ints_4) (hid b_ints_8)
@[simp] def l_ints_10 (_ : Unit) : List EOp := [⟨0, (some 5), none, (.q (.mov (.k (.int .i64 0)))), []⟩]
@[simp] def b_ints_11 (_ : Unit) : EB := reg0 (hid l_ints_10) 1
@[simp] def l_ints_12 (_ : Unit) : List EOp := [⟨0, (some 11), none, (.q (.mov (.t 5))), []⟩, ⟨1, (some 12), none, (.q (.mov (.t 0))), []⟩, ⟨2, (some 13), none, (.q (.len (.t 12))), []⟩, ⟨3, (some 14), none, (.q (.bin .lss (.t 11) (.t 13))), []⟩]
@[simp] def b_ints_13 (_ : Unit) : EB := reg0 (hid l_ints_12) 4
@[simp] def b_ints_14 (_ : Unit) : EB := .cond (.t 14) .skip (.exit 0)
@[simp] def b_ints_15 (_ : Unit) : EB := .seq (hid b_ints_13) (hid b_ints_14)
@[simp] def l_ints_17 (_ : Unit) : List EOp := [⟨6, (some 23), none, (.q (.isl 1 (.t 21) (.t 22))), []⟩, ⟨7, (some 24), none, (.q (.ldc (.t 23))), []⟩, ⟨8, (some 25), none, (.q (.bin .neq (.t 20) (.t 24))), []⟩]
@[simp] def l_ints_16 (_ : Unit) : List EOp := ⟨0, (some 17), none, (.q (.mov (.t 0))), []⟩ :: ⟨1, (some 18), none, (.q (.mov (.t 5))), []⟩ :: ⟨2, (some 19), none, (.q (.isl 1 (.t 17) (.t 18))), []⟩ :: ⟨3, (some 20), none, (.q (.ldc (.t 19))), []⟩ :: ⟨4, (some 21), none, (.q (.mov (.t 1))), []⟩ :: ⟨5, (some 22), none, (.q (.mov (.t 5))), []⟩ :: hid l_ints_17
@[simp] def b_ints_18 (_ : Unit) : EB := reg0 (hid l_ints_16) 9
@[simp] def l_ints_19 (_ : Unit) : List EOp := [⟨0, (some 4), none, (.q (.mov (.k (.bool false)))), []⟩]
@[simp] def b_ints_20 (_ : Unit) : EB := reg0 (hid l_ints_19) 1
@[simp] def b_ints_21 (_ : Unit) : EB := .seq (hid b_ints_20) .ret
@[simp] def b_ints_22 (_ : Unit) : EB := .cond (.t 25) (hid b_ints_21) .skip
@[simp] def b_ints_23 (_ : Unit) : EB := .seq (hid b_ints_18) (hid b_ints_22)
@[simp] def b_ints_24 (_ : Unit) : EB := .block 1 (hid b_ints_23)
@[simp] def l_ints_25 (_ : Unit) : List EOp := [⟨0, (some 15), none, (.q (.mov (.t 5))), []⟩, ⟨1, (some 16), none, (.q (.bin .add (.t 15) (.k (.int .i64 1)))), []⟩, ⟨2, (some 5), none, (.q (.mov (.t 16))), []⟩]
@[simp] def b_ints_26 (_ : Unit) : EB := reg0 (hid l_ints_25) 3
@[simp] def b_ints_27 (_ : Unit) : EB := .seq (hid b_ints_24) (hid b_ints_26)
@[simp] def b_ints_28 (_ : Unit) : EB := .seq (hid b_ints_15) (hid b_ints_27)
@[simp] def b_ints_29 (_ : Unit) : EB := .loop (hid b_ints_28)
@[simp] def b_ints_30 (_ : Unit) : EB := .block 0 (hid b_ints_29)
@[simp] def b_ints_31 (_ : Unit) : EB := .seq (hid b_ints_11) (hid b_ints_30)
@[simp] def l_ints_32 (_ : Unit) : List EOp := [⟨0, (some 4), none, (.q (.mov (.k (.bool true)))), []⟩]
@[simp] def b_ints_33 (_ : Unit) : EB := reg0 (hid l_ints_32) 1
@[simp] def b_ints_34 (_ : Unit) : EB := .seq (hid b_ints_33) .ret
@[simp] def b_ints_35 (_ : Unit) : EB := .seq (hid b_ints_31) (hid b_ints_34)
@[simp] def b_ints_36 (_ : Unit) : EB := .seq (hid b_ints_9) (hid b_ints_35)
@[simp] def b_ints_37 (_ : Unit) : EB := .seq (hid b_ints_2) (hid b_ints_36)
def c_ints : EB × List QOp × Nat := ((hid b_ints_37), [(.mov (.t 4))], 26)
theorem k_ints : cfun Tryd.prog 18 = some c_ints := by kernel_rfl


/-- Ranks before others. -/
def ltL : List Int → List Int → Bool
  | x :: a, y :: b => if x = y then ltL a b else decide (x < y)
  | [], _ :: _ => true
  | _, [] => false
def newT (c : Cfg) (a b : List Int) : Bool := if hasT c a = 0 ∧ hasT c b = 0 then ltL a b else false

theorem NaN_ok (x : Int) : ECalls Tryd.prog 77 [I .i64 x] [] fun y H' => H' = [] ∧ y = .lit (.bool false) := by
  refine ecalls k_NaN ?_
  simp [c_NaN, I]
  exact fin [] (by decide) rfl rfl rfl ⟨rfl, rfl⟩

theorem Cmp_ok (x z : Int) : ECalls Tryd.prog 52 [I .i64 x, I .i64 z] [] fun y H' => H' = [] ∧ y = I .i64 (if x < z then -1 else if z < x then 1 else 0) := by
  refine ecalls k_Cmp ?_
  simp [c_Cmp, I]
  refine call0 (NaN_ok x) (by simp [I, EV.lit, Ptr, IL, CV, cfgC, cfgT]) ?_
  rintro y H' ⟨rfl, rfl⟩
  refine ⟨.inl (by simp [I, EV.lit, Ptr, IL, CV, cfgC, cfgT]), le_ok rfl, ?_⟩
  simp [I, EV.lit, Ptr, IL, CV, cfgC, cfgT]
  refine call0 (NaN_ok z) (by simp [I, EV.lit, Ptr, IL, CV, cfgC, cfgT]) ?_
  rintro y H' ⟨rfl, rfl⟩
  refine ⟨.inl (by simp [I, EV.lit, Ptr, IL, CV, cfgC, cfgT]), le_ok rfl, ?_⟩
  simp [I, EV.lit, Ptr, IL, CV, cfgC, cfgT]
  by_cases h : x < z
  · simp [h]
    exact fin [] (by decide) rfl rfl rfl ⟨rfl, rfl⟩
  · by_cases h2 : z < x
    · simp [h, h2]
      exact fin [] (by decide) rfl rfl rfl ⟨rfl, rfl⟩
    · simp [h, h2]
      exact fin [] (by decide) rfl rfl rfl ⟨rfl, rfl⟩

theorem intv_getE {l : List Int} {i : Nat} {k : Int} (h : l[i]? = some k) (h2 : i < (intv l).length) : (intv l)[i]'h2 = [.lit (.int .i64 k)] := by
  have := intv_get h
  rw [List.getElem?_eq_getElem h2] at this
  exact Option.some.inj this
theorem drop_s {α : Type} {l : List α} {i : Nat} {k : α} (h : l[i]? = some k) : l.drop i = k :: l.drop (i + 1) := by
  obtain ⟨h1, h2⟩ := List.getElem?_eq_some_iff.1 h
  rw [List.drop_eq_getElem_cons h1, h2]

set_option maxRecDepth 8000 in
set_option maxHeartbeats 4000000 in
theorem TCompare_ok (a b : List Int) (ha : a.length ≤ 100000000) (hb : b.length ≤ 100000000) : ECalls Tryd.prog 31 [IL a, IL b] [] fun y H' => H' = [] ∧ ∃ n : Int, y = I .i64 n ∧ (n < 0 ↔ ltL a b = true) := by
  refine ecalls k_TCompare ?_
  simp [c_TCompare, IL]
  refine eloop (α := Nat) (fun i => i ≤ a.length ∧ i ≤ b.length ∧ ltL a b = ltL (a.drop i) (b.drop i)) (fun i => a.length - i)
    (fun i => [IL a, IL b, .any, .any, .any, .any, .any, .any, .any, IL a, I .i64 a.length, I .i64 i, .any, .any, .any, .any, .any, .any, .any, .any, .any, .any, .any, .any, .any, .any, .any, .any, .any, .any, .any, .any, .any, .any, .any, .any]) (fun _ => []) 0 []
    ⟨Nat.zero_le _, Nat.zero_le _, by simp⟩ (by simp [I, IL]) (by simp) (by simp) (by simp) (by simp) ?_
  rintro i ⟨hi, hib, hlt⟩
  by_cases hia : i < a.length
  · obtain ⟨x, hx⟩ : ∃ x, a[i]? = some x := ⟨a[i], by simp [hia]⟩
    have hcx := intv_get hx
    have hcx2 := intv_getE hx
    have hdx := drop_s hx
    have w2 : IntKind.i64.wrap ((i : Int) + 1) = ((i + 1 : Nat) : Int) := wrap_i64 (by omega) (by omega)
    by_cases hbl : i < b.length
    · obtain ⟨z, hz⟩ : ∃ z, b[i]? = some z := ⟨b[i], by simp [hbl]⟩
      have hcz := intv_get hz
      have hcz2 := intv_getE hz
      have hdz := drop_s hz
      have hnb : ¬ b.length ≤ i := by omega
      rw [hdx, hdz] at hlt
      simp [I, IL, hia, hcx, hcx2, hbl, hcz, hcz2, hnb]
      refine call0 (Cmp_ok x z) (by simp [I]) ?_
      rintro y H' ⟨rfl, rfl⟩
      refine ⟨.inl (by simp), le_ok rfl, ?_⟩
      by_cases h1 : x < z
      · have hv : ltL a b = true := by rw [hlt]; simp [ltL, h1]; omega
        simp [I, h1]
        exact fin [] (by decide) rfl rfl rfl ⟨rfl, -1, rfl, by simp [hv]⟩
      by_cases h2 : z < x
      · have hv : ltL a b = false := by rw [hlt]; simp [ltL, h1]; omega
        simp [I, h1, h2]
        exact fin [] (by decide) rfl rfl rfl ⟨rfl, 1, rfl, by simp [hv]⟩
      · have hxz : x = z := by omega
        have hv : ltL a b = ltL (a.drop (i + 1)) (b.drop (i + 1)) := by rw [hlt]; simp [ltL, hxz]
        simp [I, h1, h2, w2, -Int.natCast_add]
        exact round (i + 1) [] ⟨by omega, by omega, hv⟩ (by omega) (by simp) (by simp) (by simp) (by simp) (by simp)
    · have hnb : b.length ≤ i := by omega
      have hv : ltL a b = false := by rw [hlt, hdx, List.drop_of_length_le hnb]; simp [ltL]
      simp [I, IL, hia, hcx, hcx2, hbl, hnb]
      exact fin [] (by decide) rfl rfl rfl ⟨rfl, 1, rfl, by simp [hv]⟩
  · have hil : i = a.length := by omega
    rw [List.drop_of_length_le (by omega : a.length ≤ i)] at hlt
    by_cases h2 : a.length < b.length
    · obtain ⟨z, hz⟩ : ∃ z, b[i]? = some z := ⟨b[i]'(by omega), by simp⟩
      have hdz := drop_s hz
      have hv : ltL a b = true := by rw [hlt, hdz]; simp [ltL]
      simp [I, IL, hia, h2]
      exact fin [] (by decide) rfl rfl rfl ⟨rfl, -1, rfl, by simp [hv]⟩
    · have hv : ltL a b = false := by rw [hlt, List.drop_of_length_le (by omega)]; simp [ltL]
      simp [I, IL, hia, h2]
      exact fin [] (by decide) rfl rfl rfl ⟨rfl, 0, rfl, by simp [hv]⟩

set_option maxRecDepth 8000 in
set_option maxHeartbeats 4000000 in
theorem TNewer_ok (c : Cfg) (a b : List Int) (hc : c.ok) (ha : a.length ≤ 100000000) (hb : b.length ≤ 100000000) : ECalls Tryd.prog 11 [CV c, IL a, IL b] [] fun y H' => H' = [] ∧ y = .lit (.bool (newT c a b)) := by
  have h32 := hc.1
  have t40 := tk40 h32
  refine ecalls k_TNewer ?_
  simp [c_TNewer, CV, cfgC, cfgT, IL, h32, t40, -errV_0]
  refine call0 (Thas_ok c a hc ha) (by simp [CV, cfgC, cfgT, IL]) ?_
  rintro y H' ⟨rfl, rfl⟩
  refine ⟨.inl (by simp [t40]), le_ok rfl, ?_⟩
  by_cases hk : hasT c a = 0
  rotate_left
  · have hh : newT c a b = false := by simp [newT, hk]
    rw [hh]
    simp [hk, EV.lit]
    exact fin [] (by decide) rfl rfl rfl ⟨rfl, rfl⟩
  simp [hk, EV.lit, h32, t40]
  refine call0 (Thas_ok c b hc hb) (by simp [CV, cfgC, cfgT, IL]) ?_
  rintro y H' ⟨rfl, rfl⟩
  refine ⟨.inl (by simp [t40]), le_ok rfl, ?_⟩
  by_cases hk2 : hasT c b = 0
  rotate_left
  · have hh : newT c a b = false := by simp [newT, hk2]
    rw [hh]
    simp [hk2, EV.lit]
    exact fin [] (by decide) rfl rfl rfl ⟨rfl, rfl⟩
  have hh : newT c a b = ltL a b := by simp [newT, hk, hk2]
  rw [hh]
  simp [hk2, EV.lit, h32, t40]
  refine call0 (TCompare_ok a b ha hb) (by simp [IL]) ?_
  rintro y H' ⟨rfl, n, rfl, hn⟩
  refine ⟨.inl (by simp [t40]), le_ok rfl, ?_⟩
  have hd : decide (n < 0) = ltL a b := by
    cases h : ltL a b
    · rw [h] at hn; simp [hn]
    · rw [h] at hn; simp [hn]
  simp [I, hd]
  exact fin [] (by decide) rfl rfl rfl ⟨rfl, rfl⟩

set_option maxRecDepth 8000 in
set_option maxHeartbeats 4000000 in
theorem RTNewer_ok (c : Cfg) (a b : List Int) (hc : c.ok) (ha : a.length ≤ 100000000) (hb : b.length ≤ 100000000) : ECalls Tryd.prog 23 [CV c, IL a, IL b] [] fun y H' => H' = [] ∧ y = .lit (.bool (newT c a b)) := by
  have h32 := hc.1
  have t40 := tk40 h32
  refine ecalls k_RTNewer ?_
  simp [c_RTNewer, CV, cfgC, cfgT, IL, h32, t40]
  refine call0 (RIs_ok c a hc ha) (by simp [CV, cfgC, cfgT, IL]) ?_
  rintro y H' ⟨rfl, rfl⟩
  refine ⟨.inl (by simp [t40]), le_ok rfl, ?_⟩
  by_cases hk : hasT c a = 0
  rotate_left
  · have hh : newT c a b = false := by simp [newT, hk]
    rw [hh]
    simp [hk, I]
    exact fin [] (by decide) rfl rfl rfl ⟨rfl, rfl⟩
  simp [hk, I, h32, t40]
  refine call0 (RIs_ok c b hc hb) (by simp [CV, cfgC, cfgT, IL]) ?_
  rintro y H' ⟨rfl, rfl⟩
  refine ⟨.inl (by simp [t40]), le_ok rfl, ?_⟩
  by_cases hk2 : hasT c b = 0
  rotate_left
  · have hh : newT c a b = false := by simp [newT, hk2]
    rw [hh]
    simp [hk2, I]
    exact fin [] (by decide) rfl rfl rfl ⟨rfl, rfl⟩
  have hh : newT c a b = ltL a b := by simp [newT, hk, hk2]
  rw [hh]
  have hlen : a.length = b.length := by
    have h1 := (has_all hk).2.1
    have h2 := (has_all hk2).2.1
    omega
  simp [hk2, I, h32, t40]
  refine eloop (α := Nat) (fun i => i ≤ a.length ∧ ltL a b = ltL (a.drop i) (b.drop i)) (fun i => a.length - i)
    (fun i => [.any, IL a, IL b, .any, .any, .any, .any, I .i64 i, .any, .any, .any, .any, .any, .any, .any, .any, .any, .any, .any, .any, .any, .any, .any, .any, .any, .any, .any, .any, .any, .any, .any, .any, .any, .any, .any, .any, .any, .any, .any, .any, .any, .any]) (fun _ => []) 0 []
    ⟨Nat.zero_le _, by simp⟩ (by simp [I, IL]) (by simp) (by simp) (by simp) (by simp) ?_
  rintro i ⟨hi, hlt⟩
  by_cases hia : i < a.length
  · obtain ⟨x, hx⟩ : ∃ x, a[i]? = some x := ⟨a[i], by simp [hia]⟩
    have hcx := intv_get hx
    have hcx2 := intv_getE hx
    have hdx := drop_s hx
    have w2 : IntKind.i64.wrap ((i : Int) + 1) = ((i + 1 : Nat) : Int) := wrap_i64 (by omega) (by omega)
    have hbl : i < b.length := by omega
    obtain ⟨z, hz⟩ : ∃ z, b[i]? = some z := ⟨b[i], by simp [hbl]⟩
    have hcz := intv_get hz
    have hcz2 := intv_getE hz
    have hdz := drop_s hz
    rw [hdx, hdz] at hlt
    by_cases h1 : x = z
    · have hv : ltL a b = ltL (a.drop (i + 1)) (b.drop (i + 1)) := by rw [hlt]; simp [ltL, h1]
      simp [I, IL, hia, hcx, hcx2, hbl, hcz, hcz2, h1, w2, -Int.natCast_add]
      exact round (i + 1) [] ⟨by omega, hv⟩ (by omega) (by simp) (by simp) (by simp) (by simp) (by simp)
    · have hv : ltL a b = decide (x < z) := by rw [hlt]; simp [ltL, h1]
      rw [hv]
      simp [I, IL, hia, hcx, hcx2, hbl, hcz, hcz2, h1]
      exact fin [] (by decide) rfl rfl rfl ⟨rfl, rfl⟩
  · have hv : ltL a b = false := by rw [hlt, List.drop_of_length_le (by omega), List.drop_of_length_le (by omega)]; rfl
    rw [hv]
    simp [I, IL, hia]
    exact fin [] (by decide) rfl rfl rfl ⟨rfl, rfl⟩

theorem ints_ok (l : List Int) (hl : l.length ≤ 100000000) : ECalls Tryd.prog 18 [IL l, IL l] [] fun y H' => H' = [] ∧ y = .lit (.bool true) := by
  refine ecalls k_ints ?_
  simp [c_ints, IL]
  refine eloop (α := Nat) (fun i => i ≤ l.length) (fun i => l.length - i)
    (fun i => [IL l, IL l, .any, .any, .any, I .i64 i, .any, .any, .any, .any, .any, .any, .any, .any, .any, .any, .any, .any, .any, .any, .any, .any, .any, .any, .any, .any]) (fun _ => []) 0 []
    (Nat.zero_le _) (by simp [I, IL]) (by simp) (by simp) (by simp) (by simp) ?_
  intro i hi
  by_cases hia : i < l.length
  · obtain ⟨x, hx⟩ : ∃ x, l[i]? = some x := ⟨l[i], by simp [hia]⟩
    have hcx := intv_get hx
    have hcx2 := intv_getE hx
    have w2 : IntKind.i64.wrap ((i : Int) + 1) = ((i + 1 : Nat) : Int) := wrap_i64 (by omega) (by omega)
    simp [I, IL, hia, hcx, hcx2, w2, -Int.natCast_add]
    exact round (i + 1) [] (by omega) (by omega) (by simp) (by simp) (by simp) (by simp) (by simp)
  · simp [I, IL, hia]
    exact fin [] (by decide) rfl rfl rfl ⟨rfl, rfl⟩

end Go.Proofs.YtoomdgmggkcgfaaDoor
