import Derived.Test.YtoomdgmggkcgfaaDoorTree3
namespace Go.Proofs.YtoomdgmggkcgfaaDoor
open Go Go.EW
set_option linter.unusedSimpArgs false
set_option linter.unusedVariables false

@[simp] def l_Thas1_1 (_ : Unit) : List EOp := [⟨0, (some 3), none, (.q (.mov (.k (.bool false)))), []⟩]
@[simp] def b_Thas1_2 (_ : Unit) : EB := reg0 (hid l_Thas1_1) 1
@[simp] def l_Thas1_6 (_ : Unit) : List EOp := [⟨18, (some 22), (some (14, false)), (.q (.bin .neq (.t 21) (.k (.int .i64 0)))), []⟩, ⟨19, (some 23), none, (.q (.pick (.t 14) (.k (.bool true)) (.t 22))), []⟩, ⟨20, (some 3), none, (.q (.mov (.t 23))), []⟩]
@[simp] def l_Thas1_5 (_ : Unit) : List EOp := ⟨12, (some 16), (some (14, false)), (.q (.ldc (.t 15))), []⟩ :: ⟨13, (some 17), (some (14, false)), (.q (.mov (.t 0))), []⟩ :: ⟨14, (some 18), (some (14, false)), (.q (.bin .sub (.t 16) (.t 17))), []⟩ :: ⟨15, (some 19), (some (14, false)), (.q (.fad 38 (.t 1))), []⟩ :: ⟨16, (some 20), (some (14, false)), (.q (.ldc (.t 19))), []⟩ :: ⟨17, (some 21), (some (14, false)), (.q (.bin .rem (.t 18) (.t 20))), []⟩ :: hid l_Thas1_6
@[simp] def l_Thas1_4 (_ : Unit) : List EOp := ⟨6, (some 10), (some (8, false)), (.q (.fad 37 (.t 1))), []⟩ :: ⟨7, (some 11), (some (8, false)), (.q (.ldc (.t 10))), []⟩ :: ⟨8, (some 12), (some (8, false)), (.q (.bin .lss (.t 9) (.t 11))), []⟩ :: ⟨9, (some 13), none, (.q (.pick (.t 8) (.k (.bool true)) (.t 12))), []⟩ :: ⟨10, (some 14), none, (.q (.mov (.t 13))), []⟩ :: ⟨11, (some 15), (some (14, false)), (.q (.fad 36 (.t 1))), []⟩ :: hid l_Thas1_5
@[simp] def l_Thas1_3 (_ : Unit) : List EOp := ⟨0, (some 4), none, (.q (.mov (.t 0))), []⟩ :: ⟨1, (some 5), none, (.q (.fad 36 (.t 1))), []⟩ :: ⟨2, (some 6), none, (.q (.ldc (.t 5))), []⟩ :: ⟨3, (some 7), none, (.q (.bin .gtr (.t 4) (.t 6))), []⟩ :: ⟨4, (some 8), none, (.q (.mov (.t 7))), []⟩ :: ⟨5, (some 9), (some (8, false)), (.q (.mov (.t 0))), []⟩ :: hid l_Thas1_4
@[simp] def b_Thas1_7 (_ : Unit) : EB := reg0 (hid l_Thas1_3) 21
@[simp] def b_Thas1_8 (_ : Unit) : EB := .seq (hid b_Thas1_7) .ret
@[simp] def b_Thas1_9 (_ : Unit) : EB := .seq (hid b_Thas1_2) (hid b_Thas1_8)
def c_Thas1 : EB × List QOp × Nat := ((hid b_Thas1_9), [(.mov (.t 3))], 24)
theorem k_Thas1 : cfun Tryd.prog 50 = some c_Thas1 := by kernel_rfl

@[simp] def l_TIndexFunc_1 (_ : Unit) : List EOp := [⟨0, (some 4), none, (.q (.mov (.k (.int .i64 0)))), []⟩]
@[simp] def b_TIndexFunc_2 (_ : Unit) : EB := reg0 (hid l_TIndexFunc_1) 1
@[simp] def l_TIndexFunc_3 (_ : Unit) : List EOp := [⟨0, (some 6), none, (.q (.mov (.t 0))), []⟩, ⟨1, (some 7), none, (.q (.len (.t 6))), []⟩, ⟨2, (some 8), none, (.q (.mov (.k (.int .i64 0)))), []⟩]
@[simp] def b_TIndexFunc_4 (_ : Unit) : EB := reg0 (hid l_TIndexFunc_3) 3
@[simp] def l_TIndexFunc_5 (_ : Unit) : List EOp := [⟨0, (some 9), none, (.q (.bin .lss (.t 8) (.t 7))), []⟩]
@[simp] def b_TIndexFunc_6 (_ : Unit) : EB := reg0 (hid l_TIndexFunc_5) 1
@[simp] def b_TIndexFunc_7 (_ : Unit) : EB := .cond (.t 9) .skip (.exit 0)
@[simp] def l_TIndexFunc_8 (_ : Unit) : List EOp := [⟨0, (some 10), none, (.q (.mov (.t 8))), []⟩, ⟨1, (some 5), none, (.q (.mov (.t 10))), []⟩]
@[simp] def b_TIndexFunc_9 (_ : Unit) : EB := reg0 (hid l_TIndexFunc_8) 2
@[simp] def l_TIndexFunc_10 (_ : Unit) : List EOp := [⟨0, (some 11), none, (.q (.mov (.t 1))), []⟩, ⟨1, (some 12), none, (.q (.mov (.t 0))), []⟩, ⟨2, (some 13), none, (.q (.mov (.t 5))), []⟩, ⟨3, (some 14), none, (.q (.isl 1 (.t 12) (.t 13))), []⟩, ⟨4, (some 15), none, (.q (.ldc (.t 14))), []⟩, ⟨5, (some 16), none, (.clo (.t 11) [(.t 15)]), []⟩]
@[simp] def b_TIndexFunc_11 (_ : Unit) : EB := reg0 (hid l_TIndexFunc_10) 6
@[simp] def l_TIndexFunc_12 (_ : Unit) : List EOp := [⟨0, (some 17), none, (.q (.mov (.t 5))), []⟩, ⟨1, (some 4), none, (.q (.mov (.t 17))), []⟩]
@[simp] def b_TIndexFunc_13 (_ : Unit) : EB := reg0 (hid l_TIndexFunc_12) 2
@[simp] def b_TIndexFunc_14 (_ : Unit) : EB := .seq (hid b_TIndexFunc_13) .ret
@[simp] def b_TIndexFunc_15 (_ : Unit) : EB := .cond (.t 16) (hid b_TIndexFunc_14) .skip
@[simp] def b_TIndexFunc_16 (_ : Unit) : EB := .seq (hid b_TIndexFunc_11) (hid b_TIndexFunc_15)
@[simp] def b_TIndexFunc_17 (_ : Unit) : EB := .seq (hid b_TIndexFunc_9) (hid b_TIndexFunc_16)
@[simp] def b_TIndexFunc_18 (_ : Unit) : EB := .block 1 (hid b_TIndexFunc_17)
@[simp] def l_TIndexFunc_19 (_ : Unit) : List EOp := [⟨0, (some 18), none, (.q (.bin .add (.t 8) (.k (.int .i64 1)))), []⟩, ⟨1, (some 8), none, (.q (.mov (.t 18))), []⟩]
@[simp] def b_TIndexFunc_20 (_ : Unit) : EB := reg0 (hid l_TIndexFunc_19) 2
@[simp] def b_TIndexFunc_21 (_ : Unit) : EB := .seq (hid b_TIndexFunc_18) (hid b_TIndexFunc_20)
@[simp] def b_TIndexFunc_22 (_ : Unit) : EB := .seq (hid b_TIndexFunc_7) (hid b_TIndexFunc_21)
@[simp] def b_TIndexFunc_23 (_ : Unit) : EB := .seq (hid b_TIndexFunc_6) (hid b_TIndexFunc_22)
@[simp] def b_TIndexFunc_24 (_ : Unit) : EB := .loop (hid b_TIndexFunc_23)
@[simp] def b_TIndexFunc_25 (_ : Unit) : EB := .block 0 (hid b_TIndexFunc_24)
@[simp] def b_TIndexFunc_26 (_ : Unit) : EB := .seq (hid b_TIndexFunc_4) (hid b_TIndexFunc_25)
@[simp] def l_TIndexFunc_27 (_ : Unit) : List EOp := [⟨0, (some 4), none, (.q (.mov (.k (.int .i64 (-1))))), []⟩]
@[simp] def b_TIndexFunc_28 (_ : Unit) : EB := reg0 (hid l_TIndexFunc_27) 1
@[simp] def b_TIndexFunc_29 (_ : Unit) : EB := .seq (hid b_TIndexFunc_28) .ret
@[simp] def b_TIndexFunc_30 (_ : Unit) : EB := .seq (hid b_TIndexFunc_26) (hid b_TIndexFunc_29)
@[simp] def b_TIndexFunc_31 (_ : Unit) : EB := .seq (hid b_TIndexFunc_2) (hid b_TIndexFunc_30)
def c_TIndexFunc : EB × List QOp × Nat := ((hid b_TIndexFunc_31), [(.mov (.t 4))], 19)
theorem k_TIndexFunc : cfun Tryd.prog 76 = some c_TIndexFunc := by kernel_rfl

@[simp] def l_TContainsFunc_1 (_ : Unit) : List EOp := [⟨0, (some 4), none, (.q (.mov (.k (.bool false)))), []⟩]
@[simp] def b_TContainsFunc_2 (_ : Unit) : EB := reg0 (hid l_TContainsFunc_1) 1
@[simp] def l_TContainsFunc_3 (_ : Unit) : List EOp := [⟨0, (some 5), none, (.q (.mov (.t 0))), []⟩, ⟨1, (some 6), none, (.q (.mov (.t 1))), []⟩, ⟨2, (some 7), none, (.call 76 [(.t 5), (.t 6)]), []⟩, ⟨3, (some 8), none, (.q (.bin .geq (.t 7) (.k (.int .i64 0)))), []⟩, ⟨4, (some 4), none, (.q (.mov (.t 8))), []⟩]
@[simp] def b_TContainsFunc_4 (_ : Unit) : EB := reg0 (hid l_TContainsFunc_3) 5
@[simp] def b_TContainsFunc_5 (_ : Unit) : EB := .seq (hid b_TContainsFunc_4) .ret
@[simp] def b_TContainsFunc_6 (_ : Unit) : EB := .seq (hid b_TContainsFunc_2) (hid b_TContainsFunc_5)
def c_TContainsFunc : EB × List QOp × Nat := ((hid b_TContainsFunc_6), [(.mov (.t 4))], 9)
theorem k_TContainsFunc : cfun Tryd.prog 51 = some c_TContainsFunc := by kernel_rfl

@[simp] def l_Thas_1 (_ : Unit) : List EOp := [⟨0, (some 2), none, (.q (.box 31 (.t 0))), []⟩, ⟨1, (some 4), none, (.q (.mov (.k .nilIface))), []⟩]
@[simp] def b_Thas_2 (_ : Unit) : EB := reg0 (hid l_Thas_1) 2
@[simp] def l_Thas_3 (_ : Unit) : List EOp := [⟨0, (some 7), none, (.q (.lda 40 (.t 2))), []⟩, ⟨1, (some 8), none, (.call 22 [(.t 7)]), []⟩, ⟨2, (some 5), none, (.q (.mov (.t 8))), []⟩]
@[simp] def b_Thas_4 (_ : Unit) : EB := reg0 (hid l_Thas_3) 3
@[simp] def l_Thas_5 (_ : Unit) : List EOp := [⟨0, (some 9), none, (.q (.mov (.t 5))), []⟩, ⟨1, (some 10), none, (.q (.eqi true (.t 9))), []⟩]
@[simp] def b_Thas_6 (_ : Unit) : EB := reg0 (hid l_Thas_5) 2
@[simp] def l_Thas_7 (_ : Unit) : List EOp := [⟨0, (some 11), none, (.q (.mov (.t 5))), []⟩, ⟨1, (some 4), none, (.q (.mov (.t 11))), []⟩]
@[simp] def b_Thas_8 (_ : Unit) : EB := reg0 (hid l_Thas_7) 2
@[simp] def b_Thas_9 (_ : Unit) : EB := .seq (hid b_Thas_8) .ret
@[simp] def b_Thas_10 (_ : Unit) : EB := .cond (.t 10) (hid b_Thas_9) .skip
@[simp] def b_Thas_11 (_ : Unit) : EB := .seq (hid b_Thas_6) (hid b_Thas_10)
@[simp] def b_Thas_12 (_ : Unit) : EB := .seq (hid b_Thas_4) (hid b_Thas_11)
@[simp] def l_Thas_13 (_ : Unit) : List EOp := [⟨0, (some 12), none, (.q (.mkf 50 [(.t 2)])), []⟩, ⟨1, (some 6), none, (.q (.mov (.t 12))), []⟩]
@[simp] def b_Thas_14 (_ : Unit) : EB := reg0 (hid l_Thas_13) 2
@[simp] def l_Thas_16 (_ : Unit) : List EOp := [⟨6, (some 19), (some (18, false)), (.q (.mov (.t 1))), []⟩, ⟨7, (some 20), (some (18, false)), (.q (.mov (.t 6))), []⟩, ⟨8, (some 21), (some (18, false)), (.call 51 [(.t 19), (.t 20)]), []⟩, ⟨9, (some 22), none, (.q (.pick (.t 18) (.k (.bool true)) (.t 21))), []⟩]
@[simp] def l_Thas_15 (_ : Unit) : List EOp := ⟨0, (some 13), none, (.q (.mov (.t 1))), []⟩ :: ⟨1, (some 14), none, (.q (.len (.t 13))), []⟩ :: ⟨2, (some 15), none, (.q (.fad 35 (.t 2))), []⟩ :: ⟨3, (some 16), none, (.q (.ldc (.t 15))), []⟩ :: ⟨4, (some 17), none, (.q (.bin .neq (.t 14) (.t 16))), []⟩ :: ⟨5, (some 18), none, (.q (.mov (.t 17))), []⟩ :: hid l_Thas_16
@[simp] def b_Thas_17 (_ : Unit) : EB := reg0 (hid l_Thas_15) 10
@[simp] def l_Thas_18 (_ : Unit) : List EOp := [⟨0, (some 23), none, (.q (.mki 80 (.k (.int .i64 1)))), []⟩, ⟨1, (some 4), none, (.q (.mov (.t 23))), []⟩]
@[simp] def b_Thas_19 (_ : Unit) : EB := reg0 (hid l_Thas_18) 2
@[simp] def b_Thas_20 (_ : Unit) : EB := .seq (hid b_Thas_19) .ret
@[simp] def b_Thas_21 (_ : Unit) : EB := .cond (.t 22) (hid b_Thas_20) .skip
@[simp] def b_Thas_22 (_ : Unit) : EB := .seq (hid b_Thas_17) (hid b_Thas_21)
@[simp] def l_Thas_23 (_ : Unit) : List EOp := [⟨0, (some 4), none, (.q (.mov (.k .nilIface))), []⟩]
@[simp] def b_Thas_24 (_ : Unit) : EB := reg0 (hid l_Thas_23) 1
@[simp] def b_Thas_25 (_ : Unit) : EB := .seq (hid b_Thas_24) .ret
@[simp] def b_Thas_26 (_ : Unit) : EB := .seq (hid b_Thas_22) (hid b_Thas_25)
@[simp] def b_Thas_27 (_ : Unit) : EB := .seq (hid b_Thas_14) (hid b_Thas_26)
@[simp] def b_Thas_28 (_ : Unit) : EB := .seq (hid b_Thas_12) (hid b_Thas_27)
@[simp] def b_Thas_29 (_ : Unit) : EB := .seq (hid b_Thas_2) (hid b_Thas_28)
def c_Thas : EB × List QOp × Nat := ((hid b_Thas_29), [(.mov (.t 4))], 24)
theorem k_Thas : cfun Tryd.prog 28 = some c_Thas := by kernel_rfl

@[simp] def l_RIs_1 (_ : Unit) : List EOp := [⟨0, (some 2), none, (.q (.box 28 (.t 0))), []⟩, ⟨1, (some 4), none, (.q (.mov (.k (.int .i64 0)))), []⟩]
@[simp] def b_RIs_2 (_ : Unit) : EB := reg0 (hid l_RIs_1) 2
@[simp] def l_RIs_3 (_ : Unit) : List EOp := [⟨0, (some 7), none, (.q (.lda 40 (.t 2))), []⟩, ⟨1, (some 8), none, (.call 21 [(.t 7)]), []⟩, ⟨2, (some 5), none, (.q (.mov (.t 8))), []⟩]
@[simp] def b_RIs_4 (_ : Unit) : EB := reg0 (hid l_RIs_3) 3
@[simp] def l_RIs_5 (_ : Unit) : List EOp := [⟨0, (some 9), none, (.q (.mov (.t 5))), []⟩, ⟨1, (some 10), none, (.q (.bin .neq (.t 9) (.k (.int .i64 0)))), []⟩]
@[simp] def b_RIs_6 (_ : Unit) : EB := reg0 (hid l_RIs_5) 2
@[simp] def l_RIs_7 (_ : Unit) : List EOp := [⟨0, (some 11), none, (.q (.mov (.t 5))), []⟩, ⟨1, (some 4), none, (.q (.mov (.t 11))), []⟩]
@[simp] def b_RIs_8 (_ : Unit) : EB := reg0 (hid l_RIs_7) 2
@[simp] def b_RIs_9 (_ : Unit) : EB := .seq (hid b_RIs_8) .ret
@[simp] def b_RIs_10 (_ : Unit) : EB := .cond (.t 10) (hid b_RIs_9) .skip
@[simp] def b_RIs_11 (_ : Unit) : EB := .seq (hid b_RIs_6) (hid b_RIs_10)
@[simp] def l_RIs_12 (_ : Unit) : List EOp := [⟨0, (some 12), none, (.q (.mov (.t 1))), []⟩, ⟨1, (some 13), none, (.q (.len (.t 12))), []⟩, ⟨2, (some 14), none, (.q (.fad 35 (.t 2))), []⟩, ⟨3, (some 15), none, (.q (.ldc (.t 14))), []⟩, ⟨4, (some 16), none, (.q (.bin .neq (.t 13) (.t 15))), []⟩]
@[simp] def b_RIs_13 (_ : Unit) : EB := reg0 (hid l_RIs_12) 5
@[simp] def l_RIs_14 (_ : Unit) : List EOp := [⟨0, (some 4), none, (.q (.mov (.k (.int .i64 1)))), []⟩]
@[simp] def b_RIs_15 (_ : Unit) : EB := reg0 (hid l_RIs_14) 1
@[simp] def b_RIs_16 (_ : Unit) : EB := .seq (hid b_RIs_15) .ret
@[simp] def b_RIs_17 (_ : Unit) : EB := .cond (.t 16) (hid b_RIs_16) .skip
@[simp] def b_RIs_18 (_ : Unit) : EB := .seq (hid b_RIs_13) (hid b_RIs_17)
@[simp] def l_RIs_19 (_ : Unit) : List EOp := [⟨0, (some 6), none, (.q (.mov (.k (.int .i64 0)))), []⟩]
@[simp] def b_RIs_20 (_ : Unit) : EB := reg0 (hid l_RIs_19) 1
@[simp] def l_RIs_21 (_ : Unit) : List EOp := [⟨0, (some 17), none, (.q (.mov (.t 6))), []⟩, ⟨1, (some 18), none, (.q (.mov (.t 1))), []⟩, ⟨2, (some 19), none, (.q (.len (.t 18))), []⟩, ⟨3, (some 20), none, (.q (.bin .lss (.t 17) (.t 19))), []⟩]
@[simp] def b_RIs_22 (_ : Unit) : EB := reg0 (hid l_RIs_21) 4
@[simp] def b_RIs_23 (_ : Unit) : EB := .cond (.t 20) .skip (.exit 0)
@[simp] def b_RIs_24 (_ : Unit) : EB := .seq (hid b_RIs_22) (hid b_RIs_23)
@[simp] def l_RIs_29 (_ : Unit) : List EOp := [⟨24, (some 47), (some (39, false)), (.q (.fad 38 (.t 2))), []⟩, ⟨25, (some 48), (some (39, false)), (.q (.ldc (.t 47))), []⟩, ⟨26, (some 49), (some (39, false)), (.q (.bin .rem (.t 46) (.t 48))), []⟩, ⟨27, (some 50), (some (39, false)), (.q (.bin .neq (.t 49) (.k (.int .i64 0)))), []⟩, ⟨28, (some 51), none, (.q (.pick (.t 39) (.k (.bool true)) (.t 50))), []⟩]
@[simp] def l_RIs_28 (_ : Unit) : List EOp := ⟨18, (some 41), (some (39, false)), (.q (.ldc (.t 40))), []⟩ :: ⟨19, (some 42), (some (39, false)), (.q (.mov (.t 1))), []⟩ :: ⟨20, (some 43), (some (39, false)), (.q (.mov (.t 6))), []⟩ :: ⟨21, (some 44), (some (39, false)), (.q (.isl 1 (.t 42) (.t 43))), []⟩ :: ⟨22, (some 45), (some (39, false)), (.q (.ldc (.t 44))), []⟩ :: ⟨23, (some 46), (some (39, false)), (.q (.bin .sub (.t 41) (.t 45))), []⟩ :: hid l_RIs_29
@[simp] def l_RIs_27 (_ : Unit) : List EOp := ⟨12, (some 35), (some (30, false)), (.q (.fad 36 (.t 2))), []⟩ :: ⟨13, (some 36), (some (30, false)), (.q (.ldc (.t 35))), []⟩ :: ⟨14, (some 37), (some (30, false)), (.q (.bin .gtr (.t 34) (.t 36))), []⟩ :: ⟨15, (some 38), none, (.q (.pick (.t 30) (.k (.bool true)) (.t 37))), []⟩ :: ⟨16, (some 39), none, (.q (.mov (.t 38))), []⟩ :: ⟨17, (some 40), (some (39, false)), (.q (.fad 36 (.t 2))), []⟩ :: hid l_RIs_28
@[simp] def l_RIs_26 (_ : Unit) : List EOp := ⟨6, (some 29), none, (.q (.bin .lss (.t 26) (.t 28))), []⟩ :: ⟨7, (some 30), none, (.q (.mov (.t 29))), []⟩ :: ⟨8, (some 31), (some (30, false)), (.q (.mov (.t 1))), []⟩ :: ⟨9, (some 32), (some (30, false)), (.q (.mov (.t 6))), []⟩ :: ⟨10, (some 33), (some (30, false)), (.q (.isl 1 (.t 31) (.t 32))), []⟩ :: ⟨11, (some 34), (some (30, false)), (.q (.ldc (.t 33))), []⟩ :: hid l_RIs_27
@[simp] def l_RIs_25 (_ : Unit) : List EOp := ⟨0, (some 23), none, (.q (.mov (.t 1))), []⟩ :: ⟨1, (some 24), none, (.q (.mov (.t 6))), []⟩ :: ⟨2, (some 25), none, (.q (.isl 1 (.t 23) (.t 24))), []⟩ :: ⟨3, (some 26), none, (.q (.ldc (.t 25))), []⟩ :: ⟨4, (some 27), none, (.q (.fad 37 (.t 2))), []⟩ :: ⟨5, (some 28), none, (.q (.ldc (.t 27))), []⟩ :: hid l_RIs_26
@[simp] def b_RIs_30 (_ : Unit) : EB := reg0 (hid l_RIs_25) 29
@[simp] def l_RIs_31 (_ : Unit) : List EOp := [⟨0, (some 4), none, (.q (.mov (.k (.int .i64 1)))), []⟩]
@[simp] def b_RIs_32 (_ : Unit) : EB := reg0 (hid l_RIs_31) 1
@[simp] def b_RIs_33 (_ : Unit) : EB := .seq (hid b_RIs_32) .ret
@[simp] def b_RIs_34 (_ : Unit) : EB := .cond (.t 51) (hid b_RIs_33) .skip
@[simp] def b_RIs_35 (_ : Unit) : EB := .seq (hid b_RIs_30) (hid b_RIs_34)
@[simp] def b_RIs_36 (_ : Unit) : EB := .block 1 (hid b_RIs_35)
@[simp] def l_RIs_37 (_ : Unit) : List EOp := [⟨0, (some 21), none, (.q (.mov (.t 6))), []⟩, ⟨1, (some 22), none, (.q (.bin .add (.t 21) (.k (.int .i64 1)))), []⟩, ⟨2, (some 6), none, (.q (.mov (.t 22))), []⟩]
@[simp] def b_RIs_38 (_ : Unit) : EB := reg0 (hid l_RIs_37) 3
@[simp] def b_RIs_39 (_ : Unit) : EB := .seq (hid b_RIs_36) (hid b_RIs_38)
@[simp] def b_RIs_40 (_ : Unit) : EB := .seq (hid b_RIs_24) (hid b_RIs_39)
@[simp] def b_RIs_41 (_ : Unit) : EB := .loop (hid b_RIs_40)
@[simp] def b_RIs_42 (_ : Unit) : EB := .block 0 (hid b_RIs_41)
@[simp] def b_RIs_43 (_ : Unit) : EB := .seq (hid b_RIs_20) (hid b_RIs_42)
@[simp] def l_RIs_44 (_ : Unit) : List EOp := [⟨0, (some 4), none, (.q (.mov (.k (.int .i64 0)))), []⟩]
@[simp] def b_RIs_45 (_ : Unit) : EB := reg0 (hid l_RIs_44) 1
@[simp] def b_RIs_46 (_ : Unit) : EB := .seq (hid b_RIs_45) .ret
@[simp] def b_RIs_47 (_ : Unit) : EB := .seq (hid b_RIs_43) (hid b_RIs_46)
@[simp] def b_RIs_48 (_ : Unit) : EB := .seq (hid b_RIs_18) (hid b_RIs_47)
@[simp] def b_RIs_49 (_ : Unit) : EB := .seq (hid b_RIs_11) (hid b_RIs_48)
@[simp] def b_RIs_50 (_ : Unit) : EB := .seq (hid b_RIs_4) (hid b_RIs_49)
@[simp] def b_RIs_51 (_ : Unit) : EB := .seq (hid b_RIs_2) (hid b_RIs_50)
def c_RIs : EB × List QOp × Nat := ((hid b_RIs_51), [(.mov (.t 4))], 52)
theorem k_RIs : cfun Tryd.prog 34 = some c_RIs := by kernel_rfl


@[simp] theorem strAll_hca (ids : List Nat) (l : List UInt8) (r : List EC) : strAll ids (hc l ++ r) = (strAll ids r).map (hc l ++ ·) := by
  induction l with
  | nil => cases h : strAll ids r <;> simp [hc, h]
  | cons b t ih =>
    have e : hc (b :: t) = .fz (.lit (.int .u8 (b.toNat : Int))) :: hc t := rfl
    rw [e, List.cons_append]
    simp only [strAll, ih]
    cases h : strAll ids r <;> simp [h]
/-- A height that no path has. -/
def oddT (c : Cfg) (x : Int) : Bool := decide (¬ (c.lst ≤ x ∧ x ≤ c.fst ∧ (c.fst - x) % c.stp = 0))
def hasT (c : Cfg) (p : List Int) : Nat := if chkT c ≠ 0 then chkT c else if (p.length : Int) ≠ c.dep ∨ p.any (oddT c) = true then 1 else 0
def CO (c : Cfg) : EO := .box 31 (cfgC c)
def OddV (o : Nat) : EV := .v (.c (.clo 50 [(o, 0)]))
theorem odd_body : bodyOK Tryd.prog 50 = true := by kernel_rfl

set_option maxHeartbeats 2000000 in
theorem Thas1_ok (c : Cfg) (x : Int) (hc : c.ok) (h : okR c) : ECalls Tryd.prog 50 [I .i64 x, Ptr 0] [CO c] fun y H' => H' = [some (CO c)] ∧ y = .lit (.bool (oddT c x)) := by
  have h32 := hc.1
  have t40 := tk40 h32
  obtain ⟨h1, h2, h3, h4, h5, h6, h7⟩ := h
  refine ecalls k_Thas1 ?_
  simp [c_Thas1, I, Ptr, CO, cfgC, cfgT, h32]
  by_cases g1 : c.fst < x
  · have g1' : ¬ x ≤ c.fst := by omega
    simp [g1, g1', oddT]
    exact fin [] (by decide) rfl rfl (by simp [objsOut]) ⟨rfl, rfl⟩
  have g1' : x ≤ c.fst := by omega
  simp [g1, g1', h32]
  by_cases g2 : x < c.lst
  · have g2' : ¬ c.lst ≤ x := by omega
    simp [g2, g2', oddT]
    exact fin [] (by decide) rfl rfl (by simp [objsOut]) ⟨rfl, rfl⟩
  have g2' : c.lst ≤ x := by omega
  have w1 : IntKind.i64.wrap (c.fst - x) = c.fst - x := wrap_i64 (by omega) (by omega)
  have hd : (c.fst - x).tmod c.stp = (c.fst - x) % c.stp := Int.tmod_eq_emod_of_nonneg (by omega)
  have hb : 0 ≤ (c.fst - x) % c.stp ∧ (c.fst - x) % c.stp < c.stp := ⟨Int.emod_nonneg _ (by omega), Int.emod_lt_of_pos _ (by omega)⟩
  have hs := hc.2.2.2.2.2.2.2.1
  unfold i64 at hs
  have w2 : IntKind.i64.wrap ((c.fst - x) % c.stp) = (c.fst - x) % c.stp := wrap_i64 (by omega) (by omega)
  have hz : ¬ c.stp = 0 := by omega
  simp [g2, g2', h32, w1, hz, hd, w2]
  have ho : oddT c x = !decide ((c.fst - x) % c.stp = 0) := by simp [oddT, g1', g2']
  rw [ho]
  exact fin [] (by decide) rfl rfl (by simp [objsOut]) ⟨rfl, by simp [EV.lit]⟩

set_option maxHeartbeats 2000000 in
theorem TIndexFunc_ok (c : Cfg) (p : List Int) (hc : c.ok) (h : okR c) (hl : p.length ≤ 100000000) (B : Bool) (hB : p.any (oddT c) = B) : ECalls Tryd.prog 76 [IL p, OddV 0] [CO c] fun y H' => H' = [some (CO c)] ∧ ∃ n : Int, y = I .i64 n ∧ (0 ≤ n ↔ B = true) := by
  refine ecalls k_TIndexFunc ?_
  simp [c_TIndexFunc, IL, OddV]
  refine eloop (α := Nat) (fun i => i ≤ p.length ∧ B = (p.drop i).any (oddT c)) (fun i => p.length - i)
    (fun i => [IL p, OddV 0, .any, .any, .any, .any, .any, I .i64 p.length, I .i64 i, .any, .any, .any, .any, .any, .any, .any, .any, .any, .any]) (fun _ => [some (CO c)]) 0 [0]
    ⟨by simp, by rw [List.drop_zero, hB]⟩ (by simp [I, IL, OddV]) (by simp [CO, cfgC, cfgT]) (by simp) (by simp) (by simp) ?_
  rintro i ⟨hi, hk⟩
  simp [I, IL, OddV]
  refine alt (fun hlt => ?_) (fun hlt => ?_)
  · obtain ⟨k, hci⟩ : ∃ k, p[i]? = some k := ⟨p[i], by simp [hlt]⟩
    have hcb := intv_get hci
    have hd : p.drop i = k :: p.drop (i + 1) := by
      have h := List.getElem?_eq_some_iff.1 hci
      rw [List.drop_eq_getElem_cons h.1, h.2]
    rw [hd, List.any_cons] at hk
    have w2 : IntKind.i64.wrap ((i : Int) + 1) = ((i + 1 : Nat) : Int) := wrap_i64 (by omega) (by omega)
    simp [hcb]
    refine ⟨odd_body, ?_⟩
    refine callH [0] (Thas1_ok c k hc h) (by simp [I, Ptr]) (by simp [CO, cfgC, cfgT]) (by simp) (by simp [CO, cfgC, cfgT]) (by simp [Wok]) ?_
    rintro y H' ⟨rfl, rfl⟩
    refine ⟨.inl (by simp), le_ok rfl, ?_⟩
    cases ho : oddT c k
    · simp [EV.lit, w2, -Int.natCast_add]
      exact round (i + 1) [0] ⟨by omega, by rw [hk, ho, Bool.false_or]⟩ (by omega) (by simp) (by simp [CO, cfgC, cfgT]) (by simp) (by simp) (by simp)
    · simp [EV.lit]
      exact fin [] (by decide) rfl rfl (by simp [objsOut, CO, cfgC, cfgT]) ⟨rfl, (i : Int), rfl, ⟨fun _ => by rw [hk, ho, Bool.true_or], fun _ => by omega⟩⟩
  · have hil : i = p.length := by omega
    subst hil
    simp
    exact fin [] (by decide) rfl rfl (by simp [objsOut, CO, cfgC, cfgT]) ⟨rfl, -1, rfl, ⟨fun h => by omega, fun h => by rw [hk, List.drop_length] at h; simp at h⟩⟩

theorem TContainsFunc_ok (c : Cfg) (p : List Int) (hc : c.ok) (h : okR c) (hl : p.length ≤ 100000000) (B : Bool) (hB : p.any (oddT c) = B) : ECalls Tryd.prog 51 [IL p, OddV 0] [CO c] fun y H' => H' = [some (CO c)] ∧ y = .lit (.bool B) := by
  refine ecalls k_TContainsFunc ?_
  simp [c_TContainsFunc, IL, OddV]
  refine callH [0] (TIndexFunc_ok c p hc h hl B hB) (by simp [IL, OddV]) (by simp [CO, cfgC, cfgT]) (by simp) (by simp [CO]) (by simp [Wok]) ?_
  rintro y H' ⟨rfl, n, rfl, hn⟩
  refine ⟨.inl (by simp), le_ok rfl, ?_⟩
  have hb : decide (0 ≤ n) = B := by
    cases B
    · exact decide_eq_false (fun h => by simpa using hn.1 h)
    · exact decide_eq_true (hn.2 rfl)
  simp [I, CO]
  exact fin [] (by decide) rfl rfl (by simp [objsOut, cfgC, cfgT]) ⟨rfl, by simp [EV.lit, hb]⟩

theorem chk_okR {c : Cfg} (h : chkT c = 0) : okR c ∧ okA c ∧ (keysS (-1) c.keys = true ∧ 2 ≤ c.keys.length) ∧ 10 ≤ c.am - c.dep * c.fee := by
  unfold chkT at h
  split at h
  · simp at h
  rename_i h1
  split at h
  · simp at h
  rename_i h2
  split at h
  · simp at h
  rename_i h3
  split at h
  · simp at h
  rename_i h4
  exact ⟨Classical.not_not.1 h1, Classical.not_not.1 h2, Classical.not_not.1 h3, by omega⟩

set_option maxHeartbeats 2000000 in
theorem Thas_ok (c : Cfg) (p : List Int) (hc : c.ok) (hl : p.length ≤ 100000000) : ECalls Tryd.prog 28 [CV c, IL p] [] fun y H' => H' = [] ∧ y = .lit (errV (hasT c p)) := by
  have h32 := hc.1
  have t40 := tk40 h32
  refine ecalls k_Thas ?_
  simp [c_Thas, CV, cfgC, cfgT, IL, h32, t40]
  refine call0 (TCheck_ok c hc) (by simp [CV, cfgC, cfgT]) ?_
  rintro y H' ⟨rfl, rfl⟩
  refine ⟨.inl (by simp [t40]), le_ok rfl, ?_⟩
  by_cases hk : chkT c = 0
  rotate_left
  · have hh : hasT c p = chkT c := by simp [hasT, hk]
    rw [hh]
    simp [hk, EV.lit]
    exact fin [] (by decide) rfl rfl rfl ⟨rfl, rfl⟩
  have hR := (chk_okR hk).1
  obtain ⟨B, hB⟩ : ∃ B, p.any (oddT c) = B := ⟨_, rfl⟩
  simp [hk, EV.lit, h32]
  by_cases hd : (p.length : Int) = c.dep
  rotate_left
  · have hh : hasT c p = 1 := by simp [hasT, hk, hd]
    rw [hh]
    simp [hd]
    exact fin [] (by decide) rfl rfl rfl ⟨rfl, rfl⟩
  simp [hd, h32]
  refine callH [0] (TContainsFunc_ok c p hc hR hl B hB) (by simp [IL, OddV]) (by simp [CO, cfgC, cfgT]) (by simp) (by simp) (by simp [Wok]) ?_
  rintro y H' ⟨rfl, rfl⟩
  refine ⟨.inl (by simp), le_ok rfl, ?_⟩
  cases B
  · have hh : hasT c p = 0 := by simp only [hasT, hk, hB, hd]; simp
    rw [hh]
    simp [EV.lit, CO]
    exact fin [] (by decide) rfl rfl rfl ⟨rfl, rfl⟩
  · have hh : hasT c p = 1 := by simp only [hasT, hk, hB, hd]; simp
    rw [hh]
    simp [EV.lit, CO]
    exact fin [] (by decide) rfl rfl rfl ⟨rfl, rfl⟩

set_option maxRecDepth 8000 in
set_option maxHeartbeats 4000000 in
theorem RIs_ok (c : Cfg) (p : List Int) (hc : c.ok) (hl : p.length ≤ 100000000) : ECalls Tryd.prog 34 [CV c, IL p] [] fun y H' => H' = [] ∧ y = I .i64 (hasT c p) := by
  have h32 := hc.1
  have t40 := tk40 h32
  refine ecalls k_RIs ?_
  simp [c_RIs, CV, cfgC, cfgT, IL, h32, t40]
  refine call0 (RTCheck_ok c hc) (by simp [CV, cfgC, cfgT]) ?_
  rintro y H' ⟨rfl, rfl⟩
  refine ⟨.inl (by simp [t40]), le_ok rfl, ?_⟩
  by_cases hk : chkT c = 0
  rotate_left
  · have hh : hasT c p = chkT c := by simp [hasT, hk]
    rw [hh]
    simp [hk, I]
    exact fin [] (by decide) rfl rfl rfl ⟨rfl, rfl⟩
  have hR := (chk_okR hk).1
  obtain ⟨B, hB⟩ : ∃ B, p.any (oddT c) = B := ⟨_, rfl⟩
  simp [hk, I, h32]
  by_cases hd : (p.length : Int) = c.dep
  rotate_left
  · have hh : hasT c p = 1 := by simp [hasT, hk, hd]
    rw [hh]
    simp [hd]
    exact fin [] (by decide) rfl rfl rfl ⟨rfl, rfl⟩
  have hh : hasT c p = if B = true then 1 else 0 := by simp only [hasT, hk, hB, hd]; simp
  rw [hh]
  simp [hd, h32]
  refine eloop (α := Nat) (fun i => i ≤ p.length ∧ B = (p.drop i).any (oddT c)) (fun i => p.length - i)
    (fun i => [.any, IL p, Ptr 0, .any, .any, .any, I .i64 i, .any, .any, .any, .any, .any, .any, .any, .any, .any, .any, .any, .any, .any, .any, .any, .any, .any, .any, .any, .any, .any, .any, .any, .any, .any, .any, .any, .any, .any, .any, .any, .any, .any, .any, .any, .any, .any, .any, .any, .any, .any, .any, .any, .any, .any]) (fun _ => [some (.box 28 (cfgC c))]) 0 [0]
    ⟨by simp, by rw [List.drop_zero, hB]⟩ (by simp [I, IL, Ptr]) (by simp [cfgC, cfgT]) (by simp) (by simp) (by simp) ?_
  rintro i ⟨hi, hk2⟩
  simp [I, IL, Ptr, cfgC, cfgT, h32]
  obtain ⟨r1, r2, r3, r4, r5, r6, r7⟩ := hR
  have hs := hc.2.2.2.2.2.2.2.1
  unfold i64 at hs
  refine alt (fun hlt => ?_) (fun hlt => ?_)
  · obtain ⟨k, hci⟩ : ∃ k, p[i]? = some k := ⟨p[i], by simp [hlt]⟩
    have hcb := intv_get hci
    have hdr : p.drop i = k :: p.drop (i + 1) := by
      have h := List.getElem?_eq_some_iff.1 hci
      rw [List.drop_eq_getElem_cons h.1, h.2]
    rw [hdr, List.any_cons] at hk2
    have w2 : IntKind.i64.wrap ((i : Int) + 1) = ((i + 1 : Nat) : Int) := wrap_i64 (by omega) (by omega)
    simp [hcb, h32]
    by_cases g2 : k < c.lst
    · have g2' : ¬ c.lst ≤ k := by omega
      have hb : B = true := by rw [hk2]; simp [oddT, g2']
      rw [hb]
      simp [g2, g2']
      exact fin [] (by decide) rfl rfl rfl ⟨rfl, rfl⟩
    have g2' : c.lst ≤ k := by omega
    simp [g2, g2', hcb, h32]
    by_cases g1 : c.fst < k
    · have g1' : ¬ k ≤ c.fst := by omega
      have hb : B = true := by rw [hk2]; simp [oddT, g1']
      rw [hb]
      simp [g1, g1']
      exact fin [] (by decide) rfl rfl rfl ⟨rfl, rfl⟩
    have g1' : k ≤ c.fst := by omega
    have w1 : IntKind.i64.wrap (c.fst - k) = c.fst - k := wrap_i64 (by omega) (by omega)
    have hdm : (c.fst - k).tmod c.stp = (c.fst - k) % c.stp := Int.tmod_eq_emod_of_nonneg (by omega)
    have hbb : 0 ≤ (c.fst - k) % c.stp ∧ (c.fst - k) % c.stp < c.stp := ⟨Int.emod_nonneg _ (by omega), Int.emod_lt_of_pos _ (by omega)⟩
    have w3 : IntKind.i64.wrap ((c.fst - k) % c.stp) = (c.fst - k) % c.stp := wrap_i64 (by omega) (by omega)
    have hz : ¬ c.stp = 0 := by omega
    simp [g1, g1', hcb, h32, w1, hz, hdm, w3]
    by_cases g3 : (c.fst - k) % c.stp = 0
    · have ho : oddT c k = false := by simp [oddT, g1', g2', g3]
      rw [ho, Bool.false_or] at hk2
      simp [g3, w2, -Int.natCast_add]
      exact round (i + 1) [0] ⟨by omega, hk2⟩ (by omega) (by simp) (by simp [cfgC, cfgT]) (by simp) (by simp) (by simp)
    · have hb : B = true := by rw [hk2]; simp [oddT, g1', g2', g3]
      rw [hb]
      simp [g3]
      exact fin [] (by decide) rfl rfl rfl ⟨rfl, rfl⟩
  · have hil : i = p.length := by omega
    subst hil
    have hb : B = false := by rw [hk2]; simp
    rw [hb]
    simp
    exact fin [] (by decide) rfl rfl rfl ⟨rfl, rfl⟩

end Go.Proofs.YtoomdgmggkcgfaaDoor
