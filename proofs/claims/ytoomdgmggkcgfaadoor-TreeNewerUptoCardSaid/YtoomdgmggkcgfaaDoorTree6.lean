import Derived.Test.YtoomdgmggkcgfaaDoorTree5
namespace Go.Proofs.YtoomdgmggkcgfaaDoor
open Go Go.EW
set_option linter.unusedSimpArgs false
set_option linter.unusedVariables false

@[simp] def l_Mul64_1 (_ : Unit) : List EOp := [⟨0, (some 4), none, (.q (.mov (.k (.int .u64 0)))), []⟩, ⟨1, (some 5), none, (.q (.mov (.k (.int .u64 0)))), []⟩]
@[simp] def b_Mul64_2 (_ : Unit) : EB := reg0 (hid l_Mul64_1) 2
@[simp] def l_Mul64_3 (_ : Unit) : List EOp := [⟨0, (some 14), none, (.q (.mov (.t 0))), []⟩, ⟨1, (some 15), none, (.q (.bin .and (.t 14) (.k (.int .u64 4294967295)))), []⟩, ⟨2, (some 6), none, (.q (.mov (.t 15))), []⟩]
@[simp] def b_Mul64_4 (_ : Unit) : EB := reg0 (hid l_Mul64_3) 3
@[simp] def l_Mul64_5 (_ : Unit) : List EOp := [⟨0, (some 16), none, (.q (.mov (.t 0))), []⟩, ⟨1, (some 17), none, (.q (.bin .shr (.t 16) (.k (.int .u64 32)))), []⟩, ⟨2, (some 7), none, (.q (.mov (.t 17))), []⟩]
@[simp] def b_Mul64_6 (_ : Unit) : EB := reg0 (hid l_Mul64_5) 3
@[simp] def l_Mul64_7 (_ : Unit) : List EOp := [⟨0, (some 18), none, (.q (.mov (.t 1))), []⟩, ⟨1, (some 19), none, (.q (.bin .and (.t 18) (.k (.int .u64 4294967295)))), []⟩, ⟨2, (some 8), none, (.q (.mov (.t 19))), []⟩]
@[simp] def b_Mul64_8 (_ : Unit) : EB := reg0 (hid l_Mul64_7) 3
@[simp] def l_Mul64_9 (_ : Unit) : List EOp := [⟨0, (some 20), none, (.q (.mov (.t 1))), []⟩, ⟨1, (some 21), none, (.q (.bin .shr (.t 20) (.k (.int .u64 32)))), []⟩, ⟨2, (some 9), none, (.q (.mov (.t 21))), []⟩]
@[simp] def b_Mul64_10 (_ : Unit) : EB := reg0 (hid l_Mul64_9) 3
@[simp] def l_Mul64_11 (_ : Unit) : List EOp := [⟨0, (some 22), none, (.q (.mov (.t 6))), []⟩, ⟨1, (some 23), none, (.q (.mov (.t 8))), []⟩, ⟨2, (some 24), none, (.q (.bin .mul (.t 22) (.t 23))), []⟩, ⟨3, (some 10), none, (.q (.mov (.t 24))), []⟩]
@[simp] def b_Mul64_12 (_ : Unit) : EB := reg0 (hid l_Mul64_11) 4
@[simp] def l_Mul64_14 (_ : Unit) : List EOp := [⟨6, (some 11), none, (.q (.mov (.t 30))), []⟩]
@[simp] def l_Mul64_13 (_ : Unit) : List EOp := ⟨0, (some 25), none, (.q (.mov (.t 7))), []⟩ :: ⟨1, (some 26), none, (.q (.mov (.t 8))), []⟩ :: ⟨2, (some 27), none, (.q (.bin .mul (.t 25) (.t 26))), []⟩ :: ⟨3, (some 28), none, (.q (.mov (.t 10))), []⟩ :: ⟨4, (some 29), none, (.q (.bin .shr (.t 28) (.k (.int .u64 32)))), []⟩ :: ⟨5, (some 30), none, (.q (.bin .add (.t 27) (.t 29))), []⟩ :: hid l_Mul64_14
@[simp] def b_Mul64_15 (_ : Unit) : EB := reg0 (hid l_Mul64_13) 7
@[simp] def l_Mul64_16 (_ : Unit) : List EOp := [⟨0, (some 31), none, (.q (.mov (.t 11))), []⟩, ⟨1, (some 32), none, (.q (.bin .and (.t 31) (.k (.int .u64 4294967295)))), []⟩, ⟨2, (some 12), none, (.q (.mov (.t 32))), []⟩]
@[simp] def b_Mul64_17 (_ : Unit) : EB := reg0 (hid l_Mul64_16) 3
@[simp] def l_Mul64_18 (_ : Unit) : List EOp := [⟨0, (some 33), none, (.q (.mov (.t 11))), []⟩, ⟨1, (some 34), none, (.q (.bin .shr (.t 33) (.k (.int .u64 32)))), []⟩, ⟨2, (some 13), none, (.q (.mov (.t 34))), []⟩]
@[simp] def b_Mul64_19 (_ : Unit) : EB := reg0 (hid l_Mul64_18) 3
@[simp] def l_Mul64_20 (_ : Unit) : List EOp := [⟨0, (some 35), none, (.q (.mov (.t 12))), []⟩, ⟨1, (some 36), none, (.q (.mov (.t 6))), []⟩, ⟨2, (some 37), none, (.q (.mov (.t 9))), []⟩, ⟨3, (some 38), none, (.q (.bin .mul (.t 36) (.t 37))), []⟩, ⟨4, (some 39), none, (.q (.bin .add (.t 35) (.t 38))), []⟩, ⟨5, (some 12), none, (.q (.mov (.t 39))), []⟩]
@[simp] def b_Mul64_21 (_ : Unit) : EB := reg0 (hid l_Mul64_20) 6
@[simp] def l_Mul64_23 (_ : Unit) : List EOp := [⟨6, (some 46), none, (.q (.bin .shr (.t 45) (.k (.int .u64 32)))), []⟩, ⟨7, (some 47), none, (.q (.bin .add (.t 44) (.t 46))), []⟩, ⟨8, (some 4), none, (.q (.mov (.t 47))), []⟩]
@[simp] def l_Mul64_22 (_ : Unit) : List EOp := ⟨0, (some 40), none, (.q (.mov (.t 7))), []⟩ :: ⟨1, (some 41), none, (.q (.mov (.t 9))), []⟩ :: ⟨2, (some 42), none, (.q (.bin .mul (.t 40) (.t 41))), []⟩ :: ⟨3, (some 43), none, (.q (.mov (.t 13))), []⟩ :: ⟨4, (some 44), none, (.q (.bin .add (.t 42) (.t 43))), []⟩ :: ⟨5, (some 45), none, (.q (.mov (.t 12))), []⟩ :: hid l_Mul64_23
@[simp] def b_Mul64_24 (_ : Unit) : EB := reg0 (hid l_Mul64_22) 9
@[simp] def l_Mul64_25 (_ : Unit) : List EOp := [⟨0, (some 48), none, (.q (.mov (.t 0))), []⟩, ⟨1, (some 49), none, (.q (.mov (.t 1))), []⟩, ⟨2, (some 50), none, (.q (.bin .mul (.t 48) (.t 49))), []⟩, ⟨3, (some 5), none, (.q (.mov (.t 50))), []⟩]
@[simp] def b_Mul64_26 (_ : Unit) : EB := reg0 (hid l_Mul64_25) 4
@[simp] def b_Mul64_27 (_ : Unit) : EB := .seq (hid b_Mul64_26) .ret
@[simp] def b_Mul64_28 (_ : Unit) : EB := .seq (hid b_Mul64_24) (hid b_Mul64_27)
@[simp] def b_Mul64_29 (_ : Unit) : EB := .seq (hid b_Mul64_21) (hid b_Mul64_28)
@[simp] def b_Mul64_30 (_ : Unit) : EB := .seq (hid b_Mul64_19) (hid b_Mul64_29)
@[simp] def b_Mul64_31 (_ : Unit) : EB := .seq (hid b_Mul64_17) (hid b_Mul64_30)
@[simp] def b_Mul64_32 (_ : Unit) : EB := .seq (hid b_Mul64_15) (hid b_Mul64_31)
@[simp] def b_Mul64_33 (_ : Unit) : EB := .seq (hid b_Mul64_12) (hid b_Mul64_32)
@[simp] def b_Mul64_34 (_ : Unit) : EB := .seq (hid b_Mul64_10) (hid b_Mul64_33)
@[simp] def b_Mul64_35 (_ : Unit) : EB := .seq (hid b_Mul64_8) (hid b_Mul64_34)
@[simp] def b_Mul64_36 (_ : Unit) : EB := .seq (hid b_Mul64_6) (hid b_Mul64_35)
@[simp] def b_Mul64_37 (_ : Unit) : EB := .seq (hid b_Mul64_4) (hid b_Mul64_36)
@[simp] def b_Mul64_38 (_ : Unit) : EB := .seq (hid b_Mul64_2) (hid b_Mul64_37)
def c_Mul64 : EB × List QOp × Nat := ((hid b_Mul64_38), [(.mov (.t 4)), (.mov (.t 5))], 51)
theorem k_Mul64 : cfun Tryd.prog 75 = some c_Mul64 := by kernel_rfl

@[simp] def l_BMul_1 (_ : Unit) : List EOp := [⟨0, (some 4), none, (.q (.mov (.k (.int .u64 0)))), []⟩, ⟨1, (some 5), none, (.q (.mov (.k (.int .u64 0)))), []⟩]
@[simp] def b_BMul_2 (_ : Unit) : EB := reg0 (hid l_BMul_1) 2
@[simp] def l_BMul_4 (_ : Unit) : List EOp := [⟨6, (some 16), none, (.q (.ext 0 (.t 10))), []⟩, ⟨7, (some 17), none, (.q (.ext 1 (.t 10))), []⟩, ⟨8, (some 6), none, (.q (.mov (.t 16))), []⟩, ⟨9, (some 7), none, (.q (.mov (.t 17))), []⟩]
@[simp] def l_BMul_3 (_ : Unit) : List EOp := ⟨0, (some 11), none, (.q (.mov (.t 0))), []⟩ :: ⟨1, (some 12), none, (.q (.cnv .u32 (.t 11))), []⟩ :: ⟨2, (some 13), none, (.q (.mov (.t 1))), []⟩ :: ⟨3, (some 14), none, (.q (.cnv .u32 (.t 13))), []⟩ :: ⟨4, (some 15), none, (.call 74 [(.t 12), (.t 14)]), []⟩ :: ⟨5, (some 10), none, (.q (.mov (.t 15))), []⟩ :: hid l_BMul_4
@[simp] def b_BMul_5 (_ : Unit) : EB := reg0 (hid l_BMul_3) 10
@[simp] def l_BMul_6 (_ : Unit) : List EOp := [⟨0, (some 18), none, (.q (.mov (.t 6))), []⟩, ⟨1, (some 19), none, (.q (.cnv .u64 (.t 18))), []⟩, ⟨2, (some 20), none, (.q (.mov (.t 7))), []⟩, ⟨3, (some 21), none, (.q (.cnv .u64 (.t 20))), []⟩, ⟨4, (some 4), none, (.q (.mov (.t 19))), []⟩, ⟨5, (some 5), none, (.q (.mov (.t 21))), []⟩]
@[simp] def b_BMul_7 (_ : Unit) : EB := reg0 (hid l_BMul_6) 6
@[simp] def b_BMul_8 (_ : Unit) : EB := .seq (hid b_BMul_7) .ret
@[simp] def b_BMul_9 (_ : Unit) : EB := .seq (hid b_BMul_5) (hid b_BMul_8)
@[simp] def b_BMul_10 (_ : Unit) : EB := .cond (.k (.bool false)) (hid b_BMul_9) .skip
@[simp] def l_BMul_12 (_ : Unit) : List EOp := [⟨6, (some 8), none, (.q (.mov (.t 26))), []⟩, ⟨7, (some 9), none, (.q (.mov (.t 27))), []⟩]
@[simp] def l_BMul_11 (_ : Unit) : List EOp := ⟨0, (some 23), none, (.q (.mov (.t 0))), []⟩ :: ⟨1, (some 24), none, (.q (.mov (.t 1))), []⟩ :: ⟨2, (some 25), none, (.call 75 [(.t 23), (.t 24)]), []⟩ :: ⟨3, (some 22), none, (.q (.mov (.t 25))), []⟩ :: ⟨4, (some 26), none, (.q (.ext 0 (.t 22))), []⟩ :: ⟨5, (some 27), none, (.q (.ext 1 (.t 22))), []⟩ :: hid l_BMul_12
@[simp] def b_BMul_13 (_ : Unit) : EB := reg0 (hid l_BMul_11) 8
@[simp] def l_BMul_14 (_ : Unit) : List EOp := [⟨0, (some 28), none, (.q (.mov (.t 8))), []⟩, ⟨1, (some 29), none, (.q (.mov (.t 9))), []⟩, ⟨2, (some 4), none, (.q (.mov (.t 28))), []⟩, ⟨3, (some 5), none, (.q (.mov (.t 29))), []⟩]
@[simp] def b_BMul_15 (_ : Unit) : EB := reg0 (hid l_BMul_14) 4
@[simp] def b_BMul_16 (_ : Unit) : EB := .seq (hid b_BMul_15) .ret
@[simp] def b_BMul_17 (_ : Unit) : EB := .seq (hid b_BMul_13) (hid b_BMul_16)
@[simp] def b_BMul_18 (_ : Unit) : EB := .seq (hid b_BMul_10) (hid b_BMul_17)
@[simp] def b_BMul_19 (_ : Unit) : EB := .seq (hid b_BMul_2) (hid b_BMul_18)
def c_BMul : EB × List QOp × Nat := ((hid b_BMul_19), [(.mov (.t 4)), (.mov (.t 5))], 30)
theorem k_BMul : cfun Tryd.prog 49 = some c_BMul := by kernel_rfl

@[simp] def l_TRepeat_1 (_ : Unit) : List EOp := [⟨0, (some 4), none, (.q (.mov (.k (.slice none 0 0)))), []⟩]
@[simp] def b_TRepeat_2 (_ : Unit) : EB := reg0 (hid l_TRepeat_1) 1
@[simp] def l_TRepeat_3 (_ : Unit) : List EOp := [⟨0, (some 9), none, (.q (.mov (.t 1))), []⟩, ⟨1, (some 10), none, (.q (.bin .lss (.t 9) (.k (.int .i64 0)))), []⟩]
@[simp] def b_TRepeat_4 (_ : Unit) : EB := reg0 (hid l_TRepeat_3) 2
@[simp] def b_TRepeat_5 (_ : Unit) : EB := .cond (.t 10) .bot .skip
@[simp] def b_TRepeat_6 (_ : Unit) : EB := .seq (hid b_TRepeat_4) (hid b_TRepeat_5)
@[simp] def l_TRepeat_8 (_ : Unit) : List EOp := [⟨6, (some 12), none, (.q (.mov (.t 18))), []⟩, ⟨7, (some 19), none, (.q (.ext 0 (.t 12))), []⟩, ⟨8, (some 20), none, (.q (.ext 1 (.t 12))), []⟩, ⟨9, (some 5), none, (.q (.mov (.t 19))), []⟩, ⟨10, (some 6), none, (.q (.mov (.t 20))), []⟩]
@[simp] def l_TRepeat_7 (_ : Unit) : List EOp := ⟨0, (some 13), none, (.q (.mov (.t 0))), []⟩ :: ⟨1, (some 14), none, (.q (.len (.t 13))), []⟩ :: ⟨2, (some 15), none, (.q (.cnv .u64 (.t 14))), []⟩ :: ⟨3, (some 16), none, (.q (.mov (.t 1))), []⟩ :: ⟨4, (some 17), none, (.q (.cnv .u64 (.t 16))), []⟩ :: ⟨5, (some 18), none, (.call 49 [(.t 15), (.t 17)]), []⟩ :: hid l_TRepeat_8
@[simp] def b_TRepeat_9 (_ : Unit) : EB := reg0 (hid l_TRepeat_7) 11
@[simp] def l_TRepeat_10 (_ : Unit) : List EOp := [⟨0, (some 21), none, (.q (.mov (.t 5))), []⟩, ⟨1, (some 22), none, (.q (.bin .gtr (.t 21) (.k (.int .u64 0)))), []⟩, ⟨2, (some 23), none, (.q (.mov (.t 22))), []⟩, ⟨3, (some 24), (some (23, false)), (.q (.mov (.t 6))), []⟩, ⟨4, (some 25), (some (23, false)), (.q (.bin .gtr (.t 24) (.k (.int .u64 9223372036854775807)))), []⟩, ⟨5, (some 26), none, (.q (.pick (.t 23) (.k (.bool true)) (.t 25))), []⟩]
@[simp] def b_TRepeat_11 (_ : Unit) : EB := reg0 (hid l_TRepeat_10) 6
@[simp] def b_TRepeat_12 (_ : Unit) : EB := .cond (.t 26) .bot .skip
@[simp] def b_TRepeat_13 (_ : Unit) : EB := .seq (hid b_TRepeat_11) (hid b_TRepeat_12)
@[simp] def l_TRepeat_14 (_ : Unit) : List EOp := [⟨0, (some 28), none, (.q (.mov (.t 6))), []⟩, ⟨1, (some 29), none, (.q (.cnv .i64 (.t 28))), []⟩, ⟨2, (some 30), none, (.q (.mks 3 1 8 [(.int .i64 0)] (.t 29) (.t 29))), []⟩, ⟨3, (some 7), none, (.q (.mov (.t 30))), []⟩]
@[simp] def b_TRepeat_15 (_ : Unit) : EB := reg0 (hid l_TRepeat_14) 4
@[simp] def l_TRepeat_16 (_ : Unit) : List EOp := [⟨0, (some 31), none, (.q (.mov (.t 7))), []⟩, ⟨1, (some 32), none, (.q (.mov (.t 0))), []⟩, ⟨2, (some 33), none, (.cpy 1 (.t 31) (.t 32)), []⟩, ⟨3, (some 8), none, (.q (.mov (.t 33))), []⟩]
@[simp] def b_TRepeat_17 (_ : Unit) : EB := reg0 (hid l_TRepeat_16) 4
@[simp] def l_TRepeat_18 (_ : Unit) : List EOp := [⟨0, (some 34), none, (.q (.mov (.t 8))), []⟩, ⟨1, (some 35), none, (.q (.mov (.t 7))), []⟩, ⟨2, (some 36), none, (.q (.len (.t 35))), []⟩, ⟨3, (some 37), none, (.q (.bin .lss (.t 34) (.t 36))), []⟩]
@[simp] def b_TRepeat_19 (_ : Unit) : EB := reg0 (hid l_TRepeat_18) 4
@[simp] def b_TRepeat_20 (_ : Unit) : EB := .cond (.t 37) .skip (.exit 0)
@[simp] def b_TRepeat_21 (_ : Unit) : EB := .seq (hid b_TRepeat_19) (hid b_TRepeat_20)
@[simp] def l_TRepeat_23 (_ : Unit) : List EOp := [⟨6, (some 44), none, (.q (.ssl 1 (.t 42) none (some (.t 43)))), []⟩, ⟨7, (some 45), none, (.cpy 1 (.t 41) (.t 44)), [0]⟩, ⟨8, (some 46), none, (.q (.bin .add (.t 38) (.t 45))), []⟩, ⟨9, (some 8), none, (.q (.mov (.t 46))), []⟩]
@[simp] def l_TRepeat_22 (_ : Unit) : List EOp := ⟨0, (some 38), none, (.q (.mov (.t 8))), []⟩ :: ⟨1, (some 39), none, (.q (.mov (.t 7))), []⟩ :: ⟨2, (some 40), none, (.q (.mov (.t 8))), []⟩ :: ⟨3, (some 41), none, (.q (.ssl 1 (.t 39) (some (.t 40)) none)), []⟩ :: ⟨4, (some 42), none, (.q (.mov (.t 7))), []⟩ :: ⟨5, (some 43), none, (.q (.mov (.t 8))), []⟩ :: hid l_TRepeat_23
@[simp] def b_TRepeat_24 (_ : Unit) : EB := reg1 (hid l_TRepeat_22) 10
@[simp] def b_TRepeat_25 (_ : Unit) : EB := .block 1 (hid b_TRepeat_24)
@[simp] def b_TRepeat_26 (_ : Unit) : EB := .seq (hid b_TRepeat_21) (hid b_TRepeat_25)
@[simp] def b_TRepeat_27 (_ : Unit) : EB := .loop (hid b_TRepeat_26)
@[simp] def b_TRepeat_28 (_ : Unit) : EB := .block 0 (hid b_TRepeat_27)
@[simp] def l_TRepeat_29 (_ : Unit) : List EOp := [⟨0, (some 47), none, (.q (.mov (.t 7))), []⟩, ⟨1, (some 4), none, (.q (.mov (.t 47))), []⟩]
@[simp] def b_TRepeat_30 (_ : Unit) : EB := reg0 (hid l_TRepeat_29) 2
@[simp] def b_TRepeat_31 (_ : Unit) : EB := .seq (hid b_TRepeat_30) .ret
@[simp] def b_TRepeat_32 (_ : Unit) : EB := .seq (hid b_TRepeat_28) (hid b_TRepeat_31)
@[simp] def b_TRepeat_33 (_ : Unit) : EB := .seq (hid b_TRepeat_17) (hid b_TRepeat_32)
@[simp] def b_TRepeat_34 (_ : Unit) : EB := .seq (hid b_TRepeat_15) (hid b_TRepeat_33)
@[simp] def b_TRepeat_35 (_ : Unit) : EB := .seq (hid b_TRepeat_13) (hid b_TRepeat_34)
@[simp] def b_TRepeat_36 (_ : Unit) : EB := .seq (hid b_TRepeat_9) (hid b_TRepeat_35)
@[simp] def b_TRepeat_37 (_ : Unit) : EB := .seq (hid b_TRepeat_6) (hid b_TRepeat_36)
@[simp] def b_TRepeat_38 (_ : Unit) : EB := .seq (hid b_TRepeat_2) (hid b_TRepeat_37)
def c_TRepeat : EB × List QOp × Nat := ((hid b_TRepeat_38), [(.mov (.t 4))], 48)
theorem k_TRepeat : cfun Tryd.prog 27 = some c_TRepeat := by kernel_rfl

@[simp] def l_TClone_1 (_ : Unit) : List EOp := [⟨0, (some 2), none, (.q (.mov (.k (.slice none 0 0)))), []⟩]
@[simp] def b_TClone_2 (_ : Unit) : EB := reg0 (hid l_TClone_1) 1
@[simp] def l_TClone_3 (_ : Unit) : List EOp := [⟨0, (some 3), none, (.q (.mov (.t 0))), []⟩, ⟨1, (some 4), none, (.nild false (.t 3)), []⟩]
@[simp] def b_TClone_4 (_ : Unit) : EB := reg0 (hid l_TClone_3) 2
@[simp] def l_TClone_5 (_ : Unit) : List EOp := [⟨0, (some 2), none, (.q (.mov (.k (.slice none 0 0)))), []⟩]
@[simp] def b_TClone_6 (_ : Unit) : EB := reg0 (hid l_TClone_5) 1
@[simp] def b_TClone_7 (_ : Unit) : EB := .seq (hid b_TClone_6) .ret
@[simp] def b_TClone_8 (_ : Unit) : EB := .cond (.t 4) (hid b_TClone_7) .skip
@[simp] def b_TClone_9 (_ : Unit) : EB := .seq (hid b_TClone_4) (hid b_TClone_8)
@[simp] def l_TClone_10 (_ : Unit) : List EOp := [⟨0, (some 5), none, (.q (.bsr 3 1 [(.int .i64 0)] 0 [])), []⟩, ⟨1, (some 6), none, (.q (.mov (.t 0))), []⟩, ⟨2, (some 7), none, (.app 3 1 8 (.t 5) (.t 6)), []⟩, ⟨3, (some 2), none, (.q (.mov (.t 7))), []⟩]
@[simp] def b_TClone_11 (_ : Unit) : EB := reg0 (hid l_TClone_10) 4
@[simp] def b_TClone_12 (_ : Unit) : EB := .seq (hid b_TClone_11) .ret
@[simp] def b_TClone_13 (_ : Unit) : EB := .seq (hid b_TClone_9) (hid b_TClone_12)
@[simp] def b_TClone_14 (_ : Unit) : EB := .seq (hid b_TClone_2) (hid b_TClone_13)
def c_TClone : EB × List QOp × Nat := ((hid b_TClone_14), [(.mov (.t 2))], 8)
theorem k_TClone : cfun Tryd.prog 32 = some c_TClone := by kernel_rfl


def IR (o : Nat) (l : List Int) : EV := .v (.c (.row o l.length))
def IO (l : List Int) : EO := .row 3 1 (intv l)

theorem Mul64_ok (n : Nat) (h : n ≤ 8) : ECalls Tryd.prog 75 [I .u64 1, I .u64 n] [] fun y H' => H' = [] ∧ y = .tup [.c (.fz (.lit (.int .u64 0))), .c (.fz (.lit (.int .u64 n)))] := by
  have an : ibit .and .u64 (n : Int) 4294967295 = n := by
    rcases (show n = 0 ∨ n = 1 ∨ n = 2 ∨ n = 3 ∨ n = 4 ∨ n = 5 ∨ n = 6 ∨ n = 7 ∨ n = 8 by omega) with rfl | rfl | rfl | rfl | rfl | rfl | rfl | rfl | rfl <;> rfl
  have a1 : ibit .and .u64 1 4294967295 = 1 := rfl
  have a0 : ibit .and .u64 0 4294967295 = 0 := rfl
  have w0 : IntKind.u64.wrap 0 = 0 := rfl
  have wn : IntKind.u64.wrap (n : Int) = n := wrap_u64 (by omega) (by omega)
  have hd : (n : Int) / 4294967296 = 0 := by omega
  refine ecalls k_Mul64 ?_
  simp [c_Mul64, I, an, a1, a0, w0, wn, hd]
  exact fin [] (by decide) rfl rfl rfl ⟨rfl, rfl⟩

theorem BMul_ok (n : Nat) (h : n ≤ 8) : ECalls Tryd.prog 49 [I .u64 1, I .u64 n] [] fun y H' => H' = [] ∧ y = .tup [.c (.fz (.lit (.int .u64 0))), .c (.fz (.lit (.int .u64 n)))] := by
  refine ecalls k_BMul ?_
  simp [c_BMul, I]
  refine call0 (Mul64_ok n h) (by simp [I, EV.lit, Ptr, IL, CV, cfgC, cfgT]) ?_
  rintro y H' ⟨rfl, rfl⟩
  refine ⟨.inl (by simp [I, EV.lit, Ptr, IL, CV, cfgC, cfgT]), le_ok rfl, ?_⟩
  simp [I, EV.lit, Ptr, IL, CV, cfgC, cfgT]
  exact fin [] (by decide) rfl rfl rfl ⟨rfl, rfl⟩

theorem intv_rep (n : Nat) (x : Int) : intv (List.replicate n x) = List.replicate n [.lit (.int .i64 x)] := by simp [intv]
theorem intv_app (a b : List Int) : intv (a ++ b) = intv a ++ intv b := by simp [intv]
theorem intv_take (a : List Int) (n : Nat) : (intv a).take n = intv (a.take n) := by simp [intv]
theorem intv_drop (a : List Int) (n : Nat) : (intv a).drop n = intv (a.drop n) := by simp [intv]

theorem rep_step (x : Int) (n k : Nat) (hk : k ≤ n) : List.take k (intv (List.replicate k x ++ List.replicate (n - k) 0)) ++ (List.take (n - k) (List.take k (intv (List.replicate k x ++ List.replicate (n - k) 0))) ++ List.drop (k + min (n - k) k) (intv (List.replicate k x ++ List.replicate (n - k) 0))) = intv (List.replicate (k + min k (n - k)) x ++ List.replicate (n - (k + min k (n - k))) 0) := by
  have t1 : List.take k (List.replicate k x ++ List.replicate (n - k) 0) = List.replicate k x := List.take_left' (by simp)
  have t2 : List.drop (k + min (n - k) k) (List.replicate k x ++ List.replicate (n - k) 0) = List.replicate (n - (k + min k (n - k))) 0 := by
    rw [List.drop_append, List.drop_of_length_le (by simp)]
    simp
    omega
  rw [intv_take, intv_take, intv_drop, t1, t2, ← intv_app, ← intv_app, List.take_replicate, ← List.append_assoc, List.replicate_append_replicate, Nat.min_comm (n - k) k]

set_option maxRecDepth 8000 in
set_option maxHeartbeats 4000000 in
theorem TRepeat_ok (x : Int) (n : Nat) (h0 : 1 ≤ n) (h : n ≤ 8) : ECalls Tryd.prog 27 [IL [x], I .i64 n] [] fun y H' => H' = [some (IO (List.replicate n x))] ∧ y = IR 0 (List.replicate n x) := by
  have wn : IntKind.u64.wrap (n : Int) = n := wrap_u64 (by omega) (by omega)
  have w1 : IntKind.u64.wrap 1 = 1 := rfl
  have wi : IntKind.i64.wrap (n : Int) = n := wrap_i64 (by omega) (by omega)
  refine ecalls k_TRepeat ?_
  have g0 : ¬ (n : Int) < 0 := by omega
  simp [c_TRepeat, IL, I, wn, w1, g0]
  refine call0 (BMul_ok n h) (by simp [I, EV.lit, Ptr, IL, CV, cfgC, cfgT]) ?_
  rintro y H' ⟨rfl, rfl⟩
  refine ⟨.inl (by simp [I, EV.lit, Ptr, IL, CV, cfgC, cfgT]), le_ok rfl, ?_⟩
  simp [I, EV.lit, Ptr, IL, CV, cfgC, cfgT]
  have g1 : ¬ (9223372036854775807 : Int) < (n : Int) := by omega
  have m1 : min 1 n = 1 := by omega
  have m2 : min n 1 = 1 := by omega
  have tk : (List.take n [[FV.lit (Value.int .i64 x)]]) = [[FV.lit (Value.int .i64 x)]] := List.take_of_length_le (by simp; omega)
  simp [g1, wi, intv, m1, m2, tk]
  refine ⟨by omega, by omega, ?_⟩
  refine eloop (α := Nat) (fun k => 1 ≤ k ∧ k ≤ n) (fun k => n - k)
    (fun k => [.any, .any, .any, .any, .any, .any, .any, .v (.c (.row 0 n)), I .i64 k, .any, .any, .any, .any, .any, .any, .any, .any, .any, .any, .any, .any, .any, .any, .any, .any, .any, .any, .any, .any, .any, .any, .any, .any, .any, .any, .any, .any, .any, .any, .any, .any, .any, .any, .any, .any, .any, .any, .any]) (fun k => [some (.row 3 1 (intv (List.replicate k x ++ List.replicate (n - k) 0)))]) 1 [352]
    ⟨by omega, h0⟩ (by simp [I]) (by simp [intv]) (by simp) (by simp) (by simp) ?_
  rintro k ⟨hk1, hk⟩
  simp [I]
  refine alt (fun hlt => ?_) (fun hlt => ?_)
  · have hk0 : ¬ k = 0 := by omega
    have w3 : IntKind.i64.wrap ((k : Int) + (min k (n - k) : Nat)) = ((k + min k (n - k) : Nat) : Int) := wrap_i64 (by omega) (by omega)
    simp [hk0, hlt, hk, -Int.natCast_add, w3]
    refine ⟨by omega, ?_⟩
    rw [rep_step x n k hk]
    exact round (k + min k (n - k)) [0] ⟨by omega, by omega⟩ (by omega) (by simp [I]) (by simp) (by simp) (by simp) (by simp)
  · have hkn : k = n := by omega
    subst hkn
    simp [IR, IO]
    exact fin [0] (by decide) rfl rfl rfl ⟨rfl, rfl⟩

theorem TClone_ok (l : List Int) (hl : l.length ≤ 100000000) : ECalls Tryd.prog 32 [IL l] [] fun y H' => H' = [some (IO l)] ∧ y = IR 0 l := by
  refine ecalls k_TClone ?_
  simp [c_TClone, IL]
  refine both (fun h => ?_) (fun _ => ?_)
  · simp
    refine finW _ (weak_nilR 2 3 1 rfl (by omega)) ?_
    exact fin [64] (by decide) rfl rfl rfl ⟨by rw [h]; rfl, by rw [h]; rfl⟩
  · simp
    exact ⟨by omega, fin [80] (by decide) rfl rfl rfl ⟨rfl, rfl⟩⟩

end Go.Proofs.YtoomdgmggkcgfaaDoor
