import Derived.Test.YtdeeophiffchjaaDoorAll6
namespace Go.Proofs.YtdeeophiffchjaaDoor
open Go Go.EW
set_option linter.unusedSimpArgs false
set_option linter.unusedVariables false

def zU64 : List Value := List.replicate 64 (.int .u8 0)
def Z64 : List UInt8 := List.replicate 64 0
@[simp] theorem zU64_litc : zU64.map litc = hc Z64 := rfl
@[simp] theorem zU64_litc' : List.map (fun v => EC.fz (FV.lit v)) zU64 = hc Z64 := rfl
@[simp] theorem Z64_len : Z64.length = 64 := rfl

@[simp] def l_BWrite_1 (_ : Unit) : List EOp := [⟨0, (some 5), none, (.q (.mov (.t 0))), []⟩, ⟨1, (some 6), none, (.q (.eqp false (.t 5))), []⟩]
@[simp] def b_BWrite_2 (_ : Unit) : EB := reg0 (hid l_BWrite_1) 2
@[simp] def b_BWrite_3 (_ : Unit) : EB := .cond (.t 6) .ret .skip
@[simp] def b_BWrite_4 (_ : Unit) : EB := .seq (hid b_BWrite_2) (hid b_BWrite_3)
@[simp] def l_BWrite_6 (_ : Unit) : List EOp := [⟨6, (some 13), none, (.q (.bin .add (.t 10) (.t 12))), []⟩, ⟨7, (some 14), none, (.q (.nilc (.t 7))), []⟩, ⟨8, (some 15), none, (.q (.fad 10 (.t 14))), []⟩, ⟨9, none, none, (.sto 1 (.t 15) (.t 13)), []⟩]
@[simp] def l_BWrite_5 (_ : Unit) : List EOp := ⟨0, (some 7), none, (.q (.mov (.t 0))), []⟩ :: ⟨1, (some 8), none, (.q (.nilc (.t 7))), []⟩ :: ⟨2, (some 9), none, (.q (.fad 10 (.t 8))), []⟩ :: ⟨3, (some 10), none, (.q (.ldc (.t 9))), []⟩ :: ⟨4, (some 11), none, (.q (.mov (.t 1))), []⟩ :: ⟨5, (some 12), none, (.q (.len (.t 11))), []⟩ :: hid l_BWrite_6
@[simp] def b_BWrite_7 (_ : Unit) : EB := reg0 (hid l_BWrite_5) 10
@[simp] def l_BWrite_8 (_ : Unit) : List EOp := [⟨0, (some 16), none, (.q (.mov (.t 1))), []⟩, ⟨1, (some 17), none, (.q (.len (.t 16))), []⟩, ⟨2, (some 18), none, (.q (.bin .gtr (.t 17) (.k (.int .i64 0)))), []⟩]
@[simp] def b_BWrite_9 (_ : Unit) : EB := reg0 (hid l_BWrite_8) 3
@[simp] def b_BWrite_10 (_ : Unit) : EB := .cond (.t 18) .skip (.exit 0)
@[simp] def b_BWrite_11 (_ : Unit) : EB := .seq (hid b_BWrite_9) (hid b_BWrite_10)
@[simp] def l_BWrite_12 (_ : Unit) : List EOp := [⟨0, (some 19), none, (.q (.mov (.t 0))), []⟩, ⟨1, (some 20), none, (.q (.nilc (.t 19))), []⟩, ⟨2, (some 21), none, (.q (.fad 8 (.t 20))), []⟩, ⟨3, (some 22), none, (.q (.ldc (.t 21))), []⟩, ⟨4, (some 23), none, (.q (.len (.t 22))), []⟩, ⟨5, (some 24), none, (.q (.bin .eql (.t 23) (.k (.int .i64 64)))), []⟩]
@[simp] def b_BWrite_13 (_ : Unit) : EB := reg0 (hid l_BWrite_12) 6
@[simp] def l_BWrite_15 (_ : Unit) : List EOp := [⟨6, (some 31), none, (.q (.fad 9 (.t 30))), []⟩, ⟨7, none, none, (.sto 1 (.t 31) (.t 29)), []⟩]
@[simp] def l_BWrite_14 (_ : Unit) : List EOp := ⟨0, (some 25), none, (.q (.mov (.t 0))), []⟩ :: ⟨1, (some 26), none, (.q (.nilc (.t 25))), []⟩ :: ⟨2, (some 27), none, (.q (.fad 9 (.t 26))), []⟩ :: ⟨3, (some 28), none, (.q (.ldc (.t 27))), []⟩ :: ⟨4, (some 29), none, (.q (.bin .add (.t 28) (.k (.int .u64 64)))), []⟩ :: ⟨5, (some 30), none, (.q (.nilc (.t 25))), []⟩ :: hid l_BWrite_15
@[simp] def b_BWrite_16 (_ : Unit) : EB := reg0 (hid l_BWrite_14) 8
@[simp] def l_BWrite_19 (_ : Unit) : List EOp := [⟨12, (some 44), none, (.q (.ldc (.t 43))), []⟩, ⟨13, (some 45), none, (.call 54 [(.t 34), (.t 40), (.t 44), (.k (.bool false))]), []⟩]
@[simp] def l_BWrite_18 (_ : Unit) : List EOp := ⟨6, (some 38), none, (.q (.ldc (.t 37))), []⟩ :: ⟨7, (some 39), none, (.q (.s2a 64 1 (.t 38))), []⟩ :: ⟨8, (some 40), none, (.q (.lda 64 (.t 39))), []⟩ :: ⟨9, (some 41), none, (.q (.mov (.t 0))), []⟩ :: ⟨10, (some 42), none, (.q (.nilc (.t 41))), []⟩ :: ⟨11, (some 43), none, (.q (.fad 9 (.t 42))), []⟩ :: hid l_BWrite_19
@[simp] def l_BWrite_17 (_ : Unit) : List EOp := ⟨0, (some 32), none, (.q (.mov (.t 0))), []⟩ :: ⟨1, (some 33), none, (.q (.nilc (.t 32))), []⟩ :: ⟨2, (some 34), none, (.q (.fad 0 (.t 33))), []⟩ :: ⟨3, (some 35), none, (.q (.mov (.t 0))), []⟩ :: ⟨4, (some 36), none, (.q (.nilc (.t 35))), []⟩ :: ⟨5, (some 37), none, (.q (.fad 8 (.t 36))), []⟩ :: hid l_BWrite_18
@[simp] def b_BWrite_20 (_ : Unit) : EB := reg0 (hid l_BWrite_17) 14
@[simp] def l_BWrite_22 (_ : Unit) : List EOp := [⟨6, (some 52), none, (.q (.nilc (.t 46))), []⟩, ⟨7, (some 53), none, (.q (.fad 8 (.t 52))), []⟩, ⟨8, none, none, (.fz (.sto 1 (.t 53) (.t 51))), []⟩]
@[simp] def l_BWrite_21 (_ : Unit) : List EOp := ⟨0, (some 46), none, (.q (.mov (.t 0))), []⟩ :: ⟨1, (some 47), none, (.q (.mov (.t 0))), []⟩ :: ⟨2, (some 48), none, (.q (.nilc (.t 47))), []⟩ :: ⟨3, (some 49), none, (.q (.fad 8 (.t 48))), []⟩ :: ⟨4, (some 50), none, (.q (.ldc (.t 49))), []⟩ :: ⟨5, (some 51), none, (.q (.ssl 1 (.t 50) none (some (.k (.int .i64 0))))), []⟩ :: hid l_BWrite_22
@[simp] def b_BWrite_23 (_ : Unit) : EB := reg0 (hid l_BWrite_21) 9
@[simp] def b_BWrite_24 (_ : Unit) : EB := .seq (hid b_BWrite_20) (hid b_BWrite_23)
@[simp] def b_BWrite_25 (_ : Unit) : EB := .seq (hid b_BWrite_16) (hid b_BWrite_24)
@[simp] def b_BWrite_26 (_ : Unit) : EB := .cond (.t 24) (hid b_BWrite_25) .skip
@[simp] def b_BWrite_27 (_ : Unit) : EB := .seq (hid b_BWrite_13) (hid b_BWrite_26)
@[simp] def l_BWrite_29 (_ : Unit) : List EOp := [⟨6, (some 60), none, (.q (.len (.t 59))), []⟩, ⟨7, (some 61), none, (.q (.bin .sub (.k (.int .i64 64)) (.t 60))), []⟩, ⟨8, (some 62), none, (.q (.minmax false [(.t 55), (.t 61)])), []⟩, ⟨9, (some 4), none, (.q (.mov (.t 62))), []⟩]
@[simp] def l_BWrite_28 (_ : Unit) : List EOp := ⟨0, (some 54), none, (.q (.mov (.t 1))), []⟩ :: ⟨1, (some 55), none, (.q (.len (.t 54))), []⟩ :: ⟨2, (some 56), none, (.q (.mov (.t 0))), []⟩ :: ⟨3, (some 57), none, (.q (.nilc (.t 56))), []⟩ :: ⟨4, (some 58), none, (.q (.fad 8 (.t 57))), []⟩ :: ⟨5, (some 59), none, (.q (.ldc (.t 58))), []⟩ :: hid l_BWrite_29
@[simp] def b_BWrite_30 (_ : Unit) : EB := reg0 (hid l_BWrite_28) 10
@[simp] def l_BWrite_32 (_ : Unit) : List EOp := [⟨6, (some 69), none, (.q (.mov (.t 4))), []⟩, ⟨7, (some 70), none, (.q (.ssl 1 (.t 68) none (some (.t 69)))), []⟩, ⟨8, (some 71), none, (.app 5 1 1 (.t 67) (.t 70)), [0]⟩, ⟨9, (some 72), none, (.q (.nilc (.t 63))), []⟩, ⟨10, (some 73), none, (.q (.fad 8 (.t 72))), []⟩, ⟨11, none, none, (.fz (.sto 1 (.t 73) (.t 71))), []⟩]
@[simp] def l_BWrite_31 (_ : Unit) : List EOp := ⟨0, (some 63), none, (.q (.mov (.t 0))), []⟩ :: ⟨1, (some 64), none, (.q (.mov (.t 0))), []⟩ :: ⟨2, (some 65), none, (.q (.nilc (.t 64))), []⟩ :: ⟨3, (some 66), none, (.q (.fad 8 (.t 65))), []⟩ :: ⟨4, (some 67), none, (.q (.ldc (.t 66))), []⟩ :: ⟨5, (some 68), none, (.q (.mov (.t 1))), []⟩ :: hid l_BWrite_32
@[simp] def b_BWrite_33 (_ : Unit) : EB := reg1 (hid l_BWrite_31) 12
@[simp] def l_BWrite_34 (_ : Unit) : List EOp := [⟨0, (some 74), none, (.q (.mov (.t 1))), []⟩, ⟨1, (some 75), none, (.q (.mov (.t 4))), []⟩, ⟨2, (some 76), none, (.q (.ssl 1 (.t 74) (some (.t 75)) none)), []⟩, ⟨3, (some 1), none, (.q (.mov (.t 76))), []⟩]
@[simp] def b_BWrite_35 (_ : Unit) : EB := reg0 (hid l_BWrite_34) 4
@[simp] def b_BWrite_36 (_ : Unit) : EB := .seq (hid b_BWrite_33) (hid b_BWrite_35)
@[simp] def b_BWrite_37 (_ : Unit) : EB := .seq (hid b_BWrite_30) (hid b_BWrite_36)
@[simp] def b_BWrite_38 (_ : Unit) : EB := .seq (hid b_BWrite_27) (hid b_BWrite_37)
@[simp] def b_BWrite_39 (_ : Unit) : EB := .block 1 (hid b_BWrite_38)
@[simp] def b_BWrite_40 (_ : Unit) : EB := .seq (hid b_BWrite_11) (hid b_BWrite_39)
@[simp] def b_BWrite_41 (_ : Unit) : EB := .loop (hid b_BWrite_40)
@[simp] def b_BWrite_42 (_ : Unit) : EB := .block 0 (hid b_BWrite_41)
@[simp] def b_BWrite_43 (_ : Unit) : EB := .seq (hid b_BWrite_7) (hid b_BWrite_42)
@[simp] def b_BWrite_44 (_ : Unit) : EB := .seq (hid b_BWrite_4) (hid b_BWrite_43)
def c_BWrite : EB × List QOp × Nat := ((hid b_BWrite_44), [], 77)
theorem k_BWrite : cfun Tryd.prog 46 = some c_BWrite := by kernel_rfl

@[simp] def l_BSumM_1 (_ : Unit) : List EOp := [⟨0, (some 2), none, (.q (.alloc 35 zU8)), []⟩]
@[simp] def b_BSumM_2 (_ : Unit) : EB := reg0 (hid l_BSumM_1) 1
@[simp] def l_BSumM_3 (_ : Unit) : List EOp := [⟨0, (some 3), none, (.q (.alloc 35 zU8)), []⟩]
@[simp] def b_BSumM_4 (_ : Unit) : EB := reg0 (hid l_BSumM_3) 1
@[simp] def l_BSumM_5 (_ : Unit) : List EOp := [⟨0, (some 7), none, (.q (.mov (.t 0))), []⟩, ⟨1, (some 8), none, (.q (.eqp false (.t 7))), []⟩]
@[simp] def b_BSumM_6 (_ : Unit) : EB := reg0 (hid l_BSumM_5) 2
@[simp] def l_BSumM_7 (_ : Unit) : List EOp := [⟨0, (some 9), none, (.q (.lda 32 (.t 3))), []⟩, ⟨1, none, none, (.sto 32 (.t 2) (.t 9)), []⟩]
@[simp] def b_BSumM_8 (_ : Unit) : EB := reg0 (hid l_BSumM_7) 2
@[simp] def b_BSumM_9 (_ : Unit) : EB := .seq (hid b_BSumM_8) .ret
@[simp] def b_BSumM_10 (_ : Unit) : EB := .cond (.t 8) (hid b_BSumM_9) .skip
@[simp] def b_BSumM_11 (_ : Unit) : EB := .seq (hid b_BSumM_6) (hid b_BSumM_10)
@[simp] def l_BSumM_12 (_ : Unit) : List EOp := [⟨0, (some 4), none, (.q (.alloc 113 zU64)), []⟩]
@[simp] def b_BSumM_13 (_ : Unit) : EB := reg0 (hid l_BSumM_12) 1
@[simp] def l_BSumM_14 (_ : Unit) : List EOp := [⟨0, (some 10), none, (.q (.sar 64 (.t 4) none none)), []⟩, ⟨1, (some 11), none, (.q (.mov (.t 0))), []⟩, ⟨2, (some 12), none, (.q (.nilc (.t 11))), []⟩, ⟨3, (some 13), none, (.q (.fad 8 (.t 12))), []⟩, ⟨4, (some 14), none, (.q (.ldc (.t 13))), []⟩, ⟨5, (some 15), none, (.cpy 1 (.t 10) (.t 14)), []⟩]
@[simp] def b_BSumM_15 (_ : Unit) : EB := reg0 (hid l_BSumM_14) 6
@[simp] def l_BSumM_16 (_ : Unit) : List EOp := [⟨0, (some 16), none, (.q (.mov (.t 0))), []⟩, ⟨1, (some 17), none, (.q (.nilc (.t 16))), []⟩, ⟨2, (some 18), none, (.q (.fad 0 (.t 17))), []⟩, ⟨3, (some 19), none, (.q (.lda 8 (.t 18))), []⟩, ⟨4, (some 5), none, (.q (.alloc 92 [(.int .u32 0), (.int .u32 0), (.int .u32 0), (.int .u32 0), (.int .u32 0), (.int .u32 0), (.int .u32 0), (.int .u32 0)])), []⟩, ⟨5, none, none, (.sto 8 (.t 5) (.t 19)), []⟩]
@[simp] def b_BSumM_17 (_ : Unit) : EB := reg0 (hid l_BSumM_16) 6
@[simp] def l_BSumM_20 (_ : Unit) : List EOp := [⟨12, (some 32), none, (.call 54 [(.t 5), (.t 20), (.t 31), (.k (.bool true))]), []⟩]
@[simp] def l_BSumM_19 (_ : Unit) : List EOp := ⟨6, (some 26), none, (.q (.nilc (.t 25))), []⟩ :: ⟨7, (some 27), none, (.q (.fad 8 (.t 26))), []⟩ :: ⟨8, (some 28), none, (.q (.ldc (.t 27))), []⟩ :: ⟨9, (some 29), none, (.q (.len (.t 28))), []⟩ :: ⟨10, (some 30), none, (.q (.cnv .u64 (.t 29))), []⟩ :: ⟨11, (some 31), none, (.q (.bin .add (.t 24) (.t 30))), []⟩ :: hid l_BSumM_20
@[simp] def l_BSumM_18 (_ : Unit) : List EOp := ⟨0, (some 20), none, (.q (.lda 64 (.t 4))), []⟩ :: ⟨1, (some 21), none, (.q (.mov (.t 0))), []⟩ :: ⟨2, (some 22), none, (.q (.nilc (.t 21))), []⟩ :: ⟨3, (some 23), none, (.q (.fad 9 (.t 22))), []⟩ :: ⟨4, (some 24), none, (.q (.ldc (.t 23))), []⟩ :: ⟨5, (some 25), none, (.q (.mov (.t 0))), []⟩ :: hid l_BSumM_19
@[simp] def b_BSumM_21 (_ : Unit) : EB := reg0 (hid l_BSumM_18) 13
@[simp] def l_BSumM_22 (_ : Unit) : List EOp := [⟨0, (some 33), none, (.q (.mov (.k (.int .i64 0)))), []⟩]
@[simp] def b_BSumM_23 (_ : Unit) : EB := reg0 (hid l_BSumM_22) 1
@[simp] def l_BSumM_24 (_ : Unit) : List EOp := [⟨0, (some 34), none, (.q (.bin .lss (.t 33) (.k (.int .i64 32)))), []⟩]
@[simp] def b_BSumM_25 (_ : Unit) : EB := reg0 (hid l_BSumM_24) 1
@[simp] def b_BSumM_26 (_ : Unit) : EB := .cond (.t 34) .skip (.exit 0)
@[simp] def l_BSumM_27 (_ : Unit) : List EOp := [⟨0, (some 35), none, (.q (.mov (.t 33))), []⟩, ⟨1, (some 6), none, (.q (.mov (.t 35))), []⟩]
@[simp] def b_BSumM_28 (_ : Unit) : EB := reg0 (hid l_BSumM_27) 2
@[simp] def l_BSumM_30 (_ : Unit) : List EOp := [⟨6, (some 42), none, (.q (.bin .rem (.t 41) (.k (.int .i64 4)))), []⟩, ⟨7, (some 43), none, (.q (.bin .mul (.k (.int .i64 8)) (.t 42))), []⟩, ⟨8, (some 44), none, (.q (.bin .shr (.t 40) (.t 43))), []⟩, ⟨9, (some 45), none, (.q (.cnv .u8 (.t 44))), []⟩, ⟨10, (some 46), none, (.q (.iad 32 1 (.t 3) (.t 36))), []⟩, ⟨11, none, none, (.sto 1 (.t 46) (.t 45)), []⟩]
@[simp] def l_BSumM_29 (_ : Unit) : List EOp := ⟨0, (some 36), none, (.q (.mov (.t 6))), []⟩ :: ⟨1, (some 37), none, (.q (.mov (.t 6))), []⟩ :: ⟨2, (some 38), none, (.q (.bin .quo (.t 37) (.k (.int .i64 4)))), []⟩ :: ⟨3, (some 39), none, (.q (.iad 8 1 (.t 5) (.t 38))), []⟩ :: ⟨4, (some 40), none, (.q (.ldc (.t 39))), []⟩ :: ⟨5, (some 41), none, (.q (.mov (.t 6))), []⟩ :: hid l_BSumM_30
@[simp] def b_BSumM_31 (_ : Unit) : EB := reg0 (hid l_BSumM_29) 12
@[simp] def b_BSumM_32 (_ : Unit) : EB := .seq (hid b_BSumM_28) (hid b_BSumM_31)
@[simp] def b_BSumM_33 (_ : Unit) : EB := .block 1 (hid b_BSumM_32)
@[simp] def l_BSumM_34 (_ : Unit) : List EOp := [⟨0, (some 47), none, (.q (.bin .add (.t 33) (.k (.int .i64 1)))), []⟩, ⟨1, (some 33), none, (.q (.mov (.t 47))), []⟩]
@[simp] def b_BSumM_35 (_ : Unit) : EB := reg0 (hid l_BSumM_34) 2
@[simp] def b_BSumM_36 (_ : Unit) : EB := .seq (hid b_BSumM_33) (hid b_BSumM_35)
@[simp] def b_BSumM_37 (_ : Unit) : EB := .seq (hid b_BSumM_26) (hid b_BSumM_36)
@[simp] def b_BSumM_38 (_ : Unit) : EB := .seq (hid b_BSumM_25) (hid b_BSumM_37)
@[simp] def b_BSumM_39 (_ : Unit) : EB := .loop (hid b_BSumM_38)
@[simp] def b_BSumM_40 (_ : Unit) : EB := .block 0 (hid b_BSumM_39)
@[simp] def b_BSumM_41 (_ : Unit) : EB := .seq (hid b_BSumM_23) (hid b_BSumM_40)
@[simp] def l_BSumM_42 (_ : Unit) : List EOp := [⟨0, (some 48), none, (.q (.lda 32 (.t 3))), []⟩, ⟨1, none, none, (.sto 32 (.t 2) (.t 48)), []⟩]
@[simp] def b_BSumM_43 (_ : Unit) : EB := reg0 (hid l_BSumM_42) 2
@[simp] def b_BSumM_44 (_ : Unit) : EB := .seq (hid b_BSumM_43) .ret
@[simp] def b_BSumM_45 (_ : Unit) : EB := .seq (hid b_BSumM_41) (hid b_BSumM_44)
@[simp] def b_BSumM_46 (_ : Unit) : EB := .seq (hid b_BSumM_21) (hid b_BSumM_45)
@[simp] def b_BSumM_47 (_ : Unit) : EB := .seq (hid b_BSumM_17) (hid b_BSumM_46)
@[simp] def b_BSumM_48 (_ : Unit) : EB := .seq (hid b_BSumM_15) (hid b_BSumM_47)
@[simp] def b_BSumM_49 (_ : Unit) : EB := .seq (hid b_BSumM_13) (hid b_BSumM_48)
@[simp] def b_BSumM_50 (_ : Unit) : EB := .seq (hid b_BSumM_11) (hid b_BSumM_49)
@[simp] def b_BSumM_51 (_ : Unit) : EB := .seq (hid b_BSumM_4) (hid b_BSumM_50)
@[simp] def b_BSumM_52 (_ : Unit) : EB := .seq (hid b_BSumM_2) (hid b_BSumM_51)
def c_BSumM : EB × List QOp × Nat := ((hid b_BSumM_52), [(.lda 32 (.t 2))], 49)
theorem k_BSumM : cfun Tryd.prog 47 = some c_BSumM := by kernel_rfl

@[simp] def l_BSum_1 (_ : Unit) : List EOp := [⟨0, (some 2), none, (.q (.alloc 35 zU8)), []⟩]
@[simp] def b_BSum_2 (_ : Unit) : EB := reg0 (hid l_BSum_1) 1
@[simp] def l_BSum_3 (_ : Unit) : List EOp := [⟨0, (some 4), none, (.call 45 []), []⟩, ⟨1, (some 5), none, (.q (.build [(.int .u32 0), (.int .u32 0), (.int .u32 0), (.int .u32 0), (.int .u32 0), (.int .u32 0), (.int .u32 0), (.int .u32 0), (.slice none 0 0), (.int .u64 0), (.int .i64 0)] [(0, 8, (.t 4))])), []⟩, ⟨2, (some 6), none, (.q (.box 95 (.t 5))), []⟩, ⟨3, (some 3), none, (.q (.mov (.t 6))), []⟩]
@[simp] def b_BSum_4 (_ : Unit) : EB := reg0 (hid l_BSum_3) 4
@[simp] def l_BSum_6 (_ : Unit) : List EOp := [⟨6, (some 13), none, (.q (.nilc (.t 7))), []⟩, ⟨7, (some 14), none, (.q (.fad 0 (.t 13))), []⟩, ⟨8, (some 15), none, (.q (.iad 8 1 (.t 14) (.k (.int .i64 0)))), []⟩, ⟨9, none, none, (.sto 1 (.t 15) (.t 12)), []⟩]
@[simp] def l_BSum_5 (_ : Unit) : List EOp := ⟨0, (some 7), none, (.q (.mov (.t 3))), []⟩ :: ⟨1, (some 8), none, (.q (.nilc (.t 7))), []⟩ :: ⟨2, (some 9), none, (.q (.fad 0 (.t 8))), []⟩ :: ⟨3, (some 10), none, (.q (.iad 8 1 (.t 9) (.k (.int .i64 0)))), []⟩ :: ⟨4, (some 11), none, (.q (.ldc (.t 10))), []⟩ :: ⟨5, (some 12), none, (.q (.bin .xor (.t 11) (.k (.int .u32 16842784)))), []⟩ :: hid l_BSum_6
@[simp] def b_BSum_7 (_ : Unit) : EB := reg0 (hid l_BSum_5) 10
@[simp] def l_BSum_8 (_ : Unit) : List EOp := [⟨0, (some 16), none, (.q (.mov (.t 3))), []⟩, ⟨1, (some 17), none, (.q (.mov (.t 0))), []⟩, ⟨2, (some 18), none, (.call 46 [(.t 16), (.t 17)]), []⟩]
@[simp] def b_BSum_9 (_ : Unit) : EB := reg0 (hid l_BSum_8) 3
@[simp] def l_BSum_10 (_ : Unit) : List EOp := [⟨0, (some 19), none, (.q (.mov (.t 3))), []⟩, ⟨1, (some 20), none, (.call 47 [(.t 19)]), []⟩, ⟨2, none, none, (.sto 32 (.t 2) (.t 20)), []⟩]
@[simp] def b_BSum_11 (_ : Unit) : EB := reg0 (hid l_BSum_10) 3
@[simp] def b_BSum_12 (_ : Unit) : EB := .seq (hid b_BSum_11) .ret
@[simp] def b_BSum_13 (_ : Unit) : EB := .seq (hid b_BSum_9) (hid b_BSum_12)
@[simp] def b_BSum_14 (_ : Unit) : EB := .seq (hid b_BSum_7) (hid b_BSum_13)
@[simp] def b_BSum_15 (_ : Unit) : EB := .seq (hid b_BSum_4) (hid b_BSum_14)
@[simp] def b_BSum_16 (_ : Unit) : EB := .seq (hid b_BSum_2) (hid b_BSum_15)
def c_BSum : EB × List QOp × Nat := ((hid b_BSum_16), [(.lda 32 (.t 2))], 21)
theorem k_BSum : cfun Tryd.prog 34 = some c_BSum := by kernel_rfl


/-! ### bytes written on -/
/-- The words, what waits, how many were taken in, what is still to come. -/
abbrev Wst := List UInt32 × List UInt8 × Nat × List UInt8
def wst1 (s : Wst) : Wst := if s.2.1.length = 64 then (takeS s.1 s.2.1 (s.2.2.1 + 64) false, [], s.2.2.1 + 64, s.2.2.2) else s
def wst2 (s : Wst) : Wst := (s.1, s.2.1 ++ s.2.2.2.take (min s.2.2.2.length (64 - s.2.1.length)), s.2.2.1, s.2.2.2.drop (min s.2.2.2.length (64 - s.2.1.length)))
def wstep (s : Wst) : Wst := wst2 (wst1 s)
def wrun : Nat → Wst → Wst
  | 0, s => s
  | k + 1, s => if s.2.2.2 = [] then s else wrun k (wstep s)
/-- Behind all. -/
def wall (s : Wst) : Wst := wrun s.2.2.2.length s
theorem takeS_len (h : List UInt32) (b : List UInt8) (t : Nat) (last : Bool) : (takeS h b t last).length = h.length := xorS_len _ _ _
structure Wok' (N : Nat) (s : Wst) : Prop where
  h : s.1.length = 8
  w : s.2.1.length ≤ 64
  n : s.2.1.length + s.2.2.1 + s.2.2.2.length = N
theorem wst1_ok {N : Nat} {s : Wst} (k : Wok' N s) : Wok' N (wst1 s) := by
  obtain ⟨h, w, t, r⟩ := s
  obtain ⟨k1, k2, k3⟩ := k
  unfold wst1
  dsimp only at *
  split
  · refine ⟨?_, ?_, ?_⟩
    · dsimp only; rw [takeS_len]; exact k1
    · simp
    · simp; omega
  · exact ⟨k1, k2, k3⟩
theorem wst1_lt {N : Nat} {s : Wst} (k : Wok' N s) : (wst1 s).2.1.length < 64 ∧ (wst1 s).2.2.2 = s.2.2.2 := by
  obtain ⟨h, w, t, r⟩ := s
  obtain ⟨k1, k2, k3⟩ := k
  unfold wst1
  dsimp only at *
  split
  · simp
  · exact ⟨by simp only; omega, rfl⟩
theorem wst2_ok {N : Nat} {s : Wst} (k : Wok' N s) : Wok' N (wst2 s) := by
  obtain ⟨h, w, t, r⟩ := s
  obtain ⟨k1, k2, k3⟩ := k
  unfold wst2
  dsimp only at *
  refine ⟨k1, ?_, ?_⟩
  · simp; omega
  · simp; omega
theorem wstep_ok {N : Nat} {s : Wst} (k : Wok' N s) : Wok' N (wstep s) := wst2_ok (wst1_ok k)
theorem wstep_lt {N : Nat} {s : Wst} (k : Wok' N s) (hr : s.2.2.2 ≠ []) : (wstep s).2.2.2.length < s.2.2.2.length := by
  have h1 := wst1_lt k
  have hp := List.length_pos_iff.2 hr
  unfold wstep wst2
  dsimp only
  rw [List.length_drop, h1.2]
  omega
theorem wrun_fuel {N : Nat} : ∀ (k j : Nat) {s : Wst}, Wok' N s → s.2.2.2.length ≤ k → s.2.2.2.length ≤ j → wrun k s = wrun j s
  | 0, 0, _, _, _, _ => rfl
  | 0, j + 1, s, _, h, _ => by
    have : s.2.2.2 = [] := List.eq_nil_of_length_eq_zero (by omega)
    simp [wrun, this]
  | k + 1, 0, s, _, _, h => by
    have : s.2.2.2 = [] := List.eq_nil_of_length_eq_zero (by omega)
    simp [wrun, this]
  | k + 1, j + 1, s, o, h1, h2 => by
    unfold wrun
    by_cases e : s.2.2.2 = []
    · simp [e]
    · rw [if_neg e, if_neg e]
      have := wstep_lt o e
      exact wrun_fuel k j (wstep_ok o) (by omega) (by omega)
theorem wall_nil {s : Wst} (h : s.2.2.2 = []) : wall s = s := by
  unfold wall
  rw [h]
  rfl
theorem wall_step {N : Nat} {s : Wst} (o : Wok' N s) (h : s.2.2.2 ≠ []) : wall s = wall (wstep s) := by
  have hp := List.length_pos_iff.2 h
  have hl := wstep_lt o h
  unfold wall
  obtain ⟨k, hk⟩ : ∃ k, s.2.2.2.length = k + 1 := ⟨_, (Nat.succ_pred_eq_of_pos hp).symm⟩
  rw [hk]
  conv => lhs; unfold wrun
  rw [if_neg h]
  exact wrun_fuel k _ (wstep_ok o) (by omega) (Nat.le_refl _)
theorem wall_ok {N : Nat} : ∀ (k : Nat) {s : Wst}, Wok' N s → s.2.2.2.length ≤ k → Wok' N (wall s) ∧ (wall s).2.2.2 = []
  | 0, s, o, h => by
    have : s.2.2.2 = [] := List.eq_nil_of_length_eq_zero (by omega)
    rw [wall_nil this]
    exact ⟨o, this⟩
  | k + 1, s, o, h => by
    by_cases e : s.2.2.2 = []
    · rw [wall_nil e]; exact ⟨o, e⟩
    · rw [wall_step o e]
      have := wstep_lt o e
      exact wall_ok k (wstep_ok o) (by omega)

theorem hc_bsv (l : List UInt8) : (bsv l).flatten.map EC.fz = hc l := by
  induction l with
  | nil => rfl
  | cons b r ih => simp only [bsv, List.map_cons, List.flatten_cons, cb, hc] at *; simp [ih]
theorem hc_tk {l : List UInt8} {n : Nat} (h : l.length ≤ n) : (hc l).take n = hc l := List.take_of_length_le (by rw [hc_len]; exact h)
theorem u64_nat {n : Nat} (h : n < 18446744073709551616) : IntKind.u64.wrap (n : Int) = (n : Int) := by rw [wrap_u64 (by omega) (by omega)]
theorem put10 {v : List UInt32} (h : v.length = 8) (x y z u : EC) : List.take 10 (wl v ++ [x, y, z]) ++ u :: List.drop 11 (wl v ++ [x, y, z]) = wl v ++ [x, y, u] := by
  have e : (wl v).length = 8 := by simpa using h
  rw [List.take_append, List.drop_append, e, List.take_of_length_le (by omega), List.drop_of_length_le (by omega)]
  simp
theorem put9 {v : List UInt32} (h : v.length = 8) (x y z u : EC) : List.take 9 (wl v ++ [x, y, z]) ++ u :: List.drop 10 (wl v ++ [x, y, z]) = wl v ++ [x, u, z] := by
  have e : (wl v).length = 8 := by simpa using h
  rw [List.take_append, List.drop_append, e, List.take_of_length_le (by omega), List.drop_of_length_le (by omega)]
  simp
theorem put8 {v : List UInt32} (h : v.length = 8) (x y z u : EC) : List.take 8 (wl v ++ [x, y, z]) ++ u :: List.drop 9 (wl v ++ [x, y, z]) = wl v ++ [u, y, z] := by
  have e : (wl v).length = 8 := by simpa using h
  rw [List.take_append, List.drop_append, e, List.take_of_length_le (by omega), List.drop_of_length_le (by omega)]
  simp

theorem drop9 {v : List UInt32} (h : v.length = 8) (x y z : EC) : List.drop 9 (wl v ++ [x, y, z]) = [y, z] := by
  have e : (wl v).length = 8 := by simpa using h
  rw [List.drop_append, e, List.drop_of_length_le (by omega)]
  rfl
theorem bsv_0 {w : List UInt8} (h : w.length = 64) : ∃ c, ∀ h', (bsv w)[0]'h' = cb c := by
  cases w with
  | nil => simp at h
  | cons c r => exact ⟨c, fun _ => rfl⟩
theorem i64_min (a b : Nat) : (if a < b then (a : Int) else (b : Int)) = ((min b a : Nat) : Int) := by split <;> omega

set_option maxRecDepth 8000 in
set_option maxHeartbeats 4000000 in
theorem Write_ok (h : List UInt32) (w : List UInt8) (t n : Nat) (b : List UInt8) (o : Wok' (w.length + t + b.length) (h, w, t, b)) (hb : w.length + t + b.length ≤ 1000000000) (hn : n ≤ 1000000000) :
    ECalls Tryd.prog 46 [.v (.c (.ptr 0 0)), Bs b] [SO 1 h w.length t n, RB w] fun y H' => H' = [some (SO 2 (wall (h, w, t, b)).1 (wall (h, w, t, b)).2.1.length (wall (h, w, t, b)).2.2.1 (n + b.length)), none, some (RB (wall (h, w, t, b)).2.1)] ∧ y = .tup [] := by
  obtain ⟨A, hA⟩ : ∃ A, wall (h, w, t, b) = A := ⟨_, rfl⟩
  obtain ⟨N, hN⟩ : ∃ N, n + b.length = N := ⟨_, rfl⟩
  obtain ⟨M, hM⟩ : ∃ M, w.length + t + b.length = M := ⟨_, rfl⟩
  rw [hA, hN]
  rw [hM] at o hb
  have h8 : h.length = 8 := o.h
  have wn : IntKind.i64.wrap ((n : Int) + (b.length : Int)) = (N : Int) := by rw [wrap_i64 (by omega) (by omega)]; omega
  refine ecalls k_BWrite ?_
  simp [c_BWrite, SO, RB, Bs, NV, h8, wn]
  refine eloop (α := Wst) (fun a => Wok' M a ∧ wall a = A) (fun a => a.2.2.2.length)
    (fun a => [.v (.c (.ptr 0 0)), Bs a.2.2.2, .any, .any, .any, .any, .any, .any, .any, .any, .any, .any, .any, .any, .any, .any, .any, .any, .any, .any, .any, .any, .any, .any, .any, .any, .any, .any, .any, .any, .any, .any, .any, .any, .any, .any, .any, .any, .any, .any, .any, .any, .any, .any, .any, .any, .any, .any, .any, .any, .any, .any, .any, .any, .any, .any, .any, .any, .any, .any, .any, .any, .any, .any, .any, .any, .any, .any, .any, .any, .any, .any, .any, .any, .any, .any, .any]) (fun a => [some (SO 2 a.1 a.2.1.length a.2.2.1 N), none, some (RB a.2.1)]) (h, w, t, b) [0, 1, 1]
    ⟨o, hA⟩ (by simp [Bs]) (by simp [SO, RB, put10 h8]) (by simp) (by decide) (by simp) ?_
  clear o hA wn hn hN h8 hM
  clear h w t b n
  rintro ⟨h, w, t, b⟩ ⟨o, hA⟩
  obtain ⟨h8, hw, hs⟩ := id o
  dsimp only at h8 hw hs
  simp [SO, RB, Bs, NV, h8]
  refine alt (fun hp => ?_) (fun hp => ?_)
  · have hne : (h, w, t, b).2.2.2 ≠ [] := by rintro e; simp at e; subst e; simp at hp
    have o2 := wstep_ok o
    have hlt := wstep_lt o hne
    have hA2 := (wall_step o hne).symm.trans hA
    simp [h8]
    refine alt (fun hl => ?_) (fun hl => ?_)
    · have hl' : w.length = 64 := by omega
      obtain ⟨c, hc0⟩ := bsv_0 hl'
      have wt : IntKind.u64.wrap ((t : Int) + 64) = ((t + 64 : Nat) : Int) := by rw [show (t : Int) + 64 = ((t + 64 : Nat) : Int) by omega]; exact u64_nat (by omega)
      have hcl : (hc w).length = 64 := by rw [hc_len]; exact hl'
      have hct : List.take 64 (hc w) = hc w := hc_tk (by omega)
      have m64 : (if (64 : Int) < (b.length : Int) then (64 : Int) else (b.length : Int)) = ((min b.length 64 : Nat) : Int) := by split <;> omega
      obtain ⟨k, hk⟩ : ∃ k, min b.length 64 = k := ⟨_, rfl⟩
      rw [hk] at m64
      have hs1 : wstep (h, w, t, b) = (takeS h w (t + 64) false, b.take k, t + 64, b.drop k) := by simp [wstep, wst1, wst2, hl', hk]
      rw [hs1] at o2 hlt hA2
      obtain ⟨T2, hT⟩ : ∃ T2, takeS h w (t + 64) false = T2 := ⟨_, rfl⟩
      rw [hT] at o2 hlt hA2
      have h82 : T2.length = 8 := o2.h
      simp [h8, hl', hc0, cb, wt, put9 h8, hcl, hct, -Int.natCast_add]
      refine callH [0, 2] (takeB_ok (t + 64) N w h w (t + 64) false h8 hl' (by omega)) (by simp [BV]) (by simp [SO, RB, hl']) (by simp) (by simp) (by simp) ?_
      rintro y H' ⟨rfl, rfl⟩
      refine ⟨.inl (by simp), by simp, ?_⟩
      rw [hT]
      have w64 : IntKind.i64.wrap 64 = 64 := by decide +kernel
      have hkb : k ≤ b.length := by omega
      have hk2 : min k b.length = k := by omega
      simp [SO, RB, h82, hl', w64, m64, hkb, hk2, put8 h82, drop9 h82, -Int.natCast_add]
      exact ⟨by omega, round (T2, b.take k, t + 64, b.drop k) [0, 1, 931] ⟨o2, hA2⟩ hlt (by simp) (by simp [hk2]) (by simp) (by decide) (by simp)⟩
    · have hl' : ¬ w.length = 64 := by omega
      have w64 : IntKind.i64.wrap (64 - (w.length : Int)) = ((64 - w.length : Nat) : Int) := by rw [wrap_i64 (by omega) (by omega)]; omega
      obtain ⟨k, hk⟩ : ∃ k, min b.length (64 - w.length) = k := ⟨_, rfl⟩
      have hm := i64_min (64 - w.length) b.length
      rw [hk] at hm
      have hs1 : wstep (h, w, t, b) = (h, w ++ b.take k, t, b.drop k) := by simp [wstep, wst1, wst2, hl', hk]
      rw [hs1] at o2 hlt hA2
      have hkb : k ≤ b.length := by omega
      have hk2 : min k b.length = k := by omega
      simp [h8, hl, w64, hm, hkb, hk2, put8 h8, -Int.natCast_add]
      refine ⟨by omega, ?_⟩
      exact round (h, w ++ b.take k, t, b.drop k) [0, 1, 435] ⟨o2, hA2⟩ hlt (by simp) (by simp [hk2, drop9 h8]) (by simp) (by decide) (by simp)
  · have : b = [] := List.eq_nil_of_length_eq_zero (by omega)
    subst this
    rw [wall_nil rfl] at hA
    subst hA
    simp [SO, RB]
    exact fin [2] (by decide) rfl rfl (by simp [objsOut, show List.range 2 = [0, 1] from rfl]) ⟨rfl, rfl⟩

/-! ### the sum of what was written -/
def padS (w : List UInt8) : List UInt8 := w ++ List.replicate (64 - w.length) 0
theorem padS_len {w : List UInt8} (h : w.length ≤ 64) : (padS w).length = 64 := by simp [padS]; omega
def outB (h : List UInt32) (i : Nat) : UInt8 := UInt8.ofNat ((g h (i / 4)).toNat / 2 ^ (8 * (i % 4)))
def outS (h : List UInt32) : List UInt8 := (List.range 32).map (outB h)
theorem outS_len (h : List UInt32) : (outS h).length = 32 := by simp [outS]
/-- Behind some bytes written. -/
def finS (s : Wst) : List UInt8 := outS (takeS s.1 (padS s.2.1) (s.2.2.1 + s.2.1.length) true)
def oI (h : List UInt32) (i : Nat) : List UInt8 := (List.range 32).map fun j => if j < i then outB h j else 0
theorem oI_len (h : List UInt32) (i : Nat) : (oI h i).length = 32 := by simp [oI]
theorem oI_0 (h : List UInt32) : oI h 0 = hz := by unfold oI hz; rfl
theorem oI_32 (h : List UInt32) : oI h 32 = outS h := by
  unfold oI outS
  apply List.map_congr_left
  intro j hj
  simp [List.mem_range.1 hj]
theorem oI_set (h : List UInt32) {i : Nat} (hi : i < 32) : (oI h i).set i (outB h i) = oI h (i + 1) := by
  apply List.ext_getElem?
  intro j
  by_cases hj : j < 32
  · rw [List.getElem?_set]
    by_cases he : i = j
    · subst he
      simp [oI, hj]
    · simp [oI, hj, he]
      by_cases h2 : j < i
      · rw [if_pos h2, if_pos (by omega)]
      · rw [if_neg h2, if_neg (by omega)]
  · rw [List.getElem?_eq_none (by simp [oI]; omega), List.getElem?_eq_none (by simp [oI]; omega)]
theorem u8_shr (x : UInt32) (k : Nat) : IntKind.u8.wrap (wi (shr x k)) = ((UInt8.ofNat (x.toNat / 2 ^ k)).toNat : Int) := by
  have h1 : wi (shr x k) = ((x.toNat / 2 ^ k : Nat) : Int) := by
    unfold shr
    rw [wi_ofNat]
    have h1 : x.toNat / 2 ^ k ≤ x.toNat := Nat.div_le_self _ _
    have h2 := x.toNat_lt
    generalize x.toNat / 2 ^ k = q at *
    omega
  rw [h1]
  simp [IntKind.wrap, IntKind.bits, IntKind.signed, UInt8.toNat_ofNat']
theorem hc_put {b : List UInt8} {i : Nat} {x : UInt8} (h : i < b.length) : hc (List.take i b) ++ .fz (.lit (.int .u8 (x.toNat : Int))) :: hc (List.drop (i + 1) b) = hc (b.set i x) := by
  have e : hc (b.set i x) = (hc b).set i (.fz (.lit (.int .u8 (x.toNat : Int)))) := by simp [hc, List.map_set]
  rw [e, List.set_eq_take_append_cons_drop, if_pos (by rw [hc_len]; exact h)]
  simp [hc]

set_option maxRecDepth 8000 in
set_option maxHeartbeats 4000000 in
theorem SumM_ok (h : List UInt32) (w : List UInt8) (t n : Nat) (h8 : h.length = 8) (hw : w.length ≤ 64) (ht : t ≤ 1000000000) :
    ECalls Tryd.prog 47 [.v (.c (.ptr 0 0))] [SO 1 h w.length t n, RB w] fun y H' => H' = [some (SO 1 h w.length t n), some (RB w)] ∧ y = .v (.agg (hc (finS (h, w, t, [])))) := by
  have tw : List.take 64 w = w := List.take_of_length_le hw
  have mw : min 64 w.length = w.length := by omega
  have hp : hc w ++ hc (List.drop w.length Z64) = hc (padS w) := by simp [-List.reduceReplicate, hc, padS, Z64]
  have pl := padS_len hw
  have tp : List.take 64 (hc (padS w)) = hc (padS w) := hc_tk (by omega)
  have wl' : IntKind.u64.wrap (w.length : Int) = (w.length : Int) := u64_nat (by omega)
  have wt : IntKind.u64.wrap ((t : Int) + (w.length : Int)) = ((t + w.length : Nat) : Int) := by rw [show (t : Int) + (w.length : Int) = ((t + w.length : Nat) : Int) by omega]; exact u64_nat (by omega)
  refine ecalls k_BSumM ?_
  simp [c_BSumM, SO, RB, NV, h8, tw, mw, hp, tp, pl, wl', wt, -Int.natCast_add]
  refine callH [242] (btake_ok h (padS w) (t + w.length) true h8 pl (by omega)) (by simp [BV]) (by simp [HO]) (by simp) (by simp) (by simp) ?_
  rintro y H' ⟨rfl, rfl⟩
  refine ⟨.inl (by simp), by simp, ?_⟩
  have hf : finS (h, w, t, []) = outS (takeS h (padS w) (t + w.length) true) := rfl
  obtain ⟨A, hA⟩ : ∃ A, takeS h (padS w) (t + w.length) true = A := ⟨_, rfl⟩
  have a8 : A.length = 8 := by rw [← hA, takeS_len]; exact h8
  rw [hf, hA]
  simp [HO]
  refine eloop (α := Nat) (fun i => i ≤ 32) (fun i => 32 - i)
    (fun i => [.v (.c (.ptr 0 0)), .any, .v (.c (.ptr 2 0)), .v (.c (.ptr 3 0)), .any, .v (.c (.ptr 4 0)), .any, .any, .any, .any, .any, .any, .any, .any, .any, .any, .any, .any, .any, .any, .any, .any, .any, .any, .any, .any, .any, .any, .any, .any, .any, .any, .any, NV i, .any, .any, .any, .any, .any, .any, .any, .any, .any, .any, .any, .any, .any, .any, .any])
    (fun i => [some (SO 1 h w.length t n), some (RB w), some (.box 35 (hc hz)), some (.box 35 (hc (oI A i))), some (HO A)]) 0 [0, 1, 2, 18, 242]
    (by omega) (by simp [NV]) (by simp [SO, RB, HO, oI_0]) (by simp [SO, RB, HO]) (by decide) (by simp) ?_
  intro i hi
  simp [SO, RB, HO, NV]
  refine alt (fun hp => ?_) (fun hp => ?_)
  · have il : i < 32 := by omega
    have q1 : i / 4 < 8 := by omega
    have q1' : i / 4 ≤ 7 := by omega
    have q2 : (i : Int).tdiv 4 = ((i / 4 : Nat) : Int) := rfl
    have q3 : (i : Int).tmod 4 = ((i % 4 : Nat) : Int) := rfl
    have q4 : IntKind.i64.wrap ((i / 4 : Nat) : Int) = ((i / 4 : Nat) : Int) := wrap_i64 (by omega) (by omega)
    have q5 : IntKind.i64.wrap (8 * ((i % 4 : Nat) : Int)) = ((8 * (i % 4) : Nat) : Int) := by rw [wrap_i64 (by omega) (by omega)]; omega
    have wi1 : IntKind.i64.wrap ((i : Int) + 1) = ((i + 1 : Nat) : Int) := wrap_i64 (by omega) (by omega)
    obtain ⟨d, hd⟩ : ∃ d, i / 4 = d := ⟨_, rfl⟩
    obtain ⟨k, hk⟩ : ∃ k, 8 * (i % 4) = k := ⟨_, rfl⟩
    rw [hd] at q1 q1' q2 q4
    rw [hk] at q5
    have d8 : (d : Int) < 8 := by omega
    have sh := wi_shr (g A d) k (by omega)
    have ou : IntKind.u8.wrap (wi (shr (g A d) k)) = ((outB A i).toNat : Int) := by unfold outB; rw [hd, hk]; exact u8_shr _ _
    simp [q2, q3, q4, q5, wi1, q1, q1', d8, a8, wl_gE, sh, ou, oI_len, il, hc_put, -Int.natCast_add, -Int.natCast_mul, -Int.natCast_ediv, -Int.natCast_emod]
    exact ⟨by omega, by omega, round (i + 1) [0, 1, 2, 3, 4] (by omega) (by omega) (by simp [NV]) (by simp [SO, RB, HO, hc_put, oI_len, il, oI_set A il]) (by simp [SO, RB, HO]) (by decide) (by simp)⟩
  · have h32 : i = 32 := by omega
    subst h32
    simp [oI_32, outS_len]
    exact fin [] (by decide) rfl rfl (by simp [objsOut, show List.range 2 = [0, 1] from rfl]) ⟨rfl, rfl⟩

def ini8 : List UInt32 := firstW.set 0 (g firstW 0 ^^^ 0x01010020)
def w00 (b : List UInt8) : Wst := (ini8, [], 0, b)
/-- The sum of bytes. -/
def sumS (b : List UInt8) : List UInt8 := finS (wall (w00 b))
theorem sumS_len (b : List UInt8) : (sumS b).length = 32 := outS_len _
theorem w00_ok (b : List UInt8) : Wok' (([] : List UInt8).length + 0 + b.length) (w00 b) := ⟨rfl, by simp [w00], by simp [w00]⟩

theorem Write0_ok (b : List UInt8) (hb : b.length ≤ 1000000000) :
    ECalls Tryd.prog 46 [.v (.c (.ptr 0 0)), Bs b] [.box 95 (wl ini8 ++ [.fz (.lit (.slice none 0 0)), .fz (.lit (.int .u64 0)), .fz (.lit (.int .i64 0))])] fun y H' => H' = [some (SO 2 (wall (w00 b)).1 (wall (w00 b)).2.1.length (wall (w00 b)).2.2.1 (0 + b.length)), none, some (RB (wall (w00 b)).2.1)] ∧ y = .tup [] :=
  ecalls_nilB 0 8 rfl rfl (by omega) (Write_ok ini8 [] 0 0 b (w00_ok b) (by simpa using hb) (by omega))

set_option maxRecDepth 8000 in
set_option maxHeartbeats 4000000 in
theorem BSum_ok (b : List UInt8) (hb : b.length ≤ 100000000) : ECalls Tryd.prog 34 [Bs b] [] fun y H' => H' = [] ∧ y = .v (.agg (hc (sumS b))) := by
  obtain ⟨⟨o8, ow, os⟩, oe⟩ := wall_ok b.length (w00_ok b) (Nat.le_refl _)
  have hl := hc_tk (show (sumS b).length ≤ 32 by rw [sumS_len]; omega)
  have hx : ibit .xor .u32 (wi (g firstW 0)) 16842784 = wi (g firstW 0 ^^^ 0x01010020) := wi_xor (g firstW 0) 0x01010020
  have fl : firstW.length = 8 := rfl
  have g0 : ∀ (r : List EC) h', (wl firstW ++ r)[0]'h' = .fz (.lit (.int .u32 (wi (g firstW 0)))) := fun r h' => wl_gER (by decide) h'
  have p0 : ∀ r : List EC, EC.fz (.lit (.int .u32 (wi (g firstW 0 ^^^ 0x01010020)))) :: List.drop 1 (wl firstW ++ r) = wl ini8 ++ r := fun r => wl_putR (v := firstW) (i := 0) (by decide)
  have p0' : ∀ r : List EC, EC.fz (.lit (.int .u32 (wi (g firstW 0 ^^^ 0x01010020)))) :: (wl firstW ++ r).tail = wl ini8 ++ r := fun r => by rw [← List.drop_one]; exact p0 r
  refine ecalls k_BSum ?_
  simp [c_BSum, Bs, NV]
  refine call0 first_ok (by simp) ?_
  rintro y H' ⟨rfl, rfl⟩
  refine ⟨.inl (by simp), le_ok rfl, ?_⟩
  simp [NV, fl, g0, hx, p0, p0']
  refine callH [48] (Write0_ok b (by omega)) (by simp [Bs]) (by simp) (by simp) (by simp) (by simp) ?_
  rintro y H' ⟨rfl, rfl⟩
  refine ⟨.inl (by simp), by simp, ?_⟩
  simp [NV, SO, RB]
  refine callH [48, 273] (SumM_ok (wall (w00 b)).1 (wall (w00 b)).2.1 (wall (w00 b)).2.2.1 b.length o8 ow (by simp at os; omega)) (by simp) (by simp [SO, RB]) (by simp) (by simp) (by simp) ?_
  rintro y H' ⟨rfl, rfl⟩
  refine ⟨.inl (by simp), by simp, ?_⟩
  have hs : finS ((wall (w00 b)).1, (wall (w00 b)).2.1, (wall (w00 b)).2.2.1, []) = sumS b := rfl
  simp [NV, SO, RB, hs, hl, sumS_len]
  exact fin [] (by decide) rfl rfl (by simp [objsOut]) ⟨rfl, rfl⟩

end Go.Proofs.YtdeeophiffchjaaDoor

namespace Go.Proofs.YtdeeophiffchjaaDoor
open Go Go.EW
set_option linter.unusedSimpArgs false
set_option linter.unusedVariables false

/-! ### ranks -/
def rkF : Nat → Nat → Nat
  | 0, _ => 0
  | k + 1, n => if n % 2 = 0 then rkF k (n / 2) + 1 else 0
/-- How many of the lowest bits are 0 (40 at most). -/
def rk (n : Nat) : Nat := rkF 40 n
theorem rkF_le : ∀ (k n : Nat), rkF k n ≤ k
  | 0, _ => Nat.le_refl _
  | k + 1, n => by
    unfold rkF
    split
    · have := rkF_le k (n / 2); omega
    · omega
theorem rk_le (n : Nat) : rk n ≤ 40 := rkF_le 40 n
theorem rkF_dvd : ∀ (k n : Nat), 2 ^ rkF k n ∣ n
  | 0, n => by simp [rkF]
  | k + 1, n => by
    unfold rkF
    split
    · rename_i h
      obtain ⟨c, hc⟩ := rkF_dvd k (n / 2)
      refine ⟨c, ?_⟩
      rw [Nat.pow_succ, Nat.mul_assoc, Nat.mul_comm 2 c, ← Nat.mul_assoc, ← hc]
      omega
    · simp
theorem rkF_odd : ∀ (k n : Nat), rkF k n < k → n / 2 ^ rkF k n % 2 = 1
  | 0, n, h => by omega
  | k + 1, n, h => by
    unfold rkF at h ⊢
    split
    · rename_i h2
      rw [if_pos h2] at h
      have := rkF_odd k (n / 2) (by omega)
      rwa [Nat.pow_succ, Nat.mul_comm, ← Nat.div_div_eq_div_mul]
    · rename_i h2
      simp; omega
/-- A rank is reached where so many bits are 0. -/
theorem rkF_ge : ∀ (k r n : Nat), r ≤ k → 2 ^ r ∣ n → r ≤ rkF k n
  | 0, r, n, h, _ => by omega
  | k + 1, 0, n, _, _ => Nat.zero_le _
  | k + 1, r + 1, n, h, hd => by
    obtain ⟨c, hc⟩ := hd
    have e : n = 2 * (2 ^ r * c) := by rw [hc, Nat.pow_succ]; rw [Nat.mul_comm (2 ^ r) 2, Nat.mul_assoc]
    unfold rkF
    rw [if_pos (by omega)]
    have := rkF_ge k r (n / 2) (by omega) ⟨c, by omega⟩
    omega
theorem rk_dvd (n : Nat) : 2 ^ rk n ∣ n := rkF_dvd 40 n
theorem rk_odd {n : Nat} (h : rk n < 40) : n / 2 ^ rk n % 2 = 1 := rkF_odd 40 n h
theorem rk_ge {r n : Nat} (h : r ≤ 40) (hd : 2 ^ r ∣ n) : r ≤ rk n := rkF_ge 40 r n h hd

/-! ### the way down -/
def flp (h : List UInt8) (k : Nat) : List UInt8 := h.set (k / 8) ((h[k / 8]?).getD 0 ^^^ UInt8.ofNat (2 ^ (k % 8)))
theorem flp_len (h : List UInt8) (k : Nat) : (flp h k).length = h.length := by simp [flp]
def cl1 (h : List UInt8) (n k : Nat) : List UInt8 := if n / 2 ^ k % 2 = 1 then sumS (flp h k) else h
/-- By the lowest bits of a number, so many. -/
def clS (n : Nat) : Nat → List UInt8 → List UInt8
  | 0, h => h
  | k + 1, h => clS n k (cl1 h n k)
theorem cl1_len {h : List UInt8} (e : h.length = 32) (n k : Nat) : (cl1 h n k).length = 32 := by
  unfold cl1
  split
  · exact sumS_len _
  · exact e
theorem clS_len (n : Nat) : ∀ (k : Nat) (h : List UInt8), h.length = 32 → (clS n k h).length = 32
  | 0, h, e => e
  | k + 1, h, e => clS_len n k _ (cl1_len e n k)
/-- Numbers alike above bit r: the way down to bit r is the same. -/
theorem clS_low (n m : Nat) (r : Nat) : ∀ (d : Nat) (h : List UInt8), n / 2 ^ r = m / 2 ^ r → 2 ^ r ∣ n → clS m (d + r) h = clS m r (clS n (d + r) h)
  | 0, h, _, hd => by
    have hz : ∀ k, k ≤ r → ∀ h, clS n k h = h := by
      intro k
      induction k with
      | zero => intro _ _; rfl
      | succ k ih =>
        intro hk h
        have e : n / 2 ^ k % 2 = 0 := by
          obtain ⟨c, hc⟩ := hd
          obtain ⟨j, hj⟩ : ∃ j, r = k + 1 + j := ⟨r - k - 1, by omega⟩
          rw [hc, hj, show k + 1 + j = k + (1 + j) by omega, Nat.pow_add, Nat.mul_assoc, Nat.mul_div_cancel_left _ (Nat.pow_pos (by decide)), Nat.pow_add, Nat.mul_assoc]
          simp
        show clS n k (cl1 h n k) = h
        rw [cl1, if_neg (by omega)]
        exact ih (by omega) h
    rw [Nat.zero_add, hz r (Nat.le_refl _)]
  | d + 1, h, he, hd => by
    have e : n / 2 ^ (d + r) = m / 2 ^ (d + r) := by
      rw [Nat.add_comm d r, Nat.pow_add, ← Nat.div_div_eq_div_mul, ← Nat.div_div_eq_div_mul, he]
    have e2 : cl1 h n (d + r) = cl1 h m (d + r) := by unfold cl1; rw [e]
    rw [show d + 1 + r = (d + r) + 1 by omega]
    show clS m (d + r) (cl1 h m (d + r)) = clS m r (clS n (d + r) (cl1 h n (d + r)))
    rw [e2]
    exact clS_low n m r d _ he hd
/-- What a step of a root makes is what the root makes. -/
theorem clS_make (n m : Nat) (h : List UInt8) (he : n / 2 ^ rk n = m / 2 ^ rk n) : clS m (rk n) (clS n 40 h) = clS m 40 h := by
  have := clS_low n m (rk n) (40 - rk n) h he (rk_dvd n)
  rw [show 40 - rk n + rk n = 40 by have := rk_le n; omega] at this
  exact this.symm

/-! ### ladders -/
structure Stp where
  num : Int
  sec : List UInt8
structure Lad where
  nxt : Int
  steps : List Stp
def mkS (s : Stp) (n : Nat) : Bool := decide (s.num.toNat / 2 ^ rk s.num.toNat = n / 2 ^ rk s.num.toNat)
def ofS (s : Stp) (n : Nat) : List UInt8 := clS n (rk s.num.toNat) s.sec
/-- Does a step make the secret of one ahead of it, and another one? -/
def badS (s x : Stp) : Bool := mkS s x.num.toNat && decide (ofS s x.num.toNat ≠ x.sec)
def agrS (s : Stp) (l : List Stp) : Bool := !l.any (badS s)
/-- The lowest number at or above m that has rank r. -/
def upN (m r : Nat) : Nat := (m + 2 ^ r - 1) / 2 ^ r * 2 ^ r
def lstN (m r : Nat) : Nat := if rk (upN m r) = r then upN m r else upN m r + 2 ^ r
def topN : Nat := 1099511627775
def dueA (m : Nat) (k : Nat) : List Nat := ((List.range k).map (lstN m)).filter (· ≤ topN)
def dueN (m : Nat) : List Nat := dueA m 41
theorem dueA_succ (m k : Nat) : dueA m (k + 1) = dueA m k ++ if lstN m k ≤ topN then [lstN m k] else [] := by
  unfold dueA
  rw [List.range_succ, List.map_append, List.filter_append]
  congr 1
  simp only [List.map_cons, List.map_nil, List.filter_cons, List.filter_nil, decide_eq_true_eq]
/-- As far as i. -/
def mayA (ds : List Nat) (l : List Stp) (i : Nat) : Prop := ∀ k, k < i → ∃ s d, l[k]? = some s ∧ ds[k]? = some d ∧ s.num = (d : Int) ∧ agrS s (l.take k) = true
def mayL (l : Lad) : Prop := -1 ≤ l.nxt ∧ l.nxt ≤ 1099511627775 ∧ l.steps.length = (dueN (l.nxt + 1).toNat).length ∧ mayA (dueN (l.nxt + 1).toNat) l.steps l.steps.length
theorem mayA_0 (ds : List Nat) (l : List Stp) : mayA ds l 0 := fun k h => by omega
theorem mayA_succ {ds : List Nat} {l : List Stp} {i d : Nat} {s : Stp} (h : mayA ds l i) (hs : l[i]? = some s) (hd : ds[i]? = some d) (hn : s.num = (d : Int)) (ha : agrS s (l.take i) = true) : mayA ds l (i + 1) := by
  intro k hk
  rcases Nat.lt_or_ge k i with h1 | h1
  · exact h k h1
  · obtain rfl : k = i := by omega
    exact ⟨s, d, hs, hd, hn, ha⟩
theorem mayA_not {ds : List Nat} {l : List Stp} {i n d : Nat} {s : Stp} (hi : i < n) (hs : l[i]? = some s) (hd : ds[i]? = some d) (hn : s.num ≠ (d : Int) ∨ agrS s (l.take i) = false) : ¬ mayA ds l n := by
  intro h
  obtain ⟨s', d', e1, e2, e3, e4⟩ := h i hi
  rw [hs] at e1
  rw [hd] at e2
  cases e1
  cases e2
  rcases hn with hn | hn
  · exact hn e3
  · rw [hn] at e4; simp at e4

/-! ### the least number, climbed to -/
theorem pow_pos' (r : Nat) : 0 < 2 ^ r := Nat.pow_pos (by decide)
theorem upN_ge (m r : Nat) : m ≤ upN m r := by
  unfold upN
  have hp := pow_pos' r
  have h1 := Nat.div_add_mod (m + 2 ^ r - 1) (2 ^ r)
  have h2 := Nat.mod_lt (m + 2 ^ r - 1) hp
  rw [Nat.mul_comm] at h1
  omega
theorem upN_dvd (m r : Nat) : 2 ^ r ∣ upN m r := ⟨_, Nat.mul_comm _ _⟩
theorem upN_lt (m r : Nat) : upN m r < m + 2 ^ r := by
  unfold upN
  have hp := pow_pos' r
  have h1 := Nat.div_mul_le_self (m + 2 ^ r - 1) (2 ^ r)
  omega
/-- The least multiple at or above m. -/
theorem upN_uniq {m r u : Nat} (h1 : m ≤ u) (h2 : 2 ^ r ∣ u) (h3 : u < m + 2 ^ r) : upN m r = u := by
  obtain ⟨c, hc⟩ := h2
  unfold upN
  have hp := pow_pos' r
  have e : (m + 2 ^ r - 1) / 2 ^ r = c := by
    have h4 : m + 2 ^ r - 1 = (m + 2 ^ r - 1 - 2 ^ r * c) + 2 ^ r * c := by omega
    rw [h4, Nat.add_mul_div_left _ _ hp, Nat.div_eq_of_lt (by omega)]
    omega
  rw [e, hc, Nat.mul_comm]
theorem upN_self {m r : Nat} (h : 2 ^ r ∣ m) : upN m r = m := upN_uniq (Nat.le_refl _) h (by have := pow_pos' r; omega)
/-- From a number of a lower rank on. -/
theorem upN_step {m r : Nat} (hr : r ≤ 40) (h : rk m < r) : upN (m + 2 ^ rk m) r = upN m r ∧ m + 2 ^ rk m ≤ upN m r := by
  obtain ⟨a, ha⟩ := rk_dvd m
  obtain ⟨b, hb⟩ := upN_dvd m r
  have hu := upN_ge m r
  have hl := upN_lt m r
  obtain ⟨d, hd⟩ : ∃ d, r = rk m + d := ⟨r - rk m, by omega⟩
  have hne : upN m r ≠ m := by
    intro e
    have h2 : 2 ^ r ∣ m := by rw [← e]; exact upN_dvd m r
    have := rk_ge hr h2
    omega
  have e : upN m r = 2 ^ rk m * (2 ^ d * b) := by rw [hb, hd, Nat.pow_add, Nat.mul_assoc]
  have hp := pow_pos' (rk m)
  have hlt : a < 2 ^ d * b := by
    apply Nat.lt_of_mul_lt_mul_left (a := 2 ^ rk m)
    rw [← e, ← ha]
    omega
  have hle : m + 2 ^ rk m ≤ upN m r := by
    rw [e]
    calc m + 2 ^ rk m = 2 ^ rk m * (a + 1) := by rw [Nat.mul_add, ← ha]; omega
      _ ≤ _ := Nat.mul_le_mul_left _ hlt
  refine ⟨upN_uniq hle (upN_dvd m r) (by omega), hle⟩

end Go.Proofs.YtdeeophiffchjaaDoor

namespace Go.Proofs.YtdeeophiffchjaaDoor
open Go Go.EW
set_option linter.unusedSimpArgs false
set_option linter.unusedVariables false

theorem rk_lst (m : Nat) {r : Nat} (hr : r ≤ 40) : rk (lstN m r) = r := by
  unfold lstN
  by_cases h : rk (upN m r) = r
  · rw [if_pos h, h]
  · rw [if_neg h]
    have h1 := rk_ge hr (upN_dvd m r)
    have h2 := rk_le (upN m r)
    obtain ⟨q, hq⟩ := upN_dvd m r
    have hd : 2 ^ (r + 1) ∣ upN m r := Nat.dvd_trans (Nat.pow_dvd_pow 2 (by omega)) (rk_dvd (upN m r))
    have hp := pow_pos' r
    obtain ⟨c, hc⟩ := hd
    have hqc : q = 2 * c := by
      apply Nat.eq_of_mul_eq_mul_left hp
      rw [← hq, hc, Nat.pow_succ, Nat.mul_assoc]
    have e : upN m r + 2 ^ r = 2 ^ r * (2 * c + 1) := by rw [hq, hqc, Nat.mul_add, Nat.mul_one]
    rw [e]
    have h3 := rk_ge (n := 2 ^ r * (2 * c + 1)) hr ⟨_, rfl⟩
    rcases Nat.lt_or_ge r (rk (2 ^ r * (2 * c + 1))) with h4 | h4
    · exfalso
      have h5 : 2 ^ (r + 1) ∣ 2 ^ r * (2 * c + 1) := Nat.dvd_trans (Nat.pow_dvd_pow 2 (by omega)) (rk_dvd _)
      obtain ⟨d, hd⟩ := h5
      have : 2 * c + 1 = 2 * d := by
        apply Nat.eq_of_mul_eq_mul_left hp
        rw [hd, Nat.pow_succ, Nat.mul_assoc]
      omega
    · omega
theorem dueA_rk (m : Nat) : ∀ k, k ≤ 41 → (dueA m k).Pairwise (fun a b => rk a < rk b) ∧ ∀ a ∈ dueA m k, rk a < k
  | 0, _ => by simp [dueA]
  | k + 1, hk => by
    obtain ⟨h1, h2⟩ := dueA_rk m k (by omega)
    rw [dueA_succ]
    have hr := rk_lst m (show k ≤ 40 by omega)
    split
    · refine ⟨?_, ?_⟩
      · rw [List.pairwise_append]
        refine ⟨h1, List.pairwise_singleton _ _, ?_⟩
        intro a ha b hb
        rw [List.mem_singleton] at hb
        subst hb
        rw [hr]
        exact h2 a ha
      · intro a ha
        rcases List.mem_append.1 ha with ha | ha
        · have := h2 a ha; omega
        · rw [List.mem_singleton] at ha
          subst ha
          omega
    · rw [List.append_nil]
      exact ⟨h1, fun a ha => by have := h2 a ha; omega⟩
theorem dueN_le {m a : Nat} (h : a ∈ dueN m) : a ≤ topN := by
  have := (List.mem_filter.1 h).2
  simpa using this
theorem dueN_len (m : Nat) : (dueN m).length ≤ 41 := by
  have h := List.length_filter_le (fun x => decide (x ≤ topN)) ((List.range 41).map (lstN m))
  simpa [dueN, dueA] using h

/-! ### the next secret -/
def zLad : Lad := ⟨0, []⟩
def rkI (n : Int) : Nat := rk n.toNat
def lwrS (r : Nat) (l : List Stp) : List Stp := l.filter fun x => decide (rkI x.num < r)
def highS (r : Nat) (l : List Stp) : List Stp := l.filter fun x => decide (r < rkI x.num)
def offS (r : Nat) (l : List Stp) : List Stp := l.filter fun x => decide (rkI x.num ≠ r)
open Classical in
noncomputable def addL (l : Lad) (h : List UInt8) : Lad × Nat :=
  if ¬ mayL l then (zLad, 1) else if l.nxt < 0 then (zLad, 31)
  else if agrS ⟨l.nxt, h⟩ (lwrS (rkI l.nxt) l.steps) = false then (zLad, 11)
  else (⟨l.nxt - 1, lwrS (rkI l.nxt) l.steps ++ ⟨l.nxt, h⟩ :: highS (rkI l.nxt) l.steps⟩, 0)
def getA (n : Nat) : List Stp → Option (List UInt8)
  | [] => none
  | s :: r => if mkS s n = true then some (ofS s n) else getA n r
open Classical in
noncomputable def getL (l : Lad) (n : Int) : List UInt8 × Nat :=
  if ¬ mayL l then (List.replicate 32 0, 1) else if n < 0 ∨ 1099511627775 < n then (List.replicate 32 0, 4)
  else if n ≤ l.nxt then (List.replicate 32 0, 8) else match getA n.toNat l.steps with
  | some h => (h, 0)
  | none => (List.replicate 32 0, 8)
theorem offS_eq (r : Nat) : ∀ {l : List Stp}, l.Pairwise (fun a b => rkI a.num < rkI b.num) → offS r l = lwrS r l ++ highS r l
  | [], _ => rfl
  | a :: t, h => by
    rw [List.pairwise_cons] at h
    have ih := offS_eq r h.2
    unfold offS lwrS highS at *
    rcases Nat.lt_trichotomy (rkI a.num) r with h1 | h1 | h1
    · rw [List.filter_cons_of_pos (by simp; omega), List.filter_cons_of_pos (by simpa using h1), List.filter_cons_of_neg (by simp; omega), ih]
      rfl
    · rw [List.filter_cons_of_neg (by simp; omega), List.filter_cons_of_neg (by simp; omega), List.filter_cons_of_neg (by simp; omega), ih]
    · have hn : t.filter (fun x => decide (rkI x.num < r)) = [] := by
        rw [List.filter_eq_nil_iff]
        intro x hx
        have := h.1 x hx
        simp; omega
      rw [List.filter_cons_of_pos (by simp; omega), List.filter_cons_of_neg (by simp; omega), List.filter_cons_of_pos (by simpa using h1), ih, hn]
      rfl
theorem may_num {l : Lad} (h : mayL l) : l.steps.map (·.num) = (dueN (l.nxt + 1).toNat).map (fun d : Nat => (d : Int)) := by
  obtain ⟨_, _, hl, ha⟩ := h
  apply List.ext_getElem?
  intro k
  rw [List.getElem?_map, List.getElem?_map]
  rcases Nat.lt_or_ge k l.steps.length with hk | hk
  · obtain ⟨s, d, e1, e2, e3, _⟩ := ha k hk
    rw [e1, e2]
    simp [e3]
  · rw [List.getElem?_eq_none hk, List.getElem?_eq_none (by omega)]
    rfl
theorem may_pw {l : Lad} (h : mayL l) : l.steps.Pairwise (fun a b => rkI a.num < rkI b.num) := by
  have h1 := may_num h
  have h2 := (dueA_rk (l.nxt + 1).toNat 41 (Nat.le_refl _)).1
  have h3 : (l.steps.map (·.num)).Pairwise (fun a b => rkI a < rkI b) := by
    rw [h1, List.pairwise_map]
    exact h2
  rwa [List.pairwise_map] at h3
theorem may_mem {l : Lad} (h : mayL l) {s : Stp} (hs : s ∈ l.steps) : 0 ≤ s.num ∧ s.num ≤ 1099511627775 := by
  have h1 : s.num ∈ l.steps.map (·.num) := List.mem_map.2 ⟨s, hs, rfl⟩
  rw [may_num h] at h1
  obtain ⟨d, hd, e⟩ := List.mem_map.1 h1
  have h2 := dueN_le hd
  unfold topN at h2
  omega

end Go.Proofs.YtdeeophiffchjaaDoor

namespace Go.Proofs.YtdeeophiffchjaaDoor
open Go Go.EW
set_option linter.unusedSimpArgs false
set_option linter.unusedVariables false

/-! ### three secrets of one root -/
def lstp (root : List UInt8) (n : Nat) : Stp := ⟨(n : Int), clS n 40 root⟩
theorem due_0 : dueN 1099511627776 = [] := by decide +kernel
theorem due_1 : dueN 1099511627775 = [1099511627775] := by decide +kernel
theorem due_2 : dueN 1099511627774 = [1099511627775, 1099511627774] := by decide +kernel
theorem due_3 : dueN 1099511627773 = [1099511627773, 1099511627774] := by decide +kernel
theorem st_of (root : List UInt8) (n m : Nat) (h : n / 2 ^ rk n = m / 2 ^ rk n) : ofS (lstp root n) m = clS m 40 root := by
  unfold ofS lstp
  dsimp only
  rw [Int.toNat_natCast]
  exact clS_make n m root h
theorem st_bad (root : List UInt8) (n m : Nat) : badS (lstp root n) (lstp root m) = false := by
  unfold badS
  cases h : mkS (lstp root n) (lstp root m).num.toNat with
  | false => rfl
  | true =>
    have h1 : n / 2 ^ rk n = m / 2 ^ rk n := by
      have := of_decide_eq_true h
      simpa [lstp] using this
    have h2 : ofS (lstp root n) (lstp root m).num.toNat = (lstp root m).sec := by
      show ofS (lstp root n) ((m : Int).toNat) = clS m 40 root
      rw [Int.toNat_natCast]
      exact st_of root n m h1
    simp [h2]
theorem st_agr (root : List UInt8) (n : Nat) (l : List Nat) : agrS (lstp root n) (l.map (lstp root)) = true := by
  unfold agrS
  have : (l.map (lstp root)).any (badS (lstp root n)) = false := by
    rw [List.any_eq_false]
    intro x hx
    obtain ⟨m, _, rfl⟩ := List.mem_map.1 hx
    rw [st_bad]
    simp
  rw [this]
  rfl
/-- Secrets of one root, where they are due, may be. -/
theorem st_may (root : List UInt8) (nx : Int) (l : List Nat) (h0 : -1 ≤ nx) (h1 : nx ≤ 1099511627775) (h : dueN (nx + 1).toNat = l) : mayL ⟨nx, l.map (lstp root)⟩ := by
  refine ⟨h0, h1, by simp [h], ?_⟩
  intro k hk
  simp at hk
  refine ⟨lstp root l[k], l[k], by simp [hk], by rw [h]; simp [hk], rfl, ?_⟩
  rw [← List.map_take]
  exact st_agr root _ _
theorem filt_map (root : List UInt8) (p : Stp → Bool) (l : List Nat) : (l.map (lstp root)).filter p = (l.filter fun n => p (lstp root n)).map (lstp root) := by
  rw [List.filter_map]
  rfl
/-- The next one. -/
theorem st_add (root : List UInt8) (n : Nat) (l l1 l2 : List Nat) (hn : n ≤ 1099511627775) (h : dueN (n + 1) = l) (e1 : l.filter (fun m => decide (rk m < rk n)) = l1) (e2 : l.filter (fun m => decide (rk n < rk m)) = l2) :
    addL ⟨(n : Int), l.map (lstp root)⟩ (clS n 40 root) = (⟨(n : Int) - 1, (l1 ++ n :: l2).map (lstp root)⟩, 0) := by
  have hm := st_may root (n : Int) l (by omega) (by omega) (by rw [show ((n : Int) + 1).toNat = n + 1 by omega]; exact h)
  have el : lwrS (rkI (n : Int)) (l.map (lstp root)) = l1.map (lstp root) := by
    rw [← e1]
    exact filt_map root _ l
  have eh : highS (rkI (n : Int)) (l.map (lstp root)) = l2.map (lstp root) := by
    rw [← e2]
    exact filt_map root _ l
  unfold addL
  rw [if_neg (by simpa using hm), if_neg (by dsimp only; omega)]
  dsimp only
  rw [el, eh, if_neg (by
    have := st_agr root n l1
    unfold lstp at this ⊢
    rw [this]; simp)]
  simp [lstp]
theorem sure_1 (root : List UInt8) : addL ⟨1099511627775, []⟩ (clS 1099511627775 40 root) = (⟨1099511627774, [lstp root 1099511627775]⟩, 0) :=
  st_add root 1099511627775 [] [] [] (by omega) due_0 rfl rfl
theorem sure_2 (root : List UInt8) : addL ⟨1099511627774, [lstp root 1099511627775]⟩ (clS 1099511627774 40 root) = (⟨1099511627773, [lstp root 1099511627775, lstp root 1099511627774]⟩, 0) :=
  st_add root 1099511627774 [1099511627775] [1099511627775] [] (by omega) due_1 (by decide +kernel) (by decide +kernel)
theorem sure_3 (root : List UInt8) : addL ⟨1099511627773, [lstp root 1099511627775, lstp root 1099511627774]⟩ (clS 1099511627773 40 root) = (⟨1099511627772, [lstp root 1099511627773, lstp root 1099511627774]⟩, 0) :=
  st_add root 1099511627773 [1099511627775, 1099511627774] [] [1099511627774] (by omega) due_2 (by decide +kernel) (by decide +kernel)
theorem sure_may (root : List UInt8) : mayL ⟨1099511627772, [lstp root 1099511627773, lstp root 1099511627774]⟩ :=
  st_may root 1099511627772 [1099511627773, 1099511627774] (by omega) (by omega) due_3
theorem sure_get (root : List UInt8) : getL ⟨1099511627772, [lstp root 1099511627773, lstp root 1099511627774]⟩ 1099511627775 = (clS 1099511627775 40 root, 0) := by
  unfold getL
  rw [if_neg (by simpa using sure_may root), if_neg (by omega), if_neg (by dsimp only; omega)]
  have h0 : ¬ 1099511627773 / 2 ^ rk 1099511627773 = 1099511627775 / 2 ^ rk 1099511627773 := by decide +kernel
  have h1 : mkS (lstp root 1099511627773) 1099511627775 = false := decide_eq_false h0
  have h2 : 1099511627774 / 2 ^ rk 1099511627774 = 1099511627775 / 2 ^ rk 1099511627774 := by decide +kernel
  have h3 : mkS (lstp root 1099511627774) 1099511627775 = true := decide_eq_true h2
  have h4 := st_of root 1099511627774 1099511627775 h2
  show (match getA 1099511627775 [lstp root 1099511627773, lstp root 1099511627774] with
    | some h => (h, 0)
    | none => (List.replicate 32 0, 8)) = _
  simp only [getA, h1, h3, h4]
  rfl

end Go.Proofs.YtdeeophiffchjaaDoor

namespace Go.Proofs.YtdeeophiffchjaaDoor
open Go Go.EW
set_option linter.unusedSimpArgs false
set_option linter.unusedVariables false

@[simp] def l_Bright_1 (_ : Unit) : List EOp := [⟨0, (some 4), none, (.q (.mov (.k (.int .u32 0)))), []⟩]
@[simp] def b_Bright_2 (_ : Unit) : EB := reg0 (hid l_Bright_1) 1
@[simp] def l_Bright_4 (_ : Unit) : List EOp := [⟨6, (some 11), none, (.q (.bin .shl (.t 8) (.t 10))), []⟩, ⟨7, (some 12), none, (.q (.bin .or (.t 7) (.t 11))), []⟩, ⟨8, (some 4), none, (.q (.mov (.t 12))), []⟩]
@[simp] def l_Bright_3 (_ : Unit) : List EOp := ⟨0, (some 5), none, (.q (.mov (.t 0))), []⟩ :: ⟨1, (some 6), none, (.q (.mov (.t 1))), []⟩ :: ⟨2, (some 7), none, (.q (.bin .shr (.t 5) (.t 6))), []⟩ :: ⟨3, (some 8), none, (.q (.mov (.t 0))), []⟩ :: ⟨4, (some 9), none, (.q (.mov (.t 1))), []⟩ :: ⟨5, (some 10), none, (.q (.bin .sub (.k (.int .i64 32)) (.t 9))), []⟩ :: hid l_Bright_4
@[simp] def b_Bright_5 (_ : Unit) : EB := reg0 (hid l_Bright_3) 9
@[simp] def b_Bright_6 (_ : Unit) : EB := .seq (hid b_Bright_5) .ret
@[simp] def b_Bright_7 (_ : Unit) : EB := .seq (hid b_Bright_2) (hid b_Bright_6)
def c_Bright : EB × List QOp × Nat := ((hid b_Bright_7), [(.mov (.t 4))], 13)
theorem k_Bright : cfun Tryd.prog 63 = some c_Bright := by kernel_rfl

@[simp] def l_Bbegin_1 (_ : Unit) : List EOp := [⟨0, (some 0), none, (.q (.mov (.k (.slice none 0 0)))), []⟩]
@[simp] def b_Bbegin_2 (_ : Unit) : EB := reg0 (hid l_Bbegin_1) 1
@[simp] def l_Bbegin_3 (_ : Unit) : List EOp := [⟨0, (some 1), none, (.q (.bsr 90 1 [(.int .u32 0)] 8 [(0, (.k (.int .u32 1779033703))), (1, (.k (.int .u32 3144134277))), (2, (.k (.int .u32 1013904242))), (3, (.k (.int .u32 2773480762))), (4, (.k (.int .u32 1359893119))), (5, (.k (.int .u32 2600822924))), (6, (.k (.int .u32 528734635))), (7, (.k (.int .u32 1541459225)))])), []⟩, ⟨1, (some 0), none, (.q (.mov (.t 1))), []⟩]
@[simp] def b_Bbegin_4 (_ : Unit) : EB := reg0 (hid l_Bbegin_3) 2
@[simp] def b_Bbegin_5 (_ : Unit) : EB := .seq (hid b_Bbegin_4) .ret
@[simp] def b_Bbegin_6 (_ : Unit) : EB := .seq (hid b_Bbegin_2) (hid b_Bbegin_5)
def c_Bbegin : EB × List QOp × Nat := ((hid b_Bbegin_6), [(.mov (.t 0))], 2)
theorem k_Bbegin : cfun Tryd.prog 55 = some c_Bbegin := by kernel_rfl

@[simp] def l_Bdigit_1 (_ : Unit) : List EOp := [⟨0, (some 2), none, (.q (.mov (.k (.int .i64 0)))), []⟩]
@[simp] def b_Bdigit_2 (_ : Unit) : EB := reg0 (hid l_Bdigit_1) 1
@[simp] def l_Bdigit_3 (_ : Unit) : List EOp := [⟨0, (some 3), none, (.q (.mov (.t 0))), []⟩, ⟨1, (some 4), none, (.q (.bin .geq (.t 3) (.k (.int .u8 97)))), []⟩]
@[simp] def b_Bdigit_4 (_ : Unit) : EB := reg0 (hid l_Bdigit_3) 2
@[simp] def l_Bdigit_5 (_ : Unit) : List EOp := [⟨0, (some 5), none, (.q (.mov (.t 0))), []⟩, ⟨1, (some 6), none, (.q (.bin .sub (.t 5) (.k (.int .u8 97)))), []⟩, ⟨2, (some 7), none, (.q (.cnv .i64 (.t 6))), []⟩, ⟨3, (some 8), none, (.q (.bin .add (.t 7) (.k (.int .i64 10)))), []⟩, ⟨4, (some 2), none, (.q (.mov (.t 8))), []⟩]
@[simp] def b_Bdigit_6 (_ : Unit) : EB := reg0 (hid l_Bdigit_5) 5
@[simp] def b_Bdigit_7 (_ : Unit) : EB := .seq (hid b_Bdigit_6) .ret
@[simp] def b_Bdigit_8 (_ : Unit) : EB := .cond (.t 4) (hid b_Bdigit_7) .skip
@[simp] def b_Bdigit_9 (_ : Unit) : EB := .seq (hid b_Bdigit_4) (hid b_Bdigit_8)
@[simp] def l_Bdigit_10 (_ : Unit) : List EOp := [⟨0, (some 9), none, (.q (.mov (.t 0))), []⟩, ⟨1, (some 10), none, (.q (.bin .sub (.t 9) (.k (.int .u8 48)))), []⟩, ⟨2, (some 11), none, (.q (.cnv .i64 (.t 10))), []⟩, ⟨3, (some 2), none, (.q (.mov (.t 11))), []⟩]
@[simp] def b_Bdigit_11 (_ : Unit) : EB := reg0 (hid l_Bdigit_10) 4
@[simp] def b_Bdigit_12 (_ : Unit) : EB := .seq (hid b_Bdigit_11) .ret
@[simp] def b_Bdigit_13 (_ : Unit) : EB := .seq (hid b_Bdigit_9) (hid b_Bdigit_12)
@[simp] def b_Bdigit_14 (_ : Unit) : EB := .seq (hid b_Bdigit_2) (hid b_Bdigit_13)
def c_Bdigit : EB × List QOp × Nat := ((hid b_Bdigit_14), [(.mov (.t 2))], 12)
theorem k_Bdigit : cfun Tryd.prog 61 = some c_Bdigit := by kernel_rfl


/-- A row of words as the program has it. -/
def wrw (l : List UInt32) : List (List FV) := l.map fun x => [.lit (.int .u32 (wi x))]
@[simp] theorem wrw_len (l : List UInt32) : (wrw l).length = l.length := by simp [wrw]

theorem Bright_ok (x : UInt32) (k : Nat) (h : k ≤ 32) : ECalls Tryd.prog 63 [WV x, NV k] [] fun y H' => H' = [] ∧ y = WV (rotr x k) := by
  have w1 : IntKind.i64.wrap (32 - (k : Int)) = ((32 - k : Nat) : Int) := by rw [wrap_i64 (by omega) (by omega)]; omega
  have h1 := wi_shr x k h
  have h2 := wi_shl x (32 - k) (by omega)
  have h3 : ibit .or .u32 (wi (shr x k)) (wi (shl x (32 - k))) = wi (rotr x k) := by rw [wi_or, UInt32.or_comm]; rfl
  have n0 : ¬ ((k : Int) < 0) := by omega
  have n1 : ¬ (((32 - k : Nat) : Int) < 0) := by omega
  refine ecalls k_Bright ?_
  simp [c_Bright, WV, NV, w1, h1, h2, h3, n0, n1]
  exact fin [] (by decide) rfl rfl rfl ⟨rfl, rfl⟩
theorem Bbegin_ok : ECalls Tryd.prog 55 [] [] fun y H' => H' = [some (.row 90 1 (wrw firstW))] ∧ y = .v (.c (.row 0 8)) := by
  refine ecalls k_Bbegin ?_
  simp [c_Bbegin]
  exact fin [16] (by decide) rfl rfl rfl ⟨rfl, rfl⟩
theorem Bdigit_ok (c : UInt8) (n : Nat) (h : n = if 97 ≤ c.toNat then c.toNat - 87 else c.toNat - 48) (h1 : 48 ≤ c.toNat) : ECalls Tryd.prog 61 [.lit (.int .u8 (c.toNat : Int))] [] fun y H' => H' = [] ∧ y = NV n := by
  refine ecalls k_Bdigit ?_
  have hc := c.toNat_lt
  simp [c_Bdigit]
  refine alt (fun hh => ?_) (fun hh => ?_)
  · rw [if_pos (by omega)] at h
    have w0 : IntKind.u8.wrap ((c.toNat : Int) - 97) = ((c.toNat - 97 : Nat) : Int) := by simp [IntKind.wrap, IntKind.bits, IntKind.signed]; omega
    have w1 : IntKind.i64.wrap ((c.toNat - 97 : Nat) : Int) = ((c.toNat - 97 : Nat) : Int) := wrap_i64 (by omega) (by omega)
    have w2 : IntKind.i64.wrap (((c.toNat - 97 : Nat) : Int) + 10) = (n : Int) := by rw [wrap_i64 (by omega) (by omega), h]; omega
    simp [w0, w1, w2]
    exact fin [] (by decide) rfl rfl rfl ⟨rfl, rfl⟩
  · rw [if_neg (by omega)] at h
    have w0 : IntKind.u8.wrap ((c.toNat : Int) - 48) = ((c.toNat - 48 : Nat) : Int) := by simp [IntKind.wrap, IntKind.bits, IntKind.signed]; omega
    have w1 : IntKind.i64.wrap ((c.toNat - 48 : Nat) : Int) = (n : Int) := by rw [wrap_i64 (by omega) (by omega), h]
    simp [w0, w1]
    exact fin [] (by decide) rfl rfl rfl ⟨rfl, rfl⟩

@[simp] def l_Bstep_3 (_ : Unit) : List EOp := [⟨12, (some 26), none, (.q (.bin .add (.t 24) (.t 25))), []⟩, ⟨13, (some 27), none, (.q (.isl 1 (.t 14) (.t 15))), []⟩, ⟨14, none, none, (.sto 1 (.t 27) (.t 26)), []⟩]
@[simp] def l_Bstep_2 (_ : Unit) : List EOp := ⟨6, (some 20), none, (.q (.mov (.t 0))), []⟩ :: ⟨7, (some 21), none, (.q (.mov (.t 2))), []⟩ :: ⟨8, (some 22), none, (.q (.isl 1 (.t 20) (.t 21))), []⟩ :: ⟨9, (some 23), none, (.q (.ldc (.t 22))), []⟩ :: ⟨10, (some 24), none, (.q (.bin .add (.t 19) (.t 23))), []⟩ :: ⟨11, (some 25), none, (.q (.mov (.t 5))), []⟩ :: hid l_Bstep_3
@[simp] def l_Bstep_1 (_ : Unit) : List EOp := ⟨0, (some 14), none, (.q (.mov (.t 0))), []⟩ :: ⟨1, (some 15), none, (.q (.mov (.t 1))), []⟩ :: ⟨2, (some 16), none, (.q (.mov (.t 0))), []⟩ :: ⟨3, (some 17), none, (.q (.mov (.t 1))), []⟩ :: ⟨4, (some 18), none, (.q (.isl 1 (.t 16) (.t 17))), []⟩ :: ⟨5, (some 19), none, (.q (.ldc (.t 18))), []⟩ :: hid l_Bstep_2
@[simp] def b_Bstep_4 (_ : Unit) : EB := reg0 (hid l_Bstep_1) 15
@[simp] def l_Bstep_7 (_ : Unit) : List EOp := [⟨12, (some 40), none, (.q (.isl 1 (.t 28) (.t 29))), []⟩, ⟨13, none, none, (.sto 1 (.t 40) (.t 39)), []⟩]
@[simp] def l_Bstep_6 (_ : Unit) : List EOp := ⟨6, (some 34), none, (.q (.mov (.t 0))), []⟩ :: ⟨7, (some 35), none, (.q (.mov (.t 1))), []⟩ :: ⟨8, (some 36), none, (.q (.isl 1 (.t 34) (.t 35))), []⟩ :: ⟨9, (some 37), none, (.q (.ldc (.t 36))), []⟩ :: ⟨10, (some 38), none, (.q (.bin .xor (.t 33) (.t 37))), []⟩ :: ⟨11, (some 39), none, (.call 63 [(.t 38), (.k (.int .i64 16))]), [0, 1]⟩ :: hid l_Bstep_7
@[simp] def l_Bstep_5 (_ : Unit) : List EOp := ⟨0, (some 28), none, (.q (.mov (.t 0))), []⟩ :: ⟨1, (some 29), none, (.q (.mov (.t 4))), []⟩ :: ⟨2, (some 30), none, (.q (.mov (.t 0))), []⟩ :: ⟨3, (some 31), none, (.q (.mov (.t 4))), []⟩ :: ⟨4, (some 32), none, (.q (.isl 1 (.t 30) (.t 31))), []⟩ :: ⟨5, (some 33), none, (.q (.ldc (.t 32))), []⟩ :: hid l_Bstep_6
@[simp] def b_Bstep_8 (_ : Unit) : EB := reg1 (hid l_Bstep_5) 14
@[simp] def l_Bstep_11 (_ : Unit) : List EOp := [⟨12, none, none, (.sto 1 (.t 52) (.t 51)), []⟩]
@[simp] def l_Bstep_10 (_ : Unit) : List EOp := ⟨6, (some 47), none, (.q (.mov (.t 0))), []⟩ :: ⟨7, (some 48), none, (.q (.mov (.t 4))), []⟩ :: ⟨8, (some 49), none, (.q (.isl 1 (.t 47) (.t 48))), []⟩ :: ⟨9, (some 50), none, (.q (.ldc (.t 49))), []⟩ :: ⟨10, (some 51), none, (.q (.bin .add (.t 46) (.t 50))), []⟩ :: ⟨11, (some 52), none, (.q (.isl 1 (.t 41) (.t 42))), []⟩ :: hid l_Bstep_11
@[simp] def l_Bstep_9 (_ : Unit) : List EOp := ⟨0, (some 41), none, (.q (.mov (.t 0))), []⟩ :: ⟨1, (some 42), none, (.q (.mov (.t 3))), []⟩ :: ⟨2, (some 43), none, (.q (.mov (.t 0))), []⟩ :: ⟨3, (some 44), none, (.q (.mov (.t 3))), []⟩ :: ⟨4, (some 45), none, (.q (.isl 1 (.t 43) (.t 44))), []⟩ :: ⟨5, (some 46), none, (.q (.ldc (.t 45))), []⟩ :: hid l_Bstep_10
@[simp] def b_Bstep_12 (_ : Unit) : EB := reg0 (hid l_Bstep_9) 13
@[simp] def l_Bstep_15 (_ : Unit) : List EOp := [⟨12, (some 65), none, (.q (.isl 1 (.t 53) (.t 54))), []⟩, ⟨13, none, none, (.sto 1 (.t 65) (.t 64)), []⟩]
@[simp] def l_Bstep_14 (_ : Unit) : List EOp := ⟨6, (some 59), none, (.q (.mov (.t 0))), []⟩ :: ⟨7, (some 60), none, (.q (.mov (.t 3))), []⟩ :: ⟨8, (some 61), none, (.q (.isl 1 (.t 59) (.t 60))), []⟩ :: ⟨9, (some 62), none, (.q (.ldc (.t 61))), []⟩ :: ⟨10, (some 63), none, (.q (.bin .xor (.t 58) (.t 62))), []⟩ :: ⟨11, (some 64), none, (.call 63 [(.t 63), (.k (.int .i64 12))]), [0, 1]⟩ :: hid l_Bstep_15
@[simp] def l_Bstep_13 (_ : Unit) : List EOp := ⟨0, (some 53), none, (.q (.mov (.t 0))), []⟩ :: ⟨1, (some 54), none, (.q (.mov (.t 2))), []⟩ :: ⟨2, (some 55), none, (.q (.mov (.t 0))), []⟩ :: ⟨3, (some 56), none, (.q (.mov (.t 2))), []⟩ :: ⟨4, (some 57), none, (.q (.isl 1 (.t 55) (.t 56))), []⟩ :: ⟨5, (some 58), none, (.q (.ldc (.t 57))), []⟩ :: hid l_Bstep_14
@[simp] def b_Bstep_16 (_ : Unit) : EB := reg1 (hid l_Bstep_13) 14
@[simp] def l_Bstep_19 (_ : Unit) : List EOp := [⟨12, (some 78), none, (.q (.bin .add (.t 76) (.t 77))), []⟩, ⟨13, (some 79), none, (.q (.isl 1 (.t 66) (.t 67))), []⟩, ⟨14, none, none, (.sto 1 (.t 79) (.t 78)), []⟩]
@[simp] def l_Bstep_18 (_ : Unit) : List EOp := ⟨6, (some 72), none, (.q (.mov (.t 0))), []⟩ :: ⟨7, (some 73), none, (.q (.mov (.t 2))), []⟩ :: ⟨8, (some 74), none, (.q (.isl 1 (.t 72) (.t 73))), []⟩ :: ⟨9, (some 75), none, (.q (.ldc (.t 74))), []⟩ :: ⟨10, (some 76), none, (.q (.bin .add (.t 71) (.t 75))), []⟩ :: ⟨11, (some 77), none, (.q (.mov (.t 6))), []⟩ :: hid l_Bstep_19
@[simp] def l_Bstep_17 (_ : Unit) : List EOp := ⟨0, (some 66), none, (.q (.mov (.t 0))), []⟩ :: ⟨1, (some 67), none, (.q (.mov (.t 1))), []⟩ :: ⟨2, (some 68), none, (.q (.mov (.t 0))), []⟩ :: ⟨3, (some 69), none, (.q (.mov (.t 1))), []⟩ :: ⟨4, (some 70), none, (.q (.isl 1 (.t 68) (.t 69))), []⟩ :: ⟨5, (some 71), none, (.q (.ldc (.t 70))), []⟩ :: hid l_Bstep_18
@[simp] def b_Bstep_20 (_ : Unit) : EB := reg0 (hid l_Bstep_17) 15
@[simp] def l_Bstep_23 (_ : Unit) : List EOp := [⟨12, (some 92), none, (.q (.isl 1 (.t 80) (.t 81))), []⟩, ⟨13, none, none, (.sto 1 (.t 92) (.t 91)), []⟩]
@[simp] def l_Bstep_22 (_ : Unit) : List EOp := ⟨6, (some 86), none, (.q (.mov (.t 0))), []⟩ :: ⟨7, (some 87), none, (.q (.mov (.t 1))), []⟩ :: ⟨8, (some 88), none, (.q (.isl 1 (.t 86) (.t 87))), []⟩ :: ⟨9, (some 89), none, (.q (.ldc (.t 88))), []⟩ :: ⟨10, (some 90), none, (.q (.bin .xor (.t 85) (.t 89))), []⟩ :: ⟨11, (some 91), none, (.call 63 [(.t 90), (.k (.int .i64 8))]), [0, 1]⟩ :: hid l_Bstep_23
@[simp] def l_Bstep_21 (_ : Unit) : List EOp := ⟨0, (some 80), none, (.q (.mov (.t 0))), []⟩ :: ⟨1, (some 81), none, (.q (.mov (.t 4))), []⟩ :: ⟨2, (some 82), none, (.q (.mov (.t 0))), []⟩ :: ⟨3, (some 83), none, (.q (.mov (.t 4))), []⟩ :: ⟨4, (some 84), none, (.q (.isl 1 (.t 82) (.t 83))), []⟩ :: ⟨5, (some 85), none, (.q (.ldc (.t 84))), []⟩ :: hid l_Bstep_22
@[simp] def b_Bstep_24 (_ : Unit) : EB := reg1 (hid l_Bstep_21) 14
@[simp] def l_Bstep_27 (_ : Unit) : List EOp := [⟨12, none, none, (.sto 1 (.t 104) (.t 103)), []⟩]
@[simp] def l_Bstep_26 (_ : Unit) : List EOp := ⟨6, (some 99), none, (.q (.mov (.t 0))), []⟩ :: ⟨7, (some 100), none, (.q (.mov (.t 4))), []⟩ :: ⟨8, (some 101), none, (.q (.isl 1 (.t 99) (.t 100))), []⟩ :: ⟨9, (some 102), none, (.q (.ldc (.t 101))), []⟩ :: ⟨10, (some 103), none, (.q (.bin .add (.t 98) (.t 102))), []⟩ :: ⟨11, (some 104), none, (.q (.isl 1 (.t 93) (.t 94))), []⟩ :: hid l_Bstep_27
@[simp] def l_Bstep_25 (_ : Unit) : List EOp := ⟨0, (some 93), none, (.q (.mov (.t 0))), []⟩ :: ⟨1, (some 94), none, (.q (.mov (.t 3))), []⟩ :: ⟨2, (some 95), none, (.q (.mov (.t 0))), []⟩ :: ⟨3, (some 96), none, (.q (.mov (.t 3))), []⟩ :: ⟨4, (some 97), none, (.q (.isl 1 (.t 95) (.t 96))), []⟩ :: ⟨5, (some 98), none, (.q (.ldc (.t 97))), []⟩ :: hid l_Bstep_26
@[simp] def b_Bstep_28 (_ : Unit) : EB := reg0 (hid l_Bstep_25) 13
@[simp] def l_Bstep_31 (_ : Unit) : List EOp := [⟨12, (some 117), none, (.q (.isl 1 (.t 105) (.t 106))), []⟩, ⟨13, none, none, (.sto 1 (.t 117) (.t 116)), []⟩]
@[simp] def l_Bstep_30 (_ : Unit) : List EOp := ⟨6, (some 111), none, (.q (.mov (.t 0))), []⟩ :: ⟨7, (some 112), none, (.q (.mov (.t 3))), []⟩ :: ⟨8, (some 113), none, (.q (.isl 1 (.t 111) (.t 112))), []⟩ :: ⟨9, (some 114), none, (.q (.ldc (.t 113))), []⟩ :: ⟨10, (some 115), none, (.q (.bin .xor (.t 110) (.t 114))), []⟩ :: ⟨11, (some 116), none, (.call 63 [(.t 115), (.k (.int .i64 7))]), [0, 1]⟩ :: hid l_Bstep_31
@[simp] def l_Bstep_29 (_ : Unit) : List EOp := ⟨0, (some 105), none, (.q (.mov (.t 0))), []⟩ :: ⟨1, (some 106), none, (.q (.mov (.t 2))), []⟩ :: ⟨2, (some 107), none, (.q (.mov (.t 0))), []⟩ :: ⟨3, (some 108), none, (.q (.mov (.t 2))), []⟩ :: ⟨4, (some 109), none, (.q (.isl 1 (.t 107) (.t 108))), []⟩ :: ⟨5, (some 110), none, (.q (.ldc (.t 109))), []⟩ :: hid l_Bstep_30
@[simp] def b_Bstep_32 (_ : Unit) : EB := reg1 (hid l_Bstep_29) 14
@[simp] def b_Bstep_33 (_ : Unit) : EB := .seq (hid b_Bstep_28) (hid b_Bstep_32)
@[simp] def b_Bstep_34 (_ : Unit) : EB := .seq (hid b_Bstep_24) (hid b_Bstep_33)
@[simp] def b_Bstep_35 (_ : Unit) : EB := .seq (hid b_Bstep_20) (hid b_Bstep_34)
@[simp] def b_Bstep_36 (_ : Unit) : EB := .seq (hid b_Bstep_16) (hid b_Bstep_35)
@[simp] def b_Bstep_37 (_ : Unit) : EB := .seq (hid b_Bstep_12) (hid b_Bstep_36)
@[simp] def b_Bstep_38 (_ : Unit) : EB := .seq (hid b_Bstep_8) (hid b_Bstep_37)
@[simp] def b_Bstep_39 (_ : Unit) : EB := .seq (hid b_Bstep_4) (hid b_Bstep_38)
def c_Bstep : EB × List QOp × Nat := ((hid b_Bstep_39), [], 118)
theorem k_Bstep : cfun Tryd.prog 60 = some c_Bstep := by kernel_rfl

theorem wrw_get {v : List UInt32} {i : Nat} (h : i < v.length) : (wrw v)[i]? = some [.lit (.int .u32 (wi (g v i)))] := by
  have e : v[i]? = some (g v i) := by
    unfold g
    rw [List.getElem?_eq_getElem h]
    rfl
  simp [wrw, e]
theorem wrw_gE {v : List UInt32} {i : Nat} (h : i < v.length) (h2 : i < (wrw v).length) : (wrw v)[i]'h2 = [.lit (.int .u32 (wi (g v i)))] := by
  have := wrw_get h
  rw [List.getElem?_eq_getElem h2] at this
  exact Option.some.inj this
theorem wrw_set (l : List UInt32) (i : Nat) (x : UInt32) : (wrw l).set i [.lit (.int .u32 (wi x))] = wrw (l.set i x) := by simp [wrw, List.map_set]

theorem wrw_gE' (v : List UInt32) (i : Nat) (h2 : i < (wrw v).length) : (wrw v)[i]'h2 = [.lit (.int .u32 (wi (g v i)))] := wrw_gE (by simpa using h2) h2

set_option maxRecDepth 8000 in
set_option maxHeartbeats 8000000 in
theorem Bstep_ok (v : List UInt32) (a b c d : Nat) (x y : UInt32) (hv : v.length = 16) (ha : a < 16) (hb : b < 16) (hc : c < 16) (hd : d < 16) : ECalls Tryd.prog 60 [.v (.c (.row 0 16)), NV a, NV b, NV c, NV d, WV x, WV y] [.row 90 1 (wrw v)] fun y' H' => H' = [some (.row 90 1 (wrw (mixS v a b c d x y)))] ∧ y' = .tup [] := by
  have ia : (a : Int) < 16 := by omega
  have ib : (b : Int) < 16 := by omega
  have ic : (c : Int) < 16 := by omega
  have id' : (d : Int) < 16 := by omega
  obtain ⟨v1, h1⟩ : ∃ w, v.set a (g v a + g v b + x) = w := ⟨_, rfl⟩
  have e1 : v1.length = 16 := by rw [← h1, List.length_set]; exact hv
  obtain ⟨v2, h2⟩ : ∃ w, v1.set d (rotr (g v1 d ^^^ g v1 a) 16) = w := ⟨_, rfl⟩
  have e2 : v2.length = 16 := by rw [← h2, List.length_set]; exact e1
  obtain ⟨v3, h3⟩ : ∃ w, v2.set c (g v2 c + g v2 d) = w := ⟨_, rfl⟩
  have e3 : v3.length = 16 := by rw [← h3, List.length_set]; exact e2
  obtain ⟨v4, h4⟩ : ∃ w, v3.set b (rotr (g v3 b ^^^ g v3 c) 12) = w := ⟨_, rfl⟩
  have e4 : v4.length = 16 := by rw [← h4, List.length_set]; exact e3
  obtain ⟨v5, h5⟩ : ∃ w, v4.set a (g v4 a + g v4 b + y) = w := ⟨_, rfl⟩
  have e5 : v5.length = 16 := by rw [← h5, List.length_set]; exact e4
  obtain ⟨v6, h6⟩ : ∃ w, v5.set d (rotr (g v5 d ^^^ g v5 a) 8) = w := ⟨_, rfl⟩
  have e6 : v6.length = 16 := by rw [← h6, List.length_set]; exact e5
  obtain ⟨v7, h7⟩ : ∃ w, v6.set c (g v6 c + g v6 d) = w := ⟨_, rfl⟩
  have e7 : v7.length = 16 := by rw [← h7, List.length_set]; exact e6
  obtain ⟨v8, h8⟩ : ∃ w, v7.set b (rotr (g v7 b ^^^ g v7 c) 7) = w := ⟨_, rfl⟩
  have hm : mixS v a b c d x y = v8 := by
    simp only [mixS]
    rw [← UInt32.add_assoc, h1, h2, h3, h4, ← UInt32.add_assoc, h5, h6, h7, h8]
  rw [hm]
  refine ecalls k_Bstep ?_
  simp [c_Bstep, WV, NV, ha, hb, hc, hd, ia, ib, ic, id', hv, wrw_gE', wi_add, wi_xor, wrw_set, h1, e1]
  refine call0 (Bright_ok (g v1 d ^^^ g v1 a) 16 (by decide)) (by simp [WV, NV]) ?_
  rintro y' H' ⟨rfl, rfl⟩
  refine ⟨.inl (by simp), le_ok rfl, ?_⟩
  simp [WV, NV, ha, hb, hc, hd, ia, ib, ic, id', e1, e2, e3, wrw_gE', wi_add, wi_xor, wrw_set, h2, h3]
  refine call0 (Bright_ok (g v3 b ^^^ g v3 c) 12 (by decide)) (by simp [WV, NV]) ?_
  rintro y' H' ⟨rfl, rfl⟩
  refine ⟨.inl (by simp), le_ok rfl, ?_⟩
  simp [WV, NV, ha, hb, hc, hd, ia, ib, ic, id', e3, e4, e5, wrw_gE', wi_add, wi_xor, wrw_set, h4, h5]
  refine call0 (Bright_ok (g v5 d ^^^ g v5 a) 8 (by decide)) (by simp [WV, NV]) ?_
  rintro y' H' ⟨rfl, rfl⟩
  refine ⟨.inl (by simp), le_ok rfl, ?_⟩
  simp [WV, NV, ha, hb, hc, hd, ia, ib, ic, id', e5, e6, e7, wrw_gE', wi_add, wi_xor, wrw_set, h6, h7]
  refine call0 (Bright_ok (g v7 b ^^^ g v7 c) 7 (by decide)) (by simp [WV, NV]) ?_
  rintro y' H' ⟨rfl, rfl⟩
  refine ⟨.inl (by simp), le_ok rfl, ?_⟩
  simp [WV, NV, ha, hb, hc, hd, ia, ib, ic, id', e7, wrw_gE', wi_add, wi_xor, wrw_set, h8]
  exact fin [] (by decide) rfl rfl rfl ⟨rfl, rfl⟩

end Go.Proofs.YtdeeophiffchjaaDoor

namespace Go.Proofs.YtdeeophiffchjaaDoor
open Go Go.EW
set_option linter.unusedSimpArgs false
set_option linter.unusedVariables false

@[simp] def l_Brow_1 (_ : Unit) : List EOp := [⟨0, (some 2), none, (.q (.mov (.k (.string ⟨#[]⟩)))), []⟩]
@[simp] def b_Brow_2 (_ : Unit) : EB := reg0 (hid l_Brow_1) 1
@[simp] def l_Brow_3 (_ : Unit) : List EOp := [⟨0, (some 3), none, (.q (.bsl 1 [(.string ⟨#[]⟩)] 10 [(0, (.k (.string ⟨#[48, 49, 50, 51, 52, 53, 54, 55, 56, 57, 97, 98, 99, 100, 101, 102]⟩))), (1, (.k (.string ⟨#[101, 97, 52, 56, 57, 102, 100, 54, 49, 99, 48, 50, 98, 55, 53, 51]⟩))), (2, (.k (.string ⟨#[98, 56, 99, 48, 53, 50, 102, 100, 97, 101, 51, 54, 55, 49, 57, 52]⟩))), (3, (.k (.string ⟨#[55, 57, 51, 49, 100, 99, 98, 101, 50, 54, 53, 97, 52, 48, 102, 56]⟩))), (4, (.k (.string ⟨#[57, 48, 53, 55, 50, 52, 97, 102, 101, 49, 98, 99, 54, 56, 51, 100]⟩))), (5, (.k (.string ⟨#[50, 99, 54, 97, 48, 98, 56, 51, 52, 100, 55, 53, 102, 101, 49, 57]⟩))), (6, (.k (.string ⟨#[99, 53, 49, 102, 101, 100, 52, 97, 48, 55, 54, 51, 57, 50, 56, 98]⟩))), (7, (.k (.string ⟨#[100, 98, 55, 101, 99, 49, 51, 57, 53, 48, 102, 52, 56, 54, 50, 97]⟩))), (8, (.k (.string ⟨#[54, 102, 101, 57, 98, 51, 48, 56, 99, 50, 100, 55, 49, 52, 97, 53]⟩))), (9, (.k (.string ⟨#[97, 50, 56, 52, 55, 54, 49, 53, 102, 98, 57, 101, 51, 99, 100, 48]⟩)))])), []⟩, ⟨1, (some 4), none, (.q (.mov (.t 0))), []⟩, ⟨2, (some 5), none, (.q (.isl 1 (.t 3) (.t 4))), []⟩, ⟨3, (some 6), none, (.q (.ldc (.t 5))), []⟩, ⟨4, (some 2), none, (.q (.mov (.t 6))), []⟩]
@[simp] def b_Brow_4 (_ : Unit) : EB := reg0 (hid l_Brow_3) 5
@[simp] def b_Brow_5 (_ : Unit) : EB := .seq (hid b_Brow_4) .ret
@[simp] def b_Brow_6 (_ : Unit) : EB := .seq (hid b_Brow_2) (hid b_Brow_5)
def c_Brow : EB × List QOp × Nat := ((hid b_Brow_6), [(.mov (.t 2))], 7)
theorem k_Brow : cfun Tryd.prog 59 = some c_Brow := by kernel_rfl


/-- The ten rows of digits. -/
def rowT : List (List UInt8) := [[48, 49, 50, 51, 52, 53, 54, 55, 56, 57, 97, 98, 99, 100, 101, 102],
  [101, 97, 52, 56, 57, 102, 100, 54, 49, 99, 48, 50, 98, 55, 53, 51],
  [98, 56, 99, 48, 53, 50, 102, 100, 97, 101, 51, 54, 55, 49, 57, 52],
  [55, 57, 51, 49, 100, 99, 98, 101, 50, 54, 53, 97, 52, 48, 102, 56],
  [57, 48, 53, 55, 50, 52, 97, 102, 101, 49, 98, 99, 54, 56, 51, 100],
  [50, 99, 54, 97, 48, 98, 56, 51, 52, 100, 55, 53, 102, 101, 49, 57],
  [99, 53, 49, 102, 101, 100, 52, 97, 48, 55, 54, 51, 57, 50, 56, 98],
  [100, 98, 55, 101, 99, 49, 51, 57, 53, 48, 102, 52, 56, 54, 50, 97],
  [54, 102, 101, 57, 98, 51, 48, 56, 99, 50, 100, 55, 49, 52, 97, 53],
  [97, 50, 56, 52, 55, 54, 49, 53, 102, 98, 57, 101, 51, 99, 100, 48]]
def rowS (r : Nat) : List UInt8 := (rowT[r]?).getD []
theorem Brow_ok (r : Nat) (h : r < 10) : ECalls Tryd.prog 59 [NV r] [] fun y H' => H' = [] ∧ y = .lit (.string (strb (rowS r))) := by
  refine ecalls k_Brow ?_
  match r, h with
  | 0, _ => simp [c_Brow, NV]; exact fin [] (by decide) rfl rfl rfl ⟨rfl, rfl⟩
  | 1, _ => simp [c_Brow, NV]; exact fin [] (by decide) rfl rfl rfl ⟨rfl, rfl⟩
  | 2, _ => simp [c_Brow, NV]; exact fin [] (by decide) rfl rfl rfl ⟨rfl, rfl⟩
  | 3, _ => simp [c_Brow, NV]; exact fin [] (by decide) rfl rfl rfl ⟨rfl, rfl⟩
  | 4, _ => simp [c_Brow, NV]; exact fin [] (by decide) rfl rfl rfl ⟨rfl, rfl⟩
  | 5, _ => simp [c_Brow, NV]; exact fin [] (by decide) rfl rfl rfl ⟨rfl, rfl⟩
  | 6, _ => simp [c_Brow, NV]; exact fin [] (by decide) rfl rfl rfl ⟨rfl, rfl⟩
  | 7, _ => simp [c_Brow, NV]; exact fin [] (by decide) rfl rfl rfl ⟨rfl, rfl⟩
  | 8, _ => simp [c_Brow, NV]; exact fin [] (by decide) rfl rfl rfl ⟨rfl, rfl⟩
  | 9, _ => simp [c_Brow, NV]; exact fin [] (by decide) rfl rfl rfl ⟨rfl, rfl⟩
  | n + 10, h => exact absurd h (by omega)

end Go.Proofs.YtdeeophiffchjaaDoor

namespace Go.Proofs.YtdeeophiffchjaaDoor
open Go Go.EW
set_option linter.unusedSimpArgs false
set_option linter.unusedVariables false

theorem or_add {x y k : Nat} (h : x < 2 ^ k) : x ||| y * 2 ^ k = x + y * 2 ^ k := by
  have := Nat.two_pow_add_eq_or_of_lt h y
  rw [Nat.or_comm, Nat.mul_comm y, ← this]
  omega
theorem bw_nat (b : UInt8) : (bw b).toNat = b.toNat := by
  have := b.toNat_lt
  simp [bw]
/-- A word of four bytes, as a sum. -/
theorem word_sum (a b c d : UInt8) : (((bw a ||| shl (bw b) 8) ||| shl (bw c) 16) ||| shl (bw d) 24).toNat = a.toNat + b.toNat * 2 ^ 8 + c.toNat * 2 ^ 16 + d.toNat * 2 ^ 24 := by
  have ha := a.toNat_lt
  have hb := b.toNat_lt
  have hc := c.toNat_lt
  have hd := d.toNat_lt
  have s1 : (shl (bw b) 8).toNat = b.toNat * 2 ^ 8 := by simp only [shl, bw_nat]; exact UInt32.toNat_ofNat_of_lt' (by show _ < 4294967296; omega)
  have s2 : (shl (bw c) 16).toNat = c.toNat * 2 ^ 16 := by simp only [shl, bw_nat]; exact UInt32.toNat_ofNat_of_lt' (by show _ < 4294967296; omega)
  have s3 : (shl (bw d) 24).toNat = d.toNat * 2 ^ 24 := by simp only [shl, bw_nat]; exact UInt32.toNat_ofNat_of_lt' (by show _ < 4294967296; omega)
  rw [UInt32.toNat_or, UInt32.toNat_or, UInt32.toNat_or, s1, s2, s3, bw_nat, or_add (x := a.toNat) (y := b.toNat) (k := 8) (by omega), or_add (x := a.toNat + b.toNat * 2 ^ 8) (y := c.toNat) (k := 16) (by omega), or_add (x := a.toNat + b.toNat * 2 ^ 8 + c.toNat * 2 ^ 16) (y := d.toNat) (k := 24) (by omega)]
/-- Each digit of each row is blake's. -/
theorem row_digit : ∀ r, r < 10 → ∀ j, j < 16 → ∃ c, (rowS r)[j]? = some c ∧ 48 ≤ c.toNat ∧ sN r j = if 97 ≤ c.toNat then c.toNat - 87 else c.toNat - 48 := by
  have h : ∀ r, r < 10 → ∀ j, j < 16 → (match (rowS r)[j]? with | some c => decide (48 ≤ c.toNat ∧ sN r j = if 97 ≤ c.toNat then c.toNat - 87 else c.toNat - 48) | none => false) = true := by decide +kernel
  intro r hr j hj
  have := h r hr j hj
  split at this
  · rename_i c hc
    exact ⟨c, hc, of_decide_eq_true this⟩
  · simp at this

end Go.Proofs.YtdeeophiffchjaaDoor

namespace Go.Proofs.YtdeeophiffchjaaDoor
open Go Go.EW
set_option linter.unusedSimpArgs false
set_option linter.unusedVariables false

@[simp] def l_Btk_1 (_ : Unit) : List EOp := [⟨0, (some 8), none, (.q (.mov (.k (.slice none 0 0)))), []⟩]
@[simp] def b_Btk_2 (_ : Unit) : EB := reg0 (hid l_Btk_1) 1
@[simp] def l_Btk_3 (_ : Unit) : List EOp := [⟨0, (some 9), none, (.q (.mov (.k (.slice none 0 0)))), []⟩]
@[simp] def b_Btk_4 (_ : Unit) : EB := reg0 (hid l_Btk_3) 1
@[simp] def l_Btk_5 (_ : Unit) : List EOp := [⟨0, (some 10), none, (.q (.mov (.k (.int .i64 0)))), []⟩]
@[simp] def b_Btk_6 (_ : Unit) : EB := reg0 (hid l_Btk_5) 1
@[simp] def l_Btk_7 (_ : Unit) : List EOp := [⟨0, (some 19), none, (.q (.mov (.t 10))), []⟩, ⟨1, (some 20), none, (.q (.bin .lss (.t 19) (.k (.int .i64 64)))), []⟩]
@[simp] def b_Btk_8 (_ : Unit) : EB := reg0 (hid l_Btk_7) 2
@[simp] def b_Btk_9 (_ : Unit) : EB := .cond (.t 20) .skip (.exit 0)
@[simp] def b_Btk_10 (_ : Unit) : EB := .seq (hid b_Btk_8) (hid b_Btk_9)
@[simp] def l_Btk_16 (_ : Unit) : List EOp := [⟨30, (some 53), none, (.q (.bsr 90 1 [(.int .u32 0)] 1 [(0, (.t 52))])), []⟩, ⟨31, (some 54), none, (.app 90 1 4 (.t 23) (.t 53)), []⟩, ⟨32, (some 9), none, (.q (.mov (.t 54))), []⟩]
@[simp] def l_Btk_15 (_ : Unit) : List EOp := ⟨24, (some 47), none, (.q (.bin .add (.t 46) (.k (.int .i64 3)))), []⟩ :: ⟨25, (some 48), none, (.q (.isl 1 (.t 45) (.t 47))), []⟩ :: ⟨26, (some 49), none, (.q (.ldc (.t 48))), []⟩ :: ⟨27, (some 50), none, (.q (.cnv .u32 (.t 49))), []⟩ :: ⟨28, (some 51), none, (.q (.bin .mul (.k (.int .u32 16777216)) (.t 50))), []⟩ :: ⟨29, (some 52), none, (.q (.bin .add (.t 44) (.t 51))), []⟩ :: hid l_Btk_16
@[simp] def l_Btk_14 (_ : Unit) : List EOp := ⟨18, (some 41), none, (.q (.ldc (.t 40))), []⟩ :: ⟨19, (some 42), none, (.q (.cnv .u32 (.t 41))), []⟩ :: ⟨20, (some 43), none, (.q (.bin .mul (.k (.int .u32 65536)) (.t 42))), []⟩ :: ⟨21, (some 44), none, (.q (.bin .add (.t 36) (.t 43))), []⟩ :: ⟨22, (some 45), none, (.q (.mov (.t 1))), []⟩ :: ⟨23, (some 46), none, (.q (.mov (.t 10))), []⟩ :: hid l_Btk_15
@[simp] def l_Btk_13 (_ : Unit) : List EOp := ⟨12, (some 35), none, (.q (.bin .mul (.k (.int .u32 256)) (.t 34))), []⟩ :: ⟨13, (some 36), none, (.q (.bin .add (.t 28) (.t 35))), []⟩ :: ⟨14, (some 37), none, (.q (.mov (.t 1))), []⟩ :: ⟨15, (some 38), none, (.q (.mov (.t 10))), []⟩ :: ⟨16, (some 39), none, (.q (.bin .add (.t 38) (.k (.int .i64 2)))), []⟩ :: ⟨17, (some 40), none, (.q (.isl 1 (.t 37) (.t 39))), []⟩ :: hid l_Btk_14
@[simp] def l_Btk_12 (_ : Unit) : List EOp := ⟨6, (some 29), none, (.q (.mov (.t 1))), []⟩ :: ⟨7, (some 30), none, (.q (.mov (.t 10))), []⟩ :: ⟨8, (some 31), none, (.q (.bin .add (.t 30) (.k (.int .i64 1)))), []⟩ :: ⟨9, (some 32), none, (.q (.isl 1 (.t 29) (.t 31))), []⟩ :: ⟨10, (some 33), none, (.q (.ldc (.t 32))), []⟩ :: ⟨11, (some 34), none, (.q (.cnv .u32 (.t 33))), []⟩ :: hid l_Btk_13
@[simp] def l_Btk_11 (_ : Unit) : List EOp := ⟨0, (some 23), none, (.q (.mov (.t 9))), []⟩ :: ⟨1, (some 24), none, (.q (.mov (.t 1))), []⟩ :: ⟨2, (some 25), none, (.q (.mov (.t 10))), []⟩ :: ⟨3, (some 26), none, (.q (.isl 1 (.t 24) (.t 25))), []⟩ :: ⟨4, (some 27), none, (.q (.ldc (.t 26))), []⟩ :: ⟨5, (some 28), none, (.q (.cnv .u32 (.t 27))), []⟩ :: hid l_Btk_12
@[simp] def b_Btk_17 (_ : Unit) : EB := reg0 (hid l_Btk_11) 33
@[simp] def b_Btk_18 (_ : Unit) : EB := .block 1 (hid b_Btk_17)
@[simp] def l_Btk_19 (_ : Unit) : List EOp := [⟨0, (some 21), none, (.q (.mov (.t 10))), []⟩, ⟨1, (some 22), none, (.q (.bin .add (.t 21) (.k (.int .i64 4)))), []⟩, ⟨2, (some 10), none, (.q (.mov (.t 22))), []⟩]
@[simp] def b_Btk_20 (_ : Unit) : EB := reg0 (hid l_Btk_19) 3
@[simp] def b_Btk_21 (_ : Unit) : EB := .seq (hid b_Btk_18) (hid b_Btk_20)
@[simp] def b_Btk_22 (_ : Unit) : EB := .seq (hid b_Btk_10) (hid b_Btk_21)
@[simp] def b_Btk_23 (_ : Unit) : EB := .loop (hid b_Btk_22)
@[simp] def b_Btk_24 (_ : Unit) : EB := .block 0 (hid b_Btk_23)
@[simp] def b_Btk_25 (_ : Unit) : EB := .seq (hid b_Btk_6) (hid b_Btk_24)
@[simp] def l_Btk_26 (_ : Unit) : List EOp := [⟨0, (some 11), none, (.q (.mov (.k (.slice none 0 0)))), []⟩]
@[simp] def b_Btk_27 (_ : Unit) : EB := reg0 (hid l_Btk_26) 1
@[simp] def l_Btk_28 (_ : Unit) : List EOp := [⟨0, (some 55), none, (.q (.mov (.t 11))), []⟩, ⟨1, (some 56), none, (.q (.mov (.t 0))), []⟩, ⟨2, (some 57), none, (.app 90 1 4 (.t 55) (.t 56)), []⟩, ⟨3, (some 58), none, (.call 55 []), []⟩, ⟨4, (some 59), none, (.app 90 1 4 (.t 57) (.t 58)), []⟩, ⟨5, (some 11), none, (.q (.mov (.t 59))), []⟩]
@[simp] def b_Btk_29 (_ : Unit) : EB := reg0 (hid l_Btk_28) 6
@[simp] def l_Btk_31 (_ : Unit) : List EOp := [⟨6, (some 66), none, (.q (.cnv .u32 (.t 65))), []⟩, ⟨7, (some 67), none, (.q (.bin .xor (.t 63) (.t 66))), []⟩, ⟨8, (some 68), none, (.q (.isl 1 (.t 60) (.k (.int .i64 12)))), []⟩, ⟨9, none, none, (.sto 1 (.t 68) (.t 67)), []⟩]
@[simp] def l_Btk_30 (_ : Unit) : List EOp := ⟨0, (some 60), none, (.q (.mov (.t 11))), []⟩ :: ⟨1, (some 61), none, (.q (.mov (.t 11))), []⟩ :: ⟨2, (some 62), none, (.q (.isl 1 (.t 61) (.k (.int .i64 12)))), []⟩ :: ⟨3, (some 63), none, (.q (.ldc (.t 62))), []⟩ :: ⟨4, (some 64), none, (.q (.mov (.t 2))), []⟩ :: ⟨5, (some 65), none, (.q (.bin .rem (.t 64) (.k (.int .u64 4294967296)))), []⟩ :: hid l_Btk_31
@[simp] def b_Btk_32 (_ : Unit) : EB := reg0 (hid l_Btk_30) 10
@[simp] def l_Btk_34 (_ : Unit) : List EOp := [⟨6, (some 75), none, (.q (.cnv .u32 (.t 74))), []⟩, ⟨7, (some 76), none, (.q (.bin .xor (.t 72) (.t 75))), []⟩, ⟨8, (some 77), none, (.q (.isl 1 (.t 69) (.k (.int .i64 13)))), []⟩, ⟨9, none, none, (.sto 1 (.t 77) (.t 76)), []⟩]
@[simp] def l_Btk_33 (_ : Unit) : List EOp := ⟨0, (some 69), none, (.q (.mov (.t 11))), []⟩ :: ⟨1, (some 70), none, (.q (.mov (.t 11))), []⟩ :: ⟨2, (some 71), none, (.q (.isl 1 (.t 70) (.k (.int .i64 13)))), []⟩ :: ⟨3, (some 72), none, (.q (.ldc (.t 71))), []⟩ :: ⟨4, (some 73), none, (.q (.mov (.t 2))), []⟩ :: ⟨5, (some 74), none, (.q (.bin .quo (.t 73) (.k (.int .u64 4294967296)))), []⟩ :: hid l_Btk_34
@[simp] def b_Btk_35 (_ : Unit) : EB := reg0 (hid l_Btk_33) 10
@[simp] def l_Btk_36 (_ : Unit) : List EOp := [⟨0, (some 78), none, (.q (.mov (.t 3))), []⟩]
@[simp] def b_Btk_37 (_ : Unit) : EB := reg0 (hid l_Btk_36) 1
@[simp] def l_Btk_39 (_ : Unit) : List EOp := [⟨6, none, none, (.sto 1 (.t 84) (.t 83)), []⟩]
@[simp] def l_Btk_38 (_ : Unit) : List EOp := ⟨0, (some 79), none, (.q (.mov (.t 11))), []⟩ :: ⟨1, (some 80), none, (.q (.mov (.t 11))), []⟩ :: ⟨2, (some 81), none, (.q (.isl 1 (.t 80) (.k (.int .i64 14)))), []⟩ :: ⟨3, (some 82), none, (.q (.ldc (.t 81))), []⟩ :: ⟨4, (some 83), none, (.q (.bin .xor (.t 82) (.k (.int .u32 4294967295)))), []⟩ :: ⟨5, (some 84), none, (.q (.isl 1 (.t 79) (.k (.int .i64 14)))), []⟩ :: hid l_Btk_39
@[simp] def b_Btk_40 (_ : Unit) : EB := reg0 (hid l_Btk_38) 7
@[simp] def b_Btk_41 (_ : Unit) : EB := .cond (.t 78) (hid b_Btk_40) .skip
@[simp] def b_Btk_42 (_ : Unit) : EB := .seq (hid b_Btk_37) (hid b_Btk_41)
@[simp] def l_Btk_44 (_ : Unit) : List EOp := [⟨6, (some 91), none, (.q (.bsl 1 [(.int .i64 0)] 4 [(0, (.k (.int .i64 2))), (1, (.k (.int .i64 7))), (2, (.k (.int .i64 8))), (3, (.k (.int .i64 13)))])), []⟩, ⟨7, (some 92), none, (.q (.bsl 1 [(.int .i64 0)] 4 [(0, (.k (.int .i64 3))), (1, (.k (.int .i64 4))), (2, (.k (.int .i64 9))), (3, (.k (.int .i64 14)))])), []⟩, ⟨8, (some 93), none, (.fz (.q (.bsl 1 [(.slice none 0 0)] 8 [(0, (.t 85)), (1, (.t 86)), (2, (.t 87)), (3, (.t 88)), (4, (.t 89)), (5, (.t 90)), (6, (.t 91)), (7, (.t 92))]))), []⟩, ⟨9, (some 12), none, (.q (.mov (.t 93))), []⟩]
@[simp] def l_Btk_43 (_ : Unit) : List EOp := ⟨0, (some 85), none, (.q (.bsl 1 [(.int .i64 0)] 4 [(0, (.k (.int .i64 0))), (1, (.k (.int .i64 4))), (2, (.k (.int .i64 8))), (3, (.k (.int .i64 12)))])), []⟩ :: ⟨1, (some 86), none, (.q (.bsl 1 [(.int .i64 0)] 4 [(0, (.k (.int .i64 1))), (1, (.k (.int .i64 5))), (2, (.k (.int .i64 9))), (3, (.k (.int .i64 13)))])), []⟩ :: ⟨2, (some 87), none, (.q (.bsl 1 [(.int .i64 0)] 4 [(0, (.k (.int .i64 2))), (1, (.k (.int .i64 6))), (2, (.k (.int .i64 10))), (3, (.k (.int .i64 14)))])), []⟩ :: ⟨3, (some 88), none, (.q (.bsl 1 [(.int .i64 0)] 4 [(0, (.k (.int .i64 3))), (1, (.k (.int .i64 7))), (2, (.k (.int .i64 11))), (3, (.k (.int .i64 15)))])), []⟩ :: ⟨4, (some 89), none, (.q (.bsl 1 [(.int .i64 0)] 4 [(0, (.k (.int .i64 0))), (1, (.k (.int .i64 5))), (2, (.k (.int .i64 10))), (3, (.k (.int .i64 15)))])), []⟩ :: ⟨5, (some 90), none, (.q (.bsl 1 [(.int .i64 0)] 4 [(0, (.k (.int .i64 1))), (1, (.k (.int .i64 6))), (2, (.k (.int .i64 11))), (3, (.k (.int .i64 12)))])), []⟩ :: hid l_Btk_44
@[simp] def b_Btk_45 (_ : Unit) : EB := reg0 (hid l_Btk_43) 10
@[simp] def l_Btk_46 (_ : Unit) : List EOp := [⟨0, (some 13), none, (.q (.mov (.k (.int .i64 0)))), []⟩]
@[simp] def b_Btk_47 (_ : Unit) : EB := reg0 (hid l_Btk_46) 1
@[simp] def l_Btk_48 (_ : Unit) : List EOp := [⟨0, (some 94), none, (.q (.mov (.t 13))), []⟩, ⟨1, (some 95), none, (.q (.bin .lss (.t 94) (.k (.int .i64 10)))), []⟩]
@[simp] def b_Btk_49 (_ : Unit) : EB := reg0 (hid l_Btk_48) 2
@[simp] def b_Btk_50 (_ : Unit) : EB := .cond (.t 95) .skip (.exit 2)
@[simp] def b_Btk_51 (_ : Unit) : EB := .seq (hid b_Btk_49) (hid b_Btk_50)
@[simp] def l_Btk_52 (_ : Unit) : List EOp := [⟨0, (some 98), none, (.q (.mov (.t 13))), []⟩, ⟨1, (some 99), none, (.call 59 [(.t 98)]), []⟩, ⟨2, (some 14), none, (.q (.mov (.t 99))), []⟩]
@[simp] def b_Btk_53 (_ : Unit) : EB := reg0 (hid l_Btk_52) 3
@[simp] def l_Btk_54 (_ : Unit) : List EOp := [⟨0, (some 15), none, (.q (.mov (.k (.int .i64 0)))), []⟩]
@[simp] def b_Btk_55 (_ : Unit) : EB := reg0 (hid l_Btk_54) 1
@[simp] def l_Btk_56 (_ : Unit) : List EOp := [⟨0, (some 100), none, (.q (.mov (.t 15))), []⟩, ⟨1, (some 101), none, (.q (.bin .lss (.t 100) (.k (.int .i64 8)))), []⟩]
@[simp] def b_Btk_57 (_ : Unit) : EB := reg0 (hid l_Btk_56) 2
@[simp] def b_Btk_58 (_ : Unit) : EB := .cond (.t 101) .skip (.exit 4)
@[simp] def b_Btk_59 (_ : Unit) : EB := .seq (hid b_Btk_57) (hid b_Btk_58)
@[simp] def l_Btk_60 (_ : Unit) : List EOp := [⟨0, (some 104), none, (.q (.mov (.t 12))), []⟩, ⟨1, (some 105), none, (.q (.mov (.t 15))), []⟩, ⟨2, (some 106), none, (.q (.isl 1 (.t 104) (.t 105))), []⟩, ⟨3, (some 107), none, (.q (.ldc (.t 106))), []⟩, ⟨4, (some 16), none, (.q (.mov (.t 107))), []⟩]
@[simp] def b_Btk_61 (_ : Unit) : EB := reg0 (hid l_Btk_60) 5
@[simp] def l_Btk_67 (_ : Unit) : List EOp := [⟨30, (some 138), none, (.call 60 [(.t 108), (.t 111), (.t 114), (.t 117), (.t 120), (.t 128), (.t 137)]), []⟩]
@[simp] def l_Btk_66 (_ : Unit) : List EOp := ⟨18, (some 126), none, (.call 61 [(.t 125)]), [0, 1, 2, 3, 4, 5, 6, 7, 8, 9, 10, 11, 12, 13, 21, 22, 23, 24, 25, 26]⟩ :: ⟨19, (some 127), none, (.q (.isl 1 (.t 121) (.t 126))), []⟩ :: ⟨20, (some 128), none, (.q (.ldc (.t 127))), []⟩ :: ⟨27, (some 135), none, (.call 61 [(.t 134)]), [0, 1, 2, 3, 4, 5, 6, 7, 8, 9, 10, 11, 12, 13, 21, 19, 20]⟩ :: ⟨28, (some 136), none, (.q (.isl 1 (.t 129) (.t 135))), []⟩ :: ⟨29, (some 137), none, (.q (.ldc (.t 136))), []⟩ :: hid l_Btk_67
@[simp] def l_Btk_65 (_ : Unit) : List EOp := ⟨21, (some 129), none, (.q (.mov (.t 9))), []⟩ :: ⟨22, (some 130), none, (.q (.mov (.t 14))), []⟩ :: ⟨23, (some 131), none, (.q (.mov (.t 15))), []⟩ :: ⟨24, (some 132), none, (.q (.bin .mul (.k (.int .i64 2)) (.t 131))), []⟩ :: ⟨25, (some 133), none, (.q (.bin .add (.t 132) (.k (.int .i64 1)))), []⟩ :: ⟨26, (some 134), none, (.q (.ixs (.t 130) (.t 133))), []⟩ :: hid l_Btk_66
@[simp] def l_Btk_64 (_ : Unit) : List EOp := ⟨12, (some 120), none, (.q (.ldc (.t 119))), []⟩ :: ⟨13, (some 121), none, (.q (.mov (.t 9))), []⟩ :: ⟨14, (some 122), none, (.q (.mov (.t 14))), []⟩ :: ⟨15, (some 123), none, (.q (.mov (.t 15))), []⟩ :: ⟨16, (some 124), none, (.q (.bin .mul (.k (.int .i64 2)) (.t 123))), []⟩ :: ⟨17, (some 125), none, (.q (.ixs (.t 122) (.t 124))), []⟩ :: hid l_Btk_65
@[simp] def l_Btk_63 (_ : Unit) : List EOp := ⟨6, (some 114), none, (.q (.ldc (.t 113))), []⟩ :: ⟨7, (some 115), none, (.q (.mov (.t 16))), []⟩ :: ⟨8, (some 116), none, (.q (.isl 1 (.t 115) (.k (.int .i64 2)))), []⟩ :: ⟨9, (some 117), none, (.q (.ldc (.t 116))), []⟩ :: ⟨10, (some 118), none, (.q (.mov (.t 16))), []⟩ :: ⟨11, (some 119), none, (.q (.isl 1 (.t 118) (.k (.int .i64 3)))), []⟩ :: hid l_Btk_64
@[simp] def l_Btk_62 (_ : Unit) : List EOp := ⟨0, (some 108), none, (.q (.mov (.t 11))), []⟩ :: ⟨1, (some 109), none, (.q (.mov (.t 16))), []⟩ :: ⟨2, (some 110), none, (.q (.isl 1 (.t 109) (.k (.int .i64 0)))), []⟩ :: ⟨3, (some 111), none, (.q (.ldc (.t 110))), []⟩ :: ⟨4, (some 112), none, (.q (.mov (.t 16))), []⟩ :: ⟨5, (some 113), none, (.q (.isl 1 (.t 112) (.k (.int .i64 1)))), []⟩ :: hid l_Btk_63
@[simp] def b_Btk_68 (_ : Unit) : EB := reg1 (hid l_Btk_62) 31
@[simp] def b_Btk_69 (_ : Unit) : EB := .seq (hid b_Btk_61) (hid b_Btk_68)
@[simp] def b_Btk_70 (_ : Unit) : EB := .block 5 (hid b_Btk_69)
@[simp] def l_Btk_71 (_ : Unit) : List EOp := [⟨0, (some 102), none, (.q (.mov (.t 15))), []⟩, ⟨1, (some 103), none, (.q (.bin .add (.t 102) (.k (.int .i64 1)))), []⟩, ⟨2, (some 15), none, (.q (.mov (.t 103))), []⟩]
@[simp] def b_Btk_72 (_ : Unit) : EB := reg0 (hid l_Btk_71) 3
@[simp] def b_Btk_73 (_ : Unit) : EB := .seq (hid b_Btk_70) (hid b_Btk_72)
@[simp] def b_Btk_74 (_ : Unit) : EB := .seq (hid b_Btk_59) (hid b_Btk_73)
@[simp] def b_Btk_75 (_ : Unit) : EB := .loop (hid b_Btk_74)
@[simp] def b_Btk_76 (_ : Unit) : EB := .block 4 (hid b_Btk_75)
@[simp] def b_Btk_77 (_ : Unit) : EB := .seq (hid b_Btk_55) (hid b_Btk_76)
@[simp] def b_Btk_78 (_ : Unit) : EB := .seq (hid b_Btk_53) (hid b_Btk_77)
@[simp] def b_Btk_79 (_ : Unit) : EB := .block 3 (hid b_Btk_78)
@[simp] def l_Btk_80 (_ : Unit) : List EOp := [⟨0, (some 96), none, (.q (.mov (.t 13))), []⟩, ⟨1, (some 97), none, (.q (.bin .add (.t 96) (.k (.int .i64 1)))), []⟩, ⟨2, (some 13), none, (.q (.mov (.t 97))), []⟩]
@[simp] def b_Btk_81 (_ : Unit) : EB := reg0 (hid l_Btk_80) 3
@[simp] def b_Btk_82 (_ : Unit) : EB := .seq (hid b_Btk_79) (hid b_Btk_81)
@[simp] def b_Btk_83 (_ : Unit) : EB := .seq (hid b_Btk_51) (hid b_Btk_82)
@[simp] def b_Btk_84 (_ : Unit) : EB := .loop (hid b_Btk_83)
@[simp] def b_Btk_85 (_ : Unit) : EB := .block 2 (hid b_Btk_84)
@[simp] def b_Btk_86 (_ : Unit) : EB := .seq (hid b_Btk_47) (hid b_Btk_85)
@[simp] def l_Btk_87 (_ : Unit) : List EOp := [⟨0, (some 17), none, (.q (.mov (.k (.slice none 0 0)))), []⟩]
@[simp] def b_Btk_88 (_ : Unit) : EB := reg0 (hid l_Btk_87) 1
@[simp] def l_Btk_89 (_ : Unit) : List EOp := [⟨0, (some 18), none, (.q (.mov (.k (.int .i64 0)))), []⟩]
@[simp] def b_Btk_90 (_ : Unit) : EB := reg0 (hid l_Btk_89) 1
@[simp] def l_Btk_91 (_ : Unit) : List EOp := [⟨0, (some 139), none, (.q (.mov (.t 18))), []⟩, ⟨1, (some 140), none, (.q (.bin .lss (.t 139) (.k (.int .i64 8)))), []⟩]
@[simp] def b_Btk_92 (_ : Unit) : EB := reg0 (hid l_Btk_91) 2
@[simp] def b_Btk_93 (_ : Unit) : EB := .cond (.t 140) .skip (.exit 6)
@[simp] def b_Btk_94 (_ : Unit) : EB := .seq (hid b_Btk_92) (hid b_Btk_93)
@[simp] def l_Btk_98 (_ : Unit) : List EOp := [⟨18, (some 17), none, (.q (.mov (.t 160))), []⟩]
@[simp] def l_Btk_97 (_ : Unit) : List EOp := ⟨12, (some 155), none, (.q (.bin .add (.t 154) (.k (.int .i64 8)))), []⟩ :: ⟨13, (some 156), none, (.q (.isl 1 (.t 153) (.t 155))), []⟩ :: ⟨14, (some 157), none, (.q (.ldc (.t 156))), []⟩ :: ⟨15, (some 158), none, (.q (.bin .xor (.t 152) (.t 157))), []⟩ :: ⟨16, (some 159), none, (.q (.bsr 90 1 [(.int .u32 0)] 1 [(0, (.t 158))])), []⟩ :: ⟨17, (some 160), none, (.app 90 1 4 (.t 143) (.t 159)), []⟩ :: hid l_Btk_98
@[simp] def l_Btk_96 (_ : Unit) : List EOp := ⟨6, (some 149), none, (.q (.mov (.t 18))), []⟩ :: ⟨7, (some 150), none, (.q (.isl 1 (.t 148) (.t 149))), []⟩ :: ⟨8, (some 151), none, (.q (.ldc (.t 150))), []⟩ :: ⟨9, (some 152), none, (.q (.bin .xor (.t 147) (.t 151))), []⟩ :: ⟨10, (some 153), none, (.q (.mov (.t 11))), []⟩ :: ⟨11, (some 154), none, (.q (.mov (.t 18))), []⟩ :: hid l_Btk_97
@[simp] def l_Btk_95 (_ : Unit) : List EOp := ⟨0, (some 143), none, (.q (.mov (.t 17))), []⟩ :: ⟨1, (some 144), none, (.q (.mov (.t 0))), []⟩ :: ⟨2, (some 145), none, (.q (.mov (.t 18))), []⟩ :: ⟨3, (some 146), none, (.q (.isl 1 (.t 144) (.t 145))), []⟩ :: ⟨4, (some 147), none, (.q (.ldc (.t 146))), []⟩ :: ⟨5, (some 148), none, (.q (.mov (.t 11))), []⟩ :: hid l_Btk_96
@[simp] def b_Btk_99 (_ : Unit) : EB := reg0 (hid l_Btk_95) 19
@[simp] def b_Btk_100 (_ : Unit) : EB := .block 7 (hid b_Btk_99)
@[simp] def l_Btk_101 (_ : Unit) : List EOp := [⟨0, (some 141), none, (.q (.mov (.t 18))), []⟩, ⟨1, (some 142), none, (.q (.bin .add (.t 141) (.k (.int .i64 1)))), []⟩, ⟨2, (some 18), none, (.q (.mov (.t 142))), []⟩]
@[simp] def b_Btk_102 (_ : Unit) : EB := reg0 (hid l_Btk_101) 3
@[simp] def b_Btk_103 (_ : Unit) : EB := .seq (hid b_Btk_100) (hid b_Btk_102)
@[simp] def b_Btk_104 (_ : Unit) : EB := .seq (hid b_Btk_94) (hid b_Btk_103)
@[simp] def b_Btk_105 (_ : Unit) : EB := .loop (hid b_Btk_104)
@[simp] def b_Btk_106 (_ : Unit) : EB := .block 6 (hid b_Btk_105)
@[simp] def b_Btk_107 (_ : Unit) : EB := .seq (hid b_Btk_90) (hid b_Btk_106)
@[simp] def l_Btk_108 (_ : Unit) : List EOp := [⟨0, (some 161), none, (.q (.mov (.t 17))), []⟩, ⟨1, (some 8), none, (.q (.mov (.t 161))), []⟩]
@[simp] def b_Btk_109 (_ : Unit) : EB := reg0 (hid l_Btk_108) 2
@[simp] def b_Btk_110 (_ : Unit) : EB := .seq (hid b_Btk_109) .ret
@[simp] def b_Btk_111 (_ : Unit) : EB := .seq (hid b_Btk_107) (hid b_Btk_110)
@[simp] def b_Btk_112 (_ : Unit) : EB := .seq (hid b_Btk_88) (hid b_Btk_111)
@[simp] def b_Btk_113 (_ : Unit) : EB := .seq (hid b_Btk_86) (hid b_Btk_112)
@[simp] def b_Btk_114 (_ : Unit) : EB := .seq (hid b_Btk_45) (hid b_Btk_113)
@[simp] def b_Btk_115 (_ : Unit) : EB := .seq (hid b_Btk_42) (hid b_Btk_114)
@[simp] def b_Btk_116 (_ : Unit) : EB := .seq (hid b_Btk_35) (hid b_Btk_115)
@[simp] def b_Btk_117 (_ : Unit) : EB := .seq (hid b_Btk_32) (hid b_Btk_116)
@[simp] def b_Btk_118 (_ : Unit) : EB := .seq (hid b_Btk_29) (hid b_Btk_117)
@[simp] def b_Btk_119 (_ : Unit) : EB := .seq (hid b_Btk_27) (hid b_Btk_118)
@[simp] def b_Btk_120 (_ : Unit) : EB := .seq (hid b_Btk_25) (hid b_Btk_119)
@[simp] def b_Btk_121 (_ : Unit) : EB := .seq (hid b_Btk_4) (hid b_Btk_120)
@[simp] def b_Btk_122 (_ : Unit) : EB := .seq (hid b_Btk_2) (hid b_Btk_121)
def c_Btk : EB × List QOp × Nat := ((hid b_Btk_122), [(.mov (.t 8))], 162)
theorem k_Btk : cfun Tryd.prog 56 = some c_Btk := by kernel_rfl


def FW (l : List UInt32) : EV := .v (.c (.fz (.sl 1 (wrw l))))
/-- The words of the block taken so far. -/
def mW (b : List UInt8) (i : Nat) : List UInt32 := (List.range i).map (wordS b)
theorem mW_len (b : List UInt8) (i : Nat) : (mW b i).length = i := by simp [mW]
theorem mW_succ (b : List UInt8) (i : Nat) : wrw (mW b i) ++ [[.lit (.int .u32 (wi (wordS b i)))]] = wrw (mW b (i + 1)) := by simp [mW, wrw, List.range_succ]
theorem u32_sum (a b c d : UInt8) : IntKind.u32.wrap (IntKind.u32.wrap (IntKind.u32.wrap (wi (bw a) + IntKind.u32.wrap (256 * wi (bw b))) + IntKind.u32.wrap (65536 * wi (bw c))) + IntKind.u32.wrap (16777216 * wi (bw d))) = wi (((bw a ||| shl (bw b) 8) ||| shl (bw c) 16) ||| shl (bw d) 24) := by
  have ha := a.toNat_lt
  have hb := b.toNat_lt
  have hc := c.toNat_lt
  have hd := d.toNat_lt
  have h := word_sum a b c d
  simp only [u32_mod, wi, bw_nat, h]
  omega
def bk0 (h : List UInt32) (b : List UInt8) (t : Nat) (last : Bool) (i : Nat) (f e : EV) : List EV := [FW h, Bs b, .lit (.int .u64 t), .lit (.bool last), .any, .any, .any, .any, .any, .v (.c (.row 0 i)), NV ((4 * i : Nat) : Int), .any, .any, .any, .any, .any, .any, .any, .any, f, e, .any, .any, .any, .any, .any, .any, .any, .any, .any, .any, .any, .any, .any, .any, .any, .any, .any, .any, .any, .any, .any, .any, .any, .any, .any, .any, .any, .any, .any, .any, .any, .any, .any, .any, .any, .any, .any, .any, .any, .any, .any, .any, .any, .any, .any, .any, .any, .any, .any, .any, .any, .any, .any, .any, .any, .any, .any, .any, .any, .any, .any, .any, .any, .any, .any, .any, .any, .any, .any, .any, .any, .any, .any, .any, .any, .any, .any, .any, .any, .any, .any, .any, .any, .any, .any, .any, .any, .any, .any, .any, .any, .any, .any, .any, .any, .any, .any, .any, .any, .any, .any, .any, .any, .any, .any, .any, .any, .any, .any, .any, .any, .any, .any, .any, .any, .any, .any, .any, .any, .any, .any, .any, .any, .any, .any, .any, .any, .any, .any, .any, .any, .any, .any, .any, .any, .any, .any, .any, .any, .any, .any]
def bh0 (b : List UInt8) (i : Nat) : List (Option EO) := [some (.row 90 1 (wrw (mW b i)))]

@[simp] theorem bh0_len (b : List UInt8) (i : Nat) : (bh0 b i).length = 1 := rfl
theorem bsv_gE (b : List UInt8) (k : Nat) (h2 : k < (bsv b).length) : (bsv b)[k]'h2 = [.lit (.int .u8 ((g8 b k).toNat : Int))] := by
  have hl : k < b.length := by simpa using h2
  simp [bsv, cb, g8, hl]

set_option maxRecDepth 8000 in
set_option maxHeartbeats 8000000 in
theorem bk_words (h : List UInt32) (b : List UInt8) (t : Nat) (last : Bool) (hb : b.length = 64) (Q : Exit → St → Go.EW.Tok → Prop) (hQ : Q (.exit 0) ⟨bk0 h b t last 16 (NV 64) (.lit (.bool false)), ofO (bh0 b 16), 33⟩ .on) :
    LoopT Tryd.prog 0 (hid b_Btk_22) Q ⟨bk0 h b t last 0 .any .any, ofO (bh0 b 0), 1⟩ := by
  refine eloop (α := Nat) (fun i => i ≤ 16) (fun i => 16 - i) (fun i => bk0 h b t last i .any .any) (fun i => bh0 b i) 0 [0]
    (by omega) (by simp [bk0, NV, FW, Bs]) (by simp [bh0]) (by simp [bh0]) (by simp) (by simp [bh0]) ?_
  intro i hi
  have hml := mW_len b i
  by_cases hlt : i < 16
  · obtain ⟨k, hk⟩ : ∃ k, 4 * i = k := ⟨_, rfl⟩
    have w1 : IntKind.i64.wrap ((k : Int) + 1) = ((k + 1 : Nat) : Int) := wrap_i64 (by omega) (by omega)
    have w2 : IntKind.i64.wrap ((k : Int) + 2) = ((k + 2 : Nat) : Int) := wrap_i64 (by omega) (by omega)
    have w3 : IntKind.i64.wrap ((k : Int) + 3) = ((k + 3 : Nat) : Int) := wrap_i64 (by omega) (by omega)
    have w4 : IntKind.i64.wrap ((k : Int) + 4) = ((4 * (i + 1) : Nat) : Int) := by rw [wrap_i64 (by omega) (by omega)]; omega
    have j : (k : Int) < 64 := by omega
    have k0 : k < b.length := by omega
    have k1 : k + 1 < b.length := by omega
    have k2 : k + 2 < b.length := by omega
    have k3 : k + 3 < b.length := by omega
    have hw : ((bw (g8 b k) ||| shl (bw (g8 b (k + 1))) 8) ||| shl (bw (g8 b (k + 2))) 16) ||| shl (bw (g8 b (k + 3))) 24 = wordS b i := by rw [← hk]; rfl
    have hs := u32_sum (g8 b k) (g8 b (k + 1)) (g8 b (k + 2)) (g8 b (k + 3))
    rw [hw] at hs
    simp [bk0, bh0, NV, FW, Bs, hk, w1, w2, w3, w4, j, k0, k1, k2, k3, hml, bsv_gE, wi_bw, hs, mW_succ, -Int.natCast_add]
    refine ⟨by omega, ?_⟩
    exact round (i + 1) [529] (by omega) (by omega) (by simp [bk0, NV, FW, Bs]) (by simp [bh0]) (by simp [bh0]) (by simp) (by simp [bh0])
  · have hi16 : i = 16 := by omega
    subst hi16
    have q := hQ
    simp [bk0, bh0, NV, FW, Bs] at q ⊢
    exact q

end Go.Proofs.YtdeeophiffchjaaDoor

namespace Go.Proofs.YtdeeophiffchjaaDoor
open Go Go.EW
set_option linter.unusedSimpArgs false
set_option linter.unusedVariables false

/-- The places a step of a round works at. -/
def qpA (i : Nat) : Nat := i % 4
def qpB (i : Nat) : Nat := if i < 4 then 4 + i else 4 + (i - 4 + 1) % 4
def qpC (i : Nat) : Nat := if i < 4 then 8 + i else 8 + (i - 4 + 2) % 4
def qpD (i : Nat) : Nat := if i < 4 then 12 + i else 12 + (i - 4 + 3) % 4
def nF (n : Nat) : List FV := [.lit (.int .i64 (n : Int))]
def tabF : List (List FV) := (List.range 8).map fun i => [.sl 1 [nF (qpA i), nF (qpB i), nF (qpC i), nF (qpD i)]]
def stpS (m : List UInt32) (r i : Nat) (v : List UInt32) : List UInt32 := mixS v (qpA i) (qpB i) (qpC i) (qpD i) (g m (sN r (2 * i))) (g m (sN r (2 * i + 1)))
def stpsS (m : List UInt32) (r : Nat) (v : List UInt32) : Nat → List UInt32
  | 0 => v
  | k + 1 => stpS m r k (stpsS m r v k)
theorem stps_rnd (m : List UInt32) (r : Nat) (v : List UInt32) : stpsS m r v 8 = diasS m r (colsS m r v 4) 4 := rfl
theorem stps_len (m : List UInt32) (r : Nat) (v : List UInt32) : ∀ k, (stpsS m r v k).length = v.length
  | 0 => rfl
  | k + 1 => by simp only [stpsS, stpS, mixS_len]; exact stps_len m r v k
theorem pA_lt (i : Nat) (h : i < 8) : qpA i < 16 ∧ qpB i < 16 ∧ qpC i < 16 ∧ qpD i < 16 := ⟨by unfold qpA; omega, by unfold qpB; split <;> omega, by unfold qpC; split <;> omega, by unfold qpD; split <;> omega⟩
theorem tab_get (i : Nat) (h : i < 8) : tabF[i]? = some [.sl 1 [nF (qpA i), nF (qpB i), nF (qpC i), nF (qpD i)]] := by simp [tabF, h]

def bk4 (h : List UInt32) (r i : Nat) (f e : EV) : List EV := [FW h, .any, .any, .any, .any, .any, .any, .any, .any, .v (.c (.row 0 16)), .any, .v (.c (.row 1 16)), .v (.c (.fz (.sl 1 tabF))), NV r, .lit (.string (strb (rowS r))), NV i, .any, .any, .any, .any, .any, .any, .any, .any, .any, .any, .any, .any, .any, .any, .any, .any, .any, .any, .any, .any, .any, .any, .any, .any, .any, .any, .any, .any, .any, .any, .any, .any, .any, .any, .any, .any, .any, .any, .any, .any, .any, .any, .any, .any, .any, .any, .any, .any, .any, .any, .any, .any, .any, .any, .any, .any, .any, .any, .any, .any, .any, .any, .any, .any, .any, .any, .any, .any, .any, .any, .any, .any, .any, .any, .any, .any, .any, .any, .any, .any, .any, .any, .any, .any, f, e, .any, .any, .any, .any, .any, .any, .any, .any, .any, .any, .any, .any, .any, .any, .any, .any, .any, .any, .any, .any, .any, .any, .any, .any, .any, .any, .any, .any, .any, .any, .any, .any, .any, .any, .any, .any, .any, .any, .any, .any, .any, .any, .any, .any, .any, .any, .any, .any, .any, .any, .any, .any, .any, .any, .any, .any, .any, .any, .any, .any]
def bh4 (m v : List UInt32) : List (Option EO) := [some (.row 90 1 (wrw m)), some (.row 90 1 (wrw v))]
@[simp] theorem bh4_len (m v : List UInt32) : (bh4 m v).length = 2 := rfl
set_option maxRecDepth 8000 in
set_option maxHeartbeats 8000000 in
theorem bk_steps (h m V : List UInt32) (r : Nat) (hr : r < 10) (hm : m.length = 16) (hV : V.length = 16) (Q : Exit → St → Go.EW.Tok → Prop) (hQ : Q (.exit 4) ⟨bk4 h r 8 (NV 8) (.lit (.bool false)), ofO (bh4 m (stpsS m r V 8)), 34⟩ .on) :
    LoopT Tryd.prog 0 (hid b_Btk_74) Q ⟨bk4 h r 0 .any .any, ofO (bh4 m V), 2⟩ := by
  refine eloop (α := Nat) (fun i => i ≤ 8) (fun i => 8 - i) (fun i => bk4 h r i .any .any) (fun i => bh4 m (stpsS m r V i)) 0 [0, 1]
    (by omega) (by simp [bk4, NV, FW]) (by simp [bh4, stpsS]) (by simp [bh4]) (by simp) (by simp) ?_
  intro i hi
  have hml := stps_len m r V i
  by_cases hlt : i < 8
  · have j : (i : Int) < 8 := by omega
    have tg := tab_get i hlt
    obtain ⟨la, lb, lc, ld⟩ := pA_lt i hlt
    obtain ⟨c0, d0, d1, d2⟩ := row_digit r hr (2 * i) (by omega)
    obtain ⟨c1, f0, f1, f2⟩ := row_digit r hr (2 * i + 1) (by omega)
    have w0 : IntKind.i64.wrap (2 * (i : Int)) = ((2 * i : Nat) : Int) := by rw [wrap_i64 (by omega) (by omega)]; omega
    have w1 : IntKind.i64.wrap (((2 * i : Nat) : Int) + 1) = ((2 * i + 1 : Nat) : Int) := wrap_i64 (by omega) (by omega)
    have w2 : IntKind.i64.wrap ((i : Int) + 1) = ((i + 1 : Nat) : Int) := wrap_i64 (by omega) (by omega)
    have ia : (qpA i : Int) < 16 := by omega
    have ib : (qpB i : Int) < 16 := by omega
    have ic : (qpC i : Int) < 16 := by omega
    have id' : (qpD i : Int) < 16 := by omega
    simp [bk4, bh4, NV, FW, hlt, j, tg, nF, la, lb, lc, ld, w0, -Int.natCast_mul]
    have g0 : (strb (rowS r)).data[2 * i]? = some c0 := by simpa [strb] using d0
    have g1 : (strb (rowS r)).data[2 * i + 1]? = some c1 := by simpa [strb] using f0
    have n0 := sN_lt r hr (2 * i) (by omega)
    have n1 := sN_lt r hr (2 * i + 1) (by omega)
    have z0 : (sN r (2 * i) : Int) < 16 := by omega
    have z1 : (sN r (2 * i + 1) : Int) < 16 := by omega
    simp [g0, w0, w1, g1, -Int.natCast_mul, -Int.natCast_add]
    refine call0 (Bdigit_ok c0 (sN r (2 * i)) d2 d1) (by simp) ?_
    rintro y H' ⟨rfl, rfl⟩
    refine ⟨.inl (by simp), by simp, ?_⟩
    simp [NV, w0, w1, g1, hm, n0, n1, z0, z1, wrw_gE', -Int.natCast_mul, -Int.natCast_add]
    refine call0 (Bdigit_ok c1 (sN r (2 * i + 1)) f2 f1) (by simp) ?_
    rintro y H' ⟨rfl, rfl⟩
    refine ⟨.inl (by simp), by simp, ?_⟩
    simp [NV, w0, w1, g1, hm, n0, n1, z0, z1, wrw_gE', -Int.natCast_mul, -Int.natCast_add]
    refine callH [1] (Bstep_ok (stpsS m r V i) (qpA i) (qpB i) (qpC i) (qpD i) (g m (sN r (2 * i))) (g m (sN r (2 * i + 1))) (by omega) la lb lc ld) (by simp [NV, WV]) (by simp) (by simp) (by simp) (by simp) ?_
    rintro y H' ⟨rfl, rfl⟩
    refine ⟨.inl (by simp), by simp, ?_⟩
    simp [NV, w2, -Int.natCast_add]
    exact round (i + 1) [0, 1] (by omega) (by omega) (by simp [bk4, NV, FW]) (by simp [bh4, stpsS, stpS]) (by simp [bh4]) (by simp) (by simp)
  · have hi8 : i = 8 := by omega
    subst hi8
    have q := hQ
    simp [bk4, bh4, NV, FW] at q ⊢
    exact q

end Go.Proofs.YtdeeophiffchjaaDoor

namespace Go.Proofs.YtdeeophiffchjaaDoor
open Go Go.EW
set_option linter.unusedSimpArgs false
set_option linter.unusedVariables false

def bk2 (h : List UInt32) (r : Nat) (f e : EV) : List EV := [FW h, .any, .any, .any, .any, .any, .any, .any, .any, .v (.c (.row 0 16)), .any, .v (.c (.row 1 16)), .v (.c (.fz (.sl 1 tabF))), NV r, .any, .any, .any, .any, .any, .any, .any, .any, .any, .any, .any, .any, .any, .any, .any, .any, .any, .any, .any, .any, .any, .any, .any, .any, .any, .any, .any, .any, .any, .any, .any, .any, .any, .any, .any, .any, .any, .any, .any, .any, .any, .any, .any, .any, .any, .any, .any, .any, .any, .any, .any, .any, .any, .any, .any, .any, .any, .any, .any, .any, .any, .any, .any, .any, .any, .any, .any, .any, .any, .any, .any, .any, .any, .any, .any, .any, .any, .any, .any, .any, f, e, .any, .any, .any, .any, .any, .any, .any, .any, .any, .any, .any, .any, .any, .any, .any, .any, .any, .any, .any, .any, .any, .any, .any, .any, .any, .any, .any, .any, .any, .any, .any, .any, .any, .any, .any, .any, .any, .any, .any, .any, .any, .any, .any, .any, .any, .any, .any, .any, .any, .any, .any, .any, .any, .any, .any, .any, .any, .any, .any, .any, .any, .any, .any, .any, .any, .any]
set_option maxRecDepth 8000 in
set_option maxHeartbeats 8000000 in
theorem bk_rnds (h m V : List UInt32) (hm : m.length = 16) (hV : V.length = 16) (Q : Exit → St → Go.EW.Tok → Prop) (hQ : Q (.exit 2) ⟨bk2 h 10 (NV 10) (.lit (.bool false)), ofO (bh4 m (rndsS m V 10)), 34⟩ .on) :
    LoopT Tryd.prog 0 (hid b_Btk_83) Q ⟨bk2 h 0 .any .any, ofO (bh4 m V), 2⟩ := by
  refine eloop (α := Nat) (fun i => i ≤ 10) (fun i => 10 - i) (fun i => bk2 h i .any .any) (fun i => bh4 m (rndsS m V i)) 0 [0, 1]
    (by omega) (by simp [bk2, NV, FW]) (by simp [bh4, rndsS]) (by simp [bh4]) (by simp) (by simp) ?_
  intro r hr
  have hml : (rndsS m V r).length = 16 := by rw [rndsS_len]; exact hV
  by_cases hlt : r < 10
  · have j : (r : Int) < 10 := by omega
    have w2 : IntKind.i64.wrap ((r : Int) + 1) = ((r + 1 : Nat) : Int) := wrap_i64 (by omega) (by omega)
    simp [bk2, bh4, NV, FW, hlt, j]
    refine call0 (Brow_ok r hlt) (by simp [NV]) ?_
    rintro y H' ⟨rfl, rfl⟩
    refine ⟨.inl (by simp), by simp, ?_⟩
    simp [NV]
    refine loopW _ (weak_norm [0, 1] (bk4 h r 0 .any .any) (bh4 m (rndsS m V r)) (by simp [bk4, NV, FW]) (by simp [bh4]) (by simp [bh4]) (by simp) (by simp)) (bk_steps h m _ r hlt hm hml _ ?_)
    rw [stps_rnd]
    simp [bk4, bh4, NV, FW, w2, -Int.natCast_add]
    exact round (r + 1) [0, 1] (by omega) (by omega) (by simp [bk2, NV, FW]) (by simp [bh4, rndsS]) (by simp [bh4]) (by simp) (by simp)
  · have hi8 : r = 10 := by omega
    subst hi8
    have q := hQ
    simp [bk2, bh4, NV, FW] at q ⊢
    exact q

end Go.Proofs.YtdeeophiffchjaaDoor

namespace Go.Proofs.YtdeeophiffchjaaDoor
open Go Go.EW
set_option linter.unusedSimpArgs false
set_option linter.unusedVariables false

def xF (h v : List UInt32) (i : Nat) : UInt32 := g h i ^^^ g v i ^^^ g v (i + 8)
def xW (h v : List UInt32) (i : Nat) : List UInt32 := (List.range i).map (xF h v)
theorem xW_len (h v : List UInt32) (i : Nat) : (xW h v i).length = i := by simp [xW]
theorem xW_succ (h v : List UInt32) (i : Nat) : wrw (xW h v i) ++ [[.lit (.int .u32 (wi (g h i ^^^ g v i ^^^ g v (i + 8))))]] = wrw (xW h v (i + 1)) := by simp [xW, xF, wrw, List.range_succ]
def bk6 (h : List UInt32) (i : Nat) (f e : EV) : List EV := [FW h, .any, .any, .any, .any, .any, .any, .any, .any, .any, .any, .v (.c (.row 0 16)), .any, .any, .any, .any, .any, .v (.c (.row 1 i)), NV i, .any, .any, .any, .any, .any, .any, .any, .any, .any, .any, .any, .any, .any, .any, .any, .any, .any, .any, .any, .any, .any, .any, .any, .any, .any, .any, .any, .any, .any, .any, .any, .any, .any, .any, .any, .any, .any, .any, .any, .any, .any, .any, .any, .any, .any, .any, .any, .any, .any, .any, .any, .any, .any, .any, .any, .any, .any, .any, .any, .any, .any, .any, .any, .any, .any, .any, .any, .any, .any, .any, .any, .any, .any, .any, .any, .any, .any, .any, .any, .any, .any, .any, .any, .any, .any, .any, .any, .any, .any, .any, .any, .any, .any, .any, .any, .any, .any, .any, .any, .any, .any, .any, .any, .any, .any, .any, .any, .any, .any, .any, .any, .any, .any, .any, .any, .any, .any, .any, .any, .any, f, e, .any, .any, .any, .any, .any, .any, .any, .any, .any, .any, .any, .any, .any, .any, .any, .any, .any, .any, .any, .any, .any]
def bh6 (h v : List UInt32) (i : Nat) : List (Option EO) := [some (.row 90 1 (wrw v)), some (.row 90 1 (wrw (xW h v i)))]
@[simp] theorem bh6_len (h v : List UInt32) (i : Nat) : (bh6 h v i).length = 2 := rfl
set_option maxRecDepth 8000 in
set_option maxHeartbeats 8000000 in
theorem bk_xor (h v : List UInt32) (hh : h.length = 8) (hv : v.length = 16) (Q : Exit → St → Go.EW.Tok → Prop) (hQ : Q (.exit 6) ⟨bk6 h 8 (NV 8) (.lit (.bool false)), ofO (bh6 h v 8), 34⟩ .on) :
    LoopT Tryd.prog 0 (hid b_Btk_104) Q ⟨bk6 h 0 .any .any, ofO (bh6 h v 0), 2⟩ := by
  refine eloop (α := Nat) (fun i => i ≤ 8) (fun i => 8 - i) (fun i => bk6 h i .any .any) (fun i => bh6 h v i) 0 [0, 1]
    (by omega) (by simp [bk6, NV, FW]) (by simp [bh6]) (by simp [bh6]) (by simp) (by simp) ?_
  intro i hi
  have hml := xW_len h v i
  by_cases hlt : i < 8
  · have j : (i : Int) < 8 := by omega
    have j2 : (i : Int) < 16 := by omega
    have k2 : i < 16 := by omega
    have w2 : IntKind.i64.wrap ((i : Int) + 1) = ((i + 1 : Nat) : Int) := wrap_i64 (by omega) (by omega)
    have w8 : IntKind.i64.wrap ((i : Int) + 8) = ((i + 8 : Nat) : Int) := wrap_i64 (by omega) (by omega)
    have j8 : ((i + 8 : Nat) : Int) < 16 := by omega
    have k8 : i + 8 < 16 := by omega
    simp [bk6, bh6, NV, FW, hlt, j, j2, k2, w2, w8, j8, k8, hh, hv, hml, wrw_gE', wi_xor, xW_succ, -Int.natCast_add]
    refine ⟨by omega, ?_⟩
    exact round (i + 1) [0, 306] (by omega) (by omega) (by simp [bk6, NV, FW]) (by simp [bh6]) (by simp [bh6]) (by simp) (by simp)
  · have hi8 : i = 8 := by omega
    subst hi8
    have q := hQ
    simp [bk6, bh6, NV, FW] at q ⊢
    exact q

end Go.Proofs.YtdeeophiffchjaaDoor
