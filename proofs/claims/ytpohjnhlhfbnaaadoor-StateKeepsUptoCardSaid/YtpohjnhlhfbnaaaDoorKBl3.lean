import Derived.Test.YtpohjnhlhfbnaaaDoorKBl2b
namespace Go.Proofs.YtpohjnhlhfbnaaaDoor
open Go Go.EW
set_option linter.unusedSimpArgs false
set_option linter.unusedVariables false

def zU64 : List Value := List.replicate 64 (.int .u8 0)
def Z64 : List UInt8 := List.replicate 64 0
@[simp] theorem zU64_litc : zU64.map litc = hc Z64 := rfl
@[simp] theorem zU64_litc' : List.map (fun v => EC.fz (FV.lit v)) zU64 = hc Z64 := rfl
@[simp] theorem Z64_len : Z64.length = 64 := rfl

@[simp] def l_BWrite_1 (_ : Unit) : List EOp := [⟨0, (some 5), none, (.q (.mov (.t 0))), []⟩, ⟨1, (some 6), none, (.q (.eqp false (.t 5))), []⟩]
@[simp] def b_BWrite_2 (_ : Unit) : EB := reg0 (hid l_BWrite_1) 2
@[simp] def b_BWrite_3 (_ : Unit) : EB := .cond (.t 6) .ret .skip
@[simp] def b_BWrite_4 (_ : Unit) : EB := .seq (hid b_BWrite_2) (hid b_BWrite_3)
@[simp] def l_BWrite_6 (_ : Unit) : List EOp := [⟨6, (some 13), none, (.q (.bin .add (.t 10) (.t 12))), []⟩, ⟨7, (some 14), none, (.q (.nilc (.t 7))), []⟩, ⟨8, (some 15), none, (.q (.fad 10 (.t 14))), []⟩, ⟨9, none, none, (.sto 1 (.t 15) (.t 13)), []⟩]
@[simp] def l_BWrite_5 (_ : Unit) : List EOp := ⟨0, (some 7), none, (.q (.mov (.t 0))), []⟩ :: ⟨1, (some 8), none, (.q (.nilc (.t 7))), []⟩ :: ⟨2, (some 9), none, (.q (.fad 10 (.t 8))), []⟩ :: ⟨3, (some 10), none, (.q (.ldc (.t 9))), []⟩ :: ⟨4, (some 11), none, (.q (.mov (.t 1))), []⟩ :: ⟨5, (some 12), none, (.q (.len (.t 11))), []⟩ :: hid l_BWrite_6
@[simp] def b_BWrite_7 (_ : Unit) : EB := reg0 (hid l_BWrite_5) 10
@[simp] def l_BWrite_8 (_ : Unit) : List EOp := [⟨0, (some 16), none, (.q (.mov (.t 1))), []⟩, ⟨1, (some 17), none, (.q (.len (.t 16))), []⟩, ⟨2, (some 18), none, (.q (.bin .gtr (.t 17) (.k (.int .i64 0)))), []⟩]
@[simp] def b_BWrite_9 (_ : Unit) : EB := reg0 (hid l_BWrite_8) 3
@[simp] def b_BWrite_10 (_ : Unit) : EB := .cond (.t 18) .skip (.exit 0)
@[simp] def b_BWrite_11 (_ : Unit) : EB := .seq (hid b_BWrite_9) (hid b_BWrite_10)
@[simp] def l_BWrite_12 (_ : Unit) : List EOp := [⟨0, (some 19), none, (.q (.mov (.t 0))), []⟩, ⟨1, (some 20), none, (.q (.nilc (.t 19))), []⟩, ⟨2, (some 21), none, (.q (.fad 8 (.t 20))), []⟩, ⟨3, (some 22), none, (.q (.ldc (.t 21))), []⟩, ⟨4, (some 23), none, (.q (.len (.t 22))), []⟩, ⟨5, (some 24), none, (.q (.bin .eql (.t 23) (.k (.int .i64 64)))), []⟩]
@[simp] def b_BWrite_13 (_ : Unit) : EB := reg0 (hid l_BWrite_12) 6
@[simp] def l_BWrite_15 (_ : Unit) : List EOp := [⟨6, (some 31), none, (.q (.fad 9 (.t 30))), []⟩, ⟨7, none, none, (.sto 1 (.t 31) (.t 29)), []⟩]
@[simp] def l_BWrite_14 (_ : Unit) : List EOp := ⟨0, (some 25), none, (.q (.mov (.t 0))), []⟩ :: ⟨1, (some 26), none, (.q (.nilc (.t 25))), []⟩ :: ⟨2, (some 27), none, (.q (.fad 9 (.t 26))), []⟩ :: ⟨3, (some 28), none, (.q (.ldc (.t 27))), []⟩ :: ⟨4, (some 29), none, (.q (.bin .add (.t 28) (.k (.int .u64 64)))), []⟩ :: ⟨5, (some 30), none, (.q (.nilc (.t 25))), []⟩ :: hid l_BWrite_15
@[simp] def b_BWrite_16 (_ : Unit) : EB := reg0 (hid l_BWrite_14) 8
@[simp] def l_BWrite_19 (_ : Unit) : List EOp := [⟨12, (some 44), none, (.q (.ldc (.t 43))), []⟩, ⟨13, (some 45), none, (.call 116 [(.t 34), (.t 40), (.t 44), (.k (.bool false))]), []⟩]
@[simp] def l_BWrite_18 (_ : Unit) : List EOp := ⟨6, (some 38), none, (.q (.ldc (.t 37))), []⟩ :: ⟨7, (some 39), none, (.q (.s2a 64 1 (.t 38))), []⟩ :: ⟨8, (some 40), none, (.q (.lda 64 (.t 39))), []⟩ :: ⟨9, (some 41), none, (.q (.mov (.t 0))), []⟩ :: ⟨10, (some 42), none, (.q (.nilc (.t 41))), []⟩ :: ⟨11, (some 43), none, (.q (.fad 9 (.t 42))), []⟩ :: hid l_BWrite_19
@[simp] def l_BWrite_17 (_ : Unit) : List EOp := ⟨0, (some 32), none, (.q (.mov (.t 0))), []⟩ :: ⟨1, (some 33), none, (.q (.nilc (.t 32))), []⟩ :: ⟨2, (some 34), none, (.q (.fad 0 (.t 33))), []⟩ :: ⟨3, (some 35), none, (.q (.mov (.t 0))), []⟩ :: ⟨4, (some 36), none, (.q (.nilc (.t 35))), []⟩ :: ⟨5, (some 37), none, (.q (.fad 8 (.t 36))), []⟩ :: hid l_BWrite_18
@[simp] def b_BWrite_20 (_ : Unit) : EB := reg0 (hid l_BWrite_17) 14
@[simp] def l_BWrite_22 (_ : Unit) : List EOp := [⟨6, (some 52), none, (.q (.nilc (.t 46))), []⟩, ⟨7, (some 53), none, (.q (.fad 8 (.t 52))), []⟩, ⟨8, none, none, (.fz (.sto 1 (.t 53) (.t 51))), []⟩]
@[simp] def l_BWrite_21 (_ : Unit) : List EOp := ⟨0, (some 46), none, (.q (.mov (.t 0))), []⟩ :: ⟨1, (some 47), none, (.q (.mov (.t 0))), []⟩ :: ⟨2, (some 48), none, (.q (.nilc (.t 47))), []⟩ :: ⟨3, (some 49), none, (.q (.fad 8 (.t 48))), []⟩ :: ⟨4, (some 50), none, (.q (.ldc (.t 49))), []⟩ :: ⟨5, (some 51), none, (.q (.ssl 1 (.t 50) none (some (.k (.int .i64 0))))), []⟩ :: hid l_BWrite_22
@[simp] def b_BWrite_23 (_ : Unit) : EB := reg0 (hid l_BWrite_21) 9
@[simp] def b_BWrite_24 (_ : Unit) : EB := .seq (hid b_BWrite_20) (hid b_BWrite_23)
@[simp] def b_BWrite_25 (_ : Unit) : EB := .seq (hid b_BWrite_16) (hid b_BWrite_24)
@[simp] def b_BWrite_26 (_ : Unit) : EB := .cond (.t 24) (hid b_BWrite_25) .skip
@[simp] def b_BWrite_27 (_ : Unit) : EB := .seq (hid b_BWrite_13) (hid b_BWrite_26)
@[simp] def l_BWrite_29 (_ : Unit) : List EOp := [⟨6, (some 60), none, (.q (.len (.t 59))), []⟩, ⟨7, (some 61), none, (.q (.bin .sub (.k (.int .i64 64)) (.t 60))), []⟩, ⟨8, (some 62), none, (.q (.minmax false [(.t 55), (.t 61)])), []⟩, ⟨9, (some 4), none, (.q (.mov (.t 62))), []⟩]
@[simp] def l_BWrite_28 (_ : Unit) : List EOp := ⟨0, (some 54), none, (.q (.mov (.t 1))), []⟩ :: ⟨1, (some 55), none, (.q (.len (.t 54))), []⟩ :: ⟨2, (some 56), none, (.q (.mov (.t 0))), []⟩ :: ⟨3, (some 57), none, (.q (.nilc (.t 56))), []⟩ :: ⟨4, (some 58), none, (.q (.fad 8 (.t 57))), []⟩ :: ⟨5, (some 59), none, (.q (.ldc (.t 58))), []⟩ :: hid l_BWrite_29
@[simp] def b_BWrite_30 (_ : Unit) : EB := reg0 (hid l_BWrite_28) 10
@[simp] def l_BWrite_32 (_ : Unit) : List EOp := [⟨6, (some 69), none, (.q (.mov (.t 4))), []⟩, ⟨7, (some 70), none, (.q (.ssl 1 (.t 68) none (some (.t 69)))), []⟩, ⟨8, (some 71), none, (.app 5 1 1 (.t 67) (.t 70)), [0]⟩, ⟨9, (some 72), none, (.q (.nilc (.t 63))), []⟩, ⟨10, (some 73), none, (.q (.fad 8 (.t 72))), []⟩, ⟨11, none, none, (.fz (.sto 1 (.t 73) (.t 71))), []⟩]
@[simp] def l_BWrite_31 (_ : Unit) : List EOp := ⟨0, (some 63), none, (.q (.mov (.t 0))), []⟩ :: ⟨1, (some 64), none, (.q (.mov (.t 0))), []⟩ :: ⟨2, (some 65), none, (.q (.nilc (.t 64))), []⟩ :: ⟨3, (some 66), none, (.q (.fad 8 (.t 65))), []⟩ :: ⟨4, (some 67), none, (.q (.ldc (.t 66))), []⟩ :: ⟨5, (some 68), none, (.q (.mov (.t 1))), []⟩ :: hid l_BWrite_32
@[simp] def b_BWrite_33 (_ : Unit) : EB := reg1 (hid l_BWrite_31) 12
@[simp] def l_BWrite_34 (_ : Unit) : List EOp := [⟨0, (some 74), none, (.q (.mov (.t 1))), []⟩, ⟨1, (some 75), none, (.q (.mov (.t 4))), []⟩, ⟨2, (some 76), none, (.q (.ssl 1 (.t 74) (some (.t 75)) none)), []⟩, ⟨3, (some 1), none, (.q (.mov (.t 76))), []⟩]
@[simp] def b_BWrite_35 (_ : Unit) : EB := reg0 (hid l_BWrite_34) 4
@[simp] def b_BWrite_36 (_ : Unit) : EB := .seq (hid b_BWrite_33) (hid b_BWrite_35)
@[simp] def b_BWrite_37 (_ : Unit) : EB := .seq (hid b_BWrite_30) (hid b_BWrite_36)
@[simp] def b_BWrite_38 (_ : Unit) : EB := .seq (hid b_BWrite_27) (hid b_BWrite_37)
@[simp] def b_BWrite_39 (_ : Unit) : EB := .block 1 (hid b_BWrite_38)
@[simp] def b_BWrite_40 (_ : Unit) : EB := .seq (hid b_BWrite_11) (hid b_BWrite_39)
@[simp] def b_BWrite_41 (_ : Unit) : EB := .loop (hid b_BWrite_40)
@[simp] def b_BWrite_42 (_ : Unit) : EB := .block 0 (hid b_BWrite_41)
@[simp] def b_BWrite_43 (_ : Unit) : EB := .seq (hid b_BWrite_7) (hid b_BWrite_42)
@[simp] def b_BWrite_44 (_ : Unit) : EB := .seq (hid b_BWrite_4) (hid b_BWrite_43)
def c_BWrite : EB × List QOp × Nat := ((hid b_BWrite_44), [], 77)
theorem k_BWrite : cfun Tryd.prog 100 = some c_BWrite := by kernel_rfl

@[simp] def l_BSumM_1 (_ : Unit) : List EOp := [⟨0, (some 2), none, (.q (.alloc 52 zU8)), []⟩]
@[simp] def b_BSumM_2 (_ : Unit) : EB := reg0 (hid l_BSumM_1) 1
@[simp] def l_BSumM_3 (_ : Unit) : List EOp := [⟨0, (some 3), none, (.q (.alloc 52 zU8)), []⟩]
@[simp] def b_BSumM_4 (_ : Unit) : EB := reg0 (hid l_BSumM_3) 1
@[simp] def l_BSumM_5 (_ : Unit) : List EOp := [⟨0, (some 7), none, (.q (.mov (.t 0))), []⟩, ⟨1, (some 8), none, (.q (.eqp false (.t 7))), []⟩]
@[simp] def b_BSumM_6 (_ : Unit) : EB := reg0 (hid l_BSumM_5) 2
@[simp] def l_BSumM_7 (_ : Unit) : List EOp := [⟨0, (some 9), none, (.q (.lda 32 (.t 3))), []⟩, ⟨1, none, none, (.sto 32 (.t 2) (.t 9)), []⟩]
@[simp] def b_BSumM_8 (_ : Unit) : EB := reg0 (hid l_BSumM_7) 2
@[simp] def b_BSumM_9 (_ : Unit) : EB := .seq (hid b_BSumM_8) .ret
@[simp] def b_BSumM_10 (_ : Unit) : EB := .cond (.t 8) (hid b_BSumM_9) .skip
@[simp] def b_BSumM_11 (_ : Unit) : EB := .seq (hid b_BSumM_6) (hid b_BSumM_10)
@[simp] def l_BSumM_12 (_ : Unit) : List EOp := [⟨0, (some 4), none, (.q (.alloc 177 zU64)), []⟩]
@[simp] def b_BSumM_13 (_ : Unit) : EB := reg0 (hid l_BSumM_12) 1
@[simp] def l_BSumM_14 (_ : Unit) : List EOp := [⟨0, (some 10), none, (.q (.sar 64 (.t 4) none none)), []⟩, ⟨1, (some 11), none, (.q (.mov (.t 0))), []⟩, ⟨2, (some 12), none, (.q (.nilc (.t 11))), []⟩, ⟨3, (some 13), none, (.q (.fad 8 (.t 12))), []⟩, ⟨4, (some 14), none, (.q (.ldc (.t 13))), []⟩, ⟨5, (some 15), none, (.cpy 1 (.t 10) (.t 14)), []⟩]
@[simp] def b_BSumM_15 (_ : Unit) : EB := reg0 (hid l_BSumM_14) 6
@[simp] def l_BSumM_16 (_ : Unit) : List EOp := [⟨0, (some 16), none, (.q (.mov (.t 0))), []⟩, ⟨1, (some 17), none, (.q (.nilc (.t 16))), []⟩, ⟨2, (some 18), none, (.q (.fad 0 (.t 17))), []⟩, ⟨3, (some 19), none, (.q (.lda 8 (.t 18))), []⟩, ⟨4, (some 5), none, (.q (.alloc 150 [(.int .u32 0), (.int .u32 0), (.int .u32 0), (.int .u32 0), (.int .u32 0), (.int .u32 0), (.int .u32 0), (.int .u32 0)])), []⟩, ⟨5, none, none, (.sto 8 (.t 5) (.t 19)), []⟩]
@[simp] def b_BSumM_17 (_ : Unit) : EB := reg0 (hid l_BSumM_16) 6
@[simp] def l_BSumM_20 (_ : Unit) : List EOp := [⟨12, (some 32), none, (.call 116 [(.t 5), (.t 20), (.t 31), (.k (.bool true))]), []⟩]
@[simp] def l_BSumM_19 (_ : Unit) : List EOp := ⟨6, (some 26), none, (.q (.nilc (.t 25))), []⟩ :: ⟨7, (some 27), none, (.q (.fad 8 (.t 26))), []⟩ :: ⟨8, (some 28), none, (.q (.ldc (.t 27))), []⟩ :: ⟨9, (some 29), none, (.q (.len (.t 28))), []⟩ :: ⟨10, (some 30), none, (.q (.cnv .u64 (.t 29))), []⟩ :: ⟨11, (some 31), none, (.q (.bin .add (.t 24) (.t 30))), []⟩ :: hid l_BSumM_20
@[simp] def l_BSumM_18 (_ : Unit) : List EOp := ⟨0, (some 20), none, (.q (.lda 64 (.t 4))), []⟩ :: ⟨1, (some 21), none, (.q (.mov (.t 0))), []⟩ :: ⟨2, (some 22), none, (.q (.nilc (.t 21))), []⟩ :: ⟨3, (some 23), none, (.q (.fad 9 (.t 22))), []⟩ :: ⟨4, (some 24), none, (.q (.ldc (.t 23))), []⟩ :: ⟨5, (some 25), none, (.q (.mov (.t 0))), []⟩ :: hid l_BSumM_19
@[simp] def b_BSumM_21 (_ : Unit) : EB := reg0 (hid l_BSumM_18) 13
@[simp] def l_BSumM_22 (_ : Unit) : List EOp := [⟨0, (some 33), none, (.q (.mov (.k (.int .i64 0)))), []⟩]
@[simp] def b_BSumM_23 (_ : Unit) : EB := reg0 (hid l_BSumM_22) 1
@[simp] def l_BSumM_24 (_ : Unit) : List EOp := [⟨0, (some 34), none, (.q (.bin .lss (.t 33) (.k (.int .i64 32)))), []⟩]
@[simp] def b_BSumM_25 (_ : Unit) : EB := reg0 (hid l_BSumM_24) 1
@[simp] def b_BSumM_26 (_ : Unit) : EB := .cond (.t 34) .skip (.exit 0)
@[simp] def l_BSumM_27 (_ : Unit) : List EOp := [⟨0, (some 35), none, (.q (.mov (.t 33))), []⟩, ⟨1, (some 6), none, (.q (.mov (.t 35))), []⟩]
@[simp] def b_BSumM_28 (_ : Unit) : EB := reg0 (hid l_BSumM_27) 2
@[simp] def l_BSumM_30 (_ : Unit) : List EOp := [⟨6, (some 42), none, (.q (.bin .rem (.t 41) (.k (.int .i64 4)))), []⟩, ⟨7, (some 43), none, (.q (.bin .mul (.k (.int .i64 8)) (.t 42))), []⟩, ⟨8, (some 44), none, (.q (.bin .shr (.t 40) (.t 43))), []⟩, ⟨9, (some 45), none, (.q (.cnv .u8 (.t 44))), []⟩, ⟨10, (some 46), none, (.q (.iad 32 1 (.t 3) (.t 36))), []⟩, ⟨11, none, none, (.sto 1 (.t 46) (.t 45)), []⟩]
@[simp] def l_BSumM_29 (_ : Unit) : List EOp := ⟨0, (some 36), none, (.q (.mov (.t 6))), []⟩ :: ⟨1, (some 37), none, (.q (.mov (.t 6))), []⟩ :: ⟨2, (some 38), none, (.q (.bin .quo (.t 37) (.k (.int .i64 4)))), []⟩ :: ⟨3, (some 39), none, (.q (.iad 8 1 (.t 5) (.t 38))), []⟩ :: ⟨4, (some 40), none, (.q (.ldc (.t 39))), []⟩ :: ⟨5, (some 41), none, (.q (.mov (.t 6))), []⟩ :: hid l_BSumM_30
@[simp] def b_BSumM_31 (_ : Unit) : EB := reg0 (hid l_BSumM_29) 12
@[simp] def b_BSumM_32 (_ : Unit) : EB := .seq (hid b_BSumM_28) (hid b_BSumM_31)
@[simp] def b_BSumM_33 (_ : Unit) : EB := .block 1 (hid b_BSumM_32)
@[simp] def l_BSumM_34 (_ : Unit) : List EOp := [⟨0, (some 47), none, (.q (.bin .add (.t 33) (.k (.int .i64 1)))), []⟩, ⟨1, (some 33), none, (.q (.mov (.t 47))), []⟩]
@[simp] def b_BSumM_35 (_ : Unit) : EB := reg0 (hid l_BSumM_34) 2
@[simp] def b_BSumM_36 (_ : Unit) : EB := .seq (hid b_BSumM_33) (hid b_BSumM_35)
@[simp] def b_BSumM_37 (_ : Unit) : EB := .seq (hid b_BSumM_26) (hid b_BSumM_36)
@[simp] def b_BSumM_38 (_ : Unit) : EB := .seq (hid b_BSumM_25) (hid b_BSumM_37)
@[simp] def b_BSumM_39 (_ : Unit) : EB := .loop (hid b_BSumM_38)
@[simp] def b_BSumM_40 (_ : Unit) : EB := .block 0 (hid b_BSumM_39)
@[simp] def b_BSumM_41 (_ : Unit) : EB := .seq (hid b_BSumM_23) (hid b_BSumM_40)
@[simp] def l_BSumM_42 (_ : Unit) : List EOp := [⟨0, (some 48), none, (.q (.lda 32 (.t 3))), []⟩, ⟨1, none, none, (.sto 32 (.t 2) (.t 48)), []⟩]
@[simp] def b_BSumM_43 (_ : Unit) : EB := reg0 (hid l_BSumM_42) 2
@[simp] def b_BSumM_44 (_ : Unit) : EB := .seq (hid b_BSumM_43) .ret
@[simp] def b_BSumM_45 (_ : Unit) : EB := .seq (hid b_BSumM_41) (hid b_BSumM_44)
@[simp] def b_BSumM_46 (_ : Unit) : EB := .seq (hid b_BSumM_21) (hid b_BSumM_45)
@[simp] def b_BSumM_47 (_ : Unit) : EB := .seq (hid b_BSumM_17) (hid b_BSumM_46)
@[simp] def b_BSumM_48 (_ : Unit) : EB := .seq (hid b_BSumM_15) (hid b_BSumM_47)
@[simp] def b_BSumM_49 (_ : Unit) : EB := .seq (hid b_BSumM_13) (hid b_BSumM_48)
@[simp] def b_BSumM_50 (_ : Unit) : EB := .seq (hid b_BSumM_11) (hid b_BSumM_49)
@[simp] def b_BSumM_51 (_ : Unit) : EB := .seq (hid b_BSumM_4) (hid b_BSumM_50)
@[simp] def b_BSumM_52 (_ : Unit) : EB := .seq (hid b_BSumM_2) (hid b_BSumM_51)
def c_BSumM : EB × List QOp × Nat := ((hid b_BSumM_52), [(.lda 32 (.t 2))], 49)
theorem k_BSumM : cfun Tryd.prog 101 = some c_BSumM := by kernel_rfl

@[simp] def l_BSum_1 (_ : Unit) : List EOp := [⟨0, (some 2), none, (.q (.alloc 52 zU8)), []⟩]
@[simp] def b_BSum_2 (_ : Unit) : EB := reg0 (hid l_BSum_1) 1
@[simp] def l_BSum_3 (_ : Unit) : List EOp := [⟨0, (some 4), none, (.call 99 []), []⟩, ⟨1, (some 5), none, (.q (.build [(.int .u32 0), (.int .u32 0), (.int .u32 0), (.int .u32 0), (.int .u32 0), (.int .u32 0), (.int .u32 0), (.int .u32 0), (.slice none 0 0), (.int .u64 0), (.int .i64 0)] [(0, 8, (.t 4))])), []⟩, ⟨2, (some 6), none, (.q (.box 153 (.t 5))), []⟩, ⟨3, (some 3), none, (.q (.mov (.t 6))), []⟩]
@[simp] def b_BSum_4 (_ : Unit) : EB := reg0 (hid l_BSum_3) 4
@[simp] def l_BSum_6 (_ : Unit) : List EOp := [⟨6, (some 13), none, (.q (.nilc (.t 7))), []⟩, ⟨7, (some 14), none, (.q (.fad 0 (.t 13))), []⟩, ⟨8, (some 15), none, (.q (.iad 8 1 (.t 14) (.k (.int .i64 0)))), []⟩, ⟨9, none, none, (.sto 1 (.t 15) (.t 12)), []⟩]
@[simp] def l_BSum_5 (_ : Unit) : List EOp := ⟨0, (some 7), none, (.q (.mov (.t 3))), []⟩ :: ⟨1, (some 8), none, (.q (.nilc (.t 7))), []⟩ :: ⟨2, (some 9), none, (.q (.fad 0 (.t 8))), []⟩ :: ⟨3, (some 10), none, (.q (.iad 8 1 (.t 9) (.k (.int .i64 0)))), []⟩ :: ⟨4, (some 11), none, (.q (.ldc (.t 10))), []⟩ :: ⟨5, (some 12), none, (.q (.bin .xor (.t 11) (.k (.int .u32 16842784)))), []⟩ :: hid l_BSum_6
@[simp] def b_BSum_7 (_ : Unit) : EB := reg0 (hid l_BSum_5) 10
@[simp] def l_BSum_8 (_ : Unit) : List EOp := [⟨0, (some 16), none, (.q (.mov (.t 3))), []⟩, ⟨1, (some 17), none, (.q (.mov (.t 0))), []⟩, ⟨2, (some 18), none, (.call 100 [(.t 16), (.t 17)]), []⟩]
@[simp] def b_BSum_9 (_ : Unit) : EB := reg0 (hid l_BSum_8) 3
@[simp] def l_BSum_10 (_ : Unit) : List EOp := [⟨0, (some 19), none, (.q (.mov (.t 3))), []⟩, ⟨1, (some 20), none, (.call 101 [(.t 19)]), []⟩, ⟨2, none, none, (.sto 32 (.t 2) (.t 20)), []⟩]
@[simp] def b_BSum_11 (_ : Unit) : EB := reg0 (hid l_BSum_10) 3
@[simp] def b_BSum_12 (_ : Unit) : EB := .seq (hid b_BSum_11) .ret
@[simp] def b_BSum_13 (_ : Unit) : EB := .seq (hid b_BSum_9) (hid b_BSum_12)
@[simp] def b_BSum_14 (_ : Unit) : EB := .seq (hid b_BSum_7) (hid b_BSum_13)
@[simp] def b_BSum_15 (_ : Unit) : EB := .seq (hid b_BSum_4) (hid b_BSum_14)
@[simp] def b_BSum_16 (_ : Unit) : EB := .seq (hid b_BSum_2) (hid b_BSum_15)
def c_BSum : EB × List QOp × Nat := ((hid b_BSum_16), [(.lda 32 (.t 2))], 21)
theorem k_BSum : cfun Tryd.prog 66 = some c_BSum := by kernel_rfl


/-! ### bytes written on -/
/-- The words, what waits, how many were taken in, what is still to come. -/
abbrev Wst := List UInt32 × List UInt8 × Nat × List UInt8
def wst1 (s : Wst) : Wst := if s.2.1.length = 64 then (takeS s.1 s.2.1 (s.2.2.1 + 64) false, [], s.2.2.1 + 64, s.2.2.2) else s
def wst2 (s : Wst) : Wst := (s.1, s.2.1 ++ s.2.2.2.take (min s.2.2.2.length (64 - s.2.1.length)), s.2.2.1, s.2.2.2.drop (min s.2.2.2.length (64 - s.2.1.length)))
def wstep (s : Wst) : Wst := wst2 (wst1 s)
def wrun : Nat → Wst → Wst
  | 0, s => s
  | k + 1, s => if s.2.2.2 = [] then s else wrun k (wstep s)
/-- Behind all. -/
def wall (s : Wst) : Wst := wrun s.2.2.2.length s
theorem takeS_len (h : List UInt32) (b : List UInt8) (t : Nat) (last : Bool) : (takeS h b t last).length = h.length := xorS_len _ _ _
structure Wok' (N : Nat) (s : Wst) : Prop where
  h : s.1.length = 8
  w : s.2.1.length ≤ 64
  n : s.2.1.length + s.2.2.1 + s.2.2.2.length = N
theorem wst1_ok {N : Nat} {s : Wst} (k : Wok' N s) : Wok' N (wst1 s) := by
  obtain ⟨h, w, t, r⟩ := s
  obtain ⟨k1, k2, k3⟩ := k
  unfold wst1
  dsimp only at *
  split
  · refine ⟨?_, ?_, ?_⟩
    · dsimp only; rw [takeS_len]; exact k1
    · simp
    · simp; omega
  · exact ⟨k1, k2, k3⟩
theorem wst1_lt {N : Nat} {s : Wst} (k : Wok' N s) : (wst1 s).2.1.length < 64 ∧ (wst1 s).2.2.2 = s.2.2.2 := by
  obtain ⟨h, w, t, r⟩ := s
  obtain ⟨k1, k2, k3⟩ := k
  unfold wst1
  dsimp only at *
  split
  · simp
  · exact ⟨by simp only; omega, rfl⟩
theorem wst2_ok {N : Nat} {s : Wst} (k : Wok' N s) : Wok' N (wst2 s) := by
  obtain ⟨h, w, t, r⟩ := s
  obtain ⟨k1, k2, k3⟩ := k
  unfold wst2
  dsimp only at *
  refine ⟨k1, ?_, ?_⟩
  · simp; omega
  · simp; omega
theorem wstep_ok {N : Nat} {s : Wst} (k : Wok' N s) : Wok' N (wstep s) := wst2_ok (wst1_ok k)
theorem wstep_lt {N : Nat} {s : Wst} (k : Wok' N s) (hr : s.2.2.2 ≠ []) : (wstep s).2.2.2.length < s.2.2.2.length := by
  have h1 := wst1_lt k
  have hp := List.length_pos_iff.2 hr
  unfold wstep wst2
  dsimp only
  rw [List.length_drop, h1.2]
  omega
theorem wrun_fuel {N : Nat} : ∀ (k j : Nat) {s : Wst}, Wok' N s → s.2.2.2.length ≤ k → s.2.2.2.length ≤ j → wrun k s = wrun j s
  | 0, 0, _, _, _, _ => rfl
  | 0, j + 1, s, _, h, _ => by
    have : s.2.2.2 = [] := List.eq_nil_of_length_eq_zero (by omega)
    simp [wrun, this]
  | k + 1, 0, s, _, _, h => by
    have : s.2.2.2 = [] := List.eq_nil_of_length_eq_zero (by omega)
    simp [wrun, this]
  | k + 1, j + 1, s, o, h1, h2 => by
    unfold wrun
    by_cases e : s.2.2.2 = []
    · simp [e]
    · rw [if_neg e, if_neg e]
      have := wstep_lt o e
      exact wrun_fuel k j (wstep_ok o) (by omega) (by omega)
theorem wall_nil {s : Wst} (h : s.2.2.2 = []) : wall s = s := by
  unfold wall
  rw [h]
  rfl
theorem wall_step {N : Nat} {s : Wst} (o : Wok' N s) (h : s.2.2.2 ≠ []) : wall s = wall (wstep s) := by
  have hp := List.length_pos_iff.2 h
  have hl := wstep_lt o h
  unfold wall
  obtain ⟨k, hk⟩ : ∃ k, s.2.2.2.length = k + 1 := ⟨_, (Nat.succ_pred_eq_of_pos hp).symm⟩
  rw [hk]
  conv => lhs; unfold wrun
  rw [if_neg h]
  exact wrun_fuel k _ (wstep_ok o) (by omega) (Nat.le_refl _)
theorem wall_ok {N : Nat} : ∀ (k : Nat) {s : Wst}, Wok' N s → s.2.2.2.length ≤ k → Wok' N (wall s) ∧ (wall s).2.2.2 = []
  | 0, s, o, h => by
    have : s.2.2.2 = [] := List.eq_nil_of_length_eq_zero (by omega)
    rw [wall_nil this]
    exact ⟨o, this⟩
  | k + 1, s, o, h => by
    by_cases e : s.2.2.2 = []
    · rw [wall_nil e]; exact ⟨o, e⟩
    · rw [wall_step o e]
      have := wstep_lt o e
      exact wall_ok k (wstep_ok o) (by omega)

theorem hc_bsv (l : List UInt8) : (bsv l).flatten.map EC.fz = hc l := by
  induction l with
  | nil => rfl
  | cons b r ih => simp only [bsv, List.map_cons, List.flatten_cons, cb, hc] at *; simp [ih]
theorem hc_tk {l : List UInt8} {n : Nat} (h : l.length ≤ n) : (hc l).take n = hc l := List.take_of_length_le (by rw [hc_len]; exact h)
theorem u64_nat {n : Nat} (h : n < 18446744073709551616) : IntKind.u64.wrap (n : Int) = (n : Int) := by rw [wrap_u64 (by omega) (by omega)]
theorem put10 {v : List UInt32} (h : v.length = 8) (x y z u : EC) : List.take 10 (wl v ++ [x, y, z]) ++ u :: List.drop 11 (wl v ++ [x, y, z]) = wl v ++ [x, y, u] := by
  have e : (wl v).length = 8 := by simpa using h
  rw [List.take_append, List.drop_append, e, List.take_of_length_le (by omega), List.drop_of_length_le (by omega)]
  simp
theorem put9 {v : List UInt32} (h : v.length = 8) (x y z u : EC) : List.take 9 (wl v ++ [x, y, z]) ++ u :: List.drop 10 (wl v ++ [x, y, z]) = wl v ++ [x, u, z] := by
  have e : (wl v).length = 8 := by simpa using h
  rw [List.take_append, List.drop_append, e, List.take_of_length_le (by omega), List.drop_of_length_le (by omega)]
  simp
theorem put8 {v : List UInt32} (h : v.length = 8) (x y z u : EC) : List.take 8 (wl v ++ [x, y, z]) ++ u :: List.drop 9 (wl v ++ [x, y, z]) = wl v ++ [u, y, z] := by
  have e : (wl v).length = 8 := by simpa using h
  rw [List.take_append, List.drop_append, e, List.take_of_length_le (by omega), List.drop_of_length_le (by omega)]
  simp

theorem drop9 {v : List UInt32} (h : v.length = 8) (x y z : EC) : List.drop 9 (wl v ++ [x, y, z]) = [y, z] := by
  have e : (wl v).length = 8 := by simpa using h
  rw [List.drop_append, e, List.drop_of_length_le (by omega)]
  rfl
theorem bsv_0 {w : List UInt8} (h : w.length = 64) : ∃ c, ∀ h', (bsv w)[0]'h' = cb c := by
  cases w with
  | nil => simp at h
  | cons c r => exact ⟨c, fun _ => rfl⟩
theorem i64_min (a b : Nat) : (if a < b then (a : Int) else (b : Int)) = ((min b a : Nat) : Int) := by split <;> omega

set_option maxRecDepth 8000 in
set_option maxHeartbeats 4000000 in
theorem Write_ok (h : List UInt32) (w : List UInt8) (t n : Nat) (b : List UInt8) (o : Wok' (w.length + t + b.length) (h, w, t, b)) (hb : w.length + t + b.length ≤ 1000000000) (hn : n ≤ 1000000000) :
    ECalls Tryd.prog 100 [.v (.c (.ptr 0 0)), Bs b] [SO 1 h w.length t n, RB w] fun y H' => H' = [some (SO 2 (wall (h, w, t, b)).1 (wall (h, w, t, b)).2.1.length (wall (h, w, t, b)).2.2.1 (n + b.length)), none, some (RB (wall (h, w, t, b)).2.1)] ∧ y = .tup [] := by
  obtain ⟨A, hA⟩ : ∃ A, wall (h, w, t, b) = A := ⟨_, rfl⟩
  obtain ⟨N, hN⟩ : ∃ N, n + b.length = N := ⟨_, rfl⟩
  obtain ⟨M, hM⟩ : ∃ M, w.length + t + b.length = M := ⟨_, rfl⟩
  rw [hA, hN]
  rw [hM] at o hb
  have h8 : h.length = 8 := o.h
  have wn : IntKind.i64.wrap ((n : Int) + (b.length : Int)) = (N : Int) := by rw [wrap_i64 (by omega) (by omega)]; omega
  refine ecalls k_BWrite ?_
  simp [c_BWrite, SO, RB, Bs, NV, h8, wn]
  refine eloop (α := Wst) (fun a => Wok' M a ∧ wall a = A) (fun a => a.2.2.2.length)
    (fun a => [.v (.c (.ptr 0 0)), Bs a.2.2.2, .any, .any, .any, .any, .any, .any, .any, .any, .any, .any, .any, .any, .any, .any, .any, .any, .any, .any, .any, .any, .any, .any, .any, .any, .any, .any, .any, .any, .any, .any, .any, .any, .any, .any, .any, .any, .any, .any, .any, .any, .any, .any, .any, .any, .any, .any, .any, .any, .any, .any, .any, .any, .any, .any, .any, .any, .any, .any, .any, .any, .any, .any, .any, .any, .any, .any, .any, .any, .any, .any, .any, .any, .any, .any, .any]) (fun a => [some (SO 2 a.1 a.2.1.length a.2.2.1 N), none, some (RB a.2.1)]) (h, w, t, b) [0, 1, 1]
    ⟨o, hA⟩ (by simp [Bs]) (by simp [SO, RB, put10 h8]) (by simp) (by decide) (by simp) ?_
  clear o hA wn hn hN h8 hM
  clear h w t b n
  rintro ⟨h, w, t, b⟩ ⟨o, hA⟩
  obtain ⟨h8, hw, hs⟩ := id o
  dsimp only at h8 hw hs
  simp [SO, RB, Bs, NV, h8]
  refine alt (fun hp => ?_) (fun hp => ?_)
  · have hne : (h, w, t, b).2.2.2 ≠ [] := by rintro e; simp at e; subst e; simp at hp
    have o2 := wstep_ok o
    have hlt := wstep_lt o hne
    have hA2 := (wall_step o hne).symm.trans hA
    simp [h8]
    refine alt (fun hl => ?_) (fun hl => ?_)
    · have hl' : w.length = 64 := by omega
      obtain ⟨c, hc0⟩ := bsv_0 hl'
      have wt : IntKind.u64.wrap ((t : Int) + 64) = ((t + 64 : Nat) : Int) := by rw [show (t : Int) + 64 = ((t + 64 : Nat) : Int) by omega]; exact u64_nat (by omega)
      have hcl : (hc w).length = 64 := by rw [hc_len]; exact hl'
      have hct : List.take 64 (hc w) = hc w := hc_tk (by omega)
      have m64 : (if (64 : Int) < (b.length : Int) then (64 : Int) else (b.length : Int)) = ((min b.length 64 : Nat) : Int) := by split <;> omega
      obtain ⟨k, hk⟩ : ∃ k, min b.length 64 = k := ⟨_, rfl⟩
      rw [hk] at m64
      have hs1 : wstep (h, w, t, b) = (takeS h w (t + 64) false, b.take k, t + 64, b.drop k) := by simp [wstep, wst1, wst2, hl', hk]
      rw [hs1] at o2 hlt hA2
      obtain ⟨T2, hT⟩ : ∃ T2, takeS h w (t + 64) false = T2 := ⟨_, rfl⟩
      rw [hT] at o2 hlt hA2
      have h82 : T2.length = 8 := o2.h
      simp [h8, hl', hc0, cb, wt, put9 h8, hcl, hct, -Int.natCast_add]
      refine callH [0, 2] (takeB_ok (t + 64) N w h w (t + 64) false h8 hl' (by omega)) (by simp [BV]) (by simp [SO, RB, hl']) (by simp) (by simp) (by simp) ?_
      rintro y H' ⟨rfl, rfl⟩
      refine ⟨.inl (by simp), by simp, ?_⟩
      rw [hT]
      have w64 : IntKind.i64.wrap 64 = 64 := by decide +kernel
      have hkb : k ≤ b.length := by omega
      have hk2 : min k b.length = k := by omega
      simp [SO, RB, h82, hl', w64, m64, hkb, hk2, put8 h82, drop9 h82, -Int.natCast_add]
      exact ⟨by omega, round (T2, b.take k, t + 64, b.drop k) [0, 1, 931] ⟨o2, hA2⟩ hlt (by simp) (by simp [hk2]) (by simp) (by decide) (by simp)⟩
    · have hl' : ¬ w.length = 64 := by omega
      have w64 : IntKind.i64.wrap (64 - (w.length : Int)) = ((64 - w.length : Nat) : Int) := by rw [wrap_i64 (by omega) (by omega)]; omega
      obtain ⟨k, hk⟩ : ∃ k, min b.length (64 - w.length) = k := ⟨_, rfl⟩
      have hm := i64_min (64 - w.length) b.length
      rw [hk] at hm
      have hs1 : wstep (h, w, t, b) = (h, w ++ b.take k, t, b.drop k) := by simp [wstep, wst1, wst2, hl', hk]
      rw [hs1] at o2 hlt hA2
      have hkb : k ≤ b.length := by omega
      have hk2 : min k b.length = k := by omega
      simp [h8, hl, w64, hm, hkb, hk2, put8 h8, -Int.natCast_add]
      refine ⟨by omega, ?_⟩
      exact round (h, w ++ b.take k, t, b.drop k) [0, 1, 435] ⟨o2, hA2⟩ hlt (by simp) (by simp [hk2, drop9 h8]) (by simp) (by decide) (by simp)
  · have : b = [] := List.eq_nil_of_length_eq_zero (by omega)
    subst this
    rw [wall_nil rfl] at hA
    subst hA
    simp [SO, RB]
    exact fin [2] (by decide) rfl rfl (by simp [objsOut, show List.range 2 = [0, 1] from rfl]) ⟨rfl, rfl⟩

/-! ### the sum of what was written -/
def padS (w : List UInt8) : List UInt8 := w ++ List.replicate (64 - w.length) 0
theorem padS_len {w : List UInt8} (h : w.length ≤ 64) : (padS w).length = 64 := by simp [padS]; omega
def outB (h : List UInt32) (i : Nat) : UInt8 := UInt8.ofNat ((g h (i / 4)).toNat / 2 ^ (8 * (i % 4)))
def outS (h : List UInt32) : List UInt8 := (List.range 32).map (outB h)
theorem outS_len (h : List UInt32) : (outS h).length = 32 := by simp [outS]
/-- Behind some bytes written. -/
def finS (s : Wst) : List UInt8 := outS (takeS s.1 (padS s.2.1) (s.2.2.1 + s.2.1.length) true)
def oI (h : List UInt32) (i : Nat) : List UInt8 := (List.range 32).map fun j => if j < i then outB h j else 0
theorem oI_len (h : List UInt32) (i : Nat) : (oI h i).length = 32 := by simp [oI]
theorem oI_0 (h : List UInt32) : oI h 0 = hz := by unfold oI hz; rfl
theorem oI_32 (h : List UInt32) : oI h 32 = outS h := by
  unfold oI outS
  apply List.map_congr_left
  intro j hj
  simp [List.mem_range.1 hj]
theorem oI_set (h : List UInt32) {i : Nat} (hi : i < 32) : (oI h i).set i (outB h i) = oI h (i + 1) := by
  apply List.ext_getElem?
  intro j
  by_cases hj : j < 32
  · rw [List.getElem?_set]
    by_cases he : i = j
    · subst he
      simp [oI, hj]
    · simp [oI, hj, he]
      by_cases h2 : j < i
      · rw [if_pos h2, if_pos (by omega)]
      · rw [if_neg h2, if_neg (by omega)]
  · rw [List.getElem?_eq_none (by simp [oI]; omega), List.getElem?_eq_none (by simp [oI]; omega)]
theorem u8_shr (x : UInt32) (k : Nat) : IntKind.u8.wrap (wi (shr x k)) = ((UInt8.ofNat (x.toNat / 2 ^ k)).toNat : Int) := by
  have h1 : wi (shr x k) = ((x.toNat / 2 ^ k : Nat) : Int) := by
    unfold shr
    rw [wi_ofNat]
    have h1 : x.toNat / 2 ^ k ≤ x.toNat := Nat.div_le_self _ _
    have h2 := x.toNat_lt
    generalize x.toNat / 2 ^ k = q at *
    omega
  rw [h1]
  simp [IntKind.wrap, IntKind.bits, IntKind.signed, UInt8.toNat_ofNat']
theorem hc_put {b : List UInt8} {i : Nat} {x : UInt8} (h : i < b.length) : hc (List.take i b) ++ .fz (.lit (.int .u8 (x.toNat : Int))) :: hc (List.drop (i + 1) b) = hc (b.set i x) := by
  have e : hc (b.set i x) = (hc b).set i (.fz (.lit (.int .u8 (x.toNat : Int)))) := by simp [hc, List.map_set]
  rw [e, List.set_eq_take_append_cons_drop, if_pos (by rw [hc_len]; exact h)]
  simp [hc]

set_option maxRecDepth 8000 in
set_option maxHeartbeats 4000000 in
theorem SumM_ok (h : List UInt32) (w : List UInt8) (t n : Nat) (h8 : h.length = 8) (hw : w.length ≤ 64) (ht : t ≤ 1000000000) :
    ECalls Tryd.prog 101 [.v (.c (.ptr 0 0))] [SO 1 h w.length t n, RB w] fun y H' => H' = [some (SO 1 h w.length t n), some (RB w)] ∧ y = .v (.agg (hc (finS (h, w, t, [])))) := by
  have tw : List.take 64 w = w := List.take_of_length_le hw
  have mw : min 64 w.length = w.length := by omega
  have hp : hc w ++ hc (List.drop w.length Z64) = hc (padS w) := by simp [-List.reduceReplicate, hc, padS, Z64]
  have pl := padS_len hw
  have tp : List.take 64 (hc (padS w)) = hc (padS w) := hc_tk (by omega)
  have wl' : IntKind.u64.wrap (w.length : Int) = (w.length : Int) := u64_nat (by omega)
  have wt : IntKind.u64.wrap ((t : Int) + (w.length : Int)) = ((t + w.length : Nat) : Int) := by rw [show (t : Int) + (w.length : Int) = ((t + w.length : Nat) : Int) by omega]; exact u64_nat (by omega)
  refine ecalls k_BSumM ?_
  simp [c_BSumM, SO, RB, NV, h8, tw, mw, hp, tp, pl, wl', wt, -Int.natCast_add]
  refine callH [242] (btake_ok h (padS w) (t + w.length) true h8 pl (by omega)) (by simp [BV]) (by simp [HO]) (by simp) (by simp) (by simp) ?_
  rintro y H' ⟨rfl, rfl⟩
  refine ⟨.inl (by simp), by simp, ?_⟩
  have hf : finS (h, w, t, []) = outS (takeS h (padS w) (t + w.length) true) := rfl
  obtain ⟨A, hA⟩ : ∃ A, takeS h (padS w) (t + w.length) true = A := ⟨_, rfl⟩
  have a8 : A.length = 8 := by rw [← hA, takeS_len]; exact h8
  rw [hf, hA]
  simp [HO]
  refine eloop (α := Nat) (fun i => i ≤ 32) (fun i => 32 - i)
    (fun i => [.v (.c (.ptr 0 0)), .any, .v (.c (.ptr 2 0)), .v (.c (.ptr 3 0)), .any, .v (.c (.ptr 4 0)), .any, .any, .any, .any, .any, .any, .any, .any, .any, .any, .any, .any, .any, .any, .any, .any, .any, .any, .any, .any, .any, .any, .any, .any, .any, .any, .any, NV i, .any, .any, .any, .any, .any, .any, .any, .any, .any, .any, .any, .any, .any, .any, .any])
    (fun i => [some (SO 1 h w.length t n), some (RB w), some (.box 52 (hc hz)), some (.box 52 (hc (oI A i))), some (HO A)]) 0 [0, 1, 2, 18, 242]
    (by omega) (by simp [NV]) (by simp [SO, RB, HO, oI_0]) (by simp [SO, RB, HO]) (by decide) (by simp) ?_
  intro i hi
  simp [SO, RB, HO, NV]
  refine alt (fun hp => ?_) (fun hp => ?_)
  · have il : i < 32 := by omega
    have q1 : i / 4 < 8 := by omega
    have q1' : i / 4 ≤ 7 := by omega
    have q2 : (i : Int).tdiv 4 = ((i / 4 : Nat) : Int) := rfl
    have q3 : (i : Int).tmod 4 = ((i % 4 : Nat) : Int) := rfl
    have q4 : IntKind.i64.wrap ((i / 4 : Nat) : Int) = ((i / 4 : Nat) : Int) := wrap_i64 (by omega) (by omega)
    have q5 : IntKind.i64.wrap (8 * ((i % 4 : Nat) : Int)) = ((8 * (i % 4) : Nat) : Int) := by rw [wrap_i64 (by omega) (by omega)]; omega
    have wi1 : IntKind.i64.wrap ((i : Int) + 1) = ((i + 1 : Nat) : Int) := wrap_i64 (by omega) (by omega)
    obtain ⟨d, hd⟩ : ∃ d, i / 4 = d := ⟨_, rfl⟩
    obtain ⟨k, hk⟩ : ∃ k, 8 * (i % 4) = k := ⟨_, rfl⟩
    rw [hd] at q1 q1' q2 q4
    rw [hk] at q5
    have d8 : (d : Int) < 8 := by omega
    have sh := wi_shr (g A d) k (by omega)
    have ou : IntKind.u8.wrap (wi (shr (g A d) k)) = ((outB A i).toNat : Int) := by unfold outB; rw [hd, hk]; exact u8_shr _ _
    simp [q2, q3, q4, q5, wi1, q1, q1', d8, a8, wl_gE, sh, ou, oI_len, il, hc_put, -Int.natCast_add, -Int.natCast_mul, -Int.natCast_ediv, -Int.natCast_emod]
    exact ⟨by omega, by omega, round (i + 1) [0, 1, 2, 3, 4] (by omega) (by omega) (by simp [NV]) (by simp [SO, RB, HO, hc_put, oI_len, il, oI_set A il]) (by simp [SO, RB, HO]) (by decide) (by simp)⟩
  · have h32 : i = 32 := by omega
    subst h32
    simp [oI_32, outS_len]
    exact fin [] (by decide) rfl rfl (by simp [objsOut, show List.range 2 = [0, 1] from rfl]) ⟨rfl, rfl⟩

def ini8 : List UInt32 := firstW.set 0 (g firstW 0 ^^^ 0x01010020)
def w00 (b : List UInt8) : Wst := (ini8, [], 0, b)
/-- The sum of bytes. -/
def sumS (b : List UInt8) : List UInt8 := finS (wall (w00 b))
theorem sumS_len (b : List UInt8) : (sumS b).length = 32 := outS_len _
theorem w00_ok (b : List UInt8) : Wok' (([] : List UInt8).length + 0 + b.length) (w00 b) := ⟨rfl, by simp [w00], by simp [w00]⟩

theorem Write0_ok (b : List UInt8) (hb : b.length ≤ 1000000000) :
    ECalls Tryd.prog 100 [.v (.c (.ptr 0 0)), Bs b] [.box 153 (wl ini8 ++ [.fz (.lit (.slice none 0 0)), .fz (.lit (.int .u64 0)), .fz (.lit (.int .i64 0))])] fun y H' => H' = [some (SO 2 (wall (w00 b)).1 (wall (w00 b)).2.1.length (wall (w00 b)).2.2.1 (0 + b.length)), none, some (RB (wall (w00 b)).2.1)] ∧ y = .tup [] :=
  ecalls_nilB 0 8 rfl rfl (by omega) (Write_ok ini8 [] 0 0 b (w00_ok b) (by simpa using hb) (by omega))

set_option maxRecDepth 8000 in
set_option maxHeartbeats 4000000 in
theorem BSum_ok (b : List UInt8) (hb : b.length ≤ 100000000) : ECalls Tryd.prog 66 [Bs b] [] fun y H' => H' = [] ∧ y = .v (.agg (hc (sumS b))) := by
  obtain ⟨⟨o8, ow, os⟩, oe⟩ := wall_ok b.length (w00_ok b) (Nat.le_refl _)
  have hl := hc_tk (show (sumS b).length ≤ 32 by rw [sumS_len]; omega)
  have hx : ibit .xor .u32 (wi (g firstW 0)) 16842784 = wi (g firstW 0 ^^^ 0x01010020) := wi_xor (g firstW 0) 0x01010020
  have fl : firstW.length = 8 := rfl
  have g0 : ∀ (r : List EC) h', (wl firstW ++ r)[0]'h' = .fz (.lit (.int .u32 (wi (g firstW 0)))) := fun r h' => wl_gER (by decide) h'
  have p0 : ∀ r : List EC, EC.fz (.lit (.int .u32 (wi (g firstW 0 ^^^ 0x01010020)))) :: List.drop 1 (wl firstW ++ r) = wl ini8 ++ r := fun r => wl_putR (v := firstW) (i := 0) (by decide)
  have p0' : ∀ r : List EC, EC.fz (.lit (.int .u32 (wi (g firstW 0 ^^^ 0x01010020)))) :: (wl firstW ++ r).tail = wl ini8 ++ r := fun r => by rw [← List.drop_one]; exact p0 r
  refine ecalls k_BSum ?_
  simp [c_BSum, Bs, NV]
  refine call0 first_ok (by simp) ?_
  rintro y H' ⟨rfl, rfl⟩
  refine ⟨.inl (by simp), le_ok rfl, ?_⟩
  simp [NV, fl, g0, hx, p0, p0']
  refine callH [48] (Write0_ok b (by omega)) (by simp [Bs]) (by simp) (by simp) (by simp) (by simp) ?_
  rintro y H' ⟨rfl, rfl⟩
  refine ⟨.inl (by simp), by simp, ?_⟩
  simp [NV, SO, RB]
  refine callH [48, 273] (SumM_ok (wall (w00 b)).1 (wall (w00 b)).2.1 (wall (w00 b)).2.2.1 b.length o8 ow (by simp at os; omega)) (by simp) (by simp [SO, RB]) (by simp) (by simp) (by simp) ?_
  rintro y H' ⟨rfl, rfl⟩
  refine ⟨.inl (by simp), by simp, ?_⟩
  have hs : finS ((wall (w00 b)).1, (wall (w00 b)).2.1, (wall (w00 b)).2.2.1, []) = sumS b := rfl
  simp [NV, SO, RB, hs, hl, sumS_len]
  exact fin [] (by decide) rfl rfl (by simp [objsOut]) ⟨rfl, rfl⟩

end Go.Proofs.YtpohjnhlhfbnaaaDoor
