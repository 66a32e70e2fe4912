import Derived.Test.YtejjhgdnmknejaaDoorAll10
import Derived.Test.YtejjhgdnmknejaaDoorAll6
import Derived.Test.YtejjhgdnmknejaaDoorAll9
namespace Go.Proofs.YtejjhgdnmknejaaDoor
open Go Go.EW
set_option linter.unusedSimpArgs false
set_option linter.unusedVariables false

@[simp] def l_IdxH_1 (_ : Unit) : List EOp := [⟨0, (some 4), none, (.q (.mov (.k (.int .i64 0)))), []⟩]
@[simp] def b_IdxH_2 (_ : Unit) : EB := reg0 (hid l_IdxH_1) 1
@[simp] def l_IdxH_3 (_ : Unit) : List EOp := [⟨0, (some 6), none, (.q (.mov (.t 0))), []⟩, ⟨1, (some 7), none, (.q (.len (.t 6))), []⟩, ⟨2, (some 8), none, (.q (.mov (.k (.int .i64 0)))), []⟩]
@[simp] def b_IdxH_4 (_ : Unit) : EB := reg0 (hid l_IdxH_3) 3
@[simp] def l_IdxH_5 (_ : Unit) : List EOp := [⟨0, (some 9), none, (.q (.bin .lss (.t 8) (.t 7))), []⟩]
@[simp] def b_IdxH_6 (_ : Unit) : EB := reg0 (hid l_IdxH_5) 1
@[simp] def b_IdxH_7 (_ : Unit) : EB := .cond (.t 9) .skip (.exit 0)
@[simp] def l_IdxH_8 (_ : Unit) : List EOp := [⟨0, (some 10), none, (.q (.mov (.t 8))), []⟩, ⟨1, (some 5), none, (.q (.mov (.t 10))), []⟩]
@[simp] def b_IdxH_9 (_ : Unit) : EB := reg0 (hid l_IdxH_8) 2
@[simp] def l_IdxH_10 (_ : Unit) : List EOp := [⟨0, (some 11), none, (.q (.mov (.t 1))), []⟩, ⟨1, (some 12), none, (.q (.mov (.t 0))), []⟩, ⟨2, (some 13), none, (.q (.mov (.t 5))), []⟩, ⟨3, (some 14), none, (.q (.isl 3 (.t 12) (.t 13))), []⟩, ⟨4, (some 15), none, (.q (.lda 3 (.t 14))), []⟩, ⟨5, (some 16), none, (.clo (.t 11) [(.t 15)]), []⟩]
@[simp] def b_IdxH_11 (_ : Unit) : EB := reg0 (hid l_IdxH_10) 6
@[simp] def l_IdxH_12 (_ : Unit) : List EOp := [⟨0, (some 17), none, (.q (.mov (.t 5))), []⟩, ⟨1, (some 4), none, (.q (.mov (.t 17))), []⟩]
@[simp] def b_IdxH_13 (_ : Unit) : EB := reg0 (hid l_IdxH_12) 2
@[simp] def b_IdxH_14 (_ : Unit) : EB := .seq (hid b_IdxH_13) .ret
@[simp] def b_IdxH_15 (_ : Unit) : EB := .cond (.t 16) (hid b_IdxH_14) .skip
@[simp] def b_IdxH_16 (_ : Unit) : EB := .seq (hid b_IdxH_11) (hid b_IdxH_15)
@[simp] def b_IdxH_17 (_ : Unit) : EB := .seq (hid b_IdxH_9) (hid b_IdxH_16)
@[simp] def b_IdxH_18 (_ : Unit) : EB := .block 1 (hid b_IdxH_17)
@[simp] def l_IdxH_19 (_ : Unit) : List EOp := [⟨0, (some 18), none, (.q (.bin .add (.t 8) (.k (.int .i64 1)))), []⟩, ⟨1, (some 8), none, (.q (.mov (.t 18))), []⟩]
@[simp] def b_IdxH_20 (_ : Unit) : EB := reg0 (hid l_IdxH_19) 2
@[simp] def b_IdxH_21 (_ : Unit) : EB := .seq (hid b_IdxH_18) (hid b_IdxH_20)
@[simp] def b_IdxH_22 (_ : Unit) : EB := .seq (hid b_IdxH_7) (hid b_IdxH_21)
@[simp] def b_IdxH_23 (_ : Unit) : EB := .seq (hid b_IdxH_6) (hid b_IdxH_22)
@[simp] def b_IdxH_24 (_ : Unit) : EB := .loop (hid b_IdxH_23)
@[simp] def b_IdxH_25 (_ : Unit) : EB := .block 0 (hid b_IdxH_24)
@[simp] def b_IdxH_26 (_ : Unit) : EB := .seq (hid b_IdxH_4) (hid b_IdxH_25)
@[simp] def l_IdxH_27 (_ : Unit) : List EOp := [⟨0, (some 4), none, (.q (.mov (.k (.int .i64 (-1))))), []⟩]
@[simp] def b_IdxH_28 (_ : Unit) : EB := reg0 (hid l_IdxH_27) 1
@[simp] def b_IdxH_29 (_ : Unit) : EB := .seq (hid b_IdxH_28) .ret
@[simp] def b_IdxH_30 (_ : Unit) : EB := .seq (hid b_IdxH_26) (hid b_IdxH_29)
@[simp] def b_IdxH_31 (_ : Unit) : EB := .seq (hid b_IdxH_2) (hid b_IdxH_30)
def c_IdxH : EB × List QOp × Nat := ((hid b_IdxH_31), [(.mov (.t 4))], 19)
theorem k_IdxH : cfun Tryd.prog 53 = some c_IdxH := by kernel_rfl

@[simp] def l_ConH_1 (_ : Unit) : List EOp := [⟨0, (some 4), none, (.q (.mov (.k (.bool false)))), []⟩]
@[simp] def b_ConH_2 (_ : Unit) : EB := reg0 (hid l_ConH_1) 1
@[simp] def l_ConH_3 (_ : Unit) : List EOp := [⟨0, (some 5), none, (.q (.mov (.t 0))), []⟩, ⟨1, (some 6), none, (.q (.mov (.t 1))), []⟩, ⟨2, (some 7), none, (.call 53 [(.t 5), (.t 6)]), []⟩, ⟨3, (some 8), none, (.q (.bin .geq (.t 7) (.k (.int .i64 0)))), []⟩, ⟨4, (some 4), none, (.q (.mov (.t 8))), []⟩]
@[simp] def b_ConH_4 (_ : Unit) : EB := reg0 (hid l_ConH_3) 5
@[simp] def b_ConH_5 (_ : Unit) : EB := .seq (hid b_ConH_4) .ret
@[simp] def b_ConH_6 (_ : Unit) : EB := .seq (hid b_ConH_2) (hid b_ConH_5)
def c_ConH : EB × List QOp × Nat := ((hid b_ConH_6), [(.mov (.t 4))], 9)
theorem k_ConH : cfun Tryd.prog 40 = some c_ConH := by kernel_rfl

@[simp] def l_Vholds_1 (_ : Unit) : List EOp := [⟨0, (some 3), none, (.q (.box 45 (.t 0))), []⟩, ⟨1, (some 4), none, (.q (.box 61 (.t 1))), []⟩, ⟨2, (some 5), none, (.q (.box 3 (.t 2))), []⟩, ⟨3, (some 6), none, (.q (.mov (.k (.bool false)))), []⟩]
@[simp] def b_Vholds_2 (_ : Unit) : EB := reg0 (hid l_Vholds_1) 4
@[simp] def l_Vholds_3 (_ : Unit) : List EOp := [⟨0, (some 8), none, (.q (.lda 81 (.t 3))), []⟩, ⟨1, (some 9), none, (.q (.ldc (.t 5))), []⟩, ⟨2, (some 10), none, (.call 25 [(.t 8), (.t 9)]), []⟩, ⟨3, (some 7), none, (.q (.alloc 81 [(.int .i64 0), (.int .i64 0), (.slice none 0 0)])), []⟩, ⟨4, none, none, (.fz (.sto 3 (.t 7) (.t 10))), []⟩]
@[simp] def b_Vholds_4 (_ : Unit) : EB := reg0 (hid l_Vholds_3) 5
@[simp] def l_Vholds_5 (_ : Unit) : List EOp := [⟨0, (some 11), none, (.q (.fad 4 (.t 4))), []⟩, ⟨1, (some 12), none, (.q (.ldc (.t 11))), []⟩, ⟨2, (some 13), none, (.q (.mkf 41 [(.t 5), (.t 7)])), []⟩, ⟨3, (some 14), none, (.call 40 [(.t 12), (.t 13)]), []⟩, ⟨4, (some 6), none, (.q (.mov (.t 14))), []⟩]
@[simp] def b_Vholds_6 (_ : Unit) : EB := reg0 (hid l_Vholds_5) 5
@[simp] def b_Vholds_7 (_ : Unit) : EB := .seq (hid b_Vholds_6) .ret
@[simp] def b_Vholds_8 (_ : Unit) : EB := .seq (hid b_Vholds_4) (hid b_Vholds_7)
@[simp] def b_Vholds_9 (_ : Unit) : EB := .seq (hid b_Vholds_2) (hid b_Vholds_8)
def c_Vholds : EB × List QOp × Nat := ((hid b_Vholds_9), [(.mov (.t 6))], 15)
theorem k_Vholds : cfun Tryd.prog 26 = some c_Vholds := by kernel_rfl

@[simp] def l_Vfree_1 (_ : Unit) : List EOp := [⟨0, (some 5), none, (.q (.box 45 (.t 0))), []⟩, ⟨1, (some 6), none, (.q (.box 61 (.t 1))), []⟩, ⟨2, (some 10), none, (.q (.alloc 61 [(.int .i64 0), (.int .i64 0), (.int .i64 0), (.slice none 0 0), (.slice none 0 0)])), []⟩, ⟨3, (some 11), none, (.q (.mov (.k .nilIface))), []⟩]
@[simp] def b_Vfree_2 (_ : Unit) : EB := reg0 (hid l_Vfree_1) 4
@[simp] def l_Vfree_3 (_ : Unit) : List EOp := [⟨0, (some 12), none, (.q (.mov (.t 3))), []⟩, ⟨1, (some 13), none, (.q (.bin .eql (.t 12) (.k (.int .i64 0)))), []⟩]
@[simp] def b_Vfree_4 (_ : Unit) : EB := reg0 (hid l_Vfree_3) 2
@[simp] def l_Vfree_6 (_ : Unit) : List EOp := [⟨6, (some 20), none, (.call 43 [(.t 14), (.t 15), (.t 19)]), []⟩, ⟨7, (some 21), none, (.q (.ext 0 (.t 20))), []⟩, ⟨8, (some 22), none, (.q (.ext 1 (.t 20))), []⟩, ⟨9, none, none, (.fz (.sto 5 (.t 10) (.t 21))), []⟩, ⟨10, (some 11), none, (.q (.mov (.t 22))), []⟩]
@[simp] def l_Vfree_5 (_ : Unit) : List EOp := ⟨0, (some 14), none, (.q (.lda 5 (.t 6))), []⟩ :: ⟨1, (some 15), none, (.q (.mov (.t 2))), []⟩ :: ⟨2, (some 16), none, (.q (.fad 79 (.t 5))), []⟩ :: ⟨3, (some 17), none, (.q (.ldc (.t 16))), []⟩ :: ⟨4, (some 18), none, (.q (.mov (.t 4))), []⟩ :: ⟨5, (some 19), none, (.q (.bin .sub (.t 17) (.t 18))), []⟩ :: hid l_Vfree_6
@[simp] def b_Vfree_7 (_ : Unit) : EB := reg0 (hid l_Vfree_5) 11
@[simp] def b_Vfree_8 (_ : Unit) : EB := .seq (hid b_Vfree_7) .ret
@[simp] def b_Vfree_9 (_ : Unit) : EB := .cond (.t 13) (hid b_Vfree_8) .skip
@[simp] def b_Vfree_10 (_ : Unit) : EB := .seq (hid b_Vfree_4) (hid b_Vfree_9)
@[simp] def l_Vfree_12 (_ : Unit) : List EOp := [⟨6, none, none, (.fz (.sto 5 (.t 10) (.t 27))), []⟩, ⟨7, (some 11), none, (.q (.mov (.t 28))), []⟩]
@[simp] def l_Vfree_11 (_ : Unit) : List EOp := ⟨0, (some 23), none, (.q (.lda 5 (.t 6))), []⟩ :: ⟨1, (some 24), none, (.q (.mov (.t 2))), []⟩ :: ⟨2, (some 25), none, (.q (.mov (.t 4))), []⟩ :: ⟨3, (some 26), none, (.call 43 [(.t 23), (.t 24), (.t 25)]), []⟩ :: ⟨4, (some 27), none, (.q (.ext 0 (.t 26))), []⟩ :: ⟨5, (some 28), none, (.q (.ext 1 (.t 26))), []⟩ :: hid l_Vfree_12
@[simp] def b_Vfree_13 (_ : Unit) : EB := reg0 (hid l_Vfree_11) 8
@[simp] def b_Vfree_14 (_ : Unit) : EB := .seq (hid b_Vfree_13) .ret
@[simp] def b_Vfree_15 (_ : Unit) : EB := .seq (hid b_Vfree_10) (hid b_Vfree_14)
@[simp] def b_Vfree_16 (_ : Unit) : EB := .seq (hid b_Vfree_2) (hid b_Vfree_15)
def c_Vfree : EB × List QOp × Nat := ((hid b_Vfree_16), [(.lda 5 (.t 10)), (.mov (.t 11))], 29)
theorem k_Vfree : cfun Tryd.prog 27 = some c_Vfree := by kernel_rfl

@[simp] def l_VClose_1 (_ : Unit) : List EOp := [⟨0, (some 5), none, (.q (.box 45 (.t 0))), []⟩, ⟨1, (some 8), none, (.q (.box 61 (.t 3))), []⟩, ⟨2, (some 9), none, (.q (.box 61 (.t 4))), []⟩, ⟨3, (some 10), none, (.q (.alloc 61 [(.int .i64 0), (.int .i64 0), (.int .i64 0), (.slice none 0 0), (.slice none 0 0)])), []⟩, ⟨4, (some 11), none, (.q (.alloc 61 [(.int .i64 0), (.int .i64 0), (.int .i64 0), (.slice none 0 0), (.slice none 0 0)])), []⟩, ⟨5, (some 12), none, (.q (.mov (.k .nilIface))), []⟩]
@[simp] def b_VClose_2 (_ : Unit) : EB := reg0 (hid l_VClose_1) 6
@[simp] def l_VClose_3 (_ : Unit) : List EOp := [⟨0, (some 19), none, (.q (.lda 81 (.t 5))), []⟩, ⟨1, (some 20), none, (.call 8 [(.t 19)]), []⟩, ⟨2, (some 13), none, (.q (.mov (.t 20))), []⟩]
@[simp] def b_VClose_4 (_ : Unit) : EB := reg0 (hid l_VClose_3) 3
@[simp] def l_VClose_5 (_ : Unit) : List EOp := [⟨0, (some 21), none, (.q (.mov (.t 13))), []⟩, ⟨1, (some 22), none, (.q (.eqi true (.t 21))), []⟩]
@[simp] def b_VClose_6 (_ : Unit) : EB := reg0 (hid l_VClose_5) 2
@[simp] def l_VClose_7 (_ : Unit) : List EOp := [⟨0, (some 23), none, (.q (.build [(.int .i64 0), (.int .i64 0), (.int .i64 0), (.slice none 0 0), (.slice none 0 0)] [])), []⟩, ⟨1, (some 24), none, (.q (.build [(.int .i64 0), (.int .i64 0), (.int .i64 0), (.slice none 0 0), (.slice none 0 0)] [])), []⟩, ⟨2, (some 25), none, (.q (.mov (.t 13))), []⟩, ⟨3, none, none, (.fz (.sto 5 (.t 10) (.t 23))), []⟩, ⟨4, none, none, (.fz (.sto 5 (.t 11) (.t 24))), []⟩, ⟨5, (some 12), none, (.q (.mov (.t 25))), []⟩]
@[simp] def b_VClose_8 (_ : Unit) : EB := reg0 (hid l_VClose_7) 6
@[simp] def b_VClose_9 (_ : Unit) : EB := .seq (hid b_VClose_8) .ret
@[simp] def b_VClose_10 (_ : Unit) : EB := .cond (.t 22) (hid b_VClose_9) .skip
@[simp] def b_VClose_11 (_ : Unit) : EB := .seq (hid b_VClose_6) (hid b_VClose_10)
@[simp] def b_VClose_12 (_ : Unit) : EB := .seq (hid b_VClose_4) (hid b_VClose_11)
@[simp] def l_VClose_14 (_ : Unit) : List EOp := [⟨6, (some 33), (some (29, false)), (.q (.bin .gtr (.t 30) (.t 32))), []⟩, ⟨7, (some 34), none, (.q (.pick (.t 29) (.k (.bool true)) (.t 33))), []⟩, ⟨8, (some 26), none, (.q (.mov (.t 34))), []⟩]
@[simp] def l_VClose_13 (_ : Unit) : List EOp := ⟨0, (some 27), none, (.q (.mov (.t 2))), []⟩ :: ⟨1, (some 28), none, (.q (.bin .lss (.t 27) (.k (.int .i64 0)))), []⟩ :: ⟨2, (some 29), none, (.q (.mov (.t 28))), []⟩ :: ⟨3, (some 30), (some (29, false)), (.q (.mov (.t 2))), []⟩ :: ⟨4, (some 31), (some (29, false)), (.q (.fad 79 (.t 5))), []⟩ :: ⟨5, (some 32), (some (29, false)), (.q (.ldc (.t 31))), []⟩ :: hid l_VClose_14
@[simp] def b_VClose_15 (_ : Unit) : EB := reg0 (hid l_VClose_13) 9
@[simp] def l_VClose_16 (_ : Unit) : List EOp := [⟨0, (some 35), none, (.q (.build [(.int .i64 0), (.int .i64 0), (.int .i64 0), (.slice none 0 0), (.slice none 0 0)] [])), []⟩, ⟨1, (some 36), none, (.q (.build [(.int .i64 0), (.int .i64 0), (.int .i64 0), (.slice none 0 0), (.slice none 0 0)] [])), []⟩, ⟨2, (some 37), none, (.q (.mki 52 (.k (.int .i64 20)))), []⟩, ⟨3, none, none, (.fz (.sto 5 (.t 10) (.t 35))), []⟩, ⟨4, none, none, (.fz (.sto 5 (.t 11) (.t 36))), []⟩, ⟨5, (some 12), none, (.q (.mov (.t 37))), []⟩]
@[simp] def b_VClose_17 (_ : Unit) : EB := reg0 (hid l_VClose_16) 6
@[simp] def b_VClose_18 (_ : Unit) : EB := .seq (hid b_VClose_17) .ret
@[simp] def l_VClose_21 (_ : Unit) : List EOp := [⟨12, (some 38), none, (.q (.mov (.t 50))), []⟩]
@[simp] def l_VClose_20 (_ : Unit) : List EOp := ⟨6, (some 45), (some (44, false)), (.q (.lda 81 (.t 5))), []⟩ :: ⟨7, (some 46), (some (44, false)), (.q (.lda 5 (.t 9))), []⟩ :: ⟨8, (some 47), (some (44, false)), (.q (.mov (.t 1))), []⟩ :: ⟨9, (some 48), (some (44, false)), (.call 26 [(.t 45), (.t 46), (.t 47)]), []⟩ :: ⟨10, (some 49), (some (44, false)), (.q (.un .not (.t 48))), []⟩ :: ⟨11, (some 50), none, (.q (.pick (.t 44) (.k (.bool true)) (.t 49))), []⟩ :: hid l_VClose_21
@[simp] def l_VClose_19 (_ : Unit) : List EOp := ⟨0, (some 39), none, (.q (.lda 81 (.t 5))), []⟩ :: ⟨1, (some 40), none, (.q (.lda 5 (.t 8))), []⟩ :: ⟨2, (some 41), none, (.q (.mov (.t 1))), []⟩ :: ⟨3, (some 42), none, (.call 26 [(.t 39), (.t 40), (.t 41)]), []⟩ :: ⟨4, (some 43), none, (.q (.un .not (.t 42))), []⟩ :: ⟨5, (some 44), none, (.q (.mov (.t 43))), []⟩ :: hid l_VClose_20
@[simp] def b_VClose_22 (_ : Unit) : EB := reg0 (hid l_VClose_19) 13
@[simp] def l_VClose_23 (_ : Unit) : List EOp := [⟨0, (some 51), none, (.q (.build [(.int .i64 0), (.int .i64 0), (.int .i64 0), (.slice none 0 0), (.slice none 0 0)] [])), []⟩, ⟨1, (some 52), none, (.q (.build [(.int .i64 0), (.int .i64 0), (.int .i64 0), (.slice none 0 0), (.slice none 0 0)] [])), []⟩, ⟨2, (some 53), none, (.q (.mki 52 (.k (.int .i64 8)))), []⟩, ⟨3, none, none, (.fz (.sto 5 (.t 10) (.t 51))), []⟩, ⟨4, none, none, (.fz (.sto 5 (.t 11) (.t 52))), []⟩, ⟨5, (some 12), none, (.q (.mov (.t 53))), []⟩]
@[simp] def b_VClose_24 (_ : Unit) : EB := reg0 (hid l_VClose_23) 6
@[simp] def b_VClose_25 (_ : Unit) : EB := .seq (hid b_VClose_24) .ret
@[simp] def b_VClose_26 (_ : Unit) : EB := .cond (.t 38) (hid b_VClose_25) .skip
@[simp] def b_VClose_27 (_ : Unit) : EB := .seq (hid b_VClose_22) (hid b_VClose_26)
@[simp] def b_VClose_28 (_ : Unit) : EB := .cond (.t 26) (hid b_VClose_18) (hid b_VClose_27)
@[simp] def b_VClose_29 (_ : Unit) : EB := .seq (hid b_VClose_15) (hid b_VClose_28)
@[simp] def b_VClose_30 (_ : Unit) : EB := .block 0 (hid b_VClose_29)
@[simp] def l_VClose_32 (_ : Unit) : List EOp := [⟨6, (some 15), none, (.q (.mov (.t 58))), []⟩]
@[simp] def l_VClose_31 (_ : Unit) : List EOp := ⟨0, (some 55), none, (.q (.lda 81 (.t 5))), []⟩ :: ⟨1, (some 56), none, (.call 23 [(.t 55)]), []⟩ :: ⟨2, (some 54), none, (.q (.mov (.t 56))), []⟩ :: ⟨3, (some 57), none, (.q (.ext 0 (.t 54))), []⟩ :: ⟨4, (some 58), none, (.q (.ext 1 (.t 54))), []⟩ :: ⟨5, (some 14), none, (.q (.mov (.t 57))), []⟩ :: hid l_VClose_32
@[simp] def b_VClose_33 (_ : Unit) : EB := reg0 (hid l_VClose_31) 7
@[simp] def l_VClose_35 (_ : Unit) : List EOp := [⟨6, (some 59), none, (.q (.mov (.t 65))), []⟩, ⟨7, (some 66), none, (.q (.ext 0 (.t 59))), []⟩, ⟨8, (some 67), none, (.q (.ext 1 (.t 59))), []⟩, ⟨9, (some 16), none, (.q (.alloc 61 [(.int .i64 0), (.int .i64 0), (.int .i64 0), (.slice none 0 0), (.slice none 0 0)])), []⟩, ⟨10, none, none, (.fz (.sto 5 (.t 16) (.t 66))), []⟩, ⟨11, (some 17), none, (.q (.mov (.t 67))), []⟩]
@[simp] def l_VClose_34 (_ : Unit) : List EOp := ⟨0, (some 60), none, (.q (.lda 81 (.t 5))), []⟩ :: ⟨1, (some 61), none, (.q (.lda 5 (.t 8))), []⟩ :: ⟨2, (some 62), none, (.q (.mov (.t 1))), []⟩ :: ⟨3, (some 63), none, (.q (.mov (.t 14))), []⟩ :: ⟨4, (some 64), none, (.q (.mov (.t 2))), []⟩ :: ⟨5, (some 65), none, (.call 27 [(.t 60), (.t 61), (.t 62), (.t 63), (.t 64)]), []⟩ :: hid l_VClose_35
@[simp] def b_VClose_36 (_ : Unit) : EB := reg0 (hid l_VClose_34) 12
@[simp] def l_VClose_37 (_ : Unit) : List EOp := [⟨0, (some 68), none, (.q (.mov (.t 17))), []⟩, ⟨1, (some 69), none, (.q (.eqi true (.t 68))), []⟩]
@[simp] def b_VClose_38 (_ : Unit) : EB := reg0 (hid l_VClose_37) 2
@[simp] def l_VClose_39 (_ : Unit) : List EOp := [⟨0, (some 70), none, (.q (.build [(.int .i64 0), (.int .i64 0), (.int .i64 0), (.slice none 0 0), (.slice none 0 0)] [])), []⟩, ⟨1, (some 71), none, (.q (.build [(.int .i64 0), (.int .i64 0), (.int .i64 0), (.slice none 0 0), (.slice none 0 0)] [])), []⟩, ⟨2, (some 72), none, (.q (.mov (.t 17))), []⟩, ⟨3, none, none, (.fz (.sto 5 (.t 10) (.t 70))), []⟩, ⟨4, none, none, (.fz (.sto 5 (.t 11) (.t 71))), []⟩, ⟨5, (some 12), none, (.q (.mov (.t 72))), []⟩]
@[simp] def b_VClose_40 (_ : Unit) : EB := reg0 (hid l_VClose_39) 6
@[simp] def b_VClose_41 (_ : Unit) : EB := .seq (hid b_VClose_40) .ret
@[simp] def b_VClose_42 (_ : Unit) : EB := .cond (.t 69) (hid b_VClose_41) .skip
@[simp] def b_VClose_43 (_ : Unit) : EB := .seq (hid b_VClose_38) (hid b_VClose_42)
@[simp] def l_VClose_45 (_ : Unit) : List EOp := [⟨6, (some 73), none, (.q (.mov (.t 79))), []⟩, ⟨7, (some 80), none, (.q (.ext 0 (.t 73))), []⟩, ⟨8, (some 81), none, (.q (.ext 1 (.t 73))), []⟩, ⟨9, (some 18), none, (.q (.alloc 61 [(.int .i64 0), (.int .i64 0), (.int .i64 0), (.slice none 0 0), (.slice none 0 0)])), []⟩, ⟨10, none, none, (.fz (.sto 5 (.t 18) (.t 80))), []⟩, ⟨11, (some 17), none, (.q (.mov (.t 81))), []⟩]
@[simp] def l_VClose_44 (_ : Unit) : List EOp := ⟨0, (some 74), none, (.q (.lda 81 (.t 5))), []⟩ :: ⟨1, (some 75), none, (.q (.lda 5 (.t 9))), []⟩ :: ⟨2, (some 76), none, (.q (.mov (.t 1))), []⟩ :: ⟨3, (some 77), none, (.q (.mov (.t 15))), []⟩ :: ⟨4, (some 78), none, (.q (.mov (.t 2))), []⟩ :: ⟨5, (some 79), none, (.call 27 [(.t 74), (.t 75), (.t 76), (.t 77), (.t 78)]), []⟩ :: hid l_VClose_45
@[simp] def b_VClose_46 (_ : Unit) : EB := reg0 (hid l_VClose_44) 12
@[simp] def l_VClose_47 (_ : Unit) : List EOp := [⟨0, (some 82), none, (.q (.mov (.t 17))), []⟩, ⟨1, (some 83), none, (.q (.eqi true (.t 82))), []⟩]
@[simp] def b_VClose_48 (_ : Unit) : EB := reg0 (hid l_VClose_47) 2
@[simp] def l_VClose_49 (_ : Unit) : List EOp := [⟨0, (some 84), none, (.q (.build [(.int .i64 0), (.int .i64 0), (.int .i64 0), (.slice none 0 0), (.slice none 0 0)] [])), []⟩, ⟨1, (some 85), none, (.q (.build [(.int .i64 0), (.int .i64 0), (.int .i64 0), (.slice none 0 0), (.slice none 0 0)] [])), []⟩, ⟨2, (some 86), none, (.q (.mov (.t 17))), []⟩, ⟨3, none, none, (.fz (.sto 5 (.t 10) (.t 84))), []⟩, ⟨4, none, none, (.fz (.sto 5 (.t 11) (.t 85))), []⟩, ⟨5, (some 12), none, (.q (.mov (.t 86))), []⟩]
@[simp] def b_VClose_50 (_ : Unit) : EB := reg0 (hid l_VClose_49) 6
@[simp] def b_VClose_51 (_ : Unit) : EB := .seq (hid b_VClose_50) .ret
@[simp] def b_VClose_52 (_ : Unit) : EB := .cond (.t 83) (hid b_VClose_51) .skip
@[simp] def b_VClose_53 (_ : Unit) : EB := .seq (hid b_VClose_48) (hid b_VClose_52)
@[simp] def l_VClose_54 (_ : Unit) : List EOp := [⟨0, (some 87), none, (.q (.lda 5 (.t 16))), []⟩, ⟨1, (some 88), none, (.q (.lda 5 (.t 18))), []⟩, ⟨2, none, none, (.fz (.sto 5 (.t 10) (.t 87))), [1]⟩, ⟨3, none, none, (.fz (.sto 5 (.t 11) (.t 88))), []⟩, ⟨4, (some 12), none, (.q (.mov (.k .nilIface))), []⟩]
@[simp] def b_VClose_55 (_ : Unit) : EB := reg1 (hid l_VClose_54) 5
@[simp] def b_VClose_56 (_ : Unit) : EB := .seq (hid b_VClose_55) .ret
@[simp] def b_VClose_57 (_ : Unit) : EB := .seq (hid b_VClose_53) (hid b_VClose_56)
@[simp] def b_VClose_58 (_ : Unit) : EB := .seq (hid b_VClose_46) (hid b_VClose_57)
@[simp] def b_VClose_59 (_ : Unit) : EB := .seq (hid b_VClose_43) (hid b_VClose_58)
@[simp] def b_VClose_60 (_ : Unit) : EB := .seq (hid b_VClose_36) (hid b_VClose_59)
@[simp] def b_VClose_61 (_ : Unit) : EB := .seq (hid b_VClose_33) (hid b_VClose_60)
@[simp] def b_VClose_62 (_ : Unit) : EB := .seq (hid b_VClose_30) (hid b_VClose_61)
@[simp] def b_VClose_63 (_ : Unit) : EB := .seq (hid b_VClose_12) (hid b_VClose_62)
@[simp] def b_VClose_64 (_ : Unit) : EB := .seq (hid b_VClose_2) (hid b_VClose_63)
def c_VClose : EB × List QOp × Nat := ((hid b_VClose_64), [(.lda 5 (.t 10)), (.lda 5 (.t 11)), (.mov (.t 12))], 89)
theorem k_VClose : cfun Tryd.prog 18 = some c_VClose := by kernel_rfl


set_option maxHeartbeats 4000000 in
theorem IdxH_ok (l : List Hol) (id' am : Int) (K : List Int) (hl : ∀ h ∈ l, h.ok) (hn : l.length ≤ 100000000) (hK : K.length = 3) : ECalls Tryd.prog 53 [HL l, .v (.c (.clo 41 [(0, 0), (1, 0)]))] [BXI id', BHo id' am, RKo K] fun y H' => H' = [some (BXI id'), some (BHo id' am), some (RKo K)] ∧ ((l.any (hitV id' am K) = false ∧ y = I .i64 (-1)) ∨ (l.any (hitV id' am K) = true ∧ ∃ i : Nat, y = I .i64 i)) := by
  obtain ⟨B, hB⟩ : ∃ B, l.any (hitV id' am K) = B := ⟨_, rfl⟩
  rw [hB]
  refine ecalls k_IdxH ?_
  simp [c_IdxH, HL, I]
  refine eloop (α := Nat) (fun i => i ≤ l.length ∧ ∀ (k : Nat) (x : Hol), k < i → l[k]? = some x → hitV id' am K x = false) (fun i => l.length - i)
    (fun i => [HL l, .v (.c (.clo 41 [(0, 0), (1, 0)])), .any, .any, .any, .any, .any, I .i64 l.length, I .i64 i, .any, .any, .any, .any, .any, .any, .any, .any, .any, .any]) (fun _ => [some (BXI id'), some (BHo id' am), some (RKo K)]) 0 [0, 1, 2]
    ⟨Nat.zero_le _, fun k x h => by omega⟩ (by simp [I, HL]) (by simp [BXI, BHo, RKo]) (by simp [BXI, BHo, RKo]) (by decide) (by simp) ?_
  rintro i ⟨hi, hlo⟩
  simp [I, HL, BXI, BHo, RKo]
  refine alt (fun hlt => ?_) (fun hlt => ?_)
  · have hln : i < l.length := by omega
    obtain ⟨p, hc⟩ : ∃ p, l[i]? = some p := ⟨l[i], by simp [hln]⟩
    have hge : (holv l)[i]'(by simp [hln]) = holF p := by
      have e := holv_get hc
      rw [List.getElem?_eq_getElem (by simp [hln])] at e
      exact Option.some.inj e
    have w4 : IntKind.i64.wrap ((i : Int) + 1) = ((i + 1 : Nat) : Int) := wrap_i64 (by omega) (by omega)
    have hpo := hl p (List.mem_of_getElem? hc)
    have hv1 := Vh1_ok p id' am K hpo hK
    simp [hln, hge, holF]
    refine ⟨Vh1_body, ?_⟩
    refine callH [0, 1, 2] hv1 (by simp [holC]) (by simp [BXI, BHo, RKo]) (by simp) (by simp) (by simp) ?_
    rintro y H' ⟨rfl, rfl⟩
    refine ⟨.inl (by simp [-List.flatMap_eq_nil_iff]), by simp, ?_⟩
    simp [BXI, BHo, RKo]
    refine alt (fun he => ?_) (fun he => ?_)
    · simp
      exact fin [] (by decide) rfl rfl (by simp [objsOut, show List.range 3 = [0, 1, 2] from rfl]) ⟨rfl, .inr ⟨by rw [← hB]; exact List.any_eq_true.2 ⟨p, List.mem_of_getElem? hc, he⟩, i, rfl⟩⟩
    · simp [w4, -Int.natCast_add]
      refine round (i + 1) [0, 1, 2] ⟨by omega, ?_⟩ (by omega) (by simp [I, HL]) (by simp [BXI, BHo, RKo]) (by simp [BXI, BHo, RKo]) (by decide) (by simp)
      intro k q hk hq
      rcases Nat.lt_or_ge k i with h1 | h1
      · exact hlo k q h1 hq
      · obtain rfl : k = i := by omega
        rw [hc] at hq
        obtain rfl := Option.some.inj hq
        simpa using he
  · simp
    refine fin [] (by decide) rfl rfl (by simp [objsOut, show List.range 3 = [0, 1, 2] from rfl]) ⟨rfl, .inl ⟨?_, rfl⟩⟩
    rw [← hB, List.any_eq_false]
    intro x hx
    obtain ⟨k, hk⟩ := List.getElem?_of_mem hx
    have := hlo k x (by have := lt_len hk; omega) hk
    simp [this]
theorem ConH_ok (l : List Hol) (id' am : Int) (K : List Int) (hl : ∀ h ∈ l, h.ok) (hn : l.length ≤ 100000000) (hK : K.length = 3) : ECalls Tryd.prog 40 [HL l, .v (.c (.clo 41 [(0, 0), (1, 0)]))] [BXI id', BHo id' am, RKo K] fun y H' => H' = [some (BXI id'), some (BHo id' am), some (RKo K)] ∧ y = .lit (.bool (l.any (hitV id' am K))) := by
  refine ecalls k_ConH ?_
  simp [c_ConH, HL, BXI, BHo, RKo]
  refine callH [0, 1, 2] (IdxH_ok l id' am K hl hn hK) (by simp [HL]) (by simp [BXI, BHo, RKo]) (by simp) (by simp) (by simp) ?_
  rintro y H' ⟨rfl, h⟩
  rcases h with ⟨h, rfl⟩ | ⟨h, i, rfl⟩
  · refine ⟨.inl (by simp [I]), by simp, ?_⟩
    rw [h]
    simp [I, BXI, BHo, RKo]
    exact fin [] (by decide) rfl rfl (by simp [objsOut, show List.range 3 = [0, 1, 2] from rfl]) ⟨rfl, rfl⟩
  · refine ⟨.inl (by simp [I]), by simp, ?_⟩
    have n0 : (0 : Int) ≤ (i : Int) := by omega
    rw [h]
    simp [I, BXI, BHo, RKo, n0]
    exact fin [] (by decide) rfl rfl (by simp [objsOut, show List.range 3 = [0, 1, 2] from rfl]) ⟨rfl, rfl⟩
def hasV (r : Rte) (s : Sta) (id' : Int) : Bool := s.holds.any (hitV id' r.am (srt [r.a, r.b, r.c]))
theorem Vholds_ok (r : Rte) (s : Sta) (id' : Int) (hr : r.ok) (hs : s.ok) : ECalls Tryd.prog 26 [RVv r, SV s, I .i64 id'] [] fun y H' => H' = [] ∧ y = .lit (.bool (hasV r s id')) := by
  obtain ⟨⟨h1, _⟩, ⟨h2, _⟩, _⟩ := id hr
  obtain ⟨ok1, ok2, ok3, ok4, ok5, ok6, ok7⟩ := id hs
  have l0 := rteC_len h1 h2
  have t0 := rt_take h1 h2
  refine ecalls k_Vholds ?_
  simp [c_Vholds, RVv, SV, staC, I, l0, t0]
  refine call0 (Vhold_ok r id' hr) (by simp [RVv, I]) ?_
  rintro y H' ⟨rfl, rfl⟩
  refine ⟨.inl (by simp), by simp, ?_⟩
  simp [iC]
  refine callH [32, 112, 96] (ConH_ok s.holds id' r.am (srt [r.a, r.b, r.c]) ok5 ok7 (by rw [srt_len]; rfl)) (by simp [HL]) (by simp [BXI, BHo, RKo]) (by simp) (by simp) (by simp) ?_
  rintro y H' ⟨rfl, rfl⟩
  refine ⟨.inl (by simp), by simp, ?_⟩
  simp
  exact fin [] (by decide) rfl rfl rfl ⟨rfl, rfl⟩
def freV (r : Rte) (s : Sta) (id' near far : Int) : Sta × Nat := if near = 0 then freS s id' (r.am - far) else freS s id' far
theorem Vfree_ok (r : Rte) (s : Sta) (id' near far : Int) (hr : r.ok) (hs : s.ok) (hi : i64 id') (hf : i64 far) (hw : i64 (r.am - far)) : ECalls Tryd.prog 27 [RVv r, SV s, I .i64 id', I .i64 near, I .i64 far] [] fun y H' => H' = [] ∧ y = SE (freV r s id' near far) := by
  obtain ⟨⟨h1, _⟩, ⟨h2, _⟩, _⟩ := id hr
  have l0 := rteC_len h1 h2
  have t0 := rt_take h1 h2
  have e79 := idx_of (rt_79 h1 h2) (by omega)
  have w1 : IntKind.i64.wrap (r.am - far) = r.am - far := wrap_i64 hw.1 hw.2
  refine ecalls k_Vfree ?_
  simp [c_Vfree, RVv, SV, staC, I, l0, t0, -errV_0]
  by_cases c0 : near = 0
  · have hv : freV r s id' near far = freS s id' (r.am - far) := if_pos c0
    rw [hv]
    simp [c0, e79, l0, iC, w1, -errV_0]
    refine call0 (SFree_ok s id' (r.am - far) hs hi hw) (by simp [SV, staC, I]) ?_
    rintro y H' ⟨rfl, rfl⟩
    refine ⟨.inl (by simp), le_ok rfl, ?_⟩
    simp [SE, staC, -errV_0]
    exact fin [] (by decide) rfl rfl rfl ⟨rfl, rfl⟩
  · have hv : freV r s id' near far = freS s id' far := if_neg c0
    rw [hv]
    simp [c0, -errV_0]
    refine call0 (SFree_ok s id' far hs hi hf) (by simp [SV, staC, I]) ?_
    rintro y H' ⟨rfl, rfl⟩
    refine ⟨.inl (by simp), le_ok rfl, ?_⟩
    simp [SE, staC, -errV_0]
    exact fin [] (by decide) rfl rfl rfl ⟨rfl, rfl⟩

/-- Both channels' states behind a route is closed; the error. -/
def cloS (r : Rte) (id' last : Int) (s t : Sta) : Sta × Sta × Nat :=
  if chkV r ≠ 0 then (zSta, zSta, chkV r)
  else if last < 0 ∨ r.am < last then (zSta, zSta, 20)
  else if hasV r s id' = false ∨ hasV r t id' = false then (zSta, zSta, 8)
  else if (freV r s id' (sid r.f.k0 r.f.k1 r.a) last).2 ≠ 0 then (zSta, zSta, (freV r s id' (sid r.f.k0 r.f.k1 r.a) last).2)
  else if (freV r t id' (sid r.s.k0 r.s.k1 r.b) last).2 ≠ 0 then (zSta, zSta, (freV r t id' (sid r.s.k0 r.s.k1 r.b) last).2)
  else ((freV r s id' (sid r.f.k0 r.f.k1 r.a) last).1, (freV r t id' (sid r.s.k0 r.s.k1 r.b) last).1, 0)
@[simp] theorem errV_20v : Value.iface 52 (.int .i64 20) = errV 20 := rfl
@[simp] theorem errV_8v : Value.iface 52 (.int .i64 8) = errV 8 := rfl

set_option maxHeartbeats 8000000 in
theorem VClose_ok (r : Rte) (id' last : Int) (s t : Sta) (hr : r.ok) (hi : i64 id') (hla : i64 last) (hs : s.ok) (ht : t.ok) : ECalls Tryd.prog 18 [RVv r, I .i64 id', I .i64 last, SV s, SV t] [] fun y H' => H' = [] ∧ y = SSE (cloS r id' last s t) := by
  obtain ⟨⟨h1, _⟩, ⟨h2, _⟩, _⟩ := id hr
  have l0 := rteC_len h1 h2
  have t0 := rt_take h1 h2
  have e79 := idx_of (rt_79 h1 h2) (by omega)
  refine ecalls k_VClose ?_
  simp [c_VClose, RVv, I, SV, staC, l0, t0, -errV_0]
  refine call0 (VCheck_ok r hr) (by simp [RVv]) ?_
  rintro y H' ⟨rfl, rfl⟩
  refine ⟨.inl (by simp), le_ok rfl, ?_⟩
  by_cases c0 : chkV r = 0
  rotate_left
  · have hv : cloS r id' last s t = (zSta, zSta, chkV r) := by unfold cloS; rw [if_pos c0]
    rw [hv]
    simp [SSE, staC, zSta, c0, -errV_0]
    refine finW _ (weak_nlB (o := 48) (k := 3) 36 rfl rfl) (finW _ (weak_nlB (o := 48) (k := 4) 3 rfl rfl) (finW _ (weak_nlB (o := 64) (k := 3) 36 rfl rfl) (finW _ (weak_nlB (o := 64) (k := 4) 3 rfl rfl) ?_)))
    exact fin [] (by decide) rfl rfl rfl ⟨rfl, rfl⟩
  have hc0 : ¬ chkV r ≠ 0 := by simpa using c0
  by_cases d0 : last < 0
  · have hv : cloS r id' last s t = (zSta, zSta, 20) := by unfold cloS; rw [if_neg hc0, if_pos (.inl d0)]
    have d0n : ¬ 0 ≤ last := by omega
    rw [hv]
    simp [SSE, staC, zSta, c0, d0, d0n, -errV_0]
    refine finW _ (weak_nlB (o := 48) (k := 3) 36 rfl rfl) (finW _ (weak_nlB (o := 48) (k := 4) 3 rfl rfl) (finW _ (weak_nlB (o := 64) (k := 3) 36 rfl rfl) (finW _ (weak_nlB (o := 64) (k := 4) 3 rfl rfl) ?_)))
    exact fin [] (by decide) rfl rfl rfl ⟨rfl, rfl⟩
  have d0p : 0 ≤ last := by omega
  by_cases d1 : r.am < last
  · have hv : cloS r id' last s t = (zSta, zSta, 20) := by unfold cloS; rw [if_neg hc0, if_pos (.inr d1)]
    rw [hv]
    simp [SSE, staC, zSta, c0, d0, d0p, d1, e79, l0, iC, -errV_0]
    refine finW _ (weak_nlB (o := 48) (k := 3) 36 rfl rfl) (finW _ (weak_nlB (o := 48) (k := 4) 3 rfl rfl) (finW _ (weak_nlB (o := 64) (k := 3) 36 rfl rfl) (finW _ (weak_nlB (o := 64) (k := 4) 3 rfl rfl) ?_)))
    exact fin [] (by decide) rfl rfl rfl ⟨rfl, rfl⟩
  have d1p : last ≤ r.am := by omega
  have hw : i64 (r.am - last) := by
    have := hr.2.2.2.2.2.1
    unfold i64 at this ⊢
    omega
  simp [c0, d0, d0p, d1, d1p, e79, l0, t0, iC, -errV_0]
  refine call0 (Vholds_ok r s id' hr hs) (by simp [RVv, SV, staC, I]) ?_
  rintro y H' ⟨rfl, rfl⟩
  refine ⟨.inl (by simp), le_ok rfl, ?_⟩
  cases p0 : hasV r s id' with
  | false =>
    have hv : cloS r id' last s t = (zSta, zSta, 8) := by unfold cloS; rw [if_neg hc0, if_neg (by omega), if_pos (.inl p0)]
    rw [hv]
    simp [SSE, staC, zSta, -errV_0]
    refine finW _ (weak_nlB (o := 48) (k := 3) 36 rfl rfl) (finW _ (weak_nlB (o := 48) (k := 4) 3 rfl rfl) (finW _ (weak_nlB (o := 64) (k := 3) 36 rfl rfl) (finW _ (weak_nlB (o := 64) (k := 4) 3 rfl rfl) ?_)))
    exact fin [] (by decide) rfl rfl rfl ⟨rfl, rfl⟩
  | true =>
  simp [l0, t0, -errV_0]
  refine call0 (Vholds_ok r t id' hr ht) (by simp [RVv, SV, staC, I]) ?_
  rintro y H' ⟨rfl, rfl⟩
  refine ⟨.inl (by simp), le_ok rfl, ?_⟩
  cases p1 : hasV r t id' with
  | false =>
    have hv : cloS r id' last s t = (zSta, zSta, 8) := by unfold cloS; rw [if_neg hc0, if_neg (by omega), if_pos (.inr p1)]
    rw [hv]
    simp [SSE, staC, zSta, -errV_0]
    refine finW _ (weak_nlB (o := 48) (k := 3) 36 rfl rfl) (finW _ (weak_nlB (o := 48) (k := 4) 3 rfl rfl) (finW _ (weak_nlB (o := 64) (k := 3) 36 rfl rfl) (finW _ (weak_nlB (o := 64) (k := 4) 3 rfl rfl) ?_)))
    exact fin [] (by decide) rfl rfl rfl ⟨rfl, rfl⟩
  | true =>
  have hv0 : cloS r id' last s t = if (freV r s id' (sid r.f.k0 r.f.k1 r.a) last).2 ≠ 0 then (zSta, zSta, (freV r s id' (sid r.f.k0 r.f.k1 r.a) last).2) else if (freV r t id' (sid r.s.k0 r.s.k1 r.b) last).2 ≠ 0 then (zSta, zSta, (freV r t id' (sid r.s.k0 r.s.k1 r.b) last).2) else ((freV r s id' (sid r.f.k0 r.f.k1 r.a) last).1, (freV r t id' (sid r.s.k0 r.s.k1 r.b) last).1, 0) := by
    unfold cloS
    rw [if_neg hc0, if_neg (by omega), if_neg (by rw [p0, p1]; simp)]
  have hf1 := Vfree_ok r s id' (sid r.f.k0 r.f.k1 r.a) last hr hs hi hla hw
  have hf2 := Vfree_ok r t id' (sid r.s.k0 r.s.k1 r.b) last hr ht hi hla hw
  obtain ⟨A, hA⟩ : ∃ A, freV r s id' (sid r.f.k0 r.f.k1 r.a) last = A := ⟨_, rfl⟩
  obtain ⟨B, hB⟩ : ∃ B, freV r t id' (sid r.s.k0 r.s.k1 r.b) last = B := ⟨_, rfl⟩
  rw [hA] at hf1 hv0
  rw [hB] at hf2 hv0
  obtain ⟨Q, hQ⟩ : ∃ Q, cloS r id' last s t = Q := ⟨_, rfl⟩
  rw [hQ] at hv0 ⊢
  simp [l0, t0, -errV_0]
  refine call0 (Vsides_ok r hr) (by simp [RVv]) ?_
  rintro y H' ⟨rfl, rfl⟩
  refine ⟨.inl (by simp [iC]), le_ok rfl, ?_⟩
  simp [iC, l0, t0, -errV_0]
  refine call0 hf1 (by simp [RVv, SV, staC, I]) ?_
  rintro y H' ⟨rfl, rfl⟩
  refine ⟨.inl (by simp), le_ok rfl, ?_⟩
  by_cases c1 : A.2 = 0
  rotate_left
  · rw [if_pos c1] at hv0
    rw [hv0]
    simp [SE, SSE, staC, zSta, c1, -errV_0]
    refine finW _ (weak_nlB (o := 48) (k := 3) 36 rfl rfl) (finW _ (weak_nlB (o := 48) (k := 4) 3 rfl rfl) (finW _ (weak_nlB (o := 64) (k := 3) 36 rfl rfl) (finW _ (weak_nlB (o := 64) (k := 4) 3 rfl rfl) ?_)))
    exact fin [] (by decide) rfl rfl rfl ⟨rfl, rfl⟩
  rw [if_neg (by simpa using c1)] at hv0
  simp [SE, staC, c1, l0, t0, -errV_0]
  refine call0 hf2 (by simp [RVv, SV, staC, I]) ?_
  rintro y H' ⟨rfl, rfl⟩
  refine ⟨.inl (by simp), le_ok rfl, ?_⟩
  by_cases c2 : B.2 = 0
  rotate_left
  · rw [if_pos c2] at hv0
    rw [hv0]
    simp [SE, SSE, staC, zSta, c2, -errV_0]
    refine finW _ (weak_nlB (o := 48) (k := 3) 36 rfl rfl) (finW _ (weak_nlB (o := 48) (k := 4) 3 rfl rfl) (finW _ (weak_nlB (o := 64) (k := 3) 36 rfl rfl) (finW _ (weak_nlB (o := 64) (k := 4) 3 rfl rfl) ?_)))
    exact fin [] (by decide) rfl rfl rfl ⟨rfl, rfl⟩
  rw [if_neg (by simpa using c2)] at hv0
  rw [hv0]
  simp [SE, SSE, staC, c2, -errV_0]
  exact fin [] (by decide) rfl rfl rfl ⟨rfl, rfl⟩

end Go.Proofs.YtejjhgdnmknejaaDoor

namespace Go.Proofs.YtejjhgdnmknejaaDoor
open Go Go.EW
set_option linter.unusedSimpArgs false
set_option linter.unusedVariables false



/-- What is said of a state without payments and holds is said of one whose slices are nil. -/
theorem ecalls_nlS {P : Program} {f : FuncId} {e1 e2 : Nat} {a b c : EC} {rest : List EV} {H : List EO} {post : EV → List (Option EO) → Prop} (h : ECalls P f (.v (.agg [a, b, c, .fz (.sl e1 []), .fz (.sl e2 [])]) :: rest) H post) :
    ECalls P f (.v (.agg [a, b, c, .fz (.lit (.slice none 0 0)), .fz (.lit (.slice none 0 0))]) :: rest) H post := by
  intro ρ Φ w vals r ha
  refine h ρ Φ w vals r ?_
  obtain ⟨u, us, rfl, h1, h2⟩ := ha.cons_left
  refine All2.cons ?_ h2
  obtain ⟨vs, rfl, hv⟩ := h1
  refine ⟨vs, rfl, by simpa using hv.1, ?_⟩
  intro i x y hx hy
  rcases i with _ | _ | _ | _ | _ | i
  · exact hv.2 0 x y hx hy
  · exact hv.2 1 x y hx hy
  · exact hv.2 2 x y hx hy
  · have := hv.2 3 _ y rfl hy
    simp at hx; subst hx
    exact nl_vr this
  · have := hv.2 4 _ y rfl hy
    simp at hx; subst hx
    exact nl_vr this
  · simp at hx

end Go.Proofs.YtejjhgdnmknejaaDoor

namespace Go.Proofs.YtejjhgdnmknejaaDoor
open Go Go.EW
set_option linter.unusedSimpArgs false
set_option linter.unusedVariables false

@[simp] def l_sure_1 (_ : Unit) : List EOp := [⟨0, (some 0), none, (.q (.mov (.k (.bool false)))), []⟩]
@[simp] def b_sure_2 (_ : Unit) : EB := reg0 (hid l_sure_1) 1
@[simp] def l_sure_4 (_ : Unit) : List EOp := [⟨6, (some 1), none, (.q (.alloc 45 (zU8 ++ (([(.int .i64 0), (.int .i64 0), (.int .i64 0), (.int .i64 0), (.int .i64 0), (.int .i64 0)] : List Value) ++ zU8 ++ [(.int .i64 0), (.int .i64 0), (.int .i64 0), (.int .i64 0), (.int .i64 0), (.int .i64 0), (.int .i64 0), (.int .i64 0), (.int .i64 0), (.int .i64 0), (.int .i64 0)])))), []⟩, ⟨7, none, none, (.sto 81 (.t 1) (.t 13)), []⟩]
@[simp] def l_sure_3 (_ : Unit) : List EOp := ⟨0, (some 8), none, (.q (.build [(.int .i64 0), (.int .i64 0)] [(0, 1, (.k (.int .i64 1))), (1, 1, (.k (.int .i64 2)))])), []⟩ :: ⟨1, (some 9), none, (.q (.build (zU8 ++ [(.int .i64 0), (.int .i64 0), (.int .i64 0), (.int .i64 0), (.int .i64 0), (.int .i64 0)]) [(34, 2, (.t 8))])), []⟩ :: ⟨2, (some 10), none, (.q (.build [(.int .i64 0), (.int .i64 0)] [(0, 1, (.k (.int .i64 2))), (1, 1, (.k (.int .i64 3)))])), []⟩ :: ⟨3, (some 11), none, (.q (.build (zU8 ++ [(.int .i64 0), (.int .i64 0), (.int .i64 0), (.int .i64 0), (.int .i64 0), (.int .i64 0)]) [(34, 2, (.t 10))])), []⟩ :: ⟨4, (some 12), none, (.q (.build [(.int .i64 0), (.int .i64 0), (.int .i64 0)] [(0, 1, (.k (.int .i64 1))), (1, 1, (.k (.int .i64 2))), (2, 1, (.k (.int .i64 3)))])), []⟩ :: ⟨5, (some 13), none, (.q (.build (zU8 ++ (([(.int .i64 0), (.int .i64 0), (.int .i64 0), (.int .i64 0), (.int .i64 0), (.int .i64 0)] : List Value) ++ zU8 ++ [(.int .i64 0), (.int .i64 0), (.int .i64 0), (.int .i64 0), (.int .i64 0), (.int .i64 0), (.int .i64 0), (.int .i64 0), (.int .i64 0), (.int .i64 0), (.int .i64 0)])) [(0, 38, (.t 9)), (38, 38, (.t 11)), (76, 3, (.t 12)), (79, 1, (.k (.int .i64 50)))])), []⟩ :: hid l_sure_4
@[simp] def b_sure_5 (_ : Unit) : EB := reg0 (hid l_sure_3) 8
@[simp] def l_sure_8 (_ : Unit) : List EOp := [⟨12, none, none, (.fz (.sto 5 (.t 2) (.t 21))), []⟩, ⟨13, none, none, (.fz (.sto 5 (.t 3) (.t 22))), []⟩, ⟨14, (some 4), none, (.q (.mov (.t 23))), []⟩]
@[simp] def l_sure_7 (_ : Unit) : List EOp := ⟨6, (some 14), none, (.q (.mov (.t 20))), []⟩ :: ⟨7, (some 21), none, (.q (.ext 0 (.t 14))), []⟩ :: ⟨8, (some 22), none, (.q (.ext 1 (.t 14))), []⟩ :: ⟨9, (some 23), none, (.q (.ext 2 (.t 14))), []⟩ :: ⟨10, (some 2), none, (.q (.alloc 61 [(.int .i64 0), (.int .i64 0), (.int .i64 0), (.slice none 0 0), (.slice none 0 0)])), []⟩ :: ⟨11, (some 3), none, (.q (.alloc 61 [(.int .i64 0), (.int .i64 0), (.int .i64 0), (.slice none 0 0), (.slice none 0 0)])), []⟩ :: hid l_sure_8
@[simp] def l_sure_6 (_ : Unit) : List EOp := ⟨0, (some 15), none, (.q (.lda 81 (.t 1))), []⟩ :: ⟨1, (some 16), none, (.q (.build [(.int .i64 0), (.int .i64 0)] [(0, 1, (.k (.int .i64 100))), (1, 1, (.k (.int .i64 0)))])), []⟩ :: ⟨2, (some 17), none, (.q (.build [(.int .i64 0), (.int .i64 0), (.int .i64 0), (.slice none 0 0), (.slice none 0 0)] [(1, 2, (.t 16))])), []⟩ :: ⟨3, (some 18), none, (.q (.build [(.int .i64 0), (.int .i64 0)] [(0, 1, (.k (.int .i64 100))), (1, 1, (.k (.int .i64 0)))])), []⟩ :: ⟨4, (some 19), none, (.q (.build [(.int .i64 0), (.int .i64 0), (.int .i64 0), (.slice none 0 0), (.slice none 0 0)] [(1, 2, (.t 18))])), []⟩ :: ⟨5, (some 20), none, (.call 17 [(.t 15), (.k (.int .i64 7)), (.t 17), (.t 19)]), []⟩ :: hid l_sure_7
@[simp] def b_sure_9 (_ : Unit) : EB := reg0 (hid l_sure_6) 15
@[simp] def l_sure_12 (_ : Unit) : List EOp := [⟨12, (some 7), none, (.q (.mov (.t 31))), []⟩]
@[simp] def l_sure_11 (_ : Unit) : List EOp := ⟨6, (some 30), none, (.q (.ext 1 (.t 24))), []⟩ :: ⟨7, (some 31), none, (.q (.ext 2 (.t 24))), []⟩ :: ⟨8, (some 5), none, (.q (.alloc 61 [(.int .i64 0), (.int .i64 0), (.int .i64 0), (.slice none 0 0), (.slice none 0 0)])), []⟩ :: ⟨9, (some 6), none, (.q (.alloc 61 [(.int .i64 0), (.int .i64 0), (.int .i64 0), (.slice none 0 0), (.slice none 0 0)])), []⟩ :: ⟨10, none, none, (.fz (.sto 5 (.t 5) (.t 29))), []⟩ :: ⟨11, none, none, (.fz (.sto 5 (.t 6) (.t 30))), []⟩ :: hid l_sure_12
@[simp] def l_sure_10 (_ : Unit) : List EOp := ⟨0, (some 25), none, (.q (.lda 81 (.t 1))), []⟩ :: ⟨1, (some 26), none, (.q (.lda 5 (.t 2))), []⟩ :: ⟨2, (some 27), none, (.q (.lda 5 (.t 3))), []⟩ :: ⟨3, (some 28), none, (.call 18 [(.t 25), (.k (.int .i64 7)), (.k (.int .i64 20)), (.t 26), (.t 27)]), []⟩ :: ⟨4, (some 24), none, (.q (.mov (.t 28))), []⟩ :: ⟨5, (some 29), none, (.q (.ext 0 (.t 24))), []⟩ :: hid l_sure_11
@[simp] def b_sure_13 (_ : Unit) : EB := reg0 (hid l_sure_10) 13
@[simp] def l_sure_18 (_ : Unit) : List EOp := [⟨24, (some 0), none, (.q (.mov (.t 55))), []⟩]
@[simp] def l_sure_17 (_ : Unit) : List EOp := ⟨18, (some 50), none, (.q (.mov (.t 49))), []⟩ :: ⟨19, (some 51), (some (50, true)), (.q (.fad 1 (.t 6))), []⟩ :: ⟨20, (some 52), (some (50, true)), (.q (.lda 2 (.t 51))), []⟩ :: ⟨21, (some 53), (some (50, true)), (.q (.build [(.int .i64 0), (.int .i64 0)] [(0, 1, (.k (.int .i64 80))), (1, 1, (.k (.int .i64 20)))])), []⟩ :: ⟨22, (some 54), (some (50, true)), (.q (.eqa false 2 .i64 (.t 52) (.t 53))), []⟩ :: ⟨23, (some 55), none, (.q (.pick (.t 50) (.t 54) (.k (.bool false)))), []⟩ :: hid l_sure_18
@[simp] def l_sure_16 (_ : Unit) : List EOp := ⟨12, (some 44), none, (.q (.mov (.t 43))), []⟩ :: ⟨13, (some 45), (some (44, true)), (.q (.fad 1 (.t 5))), []⟩ :: ⟨14, (some 46), (some (44, true)), (.q (.lda 2 (.t 45))), []⟩ :: ⟨15, (some 47), (some (44, true)), (.q (.build [(.int .i64 0), (.int .i64 0)] [(0, 1, (.k (.int .i64 80))), (1, 1, (.k (.int .i64 20)))])), []⟩ :: ⟨16, (some 48), (some (44, true)), (.q (.eqa false 2 .i64 (.t 46) (.t 47))), []⟩ :: ⟨17, (some 49), none, (.q (.pick (.t 44) (.t 48) (.k (.bool false)))), []⟩ :: hid l_sure_17
@[simp] def l_sure_15 (_ : Unit) : List EOp := ⟨6, (some 38), none, (.q (.mov (.t 37))), []⟩ :: ⟨7, (some 39), (some (38, true)), (.q (.fad 1 (.t 2))), []⟩ :: ⟨8, (some 40), (some (38, true)), (.q (.lda 2 (.t 39))), []⟩ :: ⟨9, (some 41), (some (38, true)), (.q (.build [(.int .i64 0), (.int .i64 0)] [(0, 1, (.k (.int .i64 50))), (1, 1, (.k (.int .i64 0)))])), []⟩ :: ⟨10, (some 42), (some (38, true)), (.q (.eqa false 2 .i64 (.t 40) (.t 41))), []⟩ :: ⟨11, (some 43), none, (.q (.pick (.t 38) (.t 42) (.k (.bool false)))), []⟩ :: hid l_sure_16
@[simp] def l_sure_14 (_ : Unit) : List EOp := ⟨0, (some 32), none, (.q (.mov (.t 4))), []⟩ :: ⟨1, (some 33), none, (.q (.eqi false (.t 32))), []⟩ :: ⟨2, (some 34), none, (.q (.mov (.t 33))), []⟩ :: ⟨3, (some 35), (some (34, true)), (.q (.mov (.t 7))), []⟩ :: ⟨4, (some 36), (some (34, true)), (.q (.eqi false (.t 35))), []⟩ :: ⟨5, (some 37), none, (.q (.pick (.t 34) (.t 36) (.k (.bool false)))), []⟩ :: hid l_sure_15
@[simp] def b_sure_19 (_ : Unit) : EB := reg0 (hid l_sure_14) 25
@[simp] def b_sure_20 (_ : Unit) : EB := .seq (hid b_sure_19) .ret
@[simp] def b_sure_21 (_ : Unit) : EB := .seq (hid b_sure_13) (hid b_sure_20)
@[simp] def b_sure_22 (_ : Unit) : EB := .seq (hid b_sure_9) (hid b_sure_21)
@[simp] def b_sure_23 (_ : Unit) : EB := .seq (hid b_sure_5) (hid b_sure_22)
@[simp] def b_sure_24 (_ : Unit) : EB := .seq (hid b_sure_2) (hid b_sure_23)
def c_sure : EB × List QOp × Nat := ((hid b_sure_24), [(.mov (.t 0))], 56)
theorem k_sure : cfun Tryd.prog 11 = some c_sure := by kernel_rfl


theorem VV_nl {X : Cx} {e1 e2 : Nat} {a b c : EC} {u : Value} (h : VV X (.v (.agg [a, b, c, .fz (.lit (.slice none 0 0)), .fz (.lit (.slice none 0 0))])) u) : VV X (.v (.agg [a, b, c, .fz (.sl e1 []), .fz (.sl e2 [])])) u := by
  obtain ⟨vs, rfl, hv⟩ := h
  refine ⟨vs, rfl, by simpa using hv.1, ?_⟩
  intro i x y hx hy
  rcases i with _ | _ | _ | _ | _ | i
  · exact hv.2 0 x y hx hy
  · exact hv.2 1 x y hx hy
  · exact hv.2 2 x y hx hy
  · have := hv.2 3 _ y rfl hy
    simp at hx; subst hx
    exact nl_vr this
  · have := hv.2 4 _ y rfl hy
    simp at hx; subst hx
    exact nl_vr this
  · simp at hx
theorem ecalls_nl34 {P : Program} {f : FuncId} {e1 e2 e3 e4 : Nat} {a b c a' b' c' : EC} {x y : EV} {H : List EO} {post : EV → List (Option EO) → Prop} (h : ECalls P f [x, y, .v (.agg [a, b, c, .fz (.sl e1 []), .fz (.sl e2 [])]), .v (.agg [a', b', c', .fz (.sl e3 []), .fz (.sl e4 [])])] H post) :
    ECalls P f [x, y, .v (.agg [a, b, c, .fz (.lit (.slice none 0 0)), .fz (.lit (.slice none 0 0))]), .v (.agg [a', b', c', .fz (.lit (.slice none 0 0)), .fz (.lit (.slice none 0 0))])] H post := by
  intro ρ Φ w vals r ha
  refine h ρ Φ w vals r ?_
  obtain ⟨u, us, rfl, h1, h2⟩ := ha.cons_left
  obtain ⟨u2, us2, rfl, h3, h4⟩ := h2.cons_left
  obtain ⟨u3, us3, rfl, h5, h6⟩ := h4.cons_left
  obtain ⟨u4, us4, rfl, h7, h8⟩ := h6.cons_left
  exact All2.cons h1 (All2.cons h3 (All2.cons (VV_nl h5) (All2.cons (VV_nl h7) h8)))

/-- The route of the sample. -/
def R0 : Rte := ⟨⟨hz, 0, 0, 1, 2, 0, 0⟩, ⟨hz, 0, 0, 2, 3, 0, 0⟩, 1, 2, 3, 50, 0⟩
theorem R0_ok : R0.ok := by simp [R0, Rte.ok, Prm.ok, i64, hz]
theorem s100_ok : (Sta.mk 0 100 0 [] []).ok := by simp [Sta.ok, i64]
theorem s50h_ok : (Sta.mk 1 50 0 [] [⟨7, 50, [1, 2, 3]⟩]).ok := by simp [Sta.ok, i64, Hol.ok]
theorem R0_open : opnS R0 7 ⟨0, 100, 0, [], []⟩ ⟨0, 100, 0, [], []⟩ = (⟨1, 50, 0, [], [⟨7, 50, [1, 2, 3]⟩]⟩, ⟨1, 50, 0, [], [⟨7, 50, [1, 2, 3]⟩]⟩, 0) := by kernel_rfl
theorem R0_close : cloS R0 7 20 ⟨1, 50, 0, [], [⟨7, 50, [1, 2, 3]⟩]⟩ ⟨1, 50, 0, [], [⟨7, 50, [1, 2, 3]⟩]⟩ = (⟨2, 80, 20, [], []⟩, ⟨2, 80, 20, [], []⟩, 0) := by kernel_rfl

set_option maxHeartbeats 8000000 in
set_option maxRecDepth 8000 in
theorem sure_ok : ECalls Tryd.prog 11 [] [] fun y H' => H' = [] ∧ y = .lit (.bool true) := by
  have hop := VOpen_ok R0 7 ⟨0, 100, 0, [], []⟩ ⟨0, 100, 0, [], []⟩ R0_ok (by simp [i64]) s100_ok s100_ok
  rw [R0_open] at hop
  have hop' : ECalls Tryd.prog 17 [RVv R0, I .i64 7, .v (.agg [iC 0, iC 100, iC 0, .fz (.lit (.slice none 0 0)), .fz (.lit (.slice none 0 0))]), .v (.agg [iC 0, iC 100, iC 0, .fz (.lit (.slice none 0 0)), .fz (.lit (.slice none 0 0))])] [] fun y H' => H' = [] ∧ y = SSE (⟨1, 50, 0, [], [⟨7, 50, [1, 2, 3]⟩]⟩, ⟨1, 50, 0, [], [⟨7, 50, [1, 2, 3]⟩]⟩, 0) := ecalls_nl34 (e1 := 36) (e2 := 3) (e3 := 36) (e4 := 3) hop
  have hcl := VClose_ok R0 7 20 ⟨1, 50, 0, [], [⟨7, 50, [1, 2, 3]⟩]⟩ ⟨1, 50, 0, [], [⟨7, 50, [1, 2, 3]⟩]⟩ R0_ok (by simp [i64]) (by simp [i64]) s50h_ok s50h_ok
  rw [R0_close] at hcl
  refine ecalls k_sure ?_
  simp [c_sure]
  refine call0 hop' (by kernel_rfl) ?_
  rintro y H' ⟨rfl, rfl⟩
  refine ⟨.inl (by kernel_rfl), le_ok rfl, ?_⟩
  simp [SSE, staC, -errV_0]
  refine call0 hcl (by kernel_rfl) ?_
  rintro y H' ⟨rfl, rfl⟩
  refine ⟨.inl (by kernel_rfl), le_ok rfl, ?_⟩
  simp [SSE, staC, -errV_0]
  exact fin [] (by decide) rfl rfl rfl ⟨rfl, rfl⟩

end Go.Proofs.YtejjhgdnmknejaaDoor

namespace Go.Proofs.YtejjhgdnmknejaaDoor
open Go Go.EW
set_option linter.unusedSimpArgs false
set_option linter.unusedVariables false

@[simp] def l_giveP_1 (_ : Unit) : List EOp := [⟨0, (some 1), none, (.q (.box 28 (.t 0))), []⟩, ⟨1, (some 2), none, (.q (.alloc 38 (zU8 ++ [(.int .i64 0), (.int .i64 0), (.int .i64 0), (.int .i64 0), (.int .i64 0), (.int .i64 0)]))), []⟩]
@[simp] def b_giveP_2 (_ : Unit) : EB := reg0 (hid l_giveP_1) 2
@[simp] def l_giveP_4 (_ : Unit) : List EOp := [⟨6, (some 9), none, (.q (.fad 36 (.t 1))), []⟩, ⟨7, (some 10), none, (.q (.ldc (.t 9))), []⟩, ⟨8, (some 11), none, (.q (.fad 37 (.t 1))), []⟩, ⟨9, (some 12), none, (.q (.ldc (.t 11))), []⟩, ⟨10, (some 13), none, (.q (.build (zU8 ++ [(.int .i64 0), (.int .i64 0), (.int .i64 0), (.int .i64 0), (.int .i64 0), (.int .i64 0)]) [(0, 33, (.t 4)), (33, 1, (.t 6)), (34, 2, (.t 8)), (36, 1, (.t 10)), (37, 1, (.t 12))])), []⟩, ⟨11, none, none, (.sto 38 (.t 2) (.t 13)), []⟩]
@[simp] def l_giveP_3 (_ : Unit) : List EOp := ⟨0, (some 3), none, (.q (.fad 0 (.t 1))), []⟩ :: ⟨1, (some 4), none, (.q (.lda 33 (.t 3))), []⟩ :: ⟨2, (some 5), none, (.q (.fad 33 (.t 1))), []⟩ :: ⟨3, (some 6), none, (.q (.ldc (.t 5))), []⟩ :: ⟨4, (some 7), none, (.q (.fad 34 (.t 1))), []⟩ :: ⟨5, (some 8), none, (.q (.lda 2 (.t 7))), []⟩ :: hid l_giveP_4
@[simp] def b_giveP_5 (_ : Unit) : EB := reg0 (hid l_giveP_3) 12
@[simp] def b_giveP_6 (_ : Unit) : EB := .seq (hid b_giveP_5) .ret
@[simp] def b_giveP_7 (_ : Unit) : EB := .seq (hid b_giveP_2) (hid b_giveP_6)
def c_giveP : EB × List QOp × Nat := ((hid b_giveP_7), [(.lda 38 (.t 2))], 14)
theorem k_giveP : cfun Tryd.prog 5 = some c_giveP := by kernel_rfl

@[simp] def l_Rpair_1 (_ : Unit) : List EOp := [⟨0, (some 3), none, (.q (.box 28 (.t 0))), []⟩, ⟨1, (some 6), none, (.q (.mov (.k (.bool false)))), []⟩]
@[simp] def b_Rpair_2 (_ : Unit) : EB := reg0 (hid l_Rpair_1) 2
@[simp] def l_Rpair_7 (_ : Unit) : List EOp := [⟨24, (some 31), (some (19, false)), (.q (.pick (.t 25) (.t 30) (.k (.bool false)))), []⟩, ⟨25, (some 32), none, (.q (.pick (.t 19) (.k (.bool true)) (.t 31))), []⟩, ⟨26, (some 6), none, (.q (.mov (.t 32))), []⟩]
@[simp] def l_Rpair_6 (_ : Unit) : List EOp := ⟨18, (some 25), (some (19, false)), (.q (.mov (.t 24))), []⟩ :: ⟨19, (some 26), (some (25, true)), (.q (.fad 34 (.t 3))), []⟩ :: ⟨20, (some 27), (some (25, true)), (.q (.iad 2 1 (.t 26) (.k (.int .i64 1)))), []⟩ :: ⟨21, (some 28), (some (25, true)), (.q (.ldc (.t 27))), []⟩ :: ⟨22, (some 29), (some (25, true)), (.q (.mov (.t 1))), []⟩ :: ⟨23, (some 30), (some (25, true)), (.q (.bin .eql (.t 28) (.t 29))), []⟩ :: hid l_Rpair_7
@[simp] def l_Rpair_5 (_ : Unit) : List EOp := ⟨12, (some 19), none, (.q (.mov (.t 18))), []⟩ :: ⟨13, (some 20), (some (19, false)), (.q (.fad 34 (.t 3))), []⟩ :: ⟨14, (some 21), (some (19, false)), (.q (.iad 2 1 (.t 20) (.k (.int .i64 0)))), []⟩ :: ⟨15, (some 22), (some (19, false)), (.q (.ldc (.t 21))), []⟩ :: ⟨16, (some 23), (some (19, false)), (.q (.mov (.t 2))), []⟩ :: ⟨17, (some 24), (some (19, false)), (.q (.bin .eql (.t 22) (.t 23))), []⟩ :: hid l_Rpair_6
@[simp] def l_Rpair_4 (_ : Unit) : List EOp := ⟨6, (some 13), (some (12, true)), (.q (.fad 34 (.t 3))), []⟩ :: ⟨7, (some 14), (some (12, true)), (.q (.iad 2 1 (.t 13) (.k (.int .i64 1)))), []⟩ :: ⟨8, (some 15), (some (12, true)), (.q (.ldc (.t 14))), []⟩ :: ⟨9, (some 16), (some (12, true)), (.q (.mov (.t 2))), []⟩ :: ⟨10, (some 17), (some (12, true)), (.q (.bin .eql (.t 15) (.t 16))), []⟩ :: ⟨11, (some 18), none, (.q (.pick (.t 12) (.t 17) (.k (.bool false)))), []⟩ :: hid l_Rpair_5
@[simp] def l_Rpair_3 (_ : Unit) : List EOp := ⟨0, (some 7), none, (.q (.fad 34 (.t 3))), []⟩ :: ⟨1, (some 8), none, (.q (.iad 2 1 (.t 7) (.k (.int .i64 0)))), []⟩ :: ⟨2, (some 9), none, (.q (.ldc (.t 8))), []⟩ :: ⟨3, (some 10), none, (.q (.mov (.t 1))), []⟩ :: ⟨4, (some 11), none, (.q (.bin .eql (.t 9) (.t 10))), []⟩ :: ⟨5, (some 12), none, (.q (.mov (.t 11))), []⟩ :: hid l_Rpair_4
@[simp] def b_Rpair_8 (_ : Unit) : EB := reg0 (hid l_Rpair_3) 27
@[simp] def b_Rpair_9 (_ : Unit) : EB := .seq (hid b_Rpair_8) .ret
@[simp] def b_Rpair_10 (_ : Unit) : EB := .seq (hid b_Rpair_2) (hid b_Rpair_9)
def c_Rpair : EB × List QOp × Nat := ((hid b_Rpair_10), [(.mov (.t 6))], 33)
theorem k_Rpair : cfun Tryd.prog 16 = some c_Rpair := by kernel_rfl


theorem pm_33 {p : Prm} (h : p.tx.length = 32) : (prmC p).take 33 = hc p.tx ++ [iC p.n] := by
  have e : (hc p.tx).length = 32 := by rw [hc_len, h]
  unfold prmC
  rw [List.take_append, e, List.take_of_length_le (by omega)]
  rfl
theorem pm_at {p : Prm} (h : p.tx.length = 32) (i : Nat) : (prmC p)[32 + i]? = [iC p.n, iC p.am, iC p.k0, iC p.k1, iC p.dl, iC p.fe][i]? := by
  have e : (hc p.tx).length = 32 := by rw [hc_len, h]
  unfold prmC
  rw [List.getElem?_append_right (by omega), e]
  congr 1
  omega

theorem list32 (l : List EC) (h : l.length = 32) : ∃ c0 c1 c2 c3 c4 c5 c6 c7 c8 c9 c10 c11 c12 c13 c14 c15 c16 c17 c18 c19 c20 c21 c22 c23 c24 c25 c26 c27 c28 c29 c30 c31, l = [c0, c1, c2, c3, c4, c5, c6, c7, c8, c9, c10, c11, c12, c13, c14, c15, c16, c17, c18, c19, c20, c21, c22, c23, c24, c25, c26, c27, c28, c29, c30, c31] := by
  match l, h with
  | [c0, c1, c2, c3, c4, c5, c6, c7, c8, c9, c10, c11, c12, c13, c14, c15, c16, c17, c18, c19, c20, c21, c22, c23, c24, c25, c26, c27, c28, c29, c30, c31], _ => exact ⟨c0, c1, c2, c3, c4, c5, c6, c7, c8, c9, c10, c11, c12, c13, c14, c15, c16, c17, c18, c19, c20, c21, c22, c23, c24, c25, c26, c27, c28, c29, c30, c31, rfl⟩

set_option maxRecDepth 8000 in
set_option maxHeartbeats 4000000 in
theorem giveP_ok (p : Prm) (hp : p.tx.length = 32) : ECalls Tryd.prog 5 [PVv p] [] fun y H' => H' = [] ∧ y = PVv p := by
  have h1 := prmC_len hp
  have h2 := pm_take hp
  have h3 := pm_d34 hp
  have h4 := pm_33 hp
  have e33 := idx_of (pm_at hp 1) (by omega)
  have e36 := idx_of (pm_at hp 4) (by omega)
  have e37 := idx_of (pm_at hp 5) (by omega)
  have e : (hc p.tx).length = 32 := by rw [hc_len, hp]
  refine ecalls k_giveP ?_
  simp [c_giveP, PVv, h1, h2, h3, h4, e33, e36, e37, e, hp, iC]
  obtain ⟨c0, c1, c2, c3, c4, c5, c6, c7, c8, c9, c10, c11, c12, c13, c14, c15, c16, c17, c18, c19, c20, c21, c22, c23, c24, c25, c26, c27, c28, c29, c30, c31, hX⟩ := list32 (hc p.tx) e
  have hP : prmC p = [c0, c1, c2, c3, c4, c5, c6, c7, c8, c9, c10, c11, c12, c13, c14, c15, c16, c17, c18, c19, c20, c21, c22, c23, c24, c25, c26, c27, c28, c29, c30, c31, iC p.n, iC p.am, iC p.k0, iC p.k1, iC p.dl, iC p.fe] := by unfold prmC; rw [hX]; rfl
  rw [hX]
  exact fin [] (by decide) (v := .v (.agg [c0, c1, c2, c3, c4, c5, c6, c7, c8, c9, c10, c11, c12, c13, c14, c15, c16, c17, c18, c19, c20, c21, c22, c23, c24, c25, c26, c27, c28, c29, c30, c31, iC p.n, iC p.am, iC p.k0, iC p.k1, iC p.dl, iC p.fe])) rfl (y := PVv p) (by rw [← hP]; simp [conR, conTs, conT, PVv]) rfl ⟨rfl, rfl⟩

theorem ofV_f {p : Prm} {a b : Int} (c1 : ¬ (p.k0 = a ∧ p.k1 = b)) : ofV p a b = (decide (p.k0 = b) && decide (p.k1 = a)) := by
  unfold ofV
  by_cases c2 : p.k0 = b ∧ p.k1 = a
  · rw [decide_eq_true (.inr c2), decide_eq_true c2.1, decide_eq_true c2.2]; rfl
  · rw [decide_eq_false (by omega)]
    by_cases c3 : p.k0 = b
    · rw [decide_eq_true c3, decide_eq_false (fun h => c2 ⟨c3, h⟩)]; rfl
    · rw [decide_eq_false c3]; rfl

set_option maxHeartbeats 2000000 in
theorem Rpair_ok (p : Prm) (a b : Int) (hp : p.tx.length = 32) : ECalls Tryd.prog 16 [PVv p, I .i64 a, I .i64 b] [] fun y H' => H' = [] ∧ y = .lit (.bool (ofV p a b)) := by
  have h1 := prmC_len hp
  have h2 := pm_take hp
  have e34 := idx_of (pm_34 hp) (by omega)
  have e35 := idx_of (pm_35 hp) (by omega)
  refine ecalls k_Rpair ?_
  simp [c_Rpair, I, PVv, h1, h2, e34, e35, iC]
  by_cases c1 : p.k0 = a
  · by_cases c2 : p.k1 = b
    · have hv : ofV p a b = true := decide_eq_true (.inl ⟨c1, c2⟩)
      rw [hv]
      simp [c1, c2, h1, e34, e35, iC]
      exact fin [] (by decide) rfl rfl rfl ⟨rfl, rfl⟩
    · have hv : ofV p a b = (decide (p.k0 = b) && decide (p.k1 = a)) := ofV_f (fun h => c2 h.2)
      rw [hv]
      simp [c1, c2, h1, e34, e35, iC]
      refine alt (fun c3 => ?_) (fun c3 => ?_)
      · simp [c3, h1, e34, e35, iC]
        exact fin [] (by decide) rfl rfl rfl ⟨rfl, rfl⟩
      · simp [c3]
        exact fin [] (by decide) rfl rfl rfl ⟨rfl, rfl⟩
  · have hv : ofV p a b = (decide (p.k0 = b) && decide (p.k1 = a)) := ofV_f (fun h => c1 h.1)
    rw [hv]
    simp [c1, h1, e34, e35, iC]
    refine alt (fun c3 => ?_) (fun c3 => ?_)
    · simp [c3, h1, e34, e35, iC]
      exact fin [] (by decide) rfl rfl rfl ⟨rfl, rfl⟩
    · simp [c3]
      exact fin [] (by decide) rfl rfl rfl ⟨rfl, rfl⟩

end Go.Proofs.YtejjhgdnmknejaaDoor

namespace Go.Proofs.YtejjhgdnmknejaaDoor
open Go Go.EW
set_option linter.unusedSimpArgs false
set_option linter.unusedVariables false

@[simp] def l_giveR_1 (_ : Unit) : List EOp := [⟨0, (some 1), none, (.q (.box 31 (.t 0))), []⟩, ⟨1, (some 2), none, (.q (.alloc 45 (zU8 ++ (([(.int .i64 0), (.int .i64 0), (.int .i64 0), (.int .i64 0), (.int .i64 0), (.int .i64 0)] : List Value) ++ zU8 ++ [(.int .i64 0), (.int .i64 0), (.int .i64 0), (.int .i64 0), (.int .i64 0), (.int .i64 0), (.int .i64 0), (.int .i64 0), (.int .i64 0), (.int .i64 0), (.int .i64 0)])))), []⟩]
@[simp] def b_giveR_2 (_ : Unit) : EB := reg0 (hid l_giveR_1) 2
@[simp] def l_giveR_5 (_ : Unit) : List EOp := [⟨12, (some 15), none, (.q (.build (zU8 ++ (([(.int .i64 0), (.int .i64 0), (.int .i64 0), (.int .i64 0), (.int .i64 0), (.int .i64 0)] : List Value) ++ zU8 ++ [(.int .i64 0), (.int .i64 0), (.int .i64 0), (.int .i64 0), (.int .i64 0), (.int .i64 0), (.int .i64 0), (.int .i64 0), (.int .i64 0), (.int .i64 0), (.int .i64 0)])) [(0, 38, (.t 5)), (38, 38, (.t 8)), (76, 3, (.t 10)), (79, 1, (.t 12)), (80, 1, (.t 14))])), []⟩, ⟨13, none, none, (.sto 81 (.t 2) (.t 15)), []⟩]
@[simp] def l_giveR_4 (_ : Unit) : List EOp := ⟨8, (some 11), none, (.q (.fad 79 (.t 1))), []⟩ :: ⟨9, (some 12), none, (.q (.ldc (.t 11))), []⟩ :: ⟨10, (some 13), none, (.q (.fad 80 (.t 1))), []⟩ :: ⟨11, (some 14), none, (.q (.ldc (.t 13))), []⟩ :: ⟨2, (some 5), none, (.call 5 [(.t 4)]), [3, 4, 6, 7, 8, 9, 10, 11]⟩ :: ⟨5, (some 8), none, (.call 5 [(.t 7)]), [6, 7, 8, 9, 10, 11]⟩ :: hid l_giveR_5
@[simp] def l_giveR_3 (_ : Unit) : List EOp := ⟨0, (some 3), none, (.q (.fad 0 (.t 1))), []⟩ :: ⟨1, (some 4), none, (.q (.lda 38 (.t 3))), []⟩ :: ⟨3, (some 6), none, (.q (.fad 38 (.t 1))), []⟩ :: ⟨4, (some 7), none, (.q (.lda 38 (.t 6))), []⟩ :: ⟨6, (some 9), none, (.q (.fad 76 (.t 1))), []⟩ :: ⟨7, (some 10), none, (.q (.lda 3 (.t 9))), []⟩ :: hid l_giveR_4
@[simp] def b_giveR_6 (_ : Unit) : EB := reg1 (hid l_giveR_3) 14
@[simp] def b_giveR_7 (_ : Unit) : EB := .seq (hid b_giveR_6) .ret
@[simp] def b_giveR_8 (_ : Unit) : EB := .seq (hid b_giveR_2) (hid b_giveR_7)
def c_giveR : EB × List QOp × Nat := ((hid b_giveR_8), [(.lda 81 (.t 2))], 16)
theorem k_giveR : cfun Tryd.prog 9 = some c_giveR := by kernel_rfl

@[simp] def l_RSide_1 (_ : Unit) : List EOp := [⟨0, (some 2), none, (.q (.box 28 (.t 0))), []⟩, ⟨1, (some 4), none, (.q (.mov (.k (.int .i64 0)))), []⟩, ⟨2, (some 5), none, (.q (.mov (.k (.int .i64 0)))), []⟩]
@[simp] def b_RSide_2 (_ : Unit) : EB := reg0 (hid l_RSide_1) 3
@[simp] def l_RSide_3 (_ : Unit) : List EOp := [⟨0, (some 6), none, (.q (.mov (.k (.int .i64 0)))), []⟩]
@[simp] def b_RSide_4 (_ : Unit) : EB := reg0 (hid l_RSide_3) 1
@[simp] def l_RSide_5 (_ : Unit) : List EOp := [⟨0, (some 7), none, (.q (.mov (.t 6))), []⟩, ⟨1, (some 8), none, (.q (.bin .lss (.t 7) (.k (.int .i64 2)))), []⟩]
@[simp] def b_RSide_6 (_ : Unit) : EB := reg0 (hid l_RSide_5) 2
@[simp] def b_RSide_7 (_ : Unit) : EB := .cond (.t 8) .skip (.exit 0)
@[simp] def b_RSide_8 (_ : Unit) : EB := .seq (hid b_RSide_6) (hid b_RSide_7)
@[simp] def l_RSide_9 (_ : Unit) : List EOp := [⟨0, (some 11), none, (.q (.mov (.t 6))), []⟩, ⟨1, (some 12), none, (.q (.fad 34 (.t 2))), []⟩, ⟨2, (some 13), none, (.q (.iad 2 1 (.t 12) (.t 11))), []⟩, ⟨3, (some 14), none, (.q (.ldc (.t 13))), []⟩, ⟨4, (some 15), none, (.q (.mov (.t 1))), []⟩, ⟨5, (some 16), none, (.q (.bin .eql (.t 14) (.t 15))), []⟩]
@[simp] def b_RSide_10 (_ : Unit) : EB := reg0 (hid l_RSide_9) 6
@[simp] def l_RSide_11 (_ : Unit) : List EOp := [⟨0, (some 17), none, (.q (.mov (.t 6))), []⟩, ⟨1, (some 4), none, (.q (.mov (.t 17))), []⟩, ⟨2, (some 5), none, (.q (.mov (.k (.int .i64 0)))), []⟩]
@[simp] def b_RSide_12 (_ : Unit) : EB := reg0 (hid l_RSide_11) 3
@[simp] def b_RSide_13 (_ : Unit) : EB := .seq (hid b_RSide_12) .ret
@[simp] def b_RSide_14 (_ : Unit) : EB := .cond (.t 16) (hid b_RSide_13) .skip
@[simp] def b_RSide_15 (_ : Unit) : EB := .seq (hid b_RSide_10) (hid b_RSide_14)
@[simp] def b_RSide_16 (_ : Unit) : EB := .block 1 (hid b_RSide_15)
@[simp] def l_RSide_17 (_ : Unit) : List EOp := [⟨0, (some 9), none, (.q (.mov (.t 6))), []⟩, ⟨1, (some 10), none, (.q (.bin .add (.t 9) (.k (.int .i64 1)))), []⟩, ⟨2, (some 6), none, (.q (.mov (.t 10))), []⟩]
@[simp] def b_RSide_18 (_ : Unit) : EB := reg0 (hid l_RSide_17) 3
@[simp] def b_RSide_19 (_ : Unit) : EB := .seq (hid b_RSide_16) (hid b_RSide_18)
@[simp] def b_RSide_20 (_ : Unit) : EB := .seq (hid b_RSide_8) (hid b_RSide_19)
@[simp] def b_RSide_21 (_ : Unit) : EB := .loop (hid b_RSide_20)
@[simp] def b_RSide_22 (_ : Unit) : EB := .block 0 (hid b_RSide_21)
@[simp] def b_RSide_23 (_ : Unit) : EB := .seq (hid b_RSide_4) (hid b_RSide_22)
@[simp] def l_RSide_24 (_ : Unit) : List EOp := [⟨0, (some 4), none, (.q (.mov (.k (.int .i64 0)))), []⟩, ⟨1, (some 5), none, (.q (.mov (.k (.int .i64 33)))), []⟩]
@[simp] def b_RSide_25 (_ : Unit) : EB := reg0 (hid l_RSide_24) 2
@[simp] def b_RSide_26 (_ : Unit) : EB := .seq (hid b_RSide_25) .ret
@[simp] def b_RSide_27 (_ : Unit) : EB := .seq (hid b_RSide_23) (hid b_RSide_26)
@[simp] def b_RSide_28 (_ : Unit) : EB := .seq (hid b_RSide_2) (hid b_RSide_27)
def c_RSide : EB × List QOp × Nat := ((hid b_RSide_28), [(.mov (.t 4)), (.mov (.t 5))], 18)
theorem k_RSide : cfun Tryd.prog 6 = some c_RSide := by kernel_rfl


set_option maxRecDepth 8000 in
set_option maxHeartbeats 4000000 in
theorem giveR_ok (r : Rte) (h1 : r.f.tx.length = 32) (h2 : r.s.tx.length = 32) : ECalls Tryd.prog 9 [RVv r] [] fun y H' => H' = [] ∧ y = RVv r := by
  have l0 := rteC_len h1 h2
  have t0 := rt_take h1 h2
  have d76 := rt_d76 h1 h2
  have t38 := rt_t38 h1
  have s38 := rt_s38 h1 h2
  have e79 := idx_of (rt_79 h1 h2) (by omega)
  have e80 := idx_of (rt_80 h1 h2) (by omega)
  have lf := prmC_len h1
  have ls := prmC_len h2
  refine ecalls k_giveR ?_
  simp [c_giveR, RVv, l0, t0, e79, e80, d76, t38, s38, iC]
  refine call0 (giveP_ok r.f h1) (by simp [PVv]) ?_
  rintro y H' ⟨rfl, rfl⟩
  refine ⟨.inl (by simp [PVv]), le_ok rfl, ?_⟩
  simp [PVv, l0, t0, e79, e80, d76, t38, s38, iC]
  refine call0 (giveP_ok r.s h2) (by simp [PVv]) ?_
  rintro y H' ⟨rfl, rfl⟩
  refine ⟨.inl (by simp [PVv]), le_ok rfl, ?_⟩
  simp [PVv, l0, t0, e79, e80, d76, t38, s38, lf, ls, iC]
  obtain ⟨c0, c1, c2, c3, c4, c5, c6, c7, c8, c9, c10, c11, c12, c13, c14, c15, c16, c17, c18, c19, c20, c21, c22, c23, c24, c25, c26, c27, c28, c29, c30, c31, hX⟩ := list32 (hc r.f.tx) (by rw [hc_len, h1])
  obtain ⟨d0, d1, d2, d3, d4, d5, d6, d7, d8, d9, d10, d11, d12, d13, d14, d15, d16, d17, d18, d19, d20, d21, d22, d23, d24, d25, d26, d27, d28, d29, d30, d31, hY⟩ := list32 (hc r.s.tx) (by rw [hc_len, h2])
  have hPf : prmC r.f = c0 :: c1 :: c2 :: c3 :: c4 :: c5 :: c6 :: c7 :: c8 :: c9 :: c10 :: c11 :: c12 :: c13 :: c14 :: c15 :: c16 :: c17 :: c18 :: c19 :: c20 :: c21 :: c22 :: c23 :: c24 :: c25 :: c26 :: c27 :: c28 :: c29 :: c30 :: c31 :: iC r.f.n :: iC r.f.am :: iC r.f.k0 :: iC r.f.k1 :: iC r.f.dl :: iC r.f.fe :: [] := by unfold prmC; rw [hX]; rfl
  have hPs : prmC r.s = d0 :: d1 :: d2 :: d3 :: d4 :: d5 :: d6 :: d7 :: d8 :: d9 :: d10 :: d11 :: d12 :: d13 :: d14 :: d15 :: d16 :: d17 :: d18 :: d19 :: d20 :: d21 :: d22 :: d23 :: d24 :: d25 :: d26 :: d27 :: d28 :: d29 :: d30 :: d31 :: iC r.s.n :: iC r.s.am :: iC r.s.k0 :: iC r.s.k1 :: iC r.s.dl :: iC r.s.fe :: [] := by unfold prmC; rw [hY]; rfl
  have hP : rteC r = c0 :: c1 :: c2 :: c3 :: c4 :: c5 :: c6 :: c7 :: c8 :: c9 :: c10 :: c11 :: c12 :: c13 :: c14 :: c15 :: c16 :: c17 :: c18 :: c19 :: c20 :: c21 :: c22 :: c23 :: c24 :: c25 :: c26 :: c27 :: c28 :: c29 :: c30 :: c31 :: iC r.f.n :: iC r.f.am :: iC r.f.k0 :: iC r.f.k1 :: iC r.f.dl :: iC r.f.fe :: d0 :: d1 :: d2 :: d3 :: d4 :: d5 :: d6 :: d7 :: d8 :: d9 :: d10 :: d11 :: d12 :: d13 :: d14 :: d15 :: d16 :: d17 :: d18 :: d19 :: d20 :: d21 :: d22 :: d23 :: d24 :: d25 :: d26 :: d27 :: d28 :: d29 :: d30 :: d31 :: iC r.s.n :: iC r.s.am :: iC r.s.k0 :: iC r.s.k1 :: iC r.s.dl :: iC r.s.fe :: iC r.a :: iC r.b :: iC r.c :: iC r.am :: iC r.fe :: [] := by unfold rteC; rw [hPf, hPs]; rfl
  rw [hPf, hPs]
  exact fin [] (by decide) (v := .v (.agg (c0 :: c1 :: c2 :: c3 :: c4 :: c5 :: c6 :: c7 :: c8 :: c9 :: c10 :: c11 :: c12 :: c13 :: c14 :: c15 :: c16 :: c17 :: c18 :: c19 :: c20 :: c21 :: c22 :: c23 :: c24 :: c25 :: c26 :: c27 :: c28 :: c29 :: c30 :: c31 :: iC r.f.n :: iC r.f.am :: iC r.f.k0 :: iC r.f.k1 :: iC r.f.dl :: iC r.f.fe :: d0 :: d1 :: d2 :: d3 :: d4 :: d5 :: d6 :: d7 :: d8 :: d9 :: d10 :: d11 :: d12 :: d13 :: d14 :: d15 :: d16 :: d17 :: d18 :: d19 :: d20 :: d21 :: d22 :: d23 :: d24 :: d25 :: d26 :: d27 :: d28 :: d29 :: d30 :: d31 :: iC r.s.n :: iC r.s.am :: iC r.s.k0 :: iC r.s.k1 :: iC r.s.dl :: iC r.s.fe :: iC r.a :: iC r.b :: iC r.c :: iC r.am :: iC r.fe :: []))) rfl (y := RVv r) (by rw [← hP]; simp [conR, conTs, conT, RVv]) rfl ⟨rfl, rfl⟩

set_option maxHeartbeats 2000000 in
theorem RSide_ok (p : Prm) (who : Int) (hp : p.tx.length = 32) : ECalls Tryd.prog 6 [PVv p, I .i64 who] [] fun y H' => H' = [] ∧ y = .tup [.c (iC (sidV p who).1), .c (iC ((sidV p who).2 : Int))] := by
  have h1 := prmC_len hp
  have h2 := pm_take hp
  have e34 := idx_of (pm_34 hp) (by omega)
  have e35 := idx_of (pm_35 hp) (by omega)
  refine ecalls k_RSide ?_
  simp [c_RSide, I, PVv, h1, h2, iC]
  refine eloop (α := Nat) (fun i => i ≤ 2 ∧ (0 < i → ¬ p.k0 = who) ∧ (1 < i → ¬ p.k1 = who)) (fun i => 2 - i) (fun i => [PVv p, I .i64 who, .v (.c (.ptr 0 0)), .any, I .i64 0, I .i64 0, I .i64 i, .any, .any, .any, .any, .any, .any, .any, .any, .any, .any, .any]) (fun _ => [some (.box 28 (prmC p))]) 0 [0]
    ⟨by omega, by omega, by omega⟩ (by simp [I, PVv, h2]) (by simp) (by simp) (by simp) (by simp) ?_
  rintro i ⟨hi, h0, h1'⟩
  have w1 : IntKind.i64.wrap 1 = 1 := by decide +kernel
  have w2 : IntKind.i64.wrap 2 = 2 := by decide +kernel
  have w3 : IntKind.i64.wrap (1 + 1) = 2 := by decide +kernel
  rcases (by omega : i = 0 ∨ i = 1 ∨ i = 2) with rfl | rfl | rfl
  · by_cases c : p.k0 = who
    · have hv : sidV p who = (0, 0) := if_pos c
      rw [hv]
      simp [I, PVv, e34, e35, h1, h2, iC, w1, c]
      exact fin [] (by decide) rfl rfl rfl ⟨rfl, rfl⟩
    · simp [I, PVv, e34, e35, h1, h2, iC, w1, c]
      exact round 1 [0] ⟨by omega, by omega⟩ (by omega) (by simp [I, PVv]) (by simp [PVv]) (by simp) (by simp) (by simp)
  · have c := h0 (by omega)
    by_cases c2 : p.k1 = who
    · have hv : sidV p who = (1, 0) := by unfold sidV; rw [if_neg c, if_pos c2]
      rw [hv]
      simp [I, PVv, e34, e35, h1, h2, iC, w1, w2, w3, c2]
      exact fin [] (by decide) rfl rfl rfl ⟨rfl, rfl⟩
    · simp [I, PVv, e34, e35, h1, h2, iC, w1, w2, w3, c2]
      exact round 2 [0] ⟨by omega, fun _ => c⟩ (by omega) (by simp [I, PVv]) (by simp [PVv]) (by simp) (by simp) (by simp)
  · have c := h0 (by omega)
    have c2 := h1' (by omega)
    have hv : sidV p who = (0, 33) := by unfold sidV; rw [if_neg c, if_neg c2]
    rw [hv]
    simp [I, PVv, e34, e35, h1, h2, iC, w1, w2, w3]
    exact fin [] (by decide) rfl rfl rfl ⟨rfl, rfl⟩

end Go.Proofs.YtejjhgdnmknejaaDoor

namespace Go.Proofs.YtejjhgdnmknejaaDoor
open Go Go.EW
set_option linter.unusedSimpArgs false
set_option linter.unusedVariables false

@[simp] def l_RCheckV_1 (_ : Unit) : List EOp := [⟨0, (some 1), none, (.q (.box 31 (.t 0))), []⟩, ⟨1, (some 2), none, (.q (.mov (.k (.int .i64 0)))), []⟩]
@[simp] def b_RCheckV_2 (_ : Unit) : EB := reg0 (hid l_RCheckV_1) 2
@[simp] def l_RCheckV_3 (_ : Unit) : List EOp := [⟨0, (some 3), none, (.q (.mov (.k (.int .i64 0)))), []⟩]
@[simp] def b_RCheckV_4 (_ : Unit) : EB := reg0 (hid l_RCheckV_3) 1
@[simp] def l_RCheckV_5 (_ : Unit) : List EOp := [⟨0, (some 4), none, (.q (.mov (.t 3))), []⟩, ⟨1, (some 5), none, (.q (.bin .lss (.t 4) (.k (.int .i64 3)))), []⟩]
@[simp] def b_RCheckV_6 (_ : Unit) : EB := reg0 (hid l_RCheckV_5) 2
@[simp] def b_RCheckV_7 (_ : Unit) : EB := .cond (.t 5) .skip (.exit 0)
@[simp] def b_RCheckV_8 (_ : Unit) : EB := .seq (hid b_RCheckV_6) (hid b_RCheckV_7)
@[simp] def l_RCheckV_13 (_ : Unit) : List EOp := [⟨24, (some 32), none, (.q (.pick (.t 20) (.k (.bool true)) (.t 31))), []⟩]
@[simp] def l_RCheckV_12 (_ : Unit) : List EOp := ⟨18, (some 26), (some (20, false)), (.q (.bin .add (.t 25) (.k (.int .i64 1)))), []⟩ :: ⟨19, (some 27), (some (20, false)), (.q (.bin .rem (.t 26) (.k (.int .i64 3)))), []⟩ :: ⟨20, (some 28), (some (20, false)), (.q (.fad 76 (.t 1))), []⟩ :: ⟨21, (some 29), (some (20, false)), (.q (.iad 3 1 (.t 28) (.t 27))), []⟩ :: ⟨22, (some 30), (some (20, false)), (.q (.ldc (.t 29))), []⟩ :: ⟨23, (some 31), (some (20, false)), (.q (.bin .eql (.t 24) (.t 30))), []⟩ :: hid l_RCheckV_13
@[simp] def l_RCheckV_11 (_ : Unit) : List EOp := ⟨12, (some 20), none, (.q (.mov (.t 19))), []⟩ :: ⟨13, (some 21), (some (20, false)), (.q (.mov (.t 3))), []⟩ :: ⟨14, (some 22), (some (20, false)), (.q (.fad 76 (.t 1))), []⟩ :: ⟨15, (some 23), (some (20, false)), (.q (.iad 3 1 (.t 22) (.t 21))), []⟩ :: ⟨16, (some 24), (some (20, false)), (.q (.ldc (.t 23))), []⟩ :: ⟨17, (some 25), (some (20, false)), (.q (.mov (.t 3))), []⟩ :: hid l_RCheckV_12
@[simp] def l_RCheckV_10 (_ : Unit) : List EOp := ⟨6, (some 14), (some (13, false)), (.q (.mov (.t 3))), []⟩ :: ⟨7, (some 15), (some (13, false)), (.q (.fad 76 (.t 1))), []⟩ :: ⟨8, (some 16), (some (13, false)), (.q (.iad 3 1 (.t 15) (.t 14))), []⟩ :: ⟨9, (some 17), (some (13, false)), (.q (.ldc (.t 16))), []⟩ :: ⟨10, (some 18), (some (13, false)), (.q (.bin .gtr (.t 17) (.k (.int .i64 15)))), []⟩ :: ⟨11, (some 19), none, (.q (.pick (.t 13) (.k (.bool true)) (.t 18))), []⟩ :: hid l_RCheckV_11
@[simp] def l_RCheckV_9 (_ : Unit) : List EOp := ⟨0, (some 8), none, (.q (.mov (.t 3))), []⟩ :: ⟨1, (some 9), none, (.q (.fad 76 (.t 1))), []⟩ :: ⟨2, (some 10), none, (.q (.iad 3 1 (.t 9) (.t 8))), []⟩ :: ⟨3, (some 11), none, (.q (.ldc (.t 10))), []⟩ :: ⟨4, (some 12), none, (.q (.bin .lss (.t 11) (.k (.int .i64 0)))), []⟩ :: ⟨5, (some 13), none, (.q (.mov (.t 12))), []⟩ :: hid l_RCheckV_10
@[simp] def b_RCheckV_14 (_ : Unit) : EB := reg0 (hid l_RCheckV_9) 25
@[simp] def l_RCheckV_15 (_ : Unit) : List EOp := [⟨0, (some 2), none, (.q (.mov (.k (.int .i64 33)))), []⟩]
@[simp] def b_RCheckV_16 (_ : Unit) : EB := reg0 (hid l_RCheckV_15) 1
@[simp] def b_RCheckV_17 (_ : Unit) : EB := .seq (hid b_RCheckV_16) .ret
@[simp] def b_RCheckV_18 (_ : Unit) : EB := .cond (.t 32) (hid b_RCheckV_17) .skip
@[simp] def b_RCheckV_19 (_ : Unit) : EB := .seq (hid b_RCheckV_14) (hid b_RCheckV_18)
@[simp] def b_RCheckV_20 (_ : Unit) : EB := .block 1 (hid b_RCheckV_19)
@[simp] def l_RCheckV_21 (_ : Unit) : List EOp := [⟨0, (some 6), none, (.q (.mov (.t 3))), []⟩, ⟨1, (some 7), none, (.q (.bin .add (.t 6) (.k (.int .i64 1)))), []⟩, ⟨2, (some 3), none, (.q (.mov (.t 7))), []⟩]
@[simp] def b_RCheckV_22 (_ : Unit) : EB := reg0 (hid l_RCheckV_21) 3
@[simp] def b_RCheckV_23 (_ : Unit) : EB := .seq (hid b_RCheckV_20) (hid b_RCheckV_22)
@[simp] def b_RCheckV_24 (_ : Unit) : EB := .seq (hid b_RCheckV_8) (hid b_RCheckV_23)
@[simp] def b_RCheckV_25 (_ : Unit) : EB := .loop (hid b_RCheckV_24)
@[simp] def b_RCheckV_26 (_ : Unit) : EB := .block 0 (hid b_RCheckV_25)
@[simp] def b_RCheckV_27 (_ : Unit) : EB := .seq (hid b_RCheckV_4) (hid b_RCheckV_26)
@[simp] def l_RCheckV_31 (_ : Unit) : List EOp := [⟨18, (some 51), (some (43, false)), (.q (.ldc (.t 50))), []⟩, ⟨19, (some 52), (some (43, false)), (.call 16 [(.t 45), (.t 48), (.t 51)]), []⟩, ⟨20, (some 53), (some (43, false)), (.q (.un .not (.t 52))), []⟩, ⟨21, (some 54), none, (.q (.pick (.t 43) (.k (.bool true)) (.t 53))), []⟩]
@[simp] def l_RCheckV_30 (_ : Unit) : List EOp := ⟨12, (some 45), (some (43, false)), (.q (.lda 38 (.t 44))), []⟩ :: ⟨13, (some 46), (some (43, false)), (.q (.fad 76 (.t 1))), []⟩ :: ⟨14, (some 47), (some (43, false)), (.q (.iad 3 1 (.t 46) (.k (.int .i64 1)))), []⟩ :: ⟨15, (some 48), (some (43, false)), (.q (.ldc (.t 47))), []⟩ :: ⟨16, (some 49), (some (43, false)), (.q (.fad 76 (.t 1))), []⟩ :: ⟨17, (some 50), (some (43, false)), (.q (.iad 3 1 (.t 49) (.k (.int .i64 2)))), []⟩ :: hid l_RCheckV_31
@[simp] def l_RCheckV_29 (_ : Unit) : List EOp := ⟨6, (some 39), none, (.q (.iad 3 1 (.t 38) (.k (.int .i64 1)))), []⟩ :: ⟨7, (some 40), none, (.q (.ldc (.t 39))), []⟩ :: ⟨8, (some 41), none, (.call 16 [(.t 34), (.t 37), (.t 40)]), []⟩ :: ⟨9, (some 42), none, (.q (.un .not (.t 41))), []⟩ :: ⟨10, (some 43), none, (.q (.mov (.t 42))), []⟩ :: ⟨11, (some 44), (some (43, false)), (.q (.fad 38 (.t 1))), []⟩ :: hid l_RCheckV_30
@[simp] def l_RCheckV_28 (_ : Unit) : List EOp := ⟨0, (some 33), none, (.q (.fad 0 (.t 1))), []⟩ :: ⟨1, (some 34), none, (.q (.lda 38 (.t 33))), []⟩ :: ⟨2, (some 35), none, (.q (.fad 76 (.t 1))), []⟩ :: ⟨3, (some 36), none, (.q (.iad 3 1 (.t 35) (.k (.int .i64 0)))), []⟩ :: ⟨4, (some 37), none, (.q (.ldc (.t 36))), []⟩ :: ⟨5, (some 38), none, (.q (.fad 76 (.t 1))), []⟩ :: hid l_RCheckV_29
@[simp] def b_RCheckV_32 (_ : Unit) : EB := reg0 (hid l_RCheckV_28) 22
@[simp] def l_RCheckV_33 (_ : Unit) : List EOp := [⟨0, (some 2), none, (.q (.mov (.k (.int .i64 33)))), []⟩]
@[simp] def b_RCheckV_34 (_ : Unit) : EB := reg0 (hid l_RCheckV_33) 1
@[simp] def b_RCheckV_35 (_ : Unit) : EB := .seq (hid b_RCheckV_34) .ret
@[simp] def b_RCheckV_36 (_ : Unit) : EB := .cond (.t 54) (hid b_RCheckV_35) .skip
@[simp] def b_RCheckV_37 (_ : Unit) : EB := .seq (hid b_RCheckV_32) (hid b_RCheckV_36)
@[simp] def l_RCheckV_40 (_ : Unit) : List EOp := [⟨12, (some 67), none, (.q (.pick (.t 63) (.k (.bool true)) (.t 66))), []⟩]
@[simp] def l_RCheckV_39 (_ : Unit) : List EOp := ⟨6, (some 61), (some (58, false)), (.q (.bin .gtr (.t 60) (.k (.int .i64 1125899906842624)))), []⟩ :: ⟨7, (some 62), none, (.q (.pick (.t 58) (.k (.bool true)) (.t 61))), []⟩ :: ⟨8, (some 63), none, (.q (.mov (.t 62))), []⟩ :: ⟨9, (some 64), (some (63, false)), (.q (.fad 79 (.t 1))), []⟩ :: ⟨10, (some 65), (some (63, false)), (.q (.ldc (.t 64))), []⟩ :: ⟨11, (some 66), (some (63, false)), (.q (.bin .gtr (.t 65) (.k (.int .i64 1125899906842624)))), []⟩ :: hid l_RCheckV_40
@[simp] def l_RCheckV_38 (_ : Unit) : List EOp := ⟨0, (some 55), none, (.q (.fad 80 (.t 1))), []⟩ :: ⟨1, (some 56), none, (.q (.ldc (.t 55))), []⟩ :: ⟨2, (some 57), none, (.q (.bin .lss (.t 56) (.k (.int .i64 0)))), []⟩ :: ⟨3, (some 58), none, (.q (.mov (.t 57))), []⟩ :: ⟨4, (some 59), (some (58, false)), (.q (.fad 80 (.t 1))), []⟩ :: ⟨5, (some 60), (some (58, false)), (.q (.ldc (.t 59))), []⟩ :: hid l_RCheckV_39
@[simp] def b_RCheckV_41 (_ : Unit) : EB := reg0 (hid l_RCheckV_38) 13
@[simp] def l_RCheckV_42 (_ : Unit) : List EOp := [⟨0, (some 2), none, (.q (.mov (.k (.int .i64 1)))), []⟩]
@[simp] def b_RCheckV_43 (_ : Unit) : EB := reg0 (hid l_RCheckV_42) 1
@[simp] def b_RCheckV_44 (_ : Unit) : EB := .seq (hid b_RCheckV_43) .ret
@[simp] def b_RCheckV_45 (_ : Unit) : EB := .cond (.t 67) (hid b_RCheckV_44) .skip
@[simp] def b_RCheckV_46 (_ : Unit) : EB := .seq (hid b_RCheckV_41) (hid b_RCheckV_45)
@[simp] def l_RCheckV_48 (_ : Unit) : List EOp := [⟨6, (some 74), (some (71, false)), (.q (.fad 80 (.t 1))), []⟩, ⟨7, (some 75), (some (71, false)), (.q (.ldc (.t 74))), []⟩, ⟨8, (some 76), (some (71, false)), (.q (.bin .sub (.t 73) (.t 75))), []⟩, ⟨9, (some 77), (some (71, false)), (.q (.bin .lss (.t 76) (.k (.int .i64 10)))), []⟩, ⟨10, (some 78), none, (.q (.pick (.t 71) (.k (.bool true)) (.t 77))), []⟩]
@[simp] def l_RCheckV_47 (_ : Unit) : List EOp := ⟨0, (some 68), none, (.q (.fad 79 (.t 1))), []⟩ :: ⟨1, (some 69), none, (.q (.ldc (.t 68))), []⟩ :: ⟨2, (some 70), none, (.q (.bin .lss (.t 69) (.k (.int .i64 10)))), []⟩ :: ⟨3, (some 71), none, (.q (.mov (.t 70))), []⟩ :: ⟨4, (some 72), (some (71, false)), (.q (.fad 79 (.t 1))), []⟩ :: ⟨5, (some 73), (some (71, false)), (.q (.ldc (.t 72))), []⟩ :: hid l_RCheckV_48
@[simp] def b_RCheckV_49 (_ : Unit) : EB := reg0 (hid l_RCheckV_47) 11
@[simp] def l_RCheckV_50 (_ : Unit) : List EOp := [⟨0, (some 2), none, (.q (.mov (.k (.int .i64 27)))), []⟩]
@[simp] def b_RCheckV_51 (_ : Unit) : EB := reg0 (hid l_RCheckV_50) 1
@[simp] def b_RCheckV_52 (_ : Unit) : EB := .seq (hid b_RCheckV_51) .ret
@[simp] def b_RCheckV_53 (_ : Unit) : EB := .cond (.t 78) (hid b_RCheckV_52) .skip
@[simp] def b_RCheckV_54 (_ : Unit) : EB := .seq (hid b_RCheckV_49) (hid b_RCheckV_53)
@[simp] def l_RCheckV_55 (_ : Unit) : List EOp := [⟨0, (some 2), none, (.q (.mov (.k (.int .i64 0)))), []⟩]
@[simp] def b_RCheckV_56 (_ : Unit) : EB := reg0 (hid l_RCheckV_55) 1
@[simp] def b_RCheckV_57 (_ : Unit) : EB := .seq (hid b_RCheckV_56) .ret
@[simp] def b_RCheckV_58 (_ : Unit) : EB := .seq (hid b_RCheckV_54) (hid b_RCheckV_57)
@[simp] def b_RCheckV_59 (_ : Unit) : EB := .seq (hid b_RCheckV_46) (hid b_RCheckV_58)
@[simp] def b_RCheckV_60 (_ : Unit) : EB := .seq (hid b_RCheckV_37) (hid b_RCheckV_59)
@[simp] def b_RCheckV_61 (_ : Unit) : EB := .seq (hid b_RCheckV_27) (hid b_RCheckV_60)
@[simp] def b_RCheckV_62 (_ : Unit) : EB := .seq (hid b_RCheckV_2) (hid b_RCheckV_61)
def c_RCheckV : EB × List QOp × Nat := ((hid b_RCheckV_62), [(.mov (.t 2))], 79)
theorem k_RCheckV : cfun Tryd.prog 10 = some c_RCheckV := by kernel_rfl


def endV (x y : Int) : Prop := 0 ≤ x ∧ x < 16 ∧ ¬ x = y
structure RcI (r : Rte) (i : Nat) : Prop where
  le : i ≤ 3
  a : 0 < i → endV r.a r.b
  b : 1 < i → endV r.b r.c
  c : 2 < i → endV r.c r.a
theorem chk_33 {r : Rte} (h : ¬ prtV r) : chkV r = 33 := by unfold chkV; rw [if_pos h]

set_option maxHeartbeats 8000000 in
theorem RCheckV_ok (r : Rte) (hr : r.ok) : ECalls Tryd.prog 10 [RVv r] [] fun y H' => H' = [] ∧ y = I .i64 (chkV r) := by
  obtain ⟨⟨h1, _⟩, ⟨h2, _⟩, ⟨ha0, ha1⟩, ⟨hb0, hb1⟩, ⟨hc0, hc1⟩, ⟨hm0, hm1⟩, ⟨hf0, hf1⟩⟩ := id hr
  have l0 := rteC_len h1 h2
  have t0 := rt_take h1 h2
  have t38 := rt_t38 h1
  have s38 := rt_s38 h1 h2
  have e76 := idx_of (rt_76 h1 h2) (by omega)
  have e77 := idx_of (rt_77 h1 h2) (by omega)
  have e78 := idx_of (rt_78 h1 h2) (by omega)
  have e79 := idx_of (rt_79 h1 h2) (by omega)
  have e80 := idx_of (rt_80 h1 h2) (by omega)
  have w1 : IntKind.i64.wrap 1 = 1 := by decide +kernel
  have w2 : IntKind.i64.wrap 2 = 2 := by decide +kernel
  have w3 : IntKind.i64.wrap (1 + 1) = 2 := by decide +kernel
  have w4 : IntKind.i64.wrap (2 + 1) = 3 := by decide +kernel
  have w5 : IntKind.i64.wrap 3 = 3 := by decide +kernel
  have w6 : IntKind.i64.wrap 0 = 0 := by decide +kernel
  have w7 : IntKind.i64.wrap (0 + 1) = 1 := by decide +kernel
  refine ecalls k_RCheckV ?_
  simp [c_RCheckV, RVv, I, l0, t0, e76, e77, e78, e79, e80, t38, s38, iC]
  refine eloop (α := Nat) (RcI r) (fun i => 3 - i) (fun i => [RVv r, .v (.c (.ptr 0 0)), I .i64 0, I .i64 i, .any, .any, .any, .any, .any, .any, .any, .any, .any, .any, .any, .any, .any, .any, .any, .any, .any, .any, .any, .any, .any, .any, .any, .any, .any, .any, .any, .any, .any, .any, .any, .any, .any, .any, .any, .any, .any, .any, .any, .any, .any, .any, .any, .any, .any, .any, .any, .any, .any, .any, .any, .any, .any, .any, .any, .any, .any, .any, .any, .any, .any, .any, .any, .any, .any, .any, .any, .any, .any, .any, .any, .any, .any, .any, .any]) (fun _ => [some (.box 31 (rteC r))]) 0 [0]
    ⟨by omega, by omega, by omega, by omega⟩ (by simp [I, RVv, t0]) (by simp) (by simp) (by simp) (by simp) ?_
  intro i hi
  rcases (by have := hi.le; omega : i = 0 ∨ i = 1 ∨ i = 2 ∨ i = 3) with rfl | rfl | rfl | rfl
  · have hp : ∀ q : ¬ endV r.a r.b, chkV r = 33 := fun q => chk_33 (fun h => q (by obtain ⟨⟨_, _⟩, ⟨_, _⟩, ⟨_, _⟩, _, _, _, _, _⟩ := h; exact ⟨by omega, by omega, by omega⟩))
    by_cases z1 : r.a < 0
    · have z1' : ¬ 0 ≤ r.a := by omega
      rw [hp (fun h => by obtain ⟨_, _, _⟩ := h; omega)]
      simp [I, RVv, l0, t0, e76, e77, e78, e79, e80, t38, s38, iC, w1, w2, w3, w4, w5, w6, w7, z1, z1']
      exact fin [] (by decide) rfl rfl rfl ⟨rfl, rfl⟩
    have z1' : 0 ≤ r.a := by omega
    by_cases z2 : 15 < r.a
    · have z2' : ¬ r.a ≤ 15 := by omega
      rw [hp (fun h => by obtain ⟨_, _, _⟩ := h; omega)]
      simp [I, RVv, l0, t0, e76, e77, e78, e79, e80, t38, s38, iC, w1, w2, w3, w4, w5, w6, w7, z1, z1', z2, z2']
      exact fin [] (by decide) rfl rfl rfl ⟨rfl, rfl⟩
    have z2' : r.a ≤ 15 := by omega
    by_cases z3 : r.a = r.b
    · have z3' : r.b = r.a := z3.symm
      rw [hp (fun h => by obtain ⟨_, _, _⟩ := h; omega)]
      simp [I, RVv, l0, t0, e76, e77, e78, e79, e80, t38, s38, iC, w1, w2, w3, w4, w5, w6, w7, z1, z1', z2, z2', z3']
      exact fin [] (by decide) rfl rfl rfl ⟨rfl, rfl⟩
    have z3' : ¬ r.b = r.a := fun h => z3 h.symm
    simp [I, RVv, l0, t0, e76, e77, e78, e79, e80, t38, s38, iC, w1, w2, w3, w4, w5, w6, w7, z1, z1', z2, z2', z3]
    exact round 1 [0] ⟨by omega, fun _ => ⟨by omega, by omega, z3⟩, by omega, by omega⟩ (by omega) (by simp [I, RVv]) (by simp [RVv]) (by simp) (by simp) (by simp)
  · have hp : ∀ q : ¬ endV r.b r.c, chkV r = 33 := fun q => chk_33 (fun h => q (by obtain ⟨⟨_, _⟩, ⟨_, _⟩, ⟨_, _⟩, _, _, _, _, _⟩ := h; exact ⟨by omega, by omega, by omega⟩))
    by_cases z1 : r.b < 0
    · have z1' : ¬ 0 ≤ r.b := by omega
      rw [hp (fun h => by obtain ⟨_, _, _⟩ := h; omega)]
      simp [I, RVv, l0, t0, e76, e77, e78, e79, e80, t38, s38, iC, w1, w2, w3, w4, w5, w6, w7, z1, z1']
      exact fin [] (by decide) rfl rfl rfl ⟨rfl, rfl⟩
    have z1' : 0 ≤ r.b := by omega
    by_cases z2 : 15 < r.b
    · have z2' : ¬ r.b ≤ 15 := by omega
      rw [hp (fun h => by obtain ⟨_, _, _⟩ := h; omega)]
      simp [I, RVv, l0, t0, e76, e77, e78, e79, e80, t38, s38, iC, w1, w2, w3, w4, w5, w6, w7, z1, z1', z2, z2']
      exact fin [] (by decide) rfl rfl rfl ⟨rfl, rfl⟩
    have z2' : r.b ≤ 15 := by omega
    by_cases z3 : r.b = r.c
    · have z3' : r.c = r.b := z3.symm
      rw [hp (fun h => by obtain ⟨_, _, _⟩ := h; omega)]
      simp [I, RVv, l0, t0, e76, e77, e78, e79, e80, t38, s38, iC, w1, w2, w3, w4, w5, w6, w7, z1, z1', z2, z2', z3']
      exact fin [] (by decide) rfl rfl rfl ⟨rfl, rfl⟩
    have z3' : ¬ r.c = r.b := fun h => z3 h.symm
    simp [I, RVv, l0, t0, e76, e77, e78, e79, e80, t38, s38, iC, w1, w2, w3, w4, w5, w6, w7, z1, z1', z2, z2', z3]
    exact round 2 [0] ⟨by omega, fun _ => hi.a (by omega), fun _ => ⟨by omega, by omega, z3⟩, by omega⟩ (by omega) (by simp [I, RVv]) (by simp [RVv]) (by simp) (by simp) (by simp)
  · have hp : ∀ q : ¬ endV r.c r.a, chkV r = 33 := fun q => chk_33 (fun h => q (by obtain ⟨⟨_, _⟩, ⟨_, _⟩, ⟨_, _⟩, _, _, _, _, _⟩ := h; exact ⟨by omega, by omega, by omega⟩))
    by_cases z1 : r.c < 0
    · have z1' : ¬ 0 ≤ r.c := by omega
      rw [hp (fun h => by obtain ⟨_, _, _⟩ := h; omega)]
      simp [I, RVv, l0, t0, e76, e77, e78, e79, e80, t38, s38, iC, w1, w2, w3, w4, w5, w6, w7, z1, z1']
      exact fin [] (by decide) rfl rfl rfl ⟨rfl, rfl⟩
    have z1' : 0 ≤ r.c := by omega
    by_cases z2 : 15 < r.c
    · have z2' : ¬ r.c ≤ 15 := by omega
      rw [hp (fun h => by obtain ⟨_, _, _⟩ := h; omega)]
      simp [I, RVv, l0, t0, e76, e77, e78, e79, e80, t38, s38, iC, w1, w2, w3, w4, w5, w6, w7, z1, z1', z2, z2']
      exact fin [] (by decide) rfl rfl rfl ⟨rfl, rfl⟩
    have z2' : r.c ≤ 15 := by omega
    by_cases z3 : r.c = r.a
    · have z3' : r.a = r.c := z3.symm
      rw [hp (fun h => by obtain ⟨_, _, _⟩ := h; omega)]
      simp [I, RVv, l0, t0, e76, e77, e78, e79, e80, t38, s38, iC, w1, w2, w3, w4, w5, w6, w7, z1, z1', z2, z2', z3']
      exact fin [] (by decide) rfl rfl rfl ⟨rfl, rfl⟩
    have z3' : ¬ r.a = r.c := fun h => z3 h.symm
    simp [I, RVv, l0, t0, e76, e77, e78, e79, e80, t38, s38, iC, w1, w2, w3, w4, w5, w6, w7, z1, z1', z2, z2', z3]
    exact round 3 [0] ⟨by omega, fun _ => hi.a (by omega), fun _ => hi.b (by omega), fun _ => ⟨by omega, by omega, z3⟩⟩ (by omega) (by simp [I, RVv]) (by simp [RVv]) (by simp) (by simp) (by simp)
  · obtain ⟨qa1, qa2, qa3⟩ := hi.a (by omega)
    obtain ⟨qb1, qb2, qb3⟩ := hi.b (by omega)
    obtain ⟨qc1, qc2, qc3⟩ := hi.c (by omega)
    simp [I, RVv, l0, t0, e76, e77, e78, e79, e80, t38, s38, iC, w1, w2, w3, w4, w5, w6, w7]
    refine call0 (Rpair_ok r.f r.a r.b h1) (by simp [PVv, I]) ?_
    rintro y H' ⟨rfl, rfl⟩
    refine ⟨.inl (by simp), le_ok rfl, ?_⟩
    by_cases q6 : ofV r.f r.a r.b = true
    rotate_left
    · have q6' : ofV r.f r.a r.b = false := by simpa using q6
      rw [q6']
      rw [show chkV r = 33 by exact chk_33 (fun h => q6 h.2.2.2.2.2.2.1)]
      simp [I, RVv, l0, t0, e76, e77, e78, e79, e80, t38, s38, iC, w1, w2, w3, w4, w5, w6, w7, q6']
      exact fin [] (by decide) rfl rfl rfl ⟨rfl, rfl⟩
    rw [q6]
    simp [I, RVv, l0, t0, e76, e77, e78, e79, e80, t38, s38, iC, w1, w2, w3, w4, w5, w6, w7]
    refine call0 (Rpair_ok r.s r.b r.c h2) (by simp [PVv, I]) ?_
    rintro y H' ⟨rfl, rfl⟩
    refine ⟨.inl (by simp), le_ok rfl, ?_⟩
    by_cases q7 : ofV r.s r.b r.c = true
    rotate_left
    · have q7' : ofV r.s r.b r.c = false := by simpa using q7
      rw [q7']
      rw [show chkV r = 33 by exact chk_33 (fun h => q7 h.2.2.2.2.2.2.2)]
      simp [I, RVv, l0, t0, e76, e77, e78, e79, e80, t38, s38, iC, w1, w2, w3, w4, w5, w6, w7, q7']
      exact fin [] (by decide) rfl rfl rfl ⟨rfl, rfl⟩
    rw [q7]
    have hp : ¬ ¬ prtV r := fun h => h ⟨⟨qa1, qa2⟩, ⟨qb1, qb2⟩, ⟨qc1, qc2⟩, qa3, qb3, fun h => qc3 h.symm, q6, q7⟩
    by_cases z0 : r.fe < 0
    · have z0n : ¬ 0 ≤ r.fe := by omega
      rw [show chkV r = 1 by unfold chkV; rw [if_neg hp, if_pos (.inl z0)]]
      simp [I, RVv, l0, t0, e76, e77, e78, e79, e80, t38, s38, iC, w1, w2, w3, w4, w5, w6, w7, z0, z0n]
      exact fin [] (by decide) rfl rfl rfl ⟨rfl, rfl⟩
    have z0p : 0 ≤ r.fe := by omega
    by_cases z1 : 1125899906842624 < r.fe
    · have z1n : ¬ r.fe ≤ 1125899906842624 := by omega
      rw [show chkV r = 1 by unfold chkV; rw [if_neg hp, if_pos (.inr (.inl z1))]]
      simp [I, RVv, l0, t0, e76, e77, e78, e79, e80, t38, s38, iC, w1, w2, w3, w4, w5, w6, w7, z0, z0p, z1, z1n]
      exact fin [] (by decide) rfl rfl rfl ⟨rfl, rfl⟩
    have z1p : r.fe ≤ 1125899906842624 := by omega
    by_cases z2 : 1125899906842624 < r.am
    · have z2n : ¬ r.am ≤ 1125899906842624 := by omega
      rw [show chkV r = 1 by unfold chkV; rw [if_neg hp, if_pos (.inr (.inr z2))]]
      simp [I, RVv, l0, t0, e76, e77, e78, e79, e80, t38, s38, iC, w1, w2, w3, w4, w5, w6, w7, z0, z0p, z1, z1p, z2, z2n]
      exact fin [] (by decide) rfl rfl rfl ⟨rfl, rfl⟩
    have z2p : r.am ≤ 1125899906842624 := by omega
    by_cases z3 : r.am < 10
    · have z3n : ¬ 10 ≤ r.am := by omega
      rw [show chkV r = 27 by unfold chkV; rw [if_neg hp, if_neg (by omega), if_pos (by omega)]]
      simp [I, RVv, l0, t0, e76, e77, e78, e79, e80, t38, s38, iC, w1, w2, w3, w4, w5, w6, w7, z0, z0p, z1, z1p, z2, z2p, z3, z3n]
      exact fin [] (by decide) rfl rfl rfl ⟨rfl, rfl⟩
    have z3p : 10 ≤ r.am := by omega
    have wS : IntKind.i64.wrap (r.am - r.fe) = r.am - r.fe := wrap_i64 (by omega) (by omega)
    by_cases z4 : r.am - r.fe < 10
    · have z4n : ¬ 10 ≤ r.am - r.fe := by omega
      rw [show chkV r = 27 by unfold chkV; rw [if_neg hp, if_neg (by omega), if_pos (by omega)]]
      simp [I, RVv, l0, t0, e76, e77, e78, e79, e80, t38, s38, iC, w1, w2, w3, w4, w5, w6, w7, z0, z0p, z1, z1p, z2, z2p, z3, z3p, wS, z4, z4n]
      exact fin [] (by decide) rfl rfl rfl ⟨rfl, rfl⟩
    have z4p : 10 ≤ r.am - r.fe := by omega
    rw [show chkV r = 0 by unfold chkV; rw [if_neg hp, if_neg (by omega), if_neg (by omega)]]
    simp [I, RVv, l0, t0, e76, e77, e78, e79, e80, t38, s38, iC, w1, w2, w3, w4, w5, w6, w7, z0, z0p, z1, z1p, z2, z2p, z3, z3p, wS, z4, z4p]
    exact fin [] (by decide) rfl rfl rfl ⟨rfl, rfl⟩

end Go.Proofs.YtejjhgdnmknejaaDoor

namespace Go.Proofs.YtejjhgdnmknejaaDoor
open Go Go.EW
set_option linter.unusedSimpArgs false
set_option linter.unusedVariables false

@[simp] def l_VirtSides_1 (_ : Unit) : List EOp := [⟨0, (some 2), none, (.q (.box 31 (.t 0))), []⟩, ⟨1, (some 4), none, (.q (.mov (.k (.bool false)))), []⟩]
@[simp] def b_VirtSides_2 (_ : Unit) : EB := reg0 (hid l_VirtSides_1) 2
@[simp] def l_VirtSides_4 (_ : Unit) : List EOp := [⟨6, (some 15), none, (.q (.ext 0 (.t 9))), []⟩, ⟨7, (some 16), none, (.q (.ext 1 (.t 9))), []⟩, ⟨8, (some 5), none, (.q (.mov (.t 15))), []⟩, ⟨9, (some 6), none, (.q (.mov (.t 16))), []⟩]
@[simp] def l_VirtSides_3 (_ : Unit) : List EOp := ⟨0, (some 10), none, (.q (.fad 38 (.t 2))), []⟩ :: ⟨1, (some 11), none, (.q (.lda 38 (.t 10))), []⟩ :: ⟨2, (some 12), none, (.call 5 [(.t 11)]), []⟩ :: ⟨3, (some 13), none, (.q (.mov (.t 1))), []⟩ :: ⟨4, (some 14), none, (.call 4 [(.t 12), (.t 13)]), []⟩ :: ⟨5, (some 9), none, (.q (.mov (.t 14))), []⟩ :: hid l_VirtSides_4
@[simp] def b_VirtSides_5 (_ : Unit) : EB := reg0 (hid l_VirtSides_3) 10
@[simp] def l_VirtSides_7 (_ : Unit) : List EOp := [⟨6, (some 23), none, (.q (.ext 1 (.t 17))), []⟩, ⟨7, (some 7), none, (.q (.mov (.t 22))), []⟩, ⟨8, (some 8), none, (.q (.mov (.t 23))), []⟩]
@[simp] def l_VirtSides_6 (_ : Unit) : List EOp := ⟨0, (some 18), none, (.q (.fad 38 (.t 2))), []⟩ :: ⟨1, (some 19), none, (.q (.lda 38 (.t 18))), []⟩ :: ⟨2, (some 20), none, (.q (.mov (.t 1))), []⟩ :: ⟨3, (some 21), none, (.call 6 [(.t 19), (.t 20)]), []⟩ :: ⟨4, (some 17), none, (.q (.mov (.t 21))), []⟩ :: ⟨5, (some 22), none, (.q (.ext 0 (.t 17))), []⟩ :: hid l_VirtSides_7
@[simp] def b_VirtSides_8 (_ : Unit) : EB := reg0 (hid l_VirtSides_6) 9
@[simp] def l_VirtSides_12 (_ : Unit) : List EOp := [⟨18, (some 42), none, (.q (.mov (.t 41))), []⟩, ⟨19, (some 43), (some (42, true)), (.call 11 []), []⟩, ⟨20, (some 44), none, (.q (.pick (.t 42) (.t 43) (.k (.bool false)))), []⟩, ⟨21, (some 4), none, (.q (.mov (.t 44))), []⟩]
@[simp] def l_VirtSides_11 (_ : Unit) : List EOp := ⟨11, (some 35), (some (33, true)), (.call 9 [(.t 34)]), [14]⟩ :: ⟨12, (some 36), (some (33, true)), (.call 8 [(.t 35)]), [14]⟩ :: ⟨13, (some 37), (some (33, true)), (.call 7 [(.t 36)]), [14]⟩ :: ⟨15, (some 39), (some (33, true)), (.call 10 [(.t 38)]), []⟩ :: ⟨16, (some 40), (some (33, true)), (.q (.bin .eql (.t 37) (.t 39))), []⟩ :: ⟨17, (some 41), none, (.q (.pick (.t 33) (.t 40) (.k (.bool false)))), []⟩ :: hid l_VirtSides_12
@[simp] def l_VirtSides_10 (_ : Unit) : List EOp := ⟨5, (some 29), (some (27, true)), (.call 7 [(.t 28)]), [6]⟩ :: ⟨7, (some 31), (some (27, true)), (.q (.bin .eql (.t 29) (.t 30))), []⟩ :: ⟨8, (some 32), none, (.q (.pick (.t 27) (.t 31) (.k (.bool false)))), []⟩ :: ⟨9, (some 33), none, (.q (.mov (.t 32))), []⟩ :: ⟨10, (some 34), (some (33, true)), (.q (.lda 81 (.t 2))), []⟩ :: ⟨14, (some 38), (some (33, true)), (.q (.lda 81 (.t 2))), []⟩ :: hid l_VirtSides_11
@[simp] def l_VirtSides_9 (_ : Unit) : List EOp := ⟨0, (some 24), none, (.q (.mov (.t 5))), []⟩ :: ⟨1, (some 25), none, (.q (.mov (.t 7))), []⟩ :: ⟨2, (some 26), none, (.q (.bin .eql (.t 24) (.t 25))), []⟩ :: ⟨3, (some 27), none, (.q (.mov (.t 26))), []⟩ :: ⟨4, (some 28), (some (27, true)), (.q (.mov (.t 6))), []⟩ :: ⟨6, (some 30), (some (27, true)), (.q (.mov (.t 8))), []⟩ :: hid l_VirtSides_10
@[simp] def b_VirtSides_13 (_ : Unit) : EB := reg1 (hid l_VirtSides_9) 22
@[simp] def b_VirtSides_14 (_ : Unit) : EB := .seq (hid b_VirtSides_13) .ret
@[simp] def b_VirtSides_15 (_ : Unit) : EB := .seq (hid b_VirtSides_8) (hid b_VirtSides_14)
@[simp] def b_VirtSides_16 (_ : Unit) : EB := .seq (hid b_VirtSides_5) (hid b_VirtSides_15)
@[simp] def b_VirtSides_17 (_ : Unit) : EB := .seq (hid b_VirtSides_2) (hid b_VirtSides_16)
def c_VirtSides : EB × List QOp × Nat := ((hid b_VirtSides_17), [(.mov (.t 4))], 45)
theorem k_VirtSides : cfun Tryd.prog 3 = some c_VirtSides := by kernel_rfl


theorem num_e (e : Nat) : ECalls Tryd.prog 7 [.lit (errV e)] [] fun y H' => H' = [] ∧ y = I .i64 e := by
  have h := num_ok (e : Int)
  have e1 : EN (e : Int) = .lit (errV e) := by
    unfold EN errV
    by_cases h : e = 0
    · subst h; rfl
    · rw [if_neg (by omega), if_neg h]
  rw [e1] at h
  exact h

set_option maxHeartbeats 4000000 in
theorem VirtSides_ok (r : Rte) (w : Int) (hr : r.ok) : ECalls Tryd.prog 3 [RVv r, I .i64 w] [] fun y H' => H' = [] ∧ y = .lit (.bool true) := by
  obtain ⟨⟨h1, _⟩, ⟨h2, _⟩, _⟩ := id hr
  have l0 := rteC_len h1 h2
  have t0 := rt_take h1 h2
  have s38 := rt_s38 h1 h2
  have g1 := VSide_ok r.s w h2
  have g2 := RSide_ok r.s w h2
  have g3 := VCheck_ok r hr
  have g4 := RCheckV_ok r hr
  generalize sidV r.s w = q at g1 g2
  obtain ⟨q1, q2⟩ := q
  dsimp only at g1 g2
  generalize chkV r = k at g3 g4
  refine ecalls k_VirtSides ?_
  simp [c_VirtSides, RVv, I, l0, t0, s38, iC, -errV_0]
  refine call0 (giveP_ok r.s h2) (by simp [PVv]) ?_
  rintro y H' ⟨rfl, rfl⟩
  refine ⟨.inl (by simp [PVv]), le_ok rfl, ?_⟩
  simp [RVv, PVv, I, l0, t0, s38, iC, -errV_0]
  refine call0 g1 (by simp [PVv, I]) ?_
  rintro y H' ⟨rfl, rfl⟩
  refine ⟨.inl (by simp [iC]), le_ok rfl, ?_⟩
  simp [RVv, PVv, I, l0, t0, s38, iC, -errV_0]
  refine call0 g2 (by simp [PVv, I]) ?_
  rintro y H' ⟨rfl, rfl⟩
  refine ⟨.inl (by simp [iC]), le_ok rfl, ?_⟩
  simp [RVv, PVv, I, l0, t0, s38, iC, -errV_0]
  refine call0 (num_e q2) (by simp) ?_
  rintro y H' ⟨rfl, rfl⟩
  refine ⟨.inl (by simp [I]), le_ok rfl, ?_⟩
  simp [RVv, PVv, I, l0, t0, s38, iC, -errV_0]
  refine call0 (giveR_ok r h1 h2) (by simp [RVv]) ?_
  rintro y H' ⟨rfl, rfl⟩
  refine ⟨.inl (by simp [RVv]), le_ok rfl, ?_⟩
  simp [RVv, PVv, I, l0, t0, s38, iC, -errV_0]
  refine call0 g3 (by simp [RVv]) ?_
  rintro y H' ⟨rfl, rfl⟩
  refine ⟨.inl (by simp), le_ok rfl, ?_⟩
  simp [RVv, PVv, I, l0, t0, s38, iC, -errV_0]
  refine call0 (num_e k) (by simp) ?_
  rintro y H' ⟨rfl, rfl⟩
  refine ⟨.inl (by simp [I]), le_ok rfl, ?_⟩
  simp [RVv, PVv, I, l0, t0, s38, iC, -errV_0]
  refine call0 g4 (by simp [RVv]) ?_
  rintro y H' ⟨rfl, rfl⟩
  refine ⟨.inl (by simp [I]), le_ok rfl, ?_⟩
  simp [RVv, PVv, I, l0, t0, s38, iC, -errV_0]
  refine call0 sure_ok (by simp) ?_
  rintro y H' ⟨rfl, rfl⟩
  refine ⟨.inl (by simp), le_ok rfl, ?_⟩
  simp
  exact fin [] (by decide) rfl rfl rfl ⟨rfl, rfl⟩

end Go.Proofs.YtejjhgdnmknejaaDoor
