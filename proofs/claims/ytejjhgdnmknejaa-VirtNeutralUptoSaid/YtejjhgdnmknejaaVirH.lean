import Derived.Test.YtejjhgdnmknejaaVirG
namespace Go.Proofs.Ytejjhgdnmknejaa
open Go Go.EW
set_option linter.unusedSimpArgs false
set_option linter.unusedVariables false

@[simp] def l_IdxH_1 (_ : Unit) : List EOp := [⟨0, (some 4), none, (.q (.mov (.k (.int .i64 0)))), []⟩]
@[simp] def b_IdxH_2 (_ : Unit) : EB := reg0 (hid l_IdxH_1) 1
@[simp] def l_IdxH_3 (_ : Unit) : List EOp := [⟨0, (some 6), none, (.q (.mov (.t 0))), []⟩, ⟨1, (some 7), none, (.q (.len (.t 6))), []⟩, ⟨2, (some 8), none, (.q (.mov (.k (.int .i64 0)))), []⟩]
@[simp] def b_IdxH_4 (_ : Unit) : EB := reg0 (hid l_IdxH_3) 3
@[simp] def l_IdxH_5 (_ : Unit) : List EOp := [⟨0, (some 9), none, (.q (.bin .lss (.t 8) (.t 7))), []⟩]
@[simp] def b_IdxH_6 (_ : Unit) : EB := reg0 (hid l_IdxH_5) 1
@[simp] def b_IdxH_7 (_ : Unit) : EB := .cond (.t 9) .skip (.exit 0)
@[simp] def l_IdxH_8 (_ : Unit) : List EOp := [⟨0, (some 10), none, (.q (.mov (.t 8))), []⟩, ⟨1, (some 5), none, (.q (.mov (.t 10))), []⟩]
@[simp] def b_IdxH_9 (_ : Unit) : EB := reg0 (hid l_IdxH_8) 2
@[simp] def l_IdxH_10 (_ : Unit) : List EOp := [⟨0, (some 11), none, (.q (.mov (.t 1))), []⟩, ⟨1, (some 12), none, (.q (.mov (.t 0))), []⟩, ⟨2, (some 13), none, (.q (.mov (.t 5))), []⟩, ⟨3, (some 14), none, (.q (.isl 3 (.t 12) (.t 13))), []⟩, ⟨4, (some 15), none, (.q (.lda 3 (.t 14))), []⟩, ⟨5, (some 16), none, (.clo (.t 11) [(.t 15)]), []⟩]
@[simp] def b_IdxH_11 (_ : Unit) : EB := reg0 (hid l_IdxH_10) 6
@[simp] def l_IdxH_12 (_ : Unit) : List EOp := [⟨0, (some 17), none, (.q (.mov (.t 5))), []⟩, ⟨1, (some 4), none, (.q (.mov (.t 17))), []⟩]
@[simp] def b_IdxH_13 (_ : Unit) : EB := reg0 (hid l_IdxH_12) 2
@[simp] def b_IdxH_14 (_ : Unit) : EB := .seq (hid b_IdxH_13) .ret
@[simp] def b_IdxH_15 (_ : Unit) : EB := .cond (.t 16) (hid b_IdxH_14) .skip
@[simp] def b_IdxH_16 (_ : Unit) : EB := .seq (hid b_IdxH_11) (hid b_IdxH_15)
@[simp] def b_IdxH_17 (_ : Unit) : EB := .seq (hid b_IdxH_9) (hid b_IdxH_16)
@[simp] def b_IdxH_18 (_ : Unit) : EB := .block 1 (hid b_IdxH_17)
@[simp] def l_IdxH_19 (_ : Unit) : List EOp := [⟨0, (some 18), none, (.q (.bin .add (.t 8) (.k (.int .i64 1)))), []⟩, ⟨1, (some 8), none, (.q (.mov (.t 18))), []⟩]
@[simp] def b_IdxH_20 (_ : Unit) : EB := reg0 (hid l_IdxH_19) 2
@[simp] def b_IdxH_21 (_ : Unit) : EB := .seq (hid b_IdxH_18) (hid b_IdxH_20)
@[simp] def b_IdxH_22 (_ : Unit) : EB := .seq (hid b_IdxH_7) (hid b_IdxH_21)
@[simp] def b_IdxH_23 (_ : Unit) : EB := .seq (hid b_IdxH_6) (hid b_IdxH_22)
@[simp] def b_IdxH_24 (_ : Unit) : EB := .loop (hid b_IdxH_23)
@[simp] def b_IdxH_25 (_ : Unit) : EB := .block 0 (hid b_IdxH_24)
@[simp] def b_IdxH_26 (_ : Unit) : EB := .seq (hid b_IdxH_4) (hid b_IdxH_25)
@[simp] def l_IdxH_27 (_ : Unit) : List EOp := [⟨0, (some 4), none, (.q (.mov (.k (.int .i64 (-1))))), []⟩]
@[simp] def b_IdxH_28 (_ : Unit) : EB := reg0 (hid l_IdxH_27) 1
@[simp] def b_IdxH_29 (_ : Unit) : EB := .seq (hid b_IdxH_28) .ret
@[simp] def b_IdxH_30 (_ : Unit) : EB := .seq (hid b_IdxH_26) (hid b_IdxH_29)
@[simp] def b_IdxH_31 (_ : Unit) : EB := .seq (hid b_IdxH_2) (hid b_IdxH_30)
def c_IdxH : EB × List QOp × Nat := ((hid b_IdxH_31), [(.mov (.t 4))], 19)
theorem k_IdxH : cfun Try.prog 42 = some c_IdxH := by kernel_rfl

@[simp] def l_ConH_1 (_ : Unit) : List EOp := [⟨0, (some 4), none, (.q (.mov (.k (.bool false)))), []⟩]
@[simp] def b_ConH_2 (_ : Unit) : EB := reg0 (hid l_ConH_1) 1
@[simp] def l_ConH_3 (_ : Unit) : List EOp := [⟨0, (some 5), none, (.q (.mov (.t 0))), []⟩, ⟨1, (some 6), none, (.q (.mov (.t 1))), []⟩, ⟨2, (some 7), none, (.call 42 [(.t 5), (.t 6)]), []⟩, ⟨3, (some 8), none, (.q (.bin .geq (.t 7) (.k (.int .i64 0)))), []⟩, ⟨4, (some 4), none, (.q (.mov (.t 8))), []⟩]
@[simp] def b_ConH_4 (_ : Unit) : EB := reg0 (hid l_ConH_3) 5
@[simp] def b_ConH_5 (_ : Unit) : EB := .seq (hid b_ConH_4) .ret
@[simp] def b_ConH_6 (_ : Unit) : EB := .seq (hid b_ConH_2) (hid b_ConH_5)
def c_ConH : EB × List QOp × Nat := ((hid b_ConH_6), [(.mov (.t 4))], 9)
theorem k_ConH : cfun Try.prog 29 = some c_ConH := by kernel_rfl

@[simp] def l_Vholds_1 (_ : Unit) : List EOp := [⟨0, (some 3), none, (.q (.box 33 (.t 0))), []⟩, ⟨1, (some 4), none, (.q (.box 37 (.t 1))), []⟩, ⟨2, (some 5), none, (.q (.box 3 (.t 2))), []⟩, ⟨3, (some 6), none, (.q (.mov (.k (.bool false)))), []⟩]
@[simp] def b_Vholds_2 (_ : Unit) : EB := reg0 (hid l_Vholds_1) 4
@[simp] def l_Vholds_3 (_ : Unit) : List EOp := [⟨0, (some 8), none, (.q (.lda 81 (.t 3))), []⟩, ⟨1, (some 9), none, (.q (.ldc (.t 5))), []⟩, ⟨2, (some 10), none, (.call 13 [(.t 8), (.t 9)]), []⟩, ⟨3, (some 7), none, (.q (.alloc 57 [(.int .i64 0), (.int .i64 0), (.slice none 0 0)])), []⟩, ⟨4, none, none, (.fz (.sto 3 (.t 7) (.t 10))), []⟩]
@[simp] def b_Vholds_4 (_ : Unit) : EB := reg0 (hid l_Vholds_3) 5
@[simp] def l_Vholds_5 (_ : Unit) : List EOp := [⟨0, (some 11), none, (.q (.fad 4 (.t 4))), []⟩, ⟨1, (some 12), none, (.q (.ldc (.t 11))), []⟩, ⟨2, (some 13), none, (.q (.mkf 30 [(.t 5), (.t 7)])), []⟩, ⟨3, (some 14), none, (.call 29 [(.t 12), (.t 13)]), []⟩, ⟨4, (some 6), none, (.q (.mov (.t 14))), []⟩]
@[simp] def b_Vholds_6 (_ : Unit) : EB := reg0 (hid l_Vholds_5) 5
@[simp] def b_Vholds_7 (_ : Unit) : EB := .seq (hid b_Vholds_6) .ret
@[simp] def b_Vholds_8 (_ : Unit) : EB := .seq (hid b_Vholds_4) (hid b_Vholds_7)
@[simp] def b_Vholds_9 (_ : Unit) : EB := .seq (hid b_Vholds_2) (hid b_Vholds_8)
def c_Vholds : EB × List QOp × Nat := ((hid b_Vholds_9), [(.mov (.t 6))], 15)
theorem k_Vholds : cfun Try.prog 14 = some c_Vholds := by kernel_rfl

@[simp] def l_Vfree_1 (_ : Unit) : List EOp := [⟨0, (some 5), none, (.q (.box 33 (.t 0))), []⟩, ⟨1, (some 6), none, (.q (.box 37 (.t 1))), []⟩, ⟨2, (some 10), none, (.q (.alloc 37 [(.int .i64 0), (.int .i64 0), (.int .i64 0), (.slice none 0 0), (.slice none 0 0)])), []⟩, ⟨3, (some 11), none, (.q (.mov (.k .nilIface))), []⟩]
@[simp] def b_Vfree_2 (_ : Unit) : EB := reg0 (hid l_Vfree_1) 4
@[simp] def l_Vfree_3 (_ : Unit) : List EOp := [⟨0, (some 12), none, (.q (.mov (.t 3))), []⟩, ⟨1, (some 13), none, (.q (.bin .eql (.t 12) (.k (.int .i64 0)))), []⟩]
@[simp] def b_Vfree_4 (_ : Unit) : EB := reg0 (hid l_Vfree_3) 2
@[simp] def l_Vfree_6 (_ : Unit) : List EOp := [⟨6, (some 20), none, (.call 32 [(.t 14), (.t 15), (.t 19)]), []⟩, ⟨7, (some 21), none, (.q (.ext 0 (.t 20))), []⟩, ⟨8, (some 22), none, (.q (.ext 1 (.t 20))), []⟩, ⟨9, none, none, (.fz (.sto 5 (.t 10) (.t 21))), []⟩, ⟨10, (some 11), none, (.q (.mov (.t 22))), []⟩]
@[simp] def l_Vfree_5 (_ : Unit) : List EOp := ⟨0, (some 14), none, (.q (.lda 5 (.t 6))), []⟩ :: ⟨1, (some 15), none, (.q (.mov (.t 2))), []⟩ :: ⟨2, (some 16), none, (.q (.fad 79 (.t 5))), []⟩ :: ⟨3, (some 17), none, (.q (.ldc (.t 16))), []⟩ :: ⟨4, (some 18), none, (.q (.mov (.t 4))), []⟩ :: ⟨5, (some 19), none, (.q (.bin .sub (.t 17) (.t 18))), []⟩ :: hid l_Vfree_6
@[simp] def b_Vfree_7 (_ : Unit) : EB := reg0 (hid l_Vfree_5) 11
@[simp] def b_Vfree_8 (_ : Unit) : EB := .seq (hid b_Vfree_7) .ret
@[simp] def b_Vfree_9 (_ : Unit) : EB := .cond (.t 13) (hid b_Vfree_8) .skip
@[simp] def b_Vfree_10 (_ : Unit) : EB := .seq (hid b_Vfree_4) (hid b_Vfree_9)
@[simp] def l_Vfree_12 (_ : Unit) : List EOp := [⟨6, none, none, (.fz (.sto 5 (.t 10) (.t 27))), []⟩, ⟨7, (some 11), none, (.q (.mov (.t 28))), []⟩]
@[simp] def l_Vfree_11 (_ : Unit) : List EOp := ⟨0, (some 23), none, (.q (.lda 5 (.t 6))), []⟩ :: ⟨1, (some 24), none, (.q (.mov (.t 2))), []⟩ :: ⟨2, (some 25), none, (.q (.mov (.t 4))), []⟩ :: ⟨3, (some 26), none, (.call 32 [(.t 23), (.t 24), (.t 25)]), []⟩ :: ⟨4, (some 27), none, (.q (.ext 0 (.t 26))), []⟩ :: ⟨5, (some 28), none, (.q (.ext 1 (.t 26))), []⟩ :: hid l_Vfree_12
@[simp] def b_Vfree_13 (_ : Unit) : EB := reg0 (hid l_Vfree_11) 8
@[simp] def b_Vfree_14 (_ : Unit) : EB := .seq (hid b_Vfree_13) .ret
@[simp] def b_Vfree_15 (_ : Unit) : EB := .seq (hid b_Vfree_10) (hid b_Vfree_14)
@[simp] def b_Vfree_16 (_ : Unit) : EB := .seq (hid b_Vfree_2) (hid b_Vfree_15)
def c_Vfree : EB × List QOp × Nat := ((hid b_Vfree_16), [(.lda 5 (.t 10)), (.mov (.t 11))], 29)
theorem k_Vfree : cfun Try.prog 15 = some c_Vfree := by kernel_rfl

@[simp] def l_VClose_1 (_ : Unit) : List EOp := [⟨0, (some 5), none, (.q (.box 33 (.t 0))), []⟩, ⟨1, (some 8), none, (.q (.box 37 (.t 3))), []⟩, ⟨2, (some 9), none, (.q (.box 37 (.t 4))), []⟩, ⟨3, (some 10), none, (.q (.alloc 37 [(.int .i64 0), (.int .i64 0), (.int .i64 0), (.slice none 0 0), (.slice none 0 0)])), []⟩, ⟨4, (some 11), none, (.q (.alloc 37 [(.int .i64 0), (.int .i64 0), (.int .i64 0), (.slice none 0 0), (.slice none 0 0)])), []⟩, ⟨5, (some 12), none, (.q (.mov (.k .nilIface))), []⟩]
@[simp] def b_VClose_2 (_ : Unit) : EB := reg0 (hid l_VClose_1) 6
@[simp] def l_VClose_3 (_ : Unit) : List EOp := [⟨0, (some 19), none, (.q (.lda 81 (.t 5))), []⟩, ⟨1, (some 20), none, (.call 10 [(.t 19)]), []⟩, ⟨2, (some 13), none, (.q (.mov (.t 20))), []⟩]
@[simp] def b_VClose_4 (_ : Unit) : EB := reg0 (hid l_VClose_3) 3
@[simp] def l_VClose_5 (_ : Unit) : List EOp := [⟨0, (some 21), none, (.q (.mov (.t 13))), []⟩, ⟨1, (some 22), none, (.q (.eqi true (.t 21))), []⟩]
@[simp] def b_VClose_6 (_ : Unit) : EB := reg0 (hid l_VClose_5) 2
@[simp] def l_VClose_7 (_ : Unit) : List EOp := [⟨0, (some 23), none, (.q (.build [(.int .i64 0), (.int .i64 0), (.int .i64 0), (.slice none 0 0), (.slice none 0 0)] [])), []⟩, ⟨1, (some 24), none, (.q (.build [(.int .i64 0), (.int .i64 0), (.int .i64 0), (.slice none 0 0), (.slice none 0 0)] [])), []⟩, ⟨2, (some 25), none, (.q (.mov (.t 13))), []⟩, ⟨3, none, none, (.fz (.sto 5 (.t 10) (.t 23))), []⟩, ⟨4, none, none, (.fz (.sto 5 (.t 11) (.t 24))), []⟩, ⟨5, (some 12), none, (.q (.mov (.t 25))), []⟩]
@[simp] def b_VClose_8 (_ : Unit) : EB := reg0 (hid l_VClose_7) 6
@[simp] def b_VClose_9 (_ : Unit) : EB := .seq (hid b_VClose_8) .ret
@[simp] def b_VClose_10 (_ : Unit) : EB := .cond (.t 22) (hid b_VClose_9) .skip
@[simp] def b_VClose_11 (_ : Unit) : EB := .seq (hid b_VClose_6) (hid b_VClose_10)
@[simp] def b_VClose_12 (_ : Unit) : EB := .seq (hid b_VClose_4) (hid b_VClose_11)
@[simp] def l_VClose_14 (_ : Unit) : List EOp := [⟨6, (some 33), (some (29, false)), (.q (.bin .gtr (.t 30) (.t 32))), []⟩, ⟨7, (some 34), none, (.q (.pick (.t 29) (.k (.bool true)) (.t 33))), []⟩, ⟨8, (some 26), none, (.q (.mov (.t 34))), []⟩]
@[simp] def l_VClose_13 (_ : Unit) : List EOp := ⟨0, (some 27), none, (.q (.mov (.t 2))), []⟩ :: ⟨1, (some 28), none, (.q (.bin .lss (.t 27) (.k (.int .i64 0)))), []⟩ :: ⟨2, (some 29), none, (.q (.mov (.t 28))), []⟩ :: ⟨3, (some 30), (some (29, false)), (.q (.mov (.t 2))), []⟩ :: ⟨4, (some 31), (some (29, false)), (.q (.fad 79 (.t 5))), []⟩ :: ⟨5, (some 32), (some (29, false)), (.q (.ldc (.t 31))), []⟩ :: hid l_VClose_14
@[simp] def b_VClose_15 (_ : Unit) : EB := reg0 (hid l_VClose_13) 9
@[simp] def l_VClose_16 (_ : Unit) : List EOp := [⟨0, (some 35), none, (.q (.build [(.int .i64 0), (.int .i64 0), (.int .i64 0), (.slice none 0 0), (.slice none 0 0)] [])), []⟩, ⟨1, (some 36), none, (.q (.build [(.int .i64 0), (.int .i64 0), (.int .i64 0), (.slice none 0 0), (.slice none 0 0)] [])), []⟩, ⟨2, (some 37), none, (.q (.mki 59 (.k (.int .i64 20)))), []⟩, ⟨3, none, none, (.fz (.sto 5 (.t 10) (.t 35))), []⟩, ⟨4, none, none, (.fz (.sto 5 (.t 11) (.t 36))), []⟩, ⟨5, (some 12), none, (.q (.mov (.t 37))), []⟩]
@[simp] def b_VClose_17 (_ : Unit) : EB := reg0 (hid l_VClose_16) 6
@[simp] def b_VClose_18 (_ : Unit) : EB := .seq (hid b_VClose_17) .ret
@[simp] def l_VClose_21 (_ : Unit) : List EOp := [⟨12, (some 38), none, (.q (.mov (.t 50))), []⟩]
@[simp] def l_VClose_20 (_ : Unit) : List EOp := ⟨6, (some 45), (some (44, false)), (.q (.lda 81 (.t 5))), []⟩ :: ⟨7, (some 46), (some (44, false)), (.q (.lda 5 (.t 9))), []⟩ :: ⟨8, (some 47), (some (44, false)), (.q (.mov (.t 1))), []⟩ :: ⟨9, (some 48), (some (44, false)), (.call 14 [(.t 45), (.t 46), (.t 47)]), []⟩ :: ⟨10, (some 49), (some (44, false)), (.q (.un .not (.t 48))), []⟩ :: ⟨11, (some 50), none, (.q (.pick (.t 44) (.k (.bool true)) (.t 49))), []⟩ :: hid l_VClose_21
@[simp] def l_VClose_19 (_ : Unit) : List EOp := ⟨0, (some 39), none, (.q (.lda 81 (.t 5))), []⟩ :: ⟨1, (some 40), none, (.q (.lda 5 (.t 8))), []⟩ :: ⟨2, (some 41), none, (.q (.mov (.t 1))), []⟩ :: ⟨3, (some 42), none, (.call 14 [(.t 39), (.t 40), (.t 41)]), []⟩ :: ⟨4, (some 43), none, (.q (.un .not (.t 42))), []⟩ :: ⟨5, (some 44), none, (.q (.mov (.t 43))), []⟩ :: hid l_VClose_20
@[simp] def b_VClose_22 (_ : Unit) : EB := reg0 (hid l_VClose_19) 13
@[simp] def l_VClose_23 (_ : Unit) : List EOp := [⟨0, (some 51), none, (.q (.build [(.int .i64 0), (.int .i64 0), (.int .i64 0), (.slice none 0 0), (.slice none 0 0)] [])), []⟩, ⟨1, (some 52), none, (.q (.build [(.int .i64 0), (.int .i64 0), (.int .i64 0), (.slice none 0 0), (.slice none 0 0)] [])), []⟩, ⟨2, (some 53), none, (.q (.mki 59 (.k (.int .i64 8)))), []⟩, ⟨3, none, none, (.fz (.sto 5 (.t 10) (.t 51))), []⟩, ⟨4, none, none, (.fz (.sto 5 (.t 11) (.t 52))), []⟩, ⟨5, (some 12), none, (.q (.mov (.t 53))), []⟩]
@[simp] def b_VClose_24 (_ : Unit) : EB := reg0 (hid l_VClose_23) 6
@[simp] def b_VClose_25 (_ : Unit) : EB := .seq (hid b_VClose_24) .ret
@[simp] def b_VClose_26 (_ : Unit) : EB := .cond (.t 38) (hid b_VClose_25) .skip
@[simp] def b_VClose_27 (_ : Unit) : EB := .seq (hid b_VClose_22) (hid b_VClose_26)
@[simp] def b_VClose_28 (_ : Unit) : EB := .cond (.t 26) (hid b_VClose_18) (hid b_VClose_27)
@[simp] def b_VClose_29 (_ : Unit) : EB := .seq (hid b_VClose_15) (hid b_VClose_28)
@[simp] def b_VClose_30 (_ : Unit) : EB := .block 0 (hid b_VClose_29)
@[simp] def l_VClose_32 (_ : Unit) : List EOp := [⟨6, (some 15), none, (.q (.mov (.t 58))), []⟩]
@[simp] def l_VClose_31 (_ : Unit) : List EOp := ⟨0, (some 55), none, (.q (.lda 81 (.t 5))), []⟩ :: ⟨1, (some 56), none, (.call 11 [(.t 55)]), []⟩ :: ⟨2, (some 54), none, (.q (.mov (.t 56))), []⟩ :: ⟨3, (some 57), none, (.q (.ext 0 (.t 54))), []⟩ :: ⟨4, (some 58), none, (.q (.ext 1 (.t 54))), []⟩ :: ⟨5, (some 14), none, (.q (.mov (.t 57))), []⟩ :: hid l_VClose_32
@[simp] def b_VClose_33 (_ : Unit) : EB := reg0 (hid l_VClose_31) 7
@[simp] def l_VClose_35 (_ : Unit) : List EOp := [⟨6, (some 59), none, (.q (.mov (.t 65))), []⟩, ⟨7, (some 66), none, (.q (.ext 0 (.t 59))), []⟩, ⟨8, (some 67), none, (.q (.ext 1 (.t 59))), []⟩, ⟨9, (some 16), none, (.q (.alloc 37 [(.int .i64 0), (.int .i64 0), (.int .i64 0), (.slice none 0 0), (.slice none 0 0)])), []⟩, ⟨10, none, none, (.fz (.sto 5 (.t 16) (.t 66))), []⟩, ⟨11, (some 17), none, (.q (.mov (.t 67))), []⟩]
@[simp] def l_VClose_34 (_ : Unit) : List EOp := ⟨0, (some 60), none, (.q (.lda 81 (.t 5))), []⟩ :: ⟨1, (some 61), none, (.q (.lda 5 (.t 8))), []⟩ :: ⟨2, (some 62), none, (.q (.mov (.t 1))), []⟩ :: ⟨3, (some 63), none, (.q (.mov (.t 14))), []⟩ :: ⟨4, (some 64), none, (.q (.mov (.t 2))), []⟩ :: ⟨5, (some 65), none, (.call 15 [(.t 60), (.t 61), (.t 62), (.t 63), (.t 64)]), []⟩ :: hid l_VClose_35
@[simp] def b_VClose_36 (_ : Unit) : EB := reg0 (hid l_VClose_34) 12
@[simp] def l_VClose_37 (_ : Unit) : List EOp := [⟨0, (some 68), none, (.q (.mov (.t 17))), []⟩, ⟨1, (some 69), none, (.q (.eqi true (.t 68))), []⟩]
@[simp] def b_VClose_38 (_ : Unit) : EB := reg0 (hid l_VClose_37) 2
@[simp] def l_VClose_39 (_ : Unit) : List EOp := [⟨0, (some 70), none, (.q (.build [(.int .i64 0), (.int .i64 0), (.int .i64 0), (.slice none 0 0), (.slice none 0 0)] [])), []⟩, ⟨1, (some 71), none, (.q (.build [(.int .i64 0), (.int .i64 0), (.int .i64 0), (.slice none 0 0), (.slice none 0 0)] [])), []⟩, ⟨2, (some 72), none, (.q (.mov (.t 17))), []⟩, ⟨3, none, none, (.fz (.sto 5 (.t 10) (.t 70))), []⟩, ⟨4, none, none, (.fz (.sto 5 (.t 11) (.t 71))), []⟩, ⟨5, (some 12), none, (.q (.mov (.t 72))), []⟩]
@[simp] def b_VClose_40 (_ : Unit) : EB := reg0 (hid l_VClose_39) 6
@[simp] def b_VClose_41 (_ : Unit) : EB := .seq (hid b_VClose_40) .ret
@[simp] def b_VClose_42 (_ : Unit) : EB := .cond (.t 69) (hid b_VClose_41) .skip
@[simp] def b_VClose_43 (_ : Unit) : EB := .seq (hid b_VClose_38) (hid b_VClose_42)
@[simp] def l_VClose_45 (_ : Unit) : List EOp := [⟨6, (some 73), none, (.q (.mov (.t 79))), []⟩, ⟨7, (some 80), none, (.q (.ext 0 (.t 73))), []⟩, ⟨8, (some 81), none, (.q (.ext 1 (.t 73))), []⟩, ⟨9, (some 18), none, (.q (.alloc 37 [(.int .i64 0), (.int .i64 0), (.int .i64 0), (.slice none 0 0), (.slice none 0 0)])), []⟩, ⟨10, none, none, (.fz (.sto 5 (.t 18) (.t 80))), []⟩, ⟨11, (some 17), none, (.q (.mov (.t 81))), []⟩]
@[simp] def l_VClose_44 (_ : Unit) : List EOp := ⟨0, (some 74), none, (.q (.lda 81 (.t 5))), []⟩ :: ⟨1, (some 75), none, (.q (.lda 5 (.t 9))), []⟩ :: ⟨2, (some 76), none, (.q (.mov (.t 1))), []⟩ :: ⟨3, (some 77), none, (.q (.mov (.t 15))), []⟩ :: ⟨4, (some 78), none, (.q (.mov (.t 2))), []⟩ :: ⟨5, (some 79), none, (.call 15 [(.t 74), (.t 75), (.t 76), (.t 77), (.t 78)]), []⟩ :: hid l_VClose_45
@[simp] def b_VClose_46 (_ : Unit) : EB := reg0 (hid l_VClose_44) 12
@[simp] def l_VClose_47 (_ : Unit) : List EOp := [⟨0, (some 82), none, (.q (.mov (.t 17))), []⟩, ⟨1, (some 83), none, (.q (.eqi true (.t 82))), []⟩]
@[simp] def b_VClose_48 (_ : Unit) : EB := reg0 (hid l_VClose_47) 2
@[simp] def l_VClose_49 (_ : Unit) : List EOp := [⟨0, (some 84), none, (.q (.build [(.int .i64 0), (.int .i64 0), (.int .i64 0), (.slice none 0 0), (.slice none 0 0)] [])), []⟩, ⟨1, (some 85), none, (.q (.build [(.int .i64 0), (.int .i64 0), (.int .i64 0), (.slice none 0 0), (.slice none 0 0)] [])), []⟩, ⟨2, (some 86), none, (.q (.mov (.t 17))), []⟩, ⟨3, none, none, (.fz (.sto 5 (.t 10) (.t 84))), []⟩, ⟨4, none, none, (.fz (.sto 5 (.t 11) (.t 85))), []⟩, ⟨5, (some 12), none, (.q (.mov (.t 86))), []⟩]
@[simp] def b_VClose_50 (_ : Unit) : EB := reg0 (hid l_VClose_49) 6
@[simp] def b_VClose_51 (_ : Unit) : EB := .seq (hid b_VClose_50) .ret
@[simp] def b_VClose_52 (_ : Unit) : EB := .cond (.t 83) (hid b_VClose_51) .skip
@[simp] def b_VClose_53 (_ : Unit) : EB := .seq (hid b_VClose_48) (hid b_VClose_52)
@[simp] def l_VClose_54 (_ : Unit) : List EOp := [⟨0, (some 87), none, (.q (.lda 5 (.t 16))), []⟩, ⟨1, (some 88), none, (.q (.lda 5 (.t 18))), []⟩, ⟨2, none, none, (.fz (.sto 5 (.t 10) (.t 87))), [1]⟩, ⟨3, none, none, (.fz (.sto 5 (.t 11) (.t 88))), []⟩, ⟨4, (some 12), none, (.q (.mov (.k .nilIface))), []⟩]
@[simp] def b_VClose_55 (_ : Unit) : EB := reg1 (hid l_VClose_54) 5
@[simp] def b_VClose_56 (_ : Unit) : EB := .seq (hid b_VClose_55) .ret
@[simp] def b_VClose_57 (_ : Unit) : EB := .seq (hid b_VClose_53) (hid b_VClose_56)
@[simp] def b_VClose_58 (_ : Unit) : EB := .seq (hid b_VClose_46) (hid b_VClose_57)
@[simp] def b_VClose_59 (_ : Unit) : EB := .seq (hid b_VClose_43) (hid b_VClose_58)
@[simp] def b_VClose_60 (_ : Unit) : EB := .seq (hid b_VClose_36) (hid b_VClose_59)
@[simp] def b_VClose_61 (_ : Unit) : EB := .seq (hid b_VClose_33) (hid b_VClose_60)
@[simp] def b_VClose_62 (_ : Unit) : EB := .seq (hid b_VClose_30) (hid b_VClose_61)
@[simp] def b_VClose_63 (_ : Unit) : EB := .seq (hid b_VClose_12) (hid b_VClose_62)
@[simp] def b_VClose_64 (_ : Unit) : EB := .seq (hid b_VClose_2) (hid b_VClose_63)
def c_VClose : EB × List QOp × Nat := ((hid b_VClose_64), [(.lda 5 (.t 10)), (.lda 5 (.t 11)), (.mov (.t 12))], 89)
theorem k_VClose : cfun Try.prog 6 = some c_VClose := by kernel_rfl


set_option maxHeartbeats 4000000 in
theorem IdxH_ok (l : List Hol) (id' am : Int) (K : List Int) (hl : ∀ h ∈ l, h.ok) (hn : l.length ≤ 100000000) (hK : K.length = 3) : ECalls Try.prog 42 [HL l, .v (.c (.clo 30 [(0, 0), (1, 0)]))] [BXI id', BHo id' am, RKo K] fun y H' => H' = [some (BXI id'), some (BHo id' am), some (RKo K)] ∧ ((l.any (hitV id' am K) = false ∧ y = I .i64 (-1)) ∨ (l.any (hitV id' am K) = true ∧ ∃ i : Nat, y = I .i64 i)) := by
  obtain ⟨B, hB⟩ : ∃ B, l.any (hitV id' am K) = B := ⟨_, rfl⟩
  rw [hB]
  refine ecalls k_IdxH ?_
  simp [c_IdxH, HL, I]
  refine eloop (α := Nat) (fun i => i ≤ l.length ∧ ∀ (k : Nat) (x : Hol), k < i → l[k]? = some x → hitV id' am K x = false) (fun i => l.length - i)
    (fun i => [HL l, .v (.c (.clo 30 [(0, 0), (1, 0)])), .any, .any, .any, .any, .any, I .i64 l.length, I .i64 i, .any, .any, .any, .any, .any, .any, .any, .any, .any, .any]) (fun _ => [some (BXI id'), some (BHo id' am), some (RKo K)]) 0 [0, 1, 2]
    ⟨Nat.zero_le _, fun k x h => by omega⟩ (by simp [I, HL]) (by simp [BXI, BHo, RKo]) (by simp [BXI, BHo, RKo]) (by decide) (by simp) ?_
  rintro i ⟨hi, hlo⟩
  simp [I, HL, BXI, BHo, RKo]
  refine alt (fun hlt => ?_) (fun hlt => ?_)
  · have hln : i < l.length := by omega
    obtain ⟨p, hc⟩ : ∃ p, l[i]? = some p := ⟨l[i], by simp [hln]⟩
    have hge : (holv l)[i]'(by simp [hln]) = holF p := by
      have e := holv_get hc
      rw [List.getElem?_eq_getElem (by simp [hln])] at e
      exact Option.some.inj e
    have w4 : IntKind.i64.wrap ((i : Int) + 1) = ((i + 1 : Nat) : Int) := wrap_i64 (by omega) (by omega)
    have hpo := hl p (List.mem_of_getElem? hc)
    have hv1 := Vh1_ok p id' am K hpo hK
    simp [hln, hge, holF]
    refine ⟨Vh1_body, ?_⟩
    refine callH [0, 1, 2] hv1 (by simp [holC]) (by simp [BXI, BHo, RKo]) (by simp) (by simp) (by simp) ?_
    rintro y H' ⟨rfl, rfl⟩
    refine ⟨.inl (by simp [-List.flatMap_eq_nil_iff]), by simp, ?_⟩
    simp [BXI, BHo, RKo]
    refine alt (fun he => ?_) (fun he => ?_)
    · simp
      exact fin [] (by decide) rfl rfl (by simp [objsOut, show List.range 3 = [0, 1, 2] from rfl]) ⟨rfl, .inr ⟨by rw [← hB]; exact List.any_eq_true.2 ⟨p, List.mem_of_getElem? hc, he⟩, i, rfl⟩⟩
    · simp [w4, -Int.natCast_add]
      refine round (i + 1) [0, 1, 2] ⟨by omega, ?_⟩ (by omega) (by simp [I, HL]) (by simp [BXI, BHo, RKo]) (by simp [BXI, BHo, RKo]) (by decide) (by simp)
      intro k q hk hq
      rcases Nat.lt_or_ge k i with h1 | h1
      · exact hlo k q h1 hq
      · obtain rfl : k = i := by omega
        rw [hc] at hq
        obtain rfl := Option.some.inj hq
        simpa using he
  · simp
    refine fin [] (by decide) rfl rfl (by simp [objsOut, show List.range 3 = [0, 1, 2] from rfl]) ⟨rfl, .inl ⟨?_, rfl⟩⟩
    rw [← hB, List.any_eq_false]
    intro x hx
    obtain ⟨k, hk⟩ := List.getElem?_of_mem hx
    have := hlo k x (by have := lt_len hk; omega) hk
    simp [this]
theorem ConH_ok (l : List Hol) (id' am : Int) (K : List Int) (hl : ∀ h ∈ l, h.ok) (hn : l.length ≤ 100000000) (hK : K.length = 3) : ECalls Try.prog 29 [HL l, .v (.c (.clo 30 [(0, 0), (1, 0)]))] [BXI id', BHo id' am, RKo K] fun y H' => H' = [some (BXI id'), some (BHo id' am), some (RKo K)] ∧ y = .lit (.bool (l.any (hitV id' am K))) := by
  refine ecalls k_ConH ?_
  simp [c_ConH, HL, BXI, BHo, RKo]
  refine callH [0, 1, 2] (IdxH_ok l id' am K hl hn hK) (by simp [HL]) (by simp [BXI, BHo, RKo]) (by simp) (by simp) (by simp) ?_
  rintro y H' ⟨rfl, h⟩
  rcases h with ⟨h, rfl⟩ | ⟨h, i, rfl⟩
  · refine ⟨.inl (by simp [I]), by simp, ?_⟩
    rw [h]
    simp [I, BXI, BHo, RKo]
    exact fin [] (by decide) rfl rfl (by simp [objsOut, show List.range 3 = [0, 1, 2] from rfl]) ⟨rfl, rfl⟩
  · refine ⟨.inl (by simp [I]), by simp, ?_⟩
    have n0 : (0 : Int) ≤ (i : Int) := by omega
    rw [h]
    simp [I, BXI, BHo, RKo, n0]
    exact fin [] (by decide) rfl rfl (by simp [objsOut, show List.range 3 = [0, 1, 2] from rfl]) ⟨rfl, rfl⟩
def hasV (r : Rte) (s : Sta) (id' : Int) : Bool := s.holds.any (hitV id' r.am (srt [r.a, r.b, r.c]))
theorem Vholds_ok (r : Rte) (s : Sta) (id' : Int) (hr : r.ok) (hs : s.ok) : ECalls Try.prog 14 [RVv r, SV s, I .i64 id'] [] fun y H' => H' = [] ∧ y = .lit (.bool (hasV r s id')) := by
  obtain ⟨⟨h1, _⟩, ⟨h2, _⟩, _⟩ := id hr
  obtain ⟨ok1, ok2, ok3, ok4, ok5, ok6, ok7⟩ := id hs
  have l0 := rteC_len h1 h2
  have t0 := rt_take h1 h2
  refine ecalls k_Vholds ?_
  simp [c_Vholds, RVv, SV, staC, I, l0, t0]
  refine call0 (Vhold_ok r id' hr) (by simp [RVv, I]) ?_
  rintro y H' ⟨rfl, rfl⟩
  refine ⟨.inl (by simp), by simp, ?_⟩
  simp [iC]
  refine callH [32, 112, 96] (ConH_ok s.holds id' r.am (srt [r.a, r.b, r.c]) ok5 ok7 (by rw [srt_len]; rfl)) (by simp [HL]) (by simp [BXI, BHo, RKo]) (by simp) (by simp) (by simp) ?_
  rintro y H' ⟨rfl, rfl⟩
  refine ⟨.inl (by simp), by simp, ?_⟩
  simp
  exact fin [] (by decide) rfl rfl rfl ⟨rfl, rfl⟩
def freV (r : Rte) (s : Sta) (id' near far : Int) : Sta × Nat := if near = 0 then freS s id' (r.am - far) else freS s id' far
theorem Vfree_ok (r : Rte) (s : Sta) (id' near far : Int) (hr : r.ok) (hs : s.ok) (hi : i64 id') (hf : i64 far) (hw : i64 (r.am - far)) : ECalls Try.prog 15 [RVv r, SV s, I .i64 id', I .i64 near, I .i64 far] [] fun y H' => H' = [] ∧ y = SE (freV r s id' near far) := by
  obtain ⟨⟨h1, _⟩, ⟨h2, _⟩, _⟩ := id hr
  have l0 := rteC_len h1 h2
  have t0 := rt_take h1 h2
  have e79 := idx_of (rt_79 h1 h2) (by omega)
  have w1 : IntKind.i64.wrap (r.am - far) = r.am - far := wrap_i64 hw.1 hw.2
  refine ecalls k_Vfree ?_
  simp [c_Vfree, RVv, SV, staC, I, l0, t0, -errV_0]
  by_cases c0 : near = 0
  · have hv : freV r s id' near far = freS s id' (r.am - far) := if_pos c0
    rw [hv]
    simp [c0, e79, l0, iC, w1, -errV_0]
    refine call0 (SFree_ok s id' (r.am - far) hs hi hw) (by simp [SV, staC, I]) ?_
    rintro y H' ⟨rfl, rfl⟩
    refine ⟨.inl (by simp), le_ok rfl, ?_⟩
    simp [SE, staC, -errV_0]
    exact fin [] (by decide) rfl rfl rfl ⟨rfl, rfl⟩
  · have hv : freV r s id' near far = freS s id' far := if_neg c0
    rw [hv]
    simp [c0, -errV_0]
    refine call0 (SFree_ok s id' far hs hi hf) (by simp [SV, staC, I]) ?_
    rintro y H' ⟨rfl, rfl⟩
    refine ⟨.inl (by simp), le_ok rfl, ?_⟩
    simp [SE, staC, -errV_0]
    exact fin [] (by decide) rfl rfl rfl ⟨rfl, rfl⟩

/-- Both channels' states behind a route is closed; the error. -/
def cloS (r : Rte) (id' last : Int) (s t : Sta) : Sta × Sta × Nat :=
  if chkV r ≠ 0 then (zSta, zSta, chkV r)
  else if last < 0 ∨ r.am < last then (zSta, zSta, 20)
  else if hasV r s id' = false ∨ hasV r t id' = false then (zSta, zSta, 8)
  else if (freV r s id' (sid r.f.k0 r.f.k1 r.a) last).2 ≠ 0 then (zSta, zSta, (freV r s id' (sid r.f.k0 r.f.k1 r.a) last).2)
  else if (freV r t id' (sid r.s.k0 r.s.k1 r.b) last).2 ≠ 0 then (zSta, zSta, (freV r t id' (sid r.s.k0 r.s.k1 r.b) last).2)
  else ((freV r s id' (sid r.f.k0 r.f.k1 r.a) last).1, (freV r t id' (sid r.s.k0 r.s.k1 r.b) last).1, 0)
@[simp] theorem errV_20v : Value.iface 59 (.int .i64 20) = errV 20 := rfl
@[simp] theorem errV_8v : Value.iface 59 (.int .i64 8) = errV 8 := rfl

set_option maxHeartbeats 8000000 in
theorem VClose_ok (r : Rte) (id' last : Int) (s t : Sta) (hr : r.ok) (hi : i64 id') (hla : i64 last) (hs : s.ok) (ht : t.ok) : ECalls Try.prog 6 [RVv r, I .i64 id', I .i64 last, SV s, SV t] [] fun y H' => H' = [] ∧ y = SSE (cloS r id' last s t) := by
  obtain ⟨⟨h1, _⟩, ⟨h2, _⟩, _⟩ := id hr
  have l0 := rteC_len h1 h2
  have t0 := rt_take h1 h2
  have e79 := idx_of (rt_79 h1 h2) (by omega)
  refine ecalls k_VClose ?_
  simp [c_VClose, RVv, I, SV, staC, l0, t0, -errV_0]
  refine call0 (VCheck_ok r hr) (by simp [RVv]) ?_
  rintro y H' ⟨rfl, rfl⟩
  refine ⟨.inl (by simp), le_ok rfl, ?_⟩
  by_cases c0 : chkV r = 0
  rotate_left
  · have hv : cloS r id' last s t = (zSta, zSta, chkV r) := by unfold cloS; rw [if_pos c0]
    rw [hv]
    simp [SSE, staC, zSta, c0, -errV_0]
    refine finW _ (weak_nlB (o := 48) (k := 3) 36 rfl rfl) (finW _ (weak_nlB (o := 48) (k := 4) 3 rfl rfl) (finW _ (weak_nlB (o := 64) (k := 3) 36 rfl rfl) (finW _ (weak_nlB (o := 64) (k := 4) 3 rfl rfl) ?_)))
    exact fin [] (by decide) rfl rfl rfl ⟨rfl, rfl⟩
  have hc0 : ¬ chkV r ≠ 0 := by simpa using c0
  by_cases d0 : last < 0
  · have hv : cloS r id' last s t = (zSta, zSta, 20) := by unfold cloS; rw [if_neg hc0, if_pos (.inl d0)]
    have d0n : ¬ 0 ≤ last := by omega
    rw [hv]
    simp [SSE, staC, zSta, c0, d0, d0n, -errV_0]
    refine finW _ (weak_nlB (o := 48) (k := 3) 36 rfl rfl) (finW _ (weak_nlB (o := 48) (k := 4) 3 rfl rfl) (finW _ (weak_nlB (o := 64) (k := 3) 36 rfl rfl) (finW _ (weak_nlB (o := 64) (k := 4) 3 rfl rfl) ?_)))
    exact fin [] (by decide) rfl rfl rfl ⟨rfl, rfl⟩
  have d0p : 0 ≤ last := by omega
  by_cases d1 : r.am < last
  · have hv : cloS r id' last s t = (zSta, zSta, 20) := by unfold cloS; rw [if_neg hc0, if_pos (.inr d1)]
    rw [hv]
    simp [SSE, staC, zSta, c0, d0, d0p, d1, e79, l0, iC, -errV_0]
    refine finW _ (weak_nlB (o := 48) (k := 3) 36 rfl rfl) (finW _ (weak_nlB (o := 48) (k := 4) 3 rfl rfl) (finW _ (weak_nlB (o := 64) (k := 3) 36 rfl rfl) (finW _ (weak_nlB (o := 64) (k := 4) 3 rfl rfl) ?_)))
    exact fin [] (by decide) rfl rfl rfl ⟨rfl, rfl⟩
  have d1p : last ≤ r.am := by omega
  have hw : i64 (r.am - last) := by
    have := hr.2.2.2.2.2.1
    unfold i64 at this ⊢
    omega
  simp [c0, d0, d0p, d1, d1p, e79, l0, t0, iC, -errV_0]
  refine call0 (Vholds_ok r s id' hr hs) (by simp [RVv, SV, staC, I]) ?_
  rintro y H' ⟨rfl, rfl⟩
  refine ⟨.inl (by simp), le_ok rfl, ?_⟩
  cases p0 : hasV r s id' with
  | false =>
    have hv : cloS r id' last s t = (zSta, zSta, 8) := by unfold cloS; rw [if_neg hc0, if_neg (by omega), if_pos (.inl p0)]
    rw [hv]
    simp [SSE, staC, zSta, -errV_0]
    refine finW _ (weak_nlB (o := 48) (k := 3) 36 rfl rfl) (finW _ (weak_nlB (o := 48) (k := 4) 3 rfl rfl) (finW _ (weak_nlB (o := 64) (k := 3) 36 rfl rfl) (finW _ (weak_nlB (o := 64) (k := 4) 3 rfl rfl) ?_)))
    exact fin [] (by decide) rfl rfl rfl ⟨rfl, rfl⟩
  | true =>
  simp [l0, t0, -errV_0]
  refine call0 (Vholds_ok r t id' hr ht) (by simp [RVv, SV, staC, I]) ?_
  rintro y H' ⟨rfl, rfl⟩
  refine ⟨.inl (by simp), le_ok rfl, ?_⟩
  cases p1 : hasV r t id' with
  | false =>
    have hv : cloS r id' last s t = (zSta, zSta, 8) := by unfold cloS; rw [if_neg hc0, if_neg (by omega), if_pos (.inr p1)]
    rw [hv]
    simp [SSE, staC, zSta, -errV_0]
    refine finW _ (weak_nlB (o := 48) (k := 3) 36 rfl rfl) (finW _ (weak_nlB (o := 48) (k := 4) 3 rfl rfl) (finW _ (weak_nlB (o := 64) (k := 3) 36 rfl rfl) (finW _ (weak_nlB (o := 64) (k := 4) 3 rfl rfl) ?_)))
    exact fin [] (by decide) rfl rfl rfl ⟨rfl, rfl⟩
  | true =>
  have hv0 : cloS r id' last s t = if (freV r s id' (sid r.f.k0 r.f.k1 r.a) last).2 ≠ 0 then (zSta, zSta, (freV r s id' (sid r.f.k0 r.f.k1 r.a) last).2) else if (freV r t id' (sid r.s.k0 r.s.k1 r.b) last).2 ≠ 0 then (zSta, zSta, (freV r t id' (sid r.s.k0 r.s.k1 r.b) last).2) else ((freV r s id' (sid r.f.k0 r.f.k1 r.a) last).1, (freV r t id' (sid r.s.k0 r.s.k1 r.b) last).1, 0) := by
    unfold cloS
    rw [if_neg hc0, if_neg (by omega), if_neg (by rw [p0, p1]; simp)]
  have hf1 := Vfree_ok r s id' (sid r.f.k0 r.f.k1 r.a) last hr hs hi hla hw
  have hf2 := Vfree_ok r t id' (sid r.s.k0 r.s.k1 r.b) last hr ht hi hla hw
  obtain ⟨A, hA⟩ : ∃ A, freV r s id' (sid r.f.k0 r.f.k1 r.a) last = A := ⟨_, rfl⟩
  obtain ⟨B, hB⟩ : ∃ B, freV r t id' (sid r.s.k0 r.s.k1 r.b) last = B := ⟨_, rfl⟩
  rw [hA] at hf1 hv0
  rw [hB] at hf2 hv0
  obtain ⟨Q, hQ⟩ : ∃ Q, cloS r id' last s t = Q := ⟨_, rfl⟩
  rw [hQ] at hv0 ⊢
  simp [l0, t0, -errV_0]
  refine call0 (Vsides_ok r hr) (by simp [RVv]) ?_
  rintro y H' ⟨rfl, rfl⟩
  refine ⟨.inl (by simp [iC]), le_ok rfl, ?_⟩
  simp [iC, l0, t0, -errV_0]
  refine call0 hf1 (by simp [RVv, SV, staC, I]) ?_
  rintro y H' ⟨rfl, rfl⟩
  refine ⟨.inl (by simp), le_ok rfl, ?_⟩
  by_cases c1 : A.2 = 0
  rotate_left
  · rw [if_pos c1] at hv0
    rw [hv0]
    simp [SE, SSE, staC, zSta, c1, -errV_0]
    refine finW _ (weak_nlB (o := 48) (k := 3) 36 rfl rfl) (finW _ (weak_nlB (o := 48) (k := 4) 3 rfl rfl) (finW _ (weak_nlB (o := 64) (k := 3) 36 rfl rfl) (finW _ (weak_nlB (o := 64) (k := 4) 3 rfl rfl) ?_)))
    exact fin [] (by decide) rfl rfl rfl ⟨rfl, rfl⟩
  rw [if_neg (by simpa using c1)] at hv0
  simp [SE, staC, c1, l0, t0, -errV_0]
  refine call0 hf2 (by simp [RVv, SV, staC, I]) ?_
  rintro y H' ⟨rfl, rfl⟩
  refine ⟨.inl (by simp), le_ok rfl, ?_⟩
  by_cases c2 : B.2 = 0
  rotate_left
  · rw [if_pos c2] at hv0
    rw [hv0]
    simp [SE, SSE, staC, zSta, c2, -errV_0]
    refine finW _ (weak_nlB (o := 48) (k := 3) 36 rfl rfl) (finW _ (weak_nlB (o := 48) (k := 4) 3 rfl rfl) (finW _ (weak_nlB (o := 64) (k := 3) 36 rfl rfl) (finW _ (weak_nlB (o := 64) (k := 4) 3 rfl rfl) ?_)))
    exact fin [] (by decide) rfl rfl rfl ⟨rfl, rfl⟩
  rw [if_neg (by simpa using c2)] at hv0
  rw [hv0]
  simp [SE, SSE, staC, c2, -errV_0]
  exact fin [] (by decide) rfl rfl rfl ⟨rfl, rfl⟩

end Go.Proofs.Ytejjhgdnmknejaa
