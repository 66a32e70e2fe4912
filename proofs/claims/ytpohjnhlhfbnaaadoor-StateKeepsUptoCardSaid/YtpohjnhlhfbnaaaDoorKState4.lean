import Derived.Test.YtpohjnhlhfbnaaaDoorKState3
namespace Go.Proofs.YtpohjnhlhfbnaaaDoor
open Go Go.EW
set_option linter.unusedSimpArgs false
set_option linter.unusedVariables false

@[simp] def l_next_1 (_ : Unit) : List EOp := [⟨0, (some 1), none, (.q (.box 32 (.t 0))), []⟩, ⟨1, (some 2), none, (.q (.alloc 32 [(.int .i64 0), (.int .i64 0), (.int .i64 0), (.slice none 0 0), (.slice none 0 0)])), []⟩, ⟨2, (some 3), none, (.q (.mov (.k .nilIface))), []⟩]
@[simp] def b_next_2 (_ : Unit) : EB := reg0 (hid l_next_1) 3
@[simp] def l_next_4 (_ : Unit) : List EOp := [⟨6, (some 11), (some (8, false)), (.q (.bin .eql (.t 10) (.k (.int .i64 1099511627776)))), []⟩, ⟨7, (some 12), none, (.q (.pick (.t 8) (.k (.bool true)) (.t 11))), []⟩]
@[simp] def l_next_3 (_ : Unit) : List EOp := ⟨0, (some 5), none, (.q (.lda 5 (.t 1))), []⟩ :: ⟨1, (some 6), none, (.call 43 [(.t 5)]), []⟩ :: ⟨2, (some 7), none, (.q (.un .not (.t 6))), []⟩ :: ⟨3, (some 8), none, (.q (.mov (.t 7))), []⟩ :: ⟨4, (some 9), (some (8, false)), (.q (.fad 0 (.t 1))), []⟩ :: ⟨5, (some 10), (some (8, false)), (.q (.ldc (.t 9))), []⟩ :: hid l_next_4
@[simp] def b_next_5 (_ : Unit) : EB := reg0 (hid l_next_3) 8
@[simp] def l_next_6 (_ : Unit) : List EOp := [⟨0, (some 13), none, (.q (.build [(.int .i64 0), (.int .i64 0), (.int .i64 0), (.slice none 0 0), (.slice none 0 0)] [])), []⟩, ⟨1, (some 14), none, (.q (.mki 79 (.k (.int .i64 1)))), []⟩, ⟨2, none, none, (.fz (.sto 5 (.t 2) (.t 13))), []⟩, ⟨3, (some 3), none, (.q (.mov (.t 14))), []⟩]
@[simp] def b_next_7 (_ : Unit) : EB := reg0 (hid l_next_6) 4
@[simp] def b_next_8 (_ : Unit) : EB := .seq (hid b_next_7) .ret
@[simp] def b_next_9 (_ : Unit) : EB := .cond (.t 12) (hid b_next_8) .skip
@[simp] def b_next_10 (_ : Unit) : EB := .seq (hid b_next_5) (hid b_next_9)
@[simp] def l_next_11 (_ : Unit) : List EOp := [⟨0, (some 15), none, (.q (.fad 0 (.t 1))), []⟩, ⟨1, (some 16), none, (.q (.ldc (.t 15))), []⟩, ⟨2, (some 17), none, (.q (.bin .add (.t 16) (.k (.int .i64 1)))), []⟩, ⟨3, (some 18), none, (.q (.fad 0 (.t 1))), []⟩, ⟨4, none, none, (.sto 1 (.t 18) (.t 17)), []⟩]
@[simp] def b_next_12 (_ : Unit) : EB := reg0 (hid l_next_11) 5
@[simp] def l_next_14 (_ : Unit) : List EOp := [⟨5, (some 24), none, (.call 83 [(.t 23)]), [6]⟩, ⟨7, none, none, (.fz (.sto 1 (.t 25) (.t 21))), []⟩, ⟨8, (some 26), none, (.q (.fad 4 (.t 1))), []⟩, ⟨9, none, none, (.fz (.sto 1 (.t 26) (.t 24))), []⟩]
@[simp] def l_next_13 (_ : Unit) : List EOp := ⟨0, (some 19), none, (.q (.fad 3 (.t 1))), []⟩ :: ⟨1, (some 20), none, (.q (.ldc (.t 19))), []⟩ :: ⟨3, (some 22), none, (.q (.fad 4 (.t 1))), []⟩ :: ⟨4, (some 23), none, (.q (.ldc (.t 22))), []⟩ :: ⟨2, (some 21), none, (.call 82 [(.t 20)]), [3, 4]⟩ :: ⟨6, (some 25), none, (.q (.fad 3 (.t 1))), []⟩ :: hid l_next_14
@[simp] def b_next_15 (_ : Unit) : EB := reg1 (hid l_next_13) 10
@[simp] def l_next_16 (_ : Unit) : List EOp := [⟨0, (some 27), none, (.q (.fad 4 (.t 1))), []⟩, ⟨1, (some 28), none, (.q (.ldc (.t 27))), []⟩, ⟨2, (some 29), none, (.q (.len (.t 28))), []⟩, ⟨3, (some 30), none, (.q (.mov (.k (.int .i64 0)))), []⟩]
@[simp] def b_next_17 (_ : Unit) : EB := reg0 (hid l_next_16) 4
@[simp] def l_next_18 (_ : Unit) : List EOp := [⟨0, (some 31), none, (.q (.bin .lss (.t 30) (.t 29))), []⟩]
@[simp] def b_next_19 (_ : Unit) : EB := reg0 (hid l_next_18) 1
@[simp] def b_next_20 (_ : Unit) : EB := .cond (.t 31) .skip (.exit 0)
@[simp] def l_next_21 (_ : Unit) : List EOp := [⟨0, (some 32), none, (.q (.mov (.t 30))), []⟩, ⟨1, (some 4), none, (.q (.mov (.t 32))), []⟩]
@[simp] def b_next_22 (_ : Unit) : EB := reg0 (hid l_next_21) 2
@[simp] def l_next_25 (_ : Unit) : List EOp := [⟨12, none, none, (.fz (.sto 1 (.t 44) (.t 42))), []⟩]
@[simp] def l_next_24 (_ : Unit) : List EOp := ⟨6, (some 39), none, (.q (.isl 3 (.t 37) (.t 38))), []⟩ :: ⟨7, (some 40), none, (.q (.fad 2 (.t 39))), []⟩ :: ⟨8, (some 41), none, (.q (.ldc (.t 40))), []⟩ :: ⟨9, (some 42), none, (.call 70 [(.t 41)]), [0, 1, 2]⟩ :: ⟨10, (some 43), none, (.q (.isl 3 (.t 34) (.t 35))), []⟩ :: ⟨11, (some 44), none, (.q (.fad 2 (.t 43))), []⟩ :: hid l_next_25
@[simp] def l_next_23 (_ : Unit) : List EOp := ⟨0, (some 33), none, (.q (.fad 4 (.t 1))), []⟩ :: ⟨1, (some 34), none, (.q (.ldc (.t 33))), []⟩ :: ⟨2, (some 35), none, (.q (.mov (.t 4))), []⟩ :: ⟨3, (some 36), none, (.q (.fad 4 (.t 1))), []⟩ :: ⟨4, (some 37), none, (.q (.ldc (.t 36))), []⟩ :: ⟨5, (some 38), none, (.q (.mov (.t 4))), []⟩ :: hid l_next_24
@[simp] def b_next_26 (_ : Unit) : EB := reg1 (hid l_next_23) 13
@[simp] def b_next_27 (_ : Unit) : EB := .seq (hid b_next_22) (hid b_next_26)
@[simp] def b_next_28 (_ : Unit) : EB := .block 1 (hid b_next_27)
@[simp] def l_next_29 (_ : Unit) : List EOp := [⟨0, (some 45), none, (.q (.bin .add (.t 30) (.k (.int .i64 1)))), []⟩, ⟨1, (some 30), none, (.q (.mov (.t 45))), []⟩]
@[simp] def b_next_30 (_ : Unit) : EB := reg0 (hid l_next_29) 2
@[simp] def b_next_31 (_ : Unit) : EB := .seq (hid b_next_28) (hid b_next_30)
@[simp] def b_next_32 (_ : Unit) : EB := .seq (hid b_next_20) (hid b_next_31)
@[simp] def b_next_33 (_ : Unit) : EB := .seq (hid b_next_19) (hid b_next_32)
@[simp] def b_next_34 (_ : Unit) : EB := .loop (hid b_next_33)
@[simp] def b_next_35 (_ : Unit) : EB := .block 0 (hid b_next_34)
@[simp] def b_next_36 (_ : Unit) : EB := .seq (hid b_next_17) (hid b_next_35)
@[simp] def l_next_37 (_ : Unit) : List EOp := [⟨0, (some 46), none, (.q (.lda 5 (.t 1))), []⟩, ⟨1, none, none, (.fz (.sto 5 (.t 2) (.t 46))), []⟩, ⟨2, (some 3), none, (.q (.mov (.k .nilIface))), []⟩]
@[simp] def b_next_38 (_ : Unit) : EB := reg0 (hid l_next_37) 3
@[simp] def b_next_39 (_ : Unit) : EB := .seq (hid b_next_38) .ret
@[simp] def b_next_40 (_ : Unit) : EB := .seq (hid b_next_36) (hid b_next_39)
@[simp] def b_next_41 (_ : Unit) : EB := .seq (hid b_next_15) (hid b_next_40)
@[simp] def b_next_42 (_ : Unit) : EB := .seq (hid b_next_12) (hid b_next_41)
@[simp] def b_next_43 (_ : Unit) : EB := .seq (hid b_next_10) (hid b_next_42)
@[simp] def b_next_44 (_ : Unit) : EB := .seq (hid b_next_2) (hid b_next_43)
def c_next : EB × List QOp × Nat := ((hid b_next_44), [(.lda 5 (.t 2)), (.mov (.t 3))], 47)
theorem k_next : cfun Tryd.prog 37 = some c_next := by kernel_rfl

@[simp] def l_Move_1 (_ : Unit) : List EOp := [⟨0, (some 3), none, (.q (.box 32 (.t 0))), []⟩, ⟨1, (some 6), none, (.q (.alloc 32 [(.int .i64 0), (.int .i64 0), (.int .i64 0), (.slice none 0 0), (.slice none 0 0)])), []⟩, ⟨2, (some 7), none, (.q (.mov (.k .nilIface))), []⟩]
@[simp] def b_Move_2 (_ : Unit) : EB := reg0 (hid l_Move_1) 3
@[simp] def l_Move_4 (_ : Unit) : List EOp := [⟨6, none, none, (.fz (.sto 5 (.t 8) (.t 13))), []⟩, ⟨7, (some 9), none, (.q (.mov (.t 14))), []⟩]
@[simp] def l_Move_3 (_ : Unit) : List EOp := ⟨0, (some 11), none, (.q (.lda 5 (.t 3))), []⟩ :: ⟨1, (some 12), none, (.call 37 [(.t 11)]), []⟩ :: ⟨2, (some 10), none, (.q (.mov (.t 12))), []⟩ :: ⟨3, (some 13), none, (.q (.ext 0 (.t 10))), []⟩ :: ⟨4, (some 14), none, (.q (.ext 1 (.t 10))), []⟩ :: ⟨5, (some 8), none, (.q (.alloc 32 [(.int .i64 0), (.int .i64 0), (.int .i64 0), (.slice none 0 0), (.slice none 0 0)])), []⟩ :: hid l_Move_4
@[simp] def b_Move_5 (_ : Unit) : EB := reg0 (hid l_Move_3) 8
@[simp] def l_Move_6 (_ : Unit) : List EOp := [⟨0, (some 16), none, (.q (.mov (.t 9))), []⟩, ⟨1, (some 17), none, (.q (.eqi true (.t 16))), []⟩, ⟨2, (some 15), none, (.q (.mov (.t 17))), []⟩]
@[simp] def b_Move_7 (_ : Unit) : EB := reg0 (hid l_Move_6) 3
@[simp] def l_Move_8 (_ : Unit) : List EOp := [⟨0, (some 18), none, (.q (.build [(.int .i64 0), (.int .i64 0), (.int .i64 0), (.slice none 0 0), (.slice none 0 0)] [])), []⟩, ⟨1, (some 19), none, (.q (.mov (.t 9))), []⟩, ⟨2, none, none, (.fz (.sto 5 (.t 6) (.t 18))), []⟩, ⟨3, (some 7), none, (.q (.mov (.t 19))), []⟩]
@[simp] def b_Move_9 (_ : Unit) : EB := reg0 (hid l_Move_8) 4
@[simp] def b_Move_10 (_ : Unit) : EB := .seq (hid b_Move_9) .ret
@[simp] def l_Move_11 (_ : Unit) : List EOp := [⟨0, (some 21), none, (.q (.mov (.t 1))), []⟩, ⟨1, (some 22), none, (.call 38 [(.t 21)]), []⟩, ⟨2, (some 23), none, (.q (.un .not (.t 22))), []⟩, ⟨3, (some 20), none, (.q (.mov (.t 23))), []⟩]
@[simp] def b_Move_12 (_ : Unit) : EB := reg0 (hid l_Move_11) 4
@[simp] def l_Move_13 (_ : Unit) : List EOp := [⟨0, (some 24), none, (.q (.build [(.int .i64 0), (.int .i64 0), (.int .i64 0), (.slice none 0 0), (.slice none 0 0)] [])), []⟩, ⟨1, (some 25), none, (.q (.mki 79 (.k (.int .i64 33)))), []⟩, ⟨2, none, none, (.fz (.sto 5 (.t 6) (.t 24))), []⟩, ⟨3, (some 7), none, (.q (.mov (.t 25))), []⟩]
@[simp] def b_Move_14 (_ : Unit) : EB := reg0 (hid l_Move_13) 4
@[simp] def b_Move_15 (_ : Unit) : EB := .seq (hid b_Move_14) .ret
@[simp] def l_Move_16 (_ : Unit) : List EOp := [⟨0, (some 27), none, (.q (.mov (.t 2))), []⟩, ⟨1, (some 28), none, (.q (.bin .lss (.t 27) (.k (.int .i64 1)))), []⟩, ⟨2, (some 26), none, (.q (.mov (.t 28))), []⟩]
@[simp] def b_Move_17 (_ : Unit) : EB := reg0 (hid l_Move_16) 3
@[simp] def l_Move_18 (_ : Unit) : List EOp := [⟨0, (some 29), none, (.q (.build [(.int .i64 0), (.int .i64 0), (.int .i64 0), (.slice none 0 0), (.slice none 0 0)] [])), []⟩, ⟨1, (some 30), none, (.q (.mki 79 (.k (.int .i64 27)))), []⟩, ⟨2, none, none, (.fz (.sto 5 (.t 6) (.t 29))), []⟩, ⟨3, (some 7), none, (.q (.mov (.t 30))), []⟩]
@[simp] def b_Move_19 (_ : Unit) : EB := reg0 (hid l_Move_18) 4
@[simp] def b_Move_20 (_ : Unit) : EB := .seq (hid b_Move_19) .ret
@[simp] def l_Move_22 (_ : Unit) : List EOp := [⟨6, (some 31), none, (.q (.mov (.t 37))), []⟩]
@[simp] def l_Move_21 (_ : Unit) : List EOp := ⟨0, (some 32), none, (.q (.mov (.t 1))), []⟩ :: ⟨1, (some 33), none, (.q (.fad 1 (.t 8))), []⟩ :: ⟨2, (some 34), none, (.q (.iad 2 1 (.t 33) (.t 32))), []⟩ :: ⟨3, (some 35), none, (.q (.ldc (.t 34))), []⟩ :: ⟨4, (some 36), none, (.q (.mov (.t 2))), []⟩ :: ⟨5, (some 37), none, (.q (.bin .lss (.t 35) (.t 36))), []⟩ :: hid l_Move_22
@[simp] def b_Move_23 (_ : Unit) : EB := reg0 (hid l_Move_21) 7
@[simp] def l_Move_24 (_ : Unit) : List EOp := [⟨0, (some 38), none, (.q (.build [(.int .i64 0), (.int .i64 0), (.int .i64 0), (.slice none 0 0), (.slice none 0 0)] [])), []⟩, ⟨1, (some 39), none, (.q (.mki 79 (.k (.int .i64 20)))), []⟩, ⟨2, none, none, (.fz (.sto 5 (.t 6) (.t 38))), []⟩, ⟨3, (some 7), none, (.q (.mov (.t 39))), []⟩]
@[simp] def b_Move_25 (_ : Unit) : EB := reg0 (hid l_Move_24) 4
@[simp] def b_Move_26 (_ : Unit) : EB := .seq (hid b_Move_25) .ret
@[simp] def b_Move_27 (_ : Unit) : EB := .cond (.t 31) (hid b_Move_26) .skip
@[simp] def b_Move_28 (_ : Unit) : EB := .seq (hid b_Move_23) (hid b_Move_27)
@[simp] def b_Move_29 (_ : Unit) : EB := .cond (.t 26) (hid b_Move_20) (hid b_Move_28)
@[simp] def b_Move_30 (_ : Unit) : EB := .seq (hid b_Move_17) (hid b_Move_29)
@[simp] def b_Move_31 (_ : Unit) : EB := .cond (.t 20) (hid b_Move_15) (hid b_Move_30)
@[simp] def b_Move_32 (_ : Unit) : EB := .seq (hid b_Move_12) (hid b_Move_31)
@[simp] def b_Move_33 (_ : Unit) : EB := .cond (.t 15) (hid b_Move_10) (hid b_Move_32)
@[simp] def b_Move_34 (_ : Unit) : EB := .seq (hid b_Move_7) (hid b_Move_33)
@[simp] def b_Move_35 (_ : Unit) : EB := .block 0 (hid b_Move_34)
@[simp] def l_Move_37 (_ : Unit) : List EOp := [⟨6, (some 46), none, (.q (.fad 1 (.t 8))), []⟩, ⟨7, (some 47), none, (.q (.iad 2 1 (.t 46) (.t 40))), []⟩, ⟨8, none, none, (.sto 1 (.t 47) (.t 45)), []⟩]
@[simp] def l_Move_36 (_ : Unit) : List EOp := ⟨0, (some 40), none, (.q (.mov (.t 1))), []⟩ :: ⟨1, (some 41), none, (.q (.fad 1 (.t 8))), []⟩ :: ⟨2, (some 42), none, (.q (.iad 2 1 (.t 41) (.t 40))), []⟩ :: ⟨3, (some 43), none, (.q (.ldc (.t 42))), []⟩ :: ⟨4, (some 44), none, (.q (.mov (.t 2))), []⟩ :: ⟨5, (some 45), none, (.q (.bin .sub (.t 43) (.t 44))), []⟩ :: hid l_Move_37
@[simp] def b_Move_38 (_ : Unit) : EB := reg0 (hid l_Move_36) 9
@[simp] def l_Move_40 (_ : Unit) : List EOp := [⟨6, (some 54), none, (.q (.bin .add (.t 52) (.t 53))), []⟩, ⟨7, (some 55), none, (.q (.fad 1 (.t 8))), []⟩, ⟨8, (some 56), none, (.q (.iad 2 1 (.t 55) (.t 49))), []⟩, ⟨9, none, none, (.sto 1 (.t 56) (.t 54)), []⟩]
@[simp] def l_Move_39 (_ : Unit) : List EOp := ⟨0, (some 48), none, (.q (.mov (.t 1))), []⟩ :: ⟨1, (some 49), none, (.q (.bin .sub (.k (.int .i64 1)) (.t 48))), []⟩ :: ⟨2, (some 50), none, (.q (.fad 1 (.t 8))), []⟩ :: ⟨3, (some 51), none, (.q (.iad 2 1 (.t 50) (.t 49))), []⟩ :: ⟨4, (some 52), none, (.q (.ldc (.t 51))), []⟩ :: ⟨5, (some 53), none, (.q (.mov (.t 2))), []⟩ :: hid l_Move_40
@[simp] def b_Move_41 (_ : Unit) : EB := reg0 (hid l_Move_39) 10
@[simp] def l_Move_42 (_ : Unit) : List EOp := [⟨0, (some 57), none, (.q (.lda 5 (.t 8))), []⟩, ⟨1, none, none, (.fz (.sto 5 (.t 6) (.t 57))), []⟩, ⟨2, (some 7), none, (.q (.mov (.k .nilIface))), []⟩]
@[simp] def b_Move_43 (_ : Unit) : EB := reg0 (hid l_Move_42) 3
@[simp] def b_Move_44 (_ : Unit) : EB := .seq (hid b_Move_43) .ret
@[simp] def b_Move_45 (_ : Unit) : EB := .seq (hid b_Move_41) (hid b_Move_44)
@[simp] def b_Move_46 (_ : Unit) : EB := .seq (hid b_Move_38) (hid b_Move_45)
@[simp] def b_Move_47 (_ : Unit) : EB := .seq (hid b_Move_35) (hid b_Move_46)
@[simp] def b_Move_48 (_ : Unit) : EB := .seq (hid b_Move_5) (hid b_Move_47)
@[simp] def b_Move_49 (_ : Unit) : EB := .seq (hid b_Move_2) (hid b_Move_48)
def c_Move : EB × List QOp × Nat := ((hid b_Move_49), [(.lda 5 (.t 6)), (.mov (.t 7))], 58)
theorem k_Move : cfun Tryd.prog 12 = some c_Move := by kernel_rfl

@[simp] def l_Resize_1 (_ : Unit) : List EOp := [⟨0, (some 3), none, (.q (.box 32 (.t 0))), []⟩, ⟨1, (some 6), none, (.q (.alloc 32 [(.int .i64 0), (.int .i64 0), (.int .i64 0), (.slice none 0 0), (.slice none 0 0)])), []⟩, ⟨2, (some 7), none, (.q (.mov (.k .nilIface))), []⟩]
@[simp] def b_Resize_2 (_ : Unit) : EB := reg0 (hid l_Resize_1) 3
@[simp] def l_Resize_4 (_ : Unit) : List EOp := [⟨6, none, none, (.fz (.sto 5 (.t 8) (.t 13))), []⟩, ⟨7, (some 9), none, (.q (.mov (.t 14))), []⟩]
@[simp] def l_Resize_3 (_ : Unit) : List EOp := ⟨0, (some 11), none, (.q (.lda 5 (.t 3))), []⟩ :: ⟨1, (some 12), none, (.call 37 [(.t 11)]), []⟩ :: ⟨2, (some 10), none, (.q (.mov (.t 12))), []⟩ :: ⟨3, (some 13), none, (.q (.ext 0 (.t 10))), []⟩ :: ⟨4, (some 14), none, (.q (.ext 1 (.t 10))), []⟩ :: ⟨5, (some 8), none, (.q (.alloc 32 [(.int .i64 0), (.int .i64 0), (.int .i64 0), (.slice none 0 0), (.slice none 0 0)])), []⟩ :: hid l_Resize_4
@[simp] def b_Resize_5 (_ : Unit) : EB := reg0 (hid l_Resize_3) 8
@[simp] def l_Resize_6 (_ : Unit) : List EOp := [⟨0, (some 16), none, (.q (.mov (.t 9))), []⟩, ⟨1, (some 17), none, (.q (.eqi true (.t 16))), []⟩, ⟨2, (some 15), none, (.q (.mov (.t 17))), []⟩]
@[simp] def b_Resize_7 (_ : Unit) : EB := reg0 (hid l_Resize_6) 3
@[simp] def l_Resize_8 (_ : Unit) : List EOp := [⟨0, (some 18), none, (.q (.build [(.int .i64 0), (.int .i64 0), (.int .i64 0), (.slice none 0 0), (.slice none 0 0)] [])), []⟩, ⟨1, (some 19), none, (.q (.mov (.t 9))), []⟩, ⟨2, none, none, (.fz (.sto 5 (.t 6) (.t 18))), []⟩, ⟨3, (some 7), none, (.q (.mov (.t 19))), []⟩]
@[simp] def b_Resize_9 (_ : Unit) : EB := reg0 (hid l_Resize_8) 4
@[simp] def b_Resize_10 (_ : Unit) : EB := .seq (hid b_Resize_9) .ret
@[simp] def l_Resize_11 (_ : Unit) : List EOp := [⟨0, (some 21), none, (.q (.mov (.t 1))), []⟩, ⟨1, (some 22), none, (.call 38 [(.t 21)]), []⟩, ⟨2, (some 23), none, (.q (.un .not (.t 22))), []⟩, ⟨3, (some 20), none, (.q (.mov (.t 23))), []⟩]
@[simp] def b_Resize_12 (_ : Unit) : EB := reg0 (hid l_Resize_11) 4
@[simp] def l_Resize_13 (_ : Unit) : List EOp := [⟨0, (some 24), none, (.q (.build [(.int .i64 0), (.int .i64 0), (.int .i64 0), (.slice none 0 0), (.slice none 0 0)] [])), []⟩, ⟨1, (some 25), none, (.q (.mki 79 (.k (.int .i64 33)))), []⟩, ⟨2, none, none, (.fz (.sto 5 (.t 6) (.t 24))), []⟩, ⟨3, (some 7), none, (.q (.mov (.t 25))), []⟩]
@[simp] def b_Resize_14 (_ : Unit) : EB := reg0 (hid l_Resize_13) 4
@[simp] def b_Resize_15 (_ : Unit) : EB := .seq (hid b_Resize_14) .ret
@[simp] def l_Resize_17 (_ : Unit) : List EOp := [⟨6, (some 33), none, (.q (.bin .lss (.t 27) (.t 32))), []⟩, ⟨7, (some 26), none, (.q (.mov (.t 33))), []⟩]
@[simp] def l_Resize_16 (_ : Unit) : List EOp := ⟨0, (some 27), none, (.q (.mov (.t 2))), []⟩ :: ⟨1, (some 28), none, (.q (.mov (.t 1))), []⟩ :: ⟨2, (some 29), none, (.q (.fad 1 (.t 8))), []⟩ :: ⟨3, (some 30), none, (.q (.iad 2 1 (.t 29) (.t 28))), []⟩ :: ⟨4, (some 31), none, (.q (.ldc (.t 30))), []⟩ :: ⟨5, (some 32), none, (.q (.un .neg (.t 31))), []⟩ :: hid l_Resize_17
@[simp] def b_Resize_18 (_ : Unit) : EB := reg0 (hid l_Resize_16) 8
@[simp] def l_Resize_19 (_ : Unit) : List EOp := [⟨0, (some 34), none, (.q (.build [(.int .i64 0), (.int .i64 0), (.int .i64 0), (.slice none 0 0), (.slice none 0 0)] [])), []⟩, ⟨1, (some 35), none, (.q (.mki 79 (.k (.int .i64 20)))), []⟩, ⟨2, none, none, (.fz (.sto 5 (.t 6) (.t 34))), []⟩, ⟨3, (some 7), none, (.q (.mov (.t 35))), []⟩]
@[simp] def b_Resize_20 (_ : Unit) : EB := reg0 (hid l_Resize_19) 4
@[simp] def b_Resize_21 (_ : Unit) : EB := .seq (hid b_Resize_20) .ret
@[simp] def l_Resize_22 (_ : Unit) : List EOp := [⟨0, (some 37), none, (.q (.mov (.t 2))), []⟩, ⟨1, (some 38), none, (.q (.lda 5 (.t 8))), []⟩, ⟨2, (some 39), none, (.call 18 [(.t 38)]), []⟩, ⟨3, (some 40), none, (.q (.bin .sub (.k (.int .i64 1125899906842624)) (.t 39))), []⟩, ⟨4, (some 41), none, (.q (.bin .gtr (.t 37) (.t 40))), []⟩, ⟨5, (some 36), none, (.q (.mov (.t 41))), []⟩]
@[simp] def b_Resize_23 (_ : Unit) : EB := reg0 (hid l_Resize_22) 6
@[simp] def l_Resize_24 (_ : Unit) : List EOp := [⟨0, (some 42), none, (.q (.build [(.int .i64 0), (.int .i64 0), (.int .i64 0), (.slice none 0 0), (.slice none 0 0)] [])), []⟩, ⟨1, (some 43), none, (.q (.mki 79 (.k (.int .i64 5)))), []⟩, ⟨2, none, none, (.fz (.sto 5 (.t 6) (.t 42))), []⟩, ⟨3, (some 7), none, (.q (.mov (.t 43))), []⟩]
@[simp] def b_Resize_25 (_ : Unit) : EB := reg0 (hid l_Resize_24) 4
@[simp] def b_Resize_26 (_ : Unit) : EB := .seq (hid b_Resize_25) .ret
@[simp] def b_Resize_27 (_ : Unit) : EB := .cond (.t 36) (hid b_Resize_26) .skip
@[simp] def b_Resize_28 (_ : Unit) : EB := .seq (hid b_Resize_23) (hid b_Resize_27)
@[simp] def b_Resize_29 (_ : Unit) : EB := .cond (.t 26) (hid b_Resize_21) (hid b_Resize_28)
@[simp] def b_Resize_30 (_ : Unit) : EB := .seq (hid b_Resize_18) (hid b_Resize_29)
@[simp] def b_Resize_31 (_ : Unit) : EB := .cond (.t 20) (hid b_Resize_15) (hid b_Resize_30)
@[simp] def b_Resize_32 (_ : Unit) : EB := .seq (hid b_Resize_12) (hid b_Resize_31)
@[simp] def b_Resize_33 (_ : Unit) : EB := .cond (.t 15) (hid b_Resize_10) (hid b_Resize_32)
@[simp] def b_Resize_34 (_ : Unit) : EB := .seq (hid b_Resize_7) (hid b_Resize_33)
@[simp] def b_Resize_35 (_ : Unit) : EB := .block 0 (hid b_Resize_34)
@[simp] def l_Resize_37 (_ : Unit) : List EOp := [⟨6, (some 50), none, (.q (.fad 1 (.t 8))), []⟩, ⟨7, (some 51), none, (.q (.iad 2 1 (.t 50) (.t 44))), []⟩, ⟨8, none, none, (.sto 1 (.t 51) (.t 49)), []⟩]
@[simp] def l_Resize_36 (_ : Unit) : List EOp := ⟨0, (some 44), none, (.q (.mov (.t 1))), []⟩ :: ⟨1, (some 45), none, (.q (.fad 1 (.t 8))), []⟩ :: ⟨2, (some 46), none, (.q (.iad 2 1 (.t 45) (.t 44))), []⟩ :: ⟨3, (some 47), none, (.q (.ldc (.t 46))), []⟩ :: ⟨4, (some 48), none, (.q (.mov (.t 2))), []⟩ :: ⟨5, (some 49), none, (.q (.bin .add (.t 47) (.t 48))), []⟩ :: hid l_Resize_37
@[simp] def b_Resize_38 (_ : Unit) : EB := reg0 (hid l_Resize_36) 9
@[simp] def l_Resize_39 (_ : Unit) : List EOp := [⟨0, (some 52), none, (.q (.lda 5 (.t 8))), []⟩, ⟨1, none, none, (.fz (.sto 5 (.t 6) (.t 52))), []⟩, ⟨2, (some 7), none, (.q (.mov (.k .nilIface))), []⟩]
@[simp] def b_Resize_40 (_ : Unit) : EB := reg0 (hid l_Resize_39) 3
@[simp] def b_Resize_41 (_ : Unit) : EB := .seq (hid b_Resize_40) .ret
@[simp] def b_Resize_42 (_ : Unit) : EB := .seq (hid b_Resize_38) (hid b_Resize_41)
@[simp] def b_Resize_43 (_ : Unit) : EB := .seq (hid b_Resize_35) (hid b_Resize_42)
@[simp] def b_Resize_44 (_ : Unit) : EB := .seq (hid b_Resize_5) (hid b_Resize_43)
@[simp] def b_Resize_45 (_ : Unit) : EB := .seq (hid b_Resize_2) (hid b_Resize_44)
def c_Resize : EB × List QOp × Nat := ((hid b_Resize_45), [(.lda 5 (.t 6)), (.mov (.t 7))], 53)
theorem k_Resize : cfun Tryd.prog 16 = some c_Resize := by kernel_rfl


@[simp] theorem errV_5 : Value.iface 79 (.int .i64 5) = errV 5 := rfl
@[simp] theorem errV_20 : Value.iface 79 (.int .i64 20) = errV 20 := rfl
@[simp] theorem errV_27 : Value.iface 79 (.int .i64 27) = errV 27 := rfl
@[simp] theorem errV_33 : Value.iface 79 (.int .i64 33) = errV 33 := rfl
def zSta : Sta := ⟨0, 0, 0, [], []⟩
/-- A state's copy, with the next number; an error. -/
def nxt (s : Sta) : Sta × Nat := if mayS s = true ∧ s.num ≠ 1099511627776 then (⟨s.num + 1, s.h0, s.h1, s.pays, s.holds⟩, 0) else (zSta, 1)
def SE (q : Sta × Nat) : EV := .tup [.agg (staC q.1), .c (.fz (.lit (errV q.2)))]
theorem nxt_ok {s : Sta} (hs : s.ok) (h : mayS s = true) : (Sta.mk (s.num + 1) s.h0 s.h1 s.pays s.holds).ok := by
  obtain ⟨hr, _⟩ := mayS_t h
  exact ⟨⟨by show _ ≤ s.num + 1; omega, by show s.num + 1 ≤ _; omega⟩, hs.2⟩
theorem hol_set {l : List Hol} {i : Nat} {h : Hol} (hc : l[i]? = some h) : (holv l).set i (holF h) = holv l := by
  apply List.ext_getElem?
  intro j
  rw [List.getElem?_set]
  split
  · rename_i e
    subst e
    split
    · rw [holv_get hc]
    · rename_i hn; exact absurd (by simpa using lt_len hc) hn
  · rfl

set_option maxHeartbeats 2000000 in
theorem next_ok (s : Sta) (hs : s.ok) : ECalls Tryd.prog 37 [SV s] [] fun y H' => H' = [] ∧ y = SE (nxt s) := by
  obtain ⟨ok1, ok2, ok3, ok4, ok5, ok6, ok7⟩ := id hs
  refine ecalls k_next ?_
  simp [c_next, SV, staC]
  refine call0 (Smay_ok s hs) (by simp [SV, staC]) ?_
  rintro y H' ⟨rfl, rfl⟩
  cases hm : mayS s
  · have ht : nxt s = (zSta, 1) := by simp [nxt, hm]
    rw [ht]
    simp [EV.lit]
    refine finW _ (weak_nlB (o := 16) (k := 3) 36 rfl rfl) (finW _ (weak_nlB (o := 16) (k := 4) 3 rfl rfl) ?_)
    exact fin [] (by decide) rfl rfl rfl ⟨rfl, rfl⟩
  obtain ⟨hr, hp, hh, htot⟩ := mayS_t hm
  by_cases hn : s.num = 1099511627776
  · have ht : nxt s = (zSta, 1) := by simp [nxt, hn]
    rw [ht]
    simp [EV.lit, hn]
    refine finW _ (weak_nlB (o := 16) (k := 3) 36 rfl rfl) (finW _ (weak_nlB (o := 16) (k := 4) 3 rfl rfl) ?_)
    exact fin [] (by decide) rfl rfl rfl ⟨rfl, rfl⟩
  have ht : nxt s = (⟨s.num + 1, s.h0, s.h1, s.pays, s.holds⟩, 0) := by simp [nxt, hm, hn]
  rw [ht]
  have w1 : IntKind.i64.wrap (s.num + 1) = s.num + 1 := wrap_i64 (by omega) (by omega)
  simp [EV.lit, hn, w1]
  refine call0 (cloneP_ok s.pays ok6) (by simp [PL]) ?_
  rintro y H' ⟨rfl, rfl⟩
  refine ⟨.inl (by simp), le_ok rfl, ?_⟩
  simp
  refine call0 (cloneH_ok s.holds ok7) (by simp [HL]) ?_
  rintro y H' ⟨rfl, rfl⟩
  refine ⟨.inl (by simp), le_ok rfl, ?_⟩
  simp
  refine loopW _ (weak_frz (o := 288) (ty := 61) (es := 36) (xs := payv s.pays) rfl) ?_
  refine eloop (α := Nat) (fun i => i ≤ s.holds.length) (fun i => s.holds.length - i)
    (fun i => [.any, Ptr 0, Ptr 1, .any, .any, .any, .any, .any, .any, .any, .any, .any, .any, .any, .any, .any, .any, .any, .any, .any, .any, .any, .any, .any, .any, .any, .any, .any, .any, I .i64 s.holds.length, I .i64 i, .any, .any, .any, .any, .any, .any, .any, .any, .any, .any, .any, .any, .any, .any, .any, .any]) (fun i => [some (.box 32 [.fz (.lit (.int .i64 (s.num + 1))), .fz (.lit (.int .i64 s.h0)), .fz (.lit (.int .i64 s.h1)), .fz (.sl 36 (payv s.pays)), .row 2 s.holds.length]), some (.box 32 [.fz (.lit (.int .i64 0)), .fz (.lit (.int .i64 0)), .fz (.lit (.int .i64 0)), .fz (.lit (.slice none 0 0)), .fz (.lit (.slice none 0 0))]), some (.row 65 3 (holv s.holds))]) 0 [0, 16, 336]
    (Nat.zero_le _) (by simp [Ptr, I]) (by simp [List.take_of_length_le]) (by simp) (by simp) (by simp) ?_
  intro i hi
  simp [Ptr, I]
  refine alt (fun hlt => ?_) (fun hlt => ?_)
  · obtain ⟨p, hc⟩ : ∃ p, s.holds[i]? = some p := ⟨s.holds[i], by simp [hlt]⟩
    have hpo := ok5 p (List.mem_of_getElem? hc)
    have hcb := holv_get hc
    have w2 : IntKind.i64.wrap ((i : Int) + 1) = ((i + 1 : Nat) : Int) := wrap_i64 (by omega) (by omega)
    have hset := hol_set hc
    have hge : (holv s.holds)[i]'(by simp [hlt]) = holF p := by
      have h := hcb
      rw [List.getElem?_eq_getElem (by simp [hlt])] at h
      exact Option.some.inj h
    simp [hge, holF, hlt]
    refine call0 (cloneI_ok p.keys hpo.2.2.2) (by simp [IL]) ?_
    rintro y H' ⟨rfl, rfl⟩
    refine ⟨.inl (by simp), le_ok rfl, ?_⟩
    have hset' : (holv s.holds).set i [.lit (.int .i64 p.id), .lit (.int .i64 p.am), .sl 1 (intv p.keys)] = holv s.holds := hset
    simp [hge, holF, hlt, w2, -Int.natCast_add]
    exact round (i + 1) [0, 1, 2] (by omega) (by omega) (by simp) (by simp [hset', List.take_of_length_le]) (by simp) (by simp) (by simp)
  · have hil : i = s.holds.length := by omega
    subst hil
    simp [-errV_0]
    refine finW _ (weak_frz (o := 2) (ty := 65) (es := 3) (xs := holv s.holds) rfl) ?_
    exact fin [] (by decide) rfl rfl rfl ⟨rfl, by simp [SE, staC, List.take_of_length_le, errV, -errV_0]⟩

/-- An amount moved from a side to the other one; the error. -/
def moveS (s : Sta) (from' n : Int) : Sta × Nat :=
  if (nxt s).2 ≠ 0 then (zSta, (nxt s).2) else if ¬ (from' = 0 ∨ from' = 1) then (zSta, 33) else if n < 1 then (zSta, 27)
  else if (if from' = 0 then s.h0 else s.h1) < n then (zSta, 20)
  else if from' = 0 then (⟨s.num + 1, s.h0 - n, s.h1 + n, s.pays, s.holds⟩, 0) else (⟨s.num + 1, s.h0 + n, s.h1 - n, s.pays, s.holds⟩, 0)

set_option maxHeartbeats 2000000 in
theorem Move_ok (s : Sta) (from' n : Int) (hs : s.ok) (hf : i64 from') (hn : i64 n) : ECalls Tryd.prog 12 [SV s, I .i64 from', I .i64 n] [] fun y H' => H' = [] ∧ y = SE (moveS s from' n) := by
  obtain ⟨ok1, ok2, ok3, ok4, ok5, ok6, ok7⟩ := id hs
  obtain ⟨hf1, hf2⟩ := hf
  obtain ⟨hn1, hn2⟩ := hn
  refine ecalls k_Move ?_
  simp [c_Move, SV, staC, I]
  refine call0 (next_ok s hs) (by simp [SV, staC]) ?_
  rintro y H' ⟨rfl, rfl⟩
  refine ⟨.inl (by simp), le_ok rfl, ?_⟩
  have bad : ∀ k : Nat, moveS s from' n = (zSta, k) → SE (moveS s from' n) = SE (zSta, k) := fun k h => by rw [h]
  by_cases h0 : mayS s = true ∧ s.num ≠ 1099511627776
  rotate_left
  · have hx : nxt s = (zSta, 1) := by simp only [nxt, if_neg h0]
    rw [bad 1 (by simp [moveS, hx]), hx]
    simp [SE, staC, zSta]
    refine finW _ (weak_nlB (o := 16) (k := 3) 36 rfl rfl) (finW _ (weak_nlB (o := 16) (k := 4) 3 rfl rfl) ?_)
    exact fin [] (by decide) rfl rfl rfl ⟨rfl, rfl⟩
  have hx : nxt s = (⟨s.num + 1, s.h0, s.h1, s.pays, s.holds⟩, 0) := by simp only [nxt, if_pos h0]
  obtain ⟨hr, hp, hh, htot⟩ := mayS_t h0.1
  rw [hx]
  simp [SE, staC]
  refine call0 (side_ok from') (by simp [I]) ?_
  rintro y H' ⟨rfl, rfl⟩
  cases hb : decide (from' = 0 ∨ from' = 1)
  · have hb' := of_decide_eq_false hb
    rw [show moveS s from' n = (zSta, 33) by simp only [moveS, hx]; rw [if_neg (by simp), if_pos hb']]
    simp [EV.lit]
    refine finW _ (weak_nlB (o := 16) (k := 3) 36 rfl rfl) (finW _ (weak_nlB (o := 16) (k := 4) 3 rfl rfl) ?_)
    exact fin [] (by decide) rfl rfl rfl ⟨rfl, rfl⟩
  have hb' := of_decide_eq_true hb
  simp [EV.lit]
  refine alt (fun c1 => ?_) (fun c1 => ?_)
  · rw [show moveS s from' n = (zSta, 27) by simp only [moveS, hx]; rw [if_neg (by simp), if_neg (by simp [hb']), if_pos c1]]
    simp
    refine finW _ (weak_nlB (o := 16) (k := 3) 36 rfl rfl) (finW _ (weak_nlB (o := 16) (k := 4) 3 rfl rfl) ?_)
    exact fin [] (by decide) rfl rfl rfl ⟨rfl, rfl⟩
  rcases hb' with rfl | rfl
  · simp
    refine alt (fun c2 => ?_) (fun c2 => ?_)
    · rw [show moveS s 0 n = (zSta, 20) by simp only [moveS, hx]; rw [if_neg (by simp), if_neg (by simp), if_neg c1]; simp [c2]]
      simp
      refine finW _ (weak_nlB (o := 16) (k := 3) 36 rfl rfl) (finW _ (weak_nlB (o := 16) (k := 4) 3 rfl rfl) ?_)
      exact fin [] (by decide) rfl rfl rfl ⟨rfl, rfl⟩
    have w1 : IntKind.i64.wrap (s.h0 - n) = s.h0 - n := wrap_i64 (by omega) (by omega)
    have w2 : IntKind.i64.wrap (s.h1 + n) = s.h1 + n := wrap_i64 (by omega) (by omega)
    rw [show moveS s 0 n = (⟨s.num + 1, s.h0 - n, s.h1 + n, s.pays, s.holds⟩, 0) by simp only [moveS, hx]; rw [if_neg (by simp), if_neg (by simp), if_neg c1]; simp [c2]]
    simp [w1, w2, IntKind.wrap_i64, -errV_0]
    exact fin [] (by decide) rfl rfl rfl ⟨rfl, rfl⟩
  · simp
    refine alt (fun c2 => ?_) (fun c2 => ?_)
    · rw [show moveS s 1 n = (zSta, 20) by simp only [moveS, hx]; rw [if_neg (by simp), if_neg (by simp), if_neg c1]; simp [c2]]
      simp
      refine finW _ (weak_nlB (o := 16) (k := 3) 36 rfl rfl) (finW _ (weak_nlB (o := 16) (k := 4) 3 rfl rfl) ?_)
      exact fin [] (by decide) rfl rfl rfl ⟨rfl, rfl⟩
    have w1 : IntKind.i64.wrap (s.h1 - n) = s.h1 - n := wrap_i64 (by omega) (by omega)
    have w2 : IntKind.i64.wrap (s.h0 + n) = s.h0 + n := wrap_i64 (by omega) (by omega)
    rw [show moveS s 1 n = (⟨s.num + 1, s.h0 + n, s.h1 - n, s.pays, s.holds⟩, 0) by simp only [moveS, hx]; rw [if_neg (by simp), if_neg (by simp), if_neg c1]; simp [c2]]
    simp [w1, w2, IntKind.wrap_i64, -errV_0]
    exact fin [] (by decide) rfl rfl rfl ⟨rfl, rfl⟩

/-- A side given more, or less, from outside; the error. -/
def resS (s : Sta) (who n : Int) : Sta × Nat :=
  if (nxt s).2 ≠ 0 then (zSta, (nxt s).2) else if ¬ (who = 0 ∨ who = 1) then (zSta, 33)
  else if n < -(if who = 0 then s.h0 else s.h1) then (zSta, 20) else if 1125899906842624 - total s < n then (zSta, 5)
  else if who = 0 then (⟨s.num + 1, s.h0 + n, s.h1, s.pays, s.holds⟩, 0) else (⟨s.num + 1, s.h0, s.h1 + n, s.pays, s.holds⟩, 0)
theorem sum_nn : ∀ {l : List Int}, (∀ x ∈ l, 0 ≤ x) → 0 ≤ l.sum
  | [], _ => by simp
  | x :: r, h => by
    have h1 := h x (by simp)
    have h2 := sum_nn (l := r) (fun y hy => h y (by simp [hy]))
    simp; omega
theorem sumP_nn {o : Option Int} {l : List Pay} (h : payL o l = true) : 0 ≤ sumP l := sum_nn fun x hx => by
  obtain ⟨p, hp, rfl⟩ := List.mem_map.1 hx
  have := payL_am h p hp
  omega
theorem sumH_nn {o : Option Int} {l : List Hol} (h : holL o l = true) : 0 ≤ sumH l := sum_nn fun x hx => by
  obtain ⟨p, hp, rfl⟩ := List.mem_map.1 hx
  have := holL_am h p hp
  omega
theorem totS_nx {s : Sta} (h : mayS s = true ∧ s.num ≠ 1099511627776) : totS ⟨s.num + 1, s.h0, s.h1, s.pays, s.holds⟩ = total s := by
  obtain ⟨hr, hp, hh, ht⟩ := mayS_t h.1
  have hm : mayS ⟨s.num + 1, s.h0, s.h1, s.pays, s.holds⟩ = true := by
    simp only [mayS, hp, hh, Bool.and_true, Bool.and_eq_true, decide_eq_true_eq]
    refine ⟨?_, ht⟩
    have := h.2
    omega
  rw [totS, if_pos hm]
  rfl

set_option maxHeartbeats 2000000 in
theorem Resize_ok (s : Sta) (who n : Int) (hs : s.ok) (hf : i64 who) (hn : i64 n) : ECalls Tryd.prog 16 [SV s, I .i64 who, I .i64 n] [] fun y H' => H' = [] ∧ y = SE (resS s who n) := by
  obtain ⟨ok1, ok2, ok3, ok4, ok5, ok6, ok7⟩ := id hs
  obtain ⟨hf1, hf2⟩ := hf
  obtain ⟨hn1, hn2⟩ := hn
  refine ecalls k_Resize ?_
  simp [c_Resize, SV, staC, I]
  refine call0 (next_ok s hs) (by simp [SV, staC]) ?_
  rintro y H' ⟨rfl, rfl⟩
  refine ⟨.inl (by simp), le_ok rfl, ?_⟩
  by_cases h0 : mayS s = true ∧ s.num ≠ 1099511627776
  rotate_left
  · have hx : nxt s = (zSta, 1) := by simp only [nxt, if_neg h0]
    rw [show resS s who n = (zSta, 1) by simp [resS, hx], hx]
    simp [SE, staC, zSta]
    refine finW _ (weak_nlB (o := 16) (k := 3) 36 rfl rfl) (finW _ (weak_nlB (o := 16) (k := 4) 3 rfl rfl) ?_)
    exact fin [] (by decide) rfl rfl rfl ⟨rfl, rfl⟩
  have hx : nxt s = (⟨s.num + 1, s.h0, s.h1, s.pays, s.holds⟩, 0) := by simp only [nxt, if_pos h0]
  obtain ⟨hr, hp, hh, htot⟩ := mayS_t h0.1
  have hnok := nxt_ok hs h0.1
  have htx := totS_nx h0
  have hsp := sumP_nn hp
  have hsh := sumH_nn hh
  have htn : 0 ≤ total s := by unfold total; omega
  have hside : s.h0 ≤ total s ∧ s.h1 ≤ total s := by unfold total; omega
  rw [hx]
  simp [SE, staC]
  refine call0 (side_ok who) (by simp [I]) ?_
  rintro y H' ⟨rfl, rfl⟩
  cases hb : decide (who = 0 ∨ who = 1)
  · have hb' := of_decide_eq_false hb
    rw [show resS s who n = (zSta, 33) by simp only [resS, hx]; rw [if_neg (by simp), if_pos hb']]
    simp [EV.lit]
    refine finW _ (weak_nlB (o := 16) (k := 3) 36 rfl rfl) (finW _ (weak_nlB (o := 16) (k := 4) 3 rfl rfl) ?_)
    exact fin [] (by decide) rfl rfl rfl ⟨rfl, rfl⟩
  have hb' := of_decide_eq_true hb
  simp [EV.lit]
  rcases hb' with rfl | rfl
  · have w0 : IntKind.i64.wrap (-s.h0) = -s.h0 := wrap_i64 (by omega) (by omega)
    simp [w0]
    refine alt (fun c2 => ?_) (fun c2 => ?_)
    · rw [show resS s 0 n = (zSta, 20) by simp only [resS, hx]; rw [if_neg (by simp), if_neg (by simp)]; simp [c2]]
      simp
      refine finW _ (weak_nlB (o := 16) (k := 3) 36 rfl rfl) (finW _ (weak_nlB (o := 16) (k := 4) 3 rfl rfl) ?_)
      exact fin [] (by decide) rfl rfl rfl ⟨rfl, rfl⟩
    simp
    refine call0 (Total_ok ⟨s.num + 1, s.h0, s.h1, s.pays, s.holds⟩ hnok) (by simp [SV, staC]) ?_
    rintro y H' ⟨rfl, rfl⟩
    have w3 : IntKind.i64.wrap (1125899906842624 - total s) = 1125899906842624 - total s := wrap_i64 (by omega) (by omega)
    simp [I, htx, w3]
    refine alt (fun c3 => ?_) (fun c3 => ?_)
    · rw [show resS s 0 n = (zSta, 5) by simp only [resS, hx]; rw [if_neg (by simp), if_neg (by simp)]; simp [c2, c3]]
      simp
      refine finW _ (weak_nlB (o := 16) (k := 3) 36 rfl rfl) (finW _ (weak_nlB (o := 16) (k := 4) 3 rfl rfl) ?_)
      exact fin [] (by decide) rfl rfl rfl ⟨rfl, rfl⟩
    have w1 : IntKind.i64.wrap (s.h0 + n) = s.h0 + n := wrap_i64 (by omega) (by omega)
    rw [show resS s 0 n = (⟨s.num + 1, s.h0 + n, s.h1, s.pays, s.holds⟩, 0) by simp only [resS, hx]; rw [if_neg (by simp), if_neg (by simp)]; simp [c2, c3]]
    simp [w1, IntKind.wrap_i64, -errV_0]
    exact fin [] (by decide) rfl rfl rfl ⟨rfl, rfl⟩
  · have w0 : IntKind.i64.wrap (-s.h1) = -s.h1 := wrap_i64 (by omega) (by omega)
    simp [w0]
    refine alt (fun c2 => ?_) (fun c2 => ?_)
    · rw [show resS s 1 n = (zSta, 20) by simp only [resS, hx]; rw [if_neg (by simp), if_neg (by simp)]; simp [c2]]
      simp
      refine finW _ (weak_nlB (o := 16) (k := 3) 36 rfl rfl) (finW _ (weak_nlB (o := 16) (k := 4) 3 rfl rfl) ?_)
      exact fin [] (by decide) rfl rfl rfl ⟨rfl, rfl⟩
    simp
    refine call0 (Total_ok ⟨s.num + 1, s.h0, s.h1, s.pays, s.holds⟩ hnok) (by simp [SV, staC]) ?_
    rintro y H' ⟨rfl, rfl⟩
    have w3 : IntKind.i64.wrap (1125899906842624 - total s) = 1125899906842624 - total s := wrap_i64 (by omega) (by omega)
    simp [I, htx, w3]
    refine alt (fun c3 => ?_) (fun c3 => ?_)
    · rw [show resS s 1 n = (zSta, 5) by simp only [resS, hx]; rw [if_neg (by simp), if_neg (by simp)]; simp [c2, c3]]
      simp
      refine finW _ (weak_nlB (o := 16) (k := 3) 36 rfl rfl) (finW _ (weak_nlB (o := 16) (k := 4) 3 rfl rfl) ?_)
      exact fin [] (by decide) rfl rfl rfl ⟨rfl, rfl⟩
    have w1 : IntKind.i64.wrap (s.h1 + n) = s.h1 + n := wrap_i64 (by omega) (by omega)
    rw [show resS s 1 n = (⟨s.num + 1, s.h0, s.h1 + n, s.pays, s.holds⟩, 0) by simp only [resS, hx]; rw [if_neg (by simp), if_neg (by simp)]; simp [c2, c3]]
    simp [w1, IntKind.wrap_i64, -errV_0]
    exact fin [] (by decide) rfl rfl rfl ⟨rfl, rfl⟩

end Go.Proofs.YtpohjnhlhfbnaaaDoor
