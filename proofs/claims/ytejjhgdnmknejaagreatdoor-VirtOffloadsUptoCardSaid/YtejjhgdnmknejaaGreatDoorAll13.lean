import Derived.Test.YtejjhgdnmknejaaGreatDoorAll7
import Derived.Test.YtejjhgdnmknejaaGreatDoorAll12
namespace Go.Proofs.YtejjhgdnmknejaaGreatDoor
open Go Go.EW
set_option linter.unusedSimpArgs false
set_option linter.unusedVariables false

@[simp] def l_byHold_1 (_ : Unit) : List EOp := [⟨0, (some 2), none, (.q (.box 124 (.t 0))), []⟩, ⟨1, (some 4), none, (.q (.mov (.k (.int .i64 0)))), []⟩]
@[simp] def b_byHold_2 (_ : Unit) : EB := reg0 (hid l_byHold_1) 2
@[simp] def l_byHold_3 (_ : Unit) : List EOp := [⟨0, (some 5), none, (.q (.fad 0 (.t 2))), []⟩, ⟨1, (some 6), none, (.q (.ldc (.t 5))), []⟩, ⟨2, (some 7), none, (.q (.mov (.t 1))), []⟩, ⟨3, (some 8), none, (.call 152 [(.t 6), (.t 7)]), []⟩, ⟨4, (some 4), none, (.q (.mov (.t 8))), []⟩]
@[simp] def b_byHold_4 (_ : Unit) : EB := reg0 (hid l_byHold_3) 5
@[simp] def b_byHold_5 (_ : Unit) : EB := .seq (hid b_byHold_4) .ret
@[simp] def b_byHold_6 (_ : Unit) : EB := .seq (hid b_byHold_2) (hid b_byHold_5)
def c_byHold : EB × List QOp × Nat := ((hid b_byHold_6), [(.mov (.t 4))], 9)
theorem k_byHold : cfun Tryz.prog 88 = some c_byHold := by kernel_rfl

@[simp] def l_BinH_1 (_ : Unit) : List EOp := [⟨0, (some 6), none, (.q (.mov (.k (.int .i64 0)))), []⟩, ⟨1, (some 7), none, (.q (.mov (.k (.bool false)))), []⟩]
@[simp] def b_BinH_2 (_ : Unit) : EB := reg0 (hid l_BinH_1) 2
@[simp] def l_BinH_3 (_ : Unit) : List EOp := [⟨0, (some 12), none, (.q (.mov (.t 0))), []⟩, ⟨1, (some 13), none, (.q (.len (.t 12))), []⟩, ⟨2, (some 8), none, (.q (.mov (.t 13))), []⟩]
@[simp] def b_BinH_4 (_ : Unit) : EB := reg0 (hid l_BinH_3) 3
@[simp] def l_BinH_5 (_ : Unit) : List EOp := [⟨0, (some 14), none, (.q (.mov (.t 8))), []⟩, ⟨1, (some 9), none, (.q (.mov (.k (.int .i64 0)))), []⟩, ⟨2, (some 10), none, (.q (.mov (.t 14))), []⟩]
@[simp] def b_BinH_6 (_ : Unit) : EB := reg0 (hid l_BinH_5) 3
@[simp] def l_BinH_7 (_ : Unit) : List EOp := [⟨0, (some 15), none, (.q (.mov (.t 9))), []⟩, ⟨1, (some 16), none, (.q (.mov (.t 10))), []⟩, ⟨2, (some 17), none, (.q (.bin .lss (.t 15) (.t 16))), []⟩]
@[simp] def b_BinH_8 (_ : Unit) : EB := reg0 (hid l_BinH_7) 3
@[simp] def b_BinH_9 (_ : Unit) : EB := .cond (.t 17) .skip (.exit 0)
@[simp] def b_BinH_10 (_ : Unit) : EB := .seq (hid b_BinH_8) (hid b_BinH_9)
@[simp] def l_BinH_12 (_ : Unit) : List EOp := [⟨6, (some 11), none, (.q (.mov (.t 23))), []⟩]
@[simp] def l_BinH_11 (_ : Unit) : List EOp := ⟨0, (some 18), none, (.q (.mov (.t 9))), []⟩ :: ⟨1, (some 19), none, (.q (.mov (.t 10))), []⟩ :: ⟨2, (some 20), none, (.q (.bin .add (.t 18) (.t 19))), []⟩ :: ⟨3, (some 21), none, (.q (.cnv .u64 (.t 20))), []⟩ :: ⟨4, (some 22), none, (.q (.bin .shr (.t 21) (.k (.int .u64 1)))), []⟩ :: ⟨5, (some 23), none, (.q (.cnv .i64 (.t 22))), []⟩ :: hid l_BinH_12
@[simp] def b_BinH_13 (_ : Unit) : EB := reg0 (hid l_BinH_11) 7
@[simp] def l_BinH_15 (_ : Unit) : List EOp := [⟨6, (some 30), none, (.clo (.t 24) [(.t 28), (.t 29)]), []⟩, ⟨7, (some 31), none, (.q (.bin .lss (.t 30) (.k (.int .i64 0)))), []⟩]
@[simp] def l_BinH_14 (_ : Unit) : List EOp := ⟨0, (some 24), none, (.q (.mov (.t 2))), []⟩ :: ⟨1, (some 25), none, (.q (.mov (.t 0))), []⟩ :: ⟨2, (some 26), none, (.q (.mov (.t 11))), []⟩ :: ⟨3, (some 27), none, (.q (.isl 3 (.t 25) (.t 26))), []⟩ :: ⟨4, (some 28), none, (.q (.lda 3 (.t 27))), []⟩ :: ⟨5, (some 29), none, (.q (.mov (.t 1))), []⟩ :: hid l_BinH_15
@[simp] def b_BinH_16 (_ : Unit) : EB := reg0 (hid l_BinH_14) 8
@[simp] def l_BinH_17 (_ : Unit) : List EOp := [⟨0, (some 32), none, (.q (.mov (.t 11))), []⟩, ⟨1, (some 33), none, (.q (.bin .add (.t 32) (.k (.int .i64 1)))), []⟩, ⟨2, (some 9), none, (.q (.mov (.t 33))), []⟩]
@[simp] def b_BinH_18 (_ : Unit) : EB := reg0 (hid l_BinH_17) 3
@[simp] def l_BinH_19 (_ : Unit) : List EOp := [⟨0, (some 34), none, (.q (.mov (.t 11))), []⟩, ⟨1, (some 10), none, (.q (.mov (.t 34))), []⟩]
@[simp] def b_BinH_20 (_ : Unit) : EB := reg0 (hid l_BinH_19) 2
@[simp] def b_BinH_21 (_ : Unit) : EB := .cond (.t 31) (hid b_BinH_18) (hid b_BinH_20)
@[simp] def b_BinH_22 (_ : Unit) : EB := .seq (hid b_BinH_16) (hid b_BinH_21)
@[simp] def b_BinH_23 (_ : Unit) : EB := .seq (hid b_BinH_13) (hid b_BinH_22)
@[simp] def b_BinH_24 (_ : Unit) : EB := .block 1 (hid b_BinH_23)
@[simp] def b_BinH_25 (_ : Unit) : EB := .seq (hid b_BinH_10) (hid b_BinH_24)
@[simp] def b_BinH_26 (_ : Unit) : EB := .loop (hid b_BinH_25)
@[simp] def b_BinH_27 (_ : Unit) : EB := .block 0 (hid b_BinH_26)
@[simp] def l_BinH_30 (_ : Unit) : List EOp := [⟨12, (some 47), (some (39, true)), (.q (.bin .eql (.t 46) (.k (.int .i64 0)))), []⟩, ⟨13, (some 48), none, (.q (.pick (.t 39) (.t 47) (.k (.bool false)))), []⟩, ⟨14, (some 6), none, (.q (.mov (.t 35))), []⟩, ⟨15, (some 7), none, (.q (.mov (.t 48))), []⟩]
@[simp] def l_BinH_29 (_ : Unit) : List EOp := ⟨6, (some 41), (some (39, true)), (.q (.mov (.t 0))), []⟩ :: ⟨7, (some 42), (some (39, true)), (.q (.mov (.t 9))), []⟩ :: ⟨8, (some 43), (some (39, true)), (.q (.isl 3 (.t 41) (.t 42))), []⟩ :: ⟨9, (some 44), (some (39, true)), (.q (.lda 3 (.t 43))), []⟩ :: ⟨10, (some 45), (some (39, true)), (.q (.mov (.t 1))), []⟩ :: ⟨11, (some 46), (some (39, true)), (.clo (.t 40) [(.t 44), (.t 45)]), []⟩ :: hid l_BinH_30
@[simp] def l_BinH_28 (_ : Unit) : List EOp := ⟨0, (some 35), none, (.q (.mov (.t 9))), []⟩ :: ⟨1, (some 36), none, (.q (.mov (.t 9))), []⟩ :: ⟨2, (some 37), none, (.q (.mov (.t 8))), []⟩ :: ⟨3, (some 38), none, (.q (.bin .lss (.t 36) (.t 37))), []⟩ :: ⟨4, (some 39), none, (.q (.mov (.t 38))), []⟩ :: ⟨5, (some 40), (some (39, true)), (.q (.mov (.t 2))), []⟩ :: hid l_BinH_29
@[simp] def b_BinH_31 (_ : Unit) : EB := reg0 (hid l_BinH_28) 16
@[simp] def b_BinH_32 (_ : Unit) : EB := .seq (hid b_BinH_31) .ret
@[simp] def b_BinH_33 (_ : Unit) : EB := .seq (hid b_BinH_27) (hid b_BinH_32)
@[simp] def b_BinH_34 (_ : Unit) : EB := .seq (hid b_BinH_6) (hid b_BinH_33)
@[simp] def b_BinH_35 (_ : Unit) : EB := .seq (hid b_BinH_4) (hid b_BinH_34)
@[simp] def b_BinH_36 (_ : Unit) : EB := .seq (hid b_BinH_2) (hid b_BinH_35)
def c_BinH : EB × List QOp × Nat := ((hid b_BinH_36), [(.mov (.t 6)), (.mov (.t 7))], 49)
theorem k_BinH : cfun Tryz.prog 87 = some c_BinH := by kernel_rfl

@[simp] def l_SKeep_1 (_ : Unit) : List EOp := [⟨0, (some 3), none, (.q (.box 49 (.t 0))), []⟩, ⟨1, (some 5), none, (.q (.box 124 (.t 2))), []⟩, ⟨2, (some 6), none, (.q (.alloc 49 [(.int .i64 0), (.int .i64 0), (.int .i64 0), (.slice none 0 0), (.slice none 0 0)])), []⟩, ⟨3, (some 7), none, (.q (.mov (.k .nilIface))), []⟩]
@[simp] def b_SKeep_2 (_ : Unit) : EB := reg0 (hid l_SKeep_1) 4
@[simp] def l_SKeep_4 (_ : Unit) : List EOp := [⟨6, none, none, (.fz (.sto 5 (.t 8) (.t 15))), []⟩, ⟨7, (some 9), none, (.q (.mov (.t 16))), []⟩]
@[simp] def l_SKeep_3 (_ : Unit) : List EOp := ⟨0, (some 13), none, (.q (.lda 5 (.t 3))), []⟩ :: ⟨1, (some 14), none, (.call 86 [(.t 13)]), []⟩ :: ⟨2, (some 12), none, (.q (.mov (.t 14))), []⟩ :: ⟨3, (some 15), none, (.q (.ext 0 (.t 12))), []⟩ :: ⟨4, (some 16), none, (.q (.ext 1 (.t 12))), []⟩ :: ⟨5, (some 8), none, (.q (.alloc 49 [(.int .i64 0), (.int .i64 0), (.int .i64 0), (.slice none 0 0), (.slice none 0 0)])), []⟩ :: hid l_SKeep_4
@[simp] def b_SKeep_5 (_ : Unit) : EB := reg0 (hid l_SKeep_3) 8
@[simp] def l_SKeep_6 (_ : Unit) : List EOp := [⟨0, (some 17), none, (.q (.mov (.t 9))), []⟩, ⟨1, (some 18), none, (.q (.eqi true (.t 17))), []⟩]
@[simp] def b_SKeep_7 (_ : Unit) : EB := reg0 (hid l_SKeep_6) 2
@[simp] def l_SKeep_8 (_ : Unit) : List EOp := [⟨0, (some 19), none, (.q (.build [(.int .i64 0), (.int .i64 0), (.int .i64 0), (.slice none 0 0), (.slice none 0 0)] [])), []⟩, ⟨1, (some 20), none, (.q (.mov (.t 9))), []⟩, ⟨2, none, none, (.fz (.sto 5 (.t 6) (.t 19))), []⟩, ⟨3, (some 7), none, (.q (.mov (.t 20))), []⟩]
@[simp] def b_SKeep_9 (_ : Unit) : EB := reg0 (hid l_SKeep_8) 4
@[simp] def b_SKeep_10 (_ : Unit) : EB := .seq (hid b_SKeep_9) .ret
@[simp] def b_SKeep_11 (_ : Unit) : EB := .cond (.t 18) (hid b_SKeep_10) .skip
@[simp] def b_SKeep_12 (_ : Unit) : EB := .seq (hid b_SKeep_7) (hid b_SKeep_11)
@[simp] def l_SKeep_14 (_ : Unit) : List EOp := [⟨6, (some 27), none, (.q (.ext 0 (.t 21))), []⟩, ⟨7, (some 28), none, (.q (.ext 1 (.t 21))), []⟩, ⟨8, (some 10), none, (.q (.mov (.t 27))), []⟩, ⟨9, (some 11), none, (.q (.mov (.t 28))), []⟩]
@[simp] def l_SKeep_13 (_ : Unit) : List EOp := ⟨0, (some 22), none, (.q (.fad 4 (.t 8))), []⟩ :: ⟨1, (some 23), none, (.q (.ldc (.t 22))), []⟩ :: ⟨2, (some 24), none, (.q (.fad 0 (.t 5))), []⟩ :: ⟨3, (some 25), none, (.q (.ldc (.t 24))), []⟩ :: ⟨4, (some 26), none, (.call 87 [(.t 23), (.t 25), (.k (.func (.func 88) #[] #[]))]), []⟩ :: ⟨5, (some 21), none, (.q (.mov (.t 26))), []⟩ :: hid l_SKeep_14
@[simp] def b_SKeep_15 (_ : Unit) : EB := reg0 (hid l_SKeep_13) 10
@[simp] def l_SKeep_16 (_ : Unit) : List EOp := [⟨0, (some 30), none, (.q (.mov (.t 1))), []⟩, ⟨1, (some 31), none, (.call 89 [(.t 30)]), []⟩, ⟨2, (some 32), none, (.q (.un .not (.t 31))), []⟩, ⟨3, (some 29), none, (.q (.mov (.t 32))), []⟩]
@[simp] def b_SKeep_17 (_ : Unit) : EB := reg0 (hid l_SKeep_16) 4
@[simp] def l_SKeep_18 (_ : Unit) : List EOp := [⟨0, (some 33), none, (.q (.build [(.int .i64 0), (.int .i64 0), (.int .i64 0), (.slice none 0 0), (.slice none 0 0)] [])), []⟩, ⟨1, (some 34), none, (.q (.mki 132 (.k (.int .i64 33)))), []⟩, ⟨2, none, none, (.fz (.sto 5 (.t 6) (.t 33))), []⟩, ⟨3, (some 7), none, (.q (.mov (.t 34))), []⟩]
@[simp] def b_SKeep_19 (_ : Unit) : EB := reg0 (hid l_SKeep_18) 4
@[simp] def b_SKeep_20 (_ : Unit) : EB := .seq (hid b_SKeep_19) .ret
@[simp] def l_SKeep_21 (_ : Unit) : List EOp := [⟨0, (some 36), none, (.q (.fad 1 (.t 5))), []⟩, ⟨1, (some 37), none, (.q (.ldc (.t 36))), []⟩, ⟨2, (some 38), none, (.q (.bin .lss (.t 37) (.k (.int .i64 10)))), []⟩, ⟨3, (some 35), none, (.q (.mov (.t 38))), []⟩]
@[simp] def b_SKeep_22 (_ : Unit) : EB := reg0 (hid l_SKeep_21) 4
@[simp] def l_SKeep_23 (_ : Unit) : List EOp := [⟨0, (some 39), none, (.q (.build [(.int .i64 0), (.int .i64 0), (.int .i64 0), (.slice none 0 0), (.slice none 0 0)] [])), []⟩, ⟨1, (some 40), none, (.q (.mki 132 (.k (.int .i64 27)))), []⟩, ⟨2, none, none, (.fz (.sto 5 (.t 6) (.t 39))), []⟩, ⟨3, (some 7), none, (.q (.mov (.t 40))), []⟩]
@[simp] def b_SKeep_24 (_ : Unit) : EB := reg0 (hid l_SKeep_23) 4
@[simp] def b_SKeep_25 (_ : Unit) : EB := .seq (hid b_SKeep_24) .ret
@[simp] def l_SKeep_26 (_ : Unit) : List EOp := [⟨0, (some 42), none, (.q (.lda 3 (.t 5))), []⟩, ⟨1, (some 43), none, (.call 90 [(.t 42)]), []⟩, ⟨2, (some 44), none, (.q (.un .not (.t 43))), []⟩, ⟨3, (some 41), none, (.q (.mov (.t 44))), []⟩]
@[simp] def b_SKeep_27 (_ : Unit) : EB := reg0 (hid l_SKeep_26) 4
@[simp] def l_SKeep_28 (_ : Unit) : List EOp := [⟨0, (some 45), none, (.q (.build [(.int .i64 0), (.int .i64 0), (.int .i64 0), (.slice none 0 0), (.slice none 0 0)] [])), []⟩, ⟨1, (some 46), none, (.q (.mki 132 (.k (.int .i64 1)))), []⟩, ⟨2, none, none, (.fz (.sto 5 (.t 6) (.t 45))), []⟩, ⟨3, (some 7), none, (.q (.mov (.t 46))), []⟩]
@[simp] def b_SKeep_29 (_ : Unit) : EB := reg0 (hid l_SKeep_28) 4
@[simp] def b_SKeep_30 (_ : Unit) : EB := .seq (hid b_SKeep_29) .ret
@[simp] def l_SKeep_31 (_ : Unit) : List EOp := [⟨0, (some 48), none, (.q (.mov (.t 11))), []⟩, ⟨1, (some 47), none, (.q (.mov (.t 48))), []⟩]
@[simp] def b_SKeep_32 (_ : Unit) : EB := reg0 (hid l_SKeep_31) 2
@[simp] def l_SKeep_33 (_ : Unit) : List EOp := [⟨0, (some 49), none, (.q (.build [(.int .i64 0), (.int .i64 0), (.int .i64 0), (.slice none 0 0), (.slice none 0 0)] [])), []⟩, ⟨1, (some 50), none, (.q (.mki 132 (.k (.int .i64 9)))), []⟩, ⟨2, none, none, (.fz (.sto 5 (.t 6) (.t 49))), []⟩, ⟨3, (some 7), none, (.q (.mov (.t 50))), []⟩]
@[simp] def b_SKeep_34 (_ : Unit) : EB := reg0 (hid l_SKeep_33) 4
@[simp] def b_SKeep_35 (_ : Unit) : EB := .seq (hid b_SKeep_34) .ret
@[simp] def l_SKeep_36 (_ : Unit) : List EOp := [⟨0, (some 52), none, (.q (.lda 5 (.t 8))), []⟩, ⟨1, (some 53), none, (.call 91 [(.t 52)]), []⟩, ⟨2, (some 54), none, (.q (.bin .geq (.t 53) (.k (.int .i64 8)))), []⟩, ⟨3, (some 51), none, (.q (.mov (.t 54))), []⟩]
@[simp] def b_SKeep_37 (_ : Unit) : EB := reg0 (hid l_SKeep_36) 4
@[simp] def l_SKeep_38 (_ : Unit) : List EOp := [⟨0, (some 55), none, (.q (.build [(.int .i64 0), (.int .i64 0), (.int .i64 0), (.slice none 0 0), (.slice none 0 0)] [])), []⟩, ⟨1, (some 56), none, (.q (.mki 132 (.k (.int .i64 30)))), []⟩, ⟨2, none, none, (.fz (.sto 5 (.t 6) (.t 55))), []⟩, ⟨3, (some 7), none, (.q (.mov (.t 56))), []⟩]
@[simp] def b_SKeep_39 (_ : Unit) : EB := reg0 (hid l_SKeep_38) 4
@[simp] def b_SKeep_40 (_ : Unit) : EB := .seq (hid b_SKeep_39) .ret
@[simp] def l_SKeep_42 (_ : Unit) : List EOp := [⟨6, (some 64), none, (.q (.bin .lss (.t 61) (.t 63))), []⟩, ⟨7, (some 57), none, (.q (.mov (.t 64))), []⟩]
@[simp] def l_SKeep_41 (_ : Unit) : List EOp := ⟨0, (some 58), none, (.q (.mov (.t 1))), []⟩ :: ⟨1, (some 59), none, (.q (.fad 1 (.t 8))), []⟩ :: ⟨2, (some 60), none, (.q (.iad 2 1 (.t 59) (.t 58))), []⟩ :: ⟨3, (some 61), none, (.q (.ldc (.t 60))), []⟩ :: ⟨4, (some 62), none, (.q (.fad 1 (.t 5))), []⟩ :: ⟨5, (some 63), none, (.q (.ldc (.t 62))), []⟩ :: hid l_SKeep_42
@[simp] def b_SKeep_43 (_ : Unit) : EB := reg0 (hid l_SKeep_41) 8
@[simp] def l_SKeep_44 (_ : Unit) : List EOp := [⟨0, (some 65), none, (.q (.build [(.int .i64 0), (.int .i64 0), (.int .i64 0), (.slice none 0 0), (.slice none 0 0)] [])), []⟩, ⟨1, (some 66), none, (.q (.mki 132 (.k (.int .i64 20)))), []⟩, ⟨2, none, none, (.fz (.sto 5 (.t 6) (.t 65))), []⟩, ⟨3, (some 7), none, (.q (.mov (.t 66))), []⟩]
@[simp] def b_SKeep_45 (_ : Unit) : EB := reg0 (hid l_SKeep_44) 4
@[simp] def b_SKeep_46 (_ : Unit) : EB := .seq (hid b_SKeep_45) .ret
@[simp] def b_SKeep_47 (_ : Unit) : EB := .cond (.t 57) (hid b_SKeep_46) .skip
@[simp] def b_SKeep_48 (_ : Unit) : EB := .seq (hid b_SKeep_43) (hid b_SKeep_47)
@[simp] def b_SKeep_49 (_ : Unit) : EB := .cond (.t 51) (hid b_SKeep_40) (hid b_SKeep_48)
@[simp] def b_SKeep_50 (_ : Unit) : EB := .seq (hid b_SKeep_37) (hid b_SKeep_49)
@[simp] def b_SKeep_51 (_ : Unit) : EB := .cond (.t 47) (hid b_SKeep_35) (hid b_SKeep_50)
@[simp] def b_SKeep_52 (_ : Unit) : EB := .seq (hid b_SKeep_32) (hid b_SKeep_51)
@[simp] def b_SKeep_53 (_ : Unit) : EB := .cond (.t 41) (hid b_SKeep_30) (hid b_SKeep_52)
@[simp] def b_SKeep_54 (_ : Unit) : EB := .seq (hid b_SKeep_27) (hid b_SKeep_53)
@[simp] def b_SKeep_55 (_ : Unit) : EB := .cond (.t 35) (hid b_SKeep_25) (hid b_SKeep_54)
@[simp] def b_SKeep_56 (_ : Unit) : EB := .seq (hid b_SKeep_22) (hid b_SKeep_55)
@[simp] def b_SKeep_57 (_ : Unit) : EB := .cond (.t 29) (hid b_SKeep_20) (hid b_SKeep_56)
@[simp] def b_SKeep_58 (_ : Unit) : EB := .seq (hid b_SKeep_17) (hid b_SKeep_57)
@[simp] def b_SKeep_59 (_ : Unit) : EB := .block 0 (hid b_SKeep_58)
@[simp] def l_SKeep_61 (_ : Unit) : List EOp := [⟨6, (some 73), none, (.q (.bin .sub (.t 70) (.t 72))), []⟩, ⟨7, (some 74), none, (.q (.fad 1 (.t 8))), []⟩, ⟨8, (some 75), none, (.q (.iad 2 1 (.t 74) (.t 67))), []⟩, ⟨9, none, none, (.sto 1 (.t 75) (.t 73)), []⟩]
@[simp] def l_SKeep_60 (_ : Unit) : List EOp := ⟨0, (some 67), none, (.q (.mov (.t 1))), []⟩ :: ⟨1, (some 68), none, (.q (.fad 1 (.t 8))), []⟩ :: ⟨2, (some 69), none, (.q (.iad 2 1 (.t 68) (.t 67))), []⟩ :: ⟨3, (some 70), none, (.q (.ldc (.t 69))), []⟩ :: ⟨4, (some 71), none, (.q (.fad 1 (.t 5))), []⟩ :: ⟨5, (some 72), none, (.q (.ldc (.t 71))), []⟩ :: hid l_SKeep_61
@[simp] def b_SKeep_62 (_ : Unit) : EB := reg0 (hid l_SKeep_60) 10
@[simp] def l_SKeep_63 (_ : Unit) : List EOp := [⟨0, (some 76), none, (.q (.fad 2 (.t 5))), []⟩, ⟨1, (some 77), none, (.q (.ldc (.t 76))), []⟩, ⟨2, (some 78), none, (.call 76 [(.t 77)]), []⟩, ⟨3, (some 79), none, (.q (.fad 2 (.t 5))), []⟩, ⟨4, none, none, (.fz (.sto 1 (.t 79) (.t 78))), []⟩]
@[simp] def b_SKeep_64 (_ : Unit) : EB := reg0 (hid l_SKeep_63) 5
@[simp] def l_SKeep_66 (_ : Unit) : List EOp := [⟨6, (some 86), none, (.q (.fad 4 (.t 8))), []⟩, ⟨7, none, none, (.fz (.sto 1 (.t 86) (.t 85))), []⟩]
@[simp] def l_SKeep_65 (_ : Unit) : List EOp := ⟨0, (some 80), none, (.q (.fad 4 (.t 8))), []⟩ :: ⟨1, (some 81), none, (.q (.ldc (.t 80))), []⟩ :: ⟨2, (some 82), none, (.q (.mov (.t 10))), []⟩ :: ⟨3, (some 83), none, (.q (.lda 3 (.t 5))), []⟩ :: ⟨4, (some 84), none, (.q (.bsr 124 3 [(.int .i64 0), (.int .i64 0), (.slice none 0 0)] 1 [(0, (.t 83))])), []⟩ :: ⟨5, (some 85), none, (.call 92 [(.t 81), (.t 82), (.t 84)]), []⟩ :: hid l_SKeep_66
@[simp] def b_SKeep_67 (_ : Unit) : EB := reg0 (hid l_SKeep_65) 8
@[simp] def l_SKeep_68 (_ : Unit) : List EOp := [⟨0, (some 87), none, (.q (.lda 5 (.t 8))), []⟩, ⟨1, none, none, (.fz (.sto 5 (.t 6) (.t 87))), []⟩, ⟨2, (some 7), none, (.q (.mov (.k .nilIface))), []⟩]
@[simp] def b_SKeep_69 (_ : Unit) : EB := reg0 (hid l_SKeep_68) 3
@[simp] def b_SKeep_70 (_ : Unit) : EB := .seq (hid b_SKeep_69) .ret
@[simp] def b_SKeep_71 (_ : Unit) : EB := .seq (hid b_SKeep_67) (hid b_SKeep_70)
@[simp] def b_SKeep_72 (_ : Unit) : EB := .seq (hid b_SKeep_64) (hid b_SKeep_71)
@[simp] def b_SKeep_73 (_ : Unit) : EB := .seq (hid b_SKeep_62) (hid b_SKeep_72)
@[simp] def b_SKeep_74 (_ : Unit) : EB := .seq (hid b_SKeep_59) (hid b_SKeep_73)
@[simp] def b_SKeep_75 (_ : Unit) : EB := .seq (hid b_SKeep_15) (hid b_SKeep_74)
@[simp] def b_SKeep_76 (_ : Unit) : EB := .seq (hid b_SKeep_12) (hid b_SKeep_75)
@[simp] def b_SKeep_77 (_ : Unit) : EB := .seq (hid b_SKeep_5) (hid b_SKeep_76)
@[simp] def b_SKeep_78 (_ : Unit) : EB := .seq (hid b_SKeep_2) (hid b_SKeep_77)
def c_SKeep : EB × List QOp × Nat := ((hid b_SKeep_78), [(.lda 5 (.t 6)), (.mov (.t 7))], 88)
theorem k_SKeep : cfun Tryz.prog 42 = some c_SKeep := by kernel_rfl

@[simp] def l_SFree_1 (_ : Unit) : List EOp := [⟨0, (some 3), none, (.q (.box 49 (.t 0))), []⟩, ⟨1, (some 6), none, (.q (.alloc 49 [(.int .i64 0), (.int .i64 0), (.int .i64 0), (.slice none 0 0), (.slice none 0 0)])), []⟩, ⟨2, (some 7), none, (.q (.mov (.k .nilIface))), []⟩]
@[simp] def b_SFree_2 (_ : Unit) : EB := reg0 (hid l_SFree_1) 3
@[simp] def l_SFree_4 (_ : Unit) : List EOp := [⟨6, none, none, (.fz (.sto 5 (.t 8) (.t 15))), []⟩, ⟨7, (some 9), none, (.q (.mov (.t 16))), []⟩]
@[simp] def l_SFree_3 (_ : Unit) : List EOp := ⟨0, (some 13), none, (.q (.lda 5 (.t 3))), []⟩ :: ⟨1, (some 14), none, (.call 86 [(.t 13)]), []⟩ :: ⟨2, (some 12), none, (.q (.mov (.t 14))), []⟩ :: ⟨3, (some 15), none, (.q (.ext 0 (.t 12))), []⟩ :: ⟨4, (some 16), none, (.q (.ext 1 (.t 12))), []⟩ :: ⟨5, (some 8), none, (.q (.alloc 49 [(.int .i64 0), (.int .i64 0), (.int .i64 0), (.slice none 0 0), (.slice none 0 0)])), []⟩ :: hid l_SFree_4
@[simp] def b_SFree_5 (_ : Unit) : EB := reg0 (hid l_SFree_3) 8
@[simp] def l_SFree_6 (_ : Unit) : List EOp := [⟨0, (some 17), none, (.q (.mov (.t 9))), []⟩, ⟨1, (some 18), none, (.q (.eqi true (.t 17))), []⟩]
@[simp] def b_SFree_7 (_ : Unit) : EB := reg0 (hid l_SFree_6) 2
@[simp] def l_SFree_8 (_ : Unit) : List EOp := [⟨0, (some 19), none, (.q (.build [(.int .i64 0), (.int .i64 0), (.int .i64 0), (.slice none 0 0), (.slice none 0 0)] [])), []⟩, ⟨1, (some 20), none, (.q (.mov (.t 9))), []⟩, ⟨2, none, none, (.fz (.sto 5 (.t 6) (.t 19))), []⟩, ⟨3, (some 7), none, (.q (.mov (.t 20))), []⟩]
@[simp] def b_SFree_9 (_ : Unit) : EB := reg0 (hid l_SFree_8) 4
@[simp] def b_SFree_10 (_ : Unit) : EB := .seq (hid b_SFree_9) .ret
@[simp] def b_SFree_11 (_ : Unit) : EB := .cond (.t 18) (hid b_SFree_10) .skip
@[simp] def b_SFree_12 (_ : Unit) : EB := .seq (hid b_SFree_7) (hid b_SFree_11)
@[simp] def l_SFree_14 (_ : Unit) : List EOp := [⟨6, (some 27), none, (.q (.ext 1 (.t 21))), []⟩, ⟨7, (some 10), none, (.q (.mov (.t 26))), []⟩, ⟨8, (some 11), none, (.q (.mov (.t 27))), []⟩]
@[simp] def l_SFree_13 (_ : Unit) : List EOp := ⟨0, (some 22), none, (.q (.fad 4 (.t 8))), []⟩ :: ⟨1, (some 23), none, (.q (.ldc (.t 22))), []⟩ :: ⟨2, (some 24), none, (.q (.mov (.t 1))), []⟩ :: ⟨3, (some 25), none, (.call 87 [(.t 23), (.t 24), (.k (.func (.func 88) #[] #[]))]), []⟩ :: ⟨4, (some 21), none, (.q (.mov (.t 25))), []⟩ :: ⟨5, (some 26), none, (.q (.ext 0 (.t 21))), []⟩ :: hid l_SFree_14
@[simp] def b_SFree_15 (_ : Unit) : EB := reg0 (hid l_SFree_13) 9
@[simp] def l_SFree_16 (_ : Unit) : List EOp := [⟨0, (some 29), none, (.q (.mov (.t 11))), []⟩, ⟨1, (some 30), none, (.q (.un .not (.t 29))), []⟩, ⟨2, (some 28), none, (.q (.mov (.t 30))), []⟩]
@[simp] def b_SFree_17 (_ : Unit) : EB := reg0 (hid l_SFree_16) 3
@[simp] def l_SFree_18 (_ : Unit) : List EOp := [⟨0, (some 31), none, (.q (.build [(.int .i64 0), (.int .i64 0), (.int .i64 0), (.slice none 0 0), (.slice none 0 0)] [])), []⟩, ⟨1, (some 32), none, (.q (.mki 132 (.k (.int .i64 8)))), []⟩, ⟨2, none, none, (.fz (.sto 5 (.t 6) (.t 31))), []⟩, ⟨3, (some 7), none, (.q (.mov (.t 32))), []⟩]
@[simp] def b_SFree_19 (_ : Unit) : EB := reg0 (hid l_SFree_18) 4
@[simp] def b_SFree_20 (_ : Unit) : EB := .seq (hid b_SFree_19) .ret
@[simp] def l_SFree_23 (_ : Unit) : List EOp := [⟨12, (some 33), none, (.q (.mov (.t 45))), []⟩]
@[simp] def l_SFree_22 (_ : Unit) : List EOp := ⟨6, (some 40), (some (36, false)), (.q (.mov (.t 10))), []⟩ :: ⟨7, (some 41), (some (36, false)), (.q (.isl 3 (.t 39) (.t 40))), []⟩ :: ⟨8, (some 42), (some (36, false)), (.q (.fad 1 (.t 41))), []⟩ :: ⟨9, (some 43), (some (36, false)), (.q (.ldc (.t 42))), []⟩ :: ⟨10, (some 44), (some (36, false)), (.q (.bin .gtr (.t 37) (.t 43))), []⟩ :: ⟨11, (some 45), none, (.q (.pick (.t 36) (.k (.bool true)) (.t 44))), []⟩ :: hid l_SFree_23
@[simp] def l_SFree_21 (_ : Unit) : List EOp := ⟨0, (some 34), none, (.q (.mov (.t 2))), []⟩ :: ⟨1, (some 35), none, (.q (.bin .lss (.t 34) (.k (.int .i64 0)))), []⟩ :: ⟨2, (some 36), none, (.q (.mov (.t 35))), []⟩ :: ⟨3, (some 37), (some (36, false)), (.q (.mov (.t 2))), []⟩ :: ⟨4, (some 38), (some (36, false)), (.q (.fad 4 (.t 8))), []⟩ :: ⟨5, (some 39), (some (36, false)), (.q (.ldc (.t 38))), []⟩ :: hid l_SFree_22
@[simp] def b_SFree_24 (_ : Unit) : EB := reg0 (hid l_SFree_21) 13
@[simp] def l_SFree_25 (_ : Unit) : List EOp := [⟨0, (some 46), none, (.q (.build [(.int .i64 0), (.int .i64 0), (.int .i64 0), (.slice none 0 0), (.slice none 0 0)] [])), []⟩, ⟨1, (some 47), none, (.q (.mki 132 (.k (.int .i64 20)))), []⟩, ⟨2, none, none, (.fz (.sto 5 (.t 6) (.t 46))), []⟩, ⟨3, (some 7), none, (.q (.mov (.t 47))), []⟩]
@[simp] def b_SFree_26 (_ : Unit) : EB := reg0 (hid l_SFree_25) 4
@[simp] def b_SFree_27 (_ : Unit) : EB := .seq (hid b_SFree_26) .ret
@[simp] def b_SFree_28 (_ : Unit) : EB := .cond (.t 33) (hid b_SFree_27) .skip
@[simp] def b_SFree_29 (_ : Unit) : EB := .seq (hid b_SFree_24) (hid b_SFree_28)
@[simp] def b_SFree_30 (_ : Unit) : EB := .cond (.t 28) (hid b_SFree_20) (hid b_SFree_29)
@[simp] def b_SFree_31 (_ : Unit) : EB := .seq (hid b_SFree_17) (hid b_SFree_30)
@[simp] def b_SFree_32 (_ : Unit) : EB := .block 0 (hid b_SFree_31)
@[simp] def l_SFree_34 (_ : Unit) : List EOp := [⟨6, (some 54), none, (.q (.iad 2 1 (.t 53) (.k (.int .i64 0)))), []⟩, ⟨7, none, none, (.sto 1 (.t 54) (.t 52)), []⟩]
@[simp] def l_SFree_33 (_ : Unit) : List EOp := ⟨0, (some 48), none, (.q (.fad 1 (.t 8))), []⟩ :: ⟨1, (some 49), none, (.q (.iad 2 1 (.t 48) (.k (.int .i64 0)))), []⟩ :: ⟨2, (some 50), none, (.q (.ldc (.t 49))), []⟩ :: ⟨3, (some 51), none, (.q (.mov (.t 2))), []⟩ :: ⟨4, (some 52), none, (.q (.bin .add (.t 50) (.t 51))), []⟩ :: ⟨5, (some 53), none, (.q (.fad 1 (.t 8))), []⟩ :: hid l_SFree_34
@[simp] def b_SFree_35 (_ : Unit) : EB := reg0 (hid l_SFree_33) 8
@[simp] def l_SFree_38 (_ : Unit) : List EOp := [⟨12, (some 67), none, (.q (.fad 1 (.t 8))), []⟩, ⟨13, (some 68), none, (.q (.iad 2 1 (.t 67) (.k (.int .i64 1)))), []⟩, ⟨14, none, none, (.sto 1 (.t 68) (.t 66)), []⟩]
@[simp] def l_SFree_37 (_ : Unit) : List EOp := ⟨6, (some 61), none, (.q (.isl 3 (.t 59) (.t 60))), []⟩ :: ⟨7, (some 62), none, (.q (.fad 1 (.t 61))), []⟩ :: ⟨8, (some 63), none, (.q (.ldc (.t 62))), []⟩ :: ⟨9, (some 64), none, (.q (.mov (.t 2))), []⟩ :: ⟨10, (some 65), none, (.q (.bin .sub (.t 63) (.t 64))), []⟩ :: ⟨11, (some 66), none, (.q (.bin .add (.t 57) (.t 65))), []⟩ :: hid l_SFree_38
@[simp] def l_SFree_36 (_ : Unit) : List EOp := ⟨0, (some 55), none, (.q (.fad 1 (.t 8))), []⟩ :: ⟨1, (some 56), none, (.q (.iad 2 1 (.t 55) (.k (.int .i64 1)))), []⟩ :: ⟨2, (some 57), none, (.q (.ldc (.t 56))), []⟩ :: ⟨3, (some 58), none, (.q (.fad 4 (.t 8))), []⟩ :: ⟨4, (some 59), none, (.q (.ldc (.t 58))), []⟩ :: ⟨5, (some 60), none, (.q (.mov (.t 10))), []⟩ :: hid l_SFree_37
@[simp] def b_SFree_39 (_ : Unit) : EB := reg0 (hid l_SFree_36) 15
@[simp] def l_SFree_41 (_ : Unit) : List EOp := [⟨6, (some 75), none, (.q (.fad 4 (.t 8))), []⟩, ⟨7, none, none, (.fz (.sto 1 (.t 75) (.t 74))), []⟩]
@[simp] def l_SFree_40 (_ : Unit) : List EOp := ⟨0, (some 69), none, (.q (.fad 4 (.t 8))), []⟩ :: ⟨1, (some 70), none, (.q (.ldc (.t 69))), []⟩ :: ⟨2, (some 71), none, (.q (.mov (.t 10))), []⟩ :: ⟨3, (some 72), none, (.q (.mov (.t 10))), []⟩ :: ⟨4, (some 73), none, (.q (.bin .add (.t 72) (.k (.int .i64 1)))), []⟩ :: ⟨5, (some 74), none, (.call 167 [(.t 70), (.t 71), (.t 73)]), []⟩ :: hid l_SFree_41
@[simp] def b_SFree_42 (_ : Unit) : EB := reg0 (hid l_SFree_40) 8
@[simp] def l_SFree_43 (_ : Unit) : List EOp := [⟨0, (some 76), none, (.q (.lda 5 (.t 8))), []⟩, ⟨1, none, none, (.fz (.sto 5 (.t 6) (.t 76))), []⟩, ⟨2, (some 7), none, (.q (.mov (.k .nilIface))), []⟩]
@[simp] def b_SFree_44 (_ : Unit) : EB := reg0 (hid l_SFree_43) 3
@[simp] def b_SFree_45 (_ : Unit) : EB := .seq (hid b_SFree_44) .ret
@[simp] def b_SFree_46 (_ : Unit) : EB := .seq (hid b_SFree_42) (hid b_SFree_45)
@[simp] def b_SFree_47 (_ : Unit) : EB := .seq (hid b_SFree_39) (hid b_SFree_46)
@[simp] def b_SFree_48 (_ : Unit) : EB := .seq (hid b_SFree_35) (hid b_SFree_47)
@[simp] def b_SFree_49 (_ : Unit) : EB := .seq (hid b_SFree_32) (hid b_SFree_48)
@[simp] def b_SFree_50 (_ : Unit) : EB := .seq (hid b_SFree_15) (hid b_SFree_49)
@[simp] def b_SFree_51 (_ : Unit) : EB := .seq (hid b_SFree_12) (hid b_SFree_50)
@[simp] def b_SFree_52 (_ : Unit) : EB := .seq (hid b_SFree_5) (hid b_SFree_51)
@[simp] def b_SFree_53 (_ : Unit) : EB := .seq (hid b_SFree_2) (hid b_SFree_52)
def c_SFree : EB × List QOp × Nat := ((hid b_SFree_53), [(.lda 5 (.t 6)), (.mov (.t 7))], 77)
theorem k_SFree : cfun Tryz.prog 112 = some c_SFree := by kernel_rfl


theorem cloneI_fz (l : List Int) (hl : l.length ≤ 100000000) : ECalls Tryz.prog 76 [IL l] [] fun y H' => H' = [] ∧ y = IL l := by
  have h := cloneI_ok l hl
  rw [show l.length = (intv l).length by simp] at h
  exact ecalls_frz h

theorem byHold_ok (p : Hol) (x : Int) : ECalls Tryz.prog 88 [.v (.agg (holC p)), I .i64 x] [] fun y H' => H' = [] ∧ y = I .i64 (cmpI p.id x) := by
  refine ecalls k_byHold ?_
  simp [c_byHold, I, holC]
  refine call0 (CmpI_ok p.id x) (by simp [Ptr, I, EV.lit]) ?_
  rintro y H' ⟨rfl, rfl⟩
  refine ⟨.inl (by simp [Ptr, I, EV.lit]), le_ok rfl, ?_⟩
  simp [Ptr, I, EV.lit]
  exact fin [] (by decide) rfl rfl rfl ⟨rfl, rfl⟩
theorem byHold_body : bodyOK Tryz.prog 88 = true := by kernel_rfl

set_option maxHeartbeats 4000000 in
theorem BinH_ok (l : List Hol) (x : Int) (hl : ∀ p ∈ l, p.ok) (hn : l.length ≤ 100000000) (hs : (l.map (·.id)).Pairwise (· < ·)) :
    ECalls Tryz.prog 87 [HL l, I .i64 x, .v (.c (.clo 88 []))] [] fun y H' => H' = [] ∧ y = .tup [.c (.fz (.lit (.int .i64 (posI (l.map (·.id)) x)))), .c (.fz (.lit (.bool (fndI (l.map (·.id)) x))))] := by
  obtain ⟨ids, hids⟩ : ∃ ids, l.map (·.id) = ids := ⟨_, rfl⟩
  rw [hids] at hs ⊢
  have idl : ids.length = l.length := by rw [← hids]; simp
  have hget : ∀ (k : Nat) (p : Hol), l[k]? = some p → ids[k]? = some p.id := fun k p h => by rw [← hids, List.getElem?_map, h]; rfl
  refine ecalls k_BinH ?_
  simp [c_BinH, I, HL]
  refine eloop (α := Nat × Nat) (fun a => a.1 ≤ a.2 ∧ a.2 ≤ l.length ∧ (∀ k y, k < a.1 → ids[k]? = some y → y < x) ∧ ∀ k y, a.2 ≤ k → ids[k]? = some y → x ≤ y) (fun a => a.2 - a.1)
    (fun a => [HL l, I .i64 x, .v (.c (.clo 88 [])), .any, .any, .any, .any, .any, I .i64 l.length, I .i64 a.1, I .i64 a.2, .any, .any, .any, .any, .any, .any, .any, .any, .any, .any, .any, .any, .any, .any, .any, .any, .any, .any, .any, .any, .any, .any, .any, .any, .any, .any, .any, .any, .any, .any, .any, .any, .any, .any, .any, .any, .any, .any]) (fun _ => []) (0, l.length) []
    ⟨by simp, Nat.le_refl _, by intro k y h; simp at h, by
      intro k y h hk
      have := lt_len hk
      simp at h; omega⟩ (by simp [I, HL]) (by simp) (by simp) (by simp) (by simp) ?_
  rintro ⟨i, j⟩ ⟨h1, h2, h3, h4⟩
  dsimp only at h1 h2 h3 h4
  simp [I, HL]
  refine alt (fun hlt => ?_) (fun hlt => ?_)
  · have hij : i < j := by omega
    obtain ⟨h, hh⟩ : ∃ h, (i + j) / 2 = h := ⟨_, rfl⟩
    have hl1 : i ≤ h := by omega
    have hl2 : h < j := by omega
    have hln : h < l.length := by omega
    obtain ⟨p, hc⟩ : ∃ p, l[h]? = some p := ⟨l[h], by simp [hln]⟩
    have hpo := hl p (List.mem_of_getElem? hc)
    have hcb := holv_get hc
    have hge : (holv l)[h]'(by simp [hln]) = holF p := by
      have e := hcb
      rw [List.getElem?_eq_getElem (by simp [hln])] at e
      exact Option.some.inj e
    have hpt := holC_take p
    have hpl : (holC p).length = 3 := rfl
    have hfl : (holF p).length = 3 := rfl
    have w0 : IntKind.i64.wrap ((i : Int) + (j : Int)) = ((i + j : Nat) : Int) := by rw [wrap_i64 (by omega) (by omega)]; omega
    have w1 : IntKind.u64.wrap ((i + j : Nat) : Int) = ((i + j : Nat) : Int) := wrap_u64 (by omega) (by omega)
    have w2 : ishr .u64 ((i + j : Nat) : Int) 1 = (h : Int) := by
      have e := ishr_nat .u64 (i + j) 1 (by decide)
      rw [show ((1 : Nat) : Int) = 1 from rfl] at e
      rw [e, ← hh]
    have w3 : IntKind.i64.wrap (h : Int) = (h : Int) := wrap_i64 (by omega) (by omega)
    have w4 : IntKind.i64.wrap ((h : Int) + 1) = ((h + 1 : Nat) : Int) := wrap_i64 (by omega) (by omega)
    simp [w0, w1, w2, w3, hln, hge, holF_fz, hpt, hpl, hfl, -Int.natCast_add]
    refine ⟨byHold_body, ?_⟩
    refine call0 (byHold_ok p x) (by simp [I]) ?_
    rintro y H' ⟨rfl, rfl⟩
    refine ⟨.inl (by simp [-List.flatMap_eq_nil_iff, I]), le_ok rfl, ?_⟩
    simp [I]
    have hcm : cmpI p.id x < 0 ↔ p.id < x := by unfold cmpI; split <;> (try split) <;> omega
    refine alt (fun hneg => ?_) (fun hneg => ?_)
    · have hpx := hcm.1 hneg
      simp [w4, -Int.natCast_add]
      refine round (h + 1, j) [] ⟨by dsimp only; omega, h2, ?_, h4⟩ (by dsimp only; omega) (by simp) (by simp) (by simp) (by simp) (by simp)
      intro k y hk hy
      dsimp only at hk
      rcases Nat.lt_or_ge k h with hkh | hkh
      · have := pw_get hs hkh hy (hget h p hc)
        omega
      · obtain rfl : k = h := by omega
        rw [hget k p hc] at hy
        obtain rfl := Option.some.inj hy
        exact hpx
    · have hpx : x ≤ p.id := by
        rcases Int.lt_or_le p.id x with q | q
        · exact absurd (hcm.2 q) hneg
        · exact q
      simp [-Int.natCast_add]
      refine round (i, h) [] ⟨hl1, by dsimp only; omega, h3, ?_⟩ (by dsimp only; omega) (by simp) (by simp) (by simp) (by simp) (by simp)
      intro k y hk hy
      dsimp only at hk
      rcases Nat.lt_or_ge h k with hkh | hkh
      · have := pw_get hs hkh (hget h p hc) hy
        omega
      · obtain rfl : k = h := by omega
        rw [hget k p hc] at hy
        obtain rfl := Option.some.inj hy
        exact hpx
  · obtain rfl : i = j := by omega
    have hpos : posI ids x = i := posI_eq (by omega) h3 fun y hy => h4 i y (Nat.le_refl _) hy
    rw [show fndI ids x = decide (ids[i]? = some x) by unfold fndI; rw [hpos], hpos]
    simp
    refine alt (fun hi => ?_) (fun hi => ?_)
    · have hln : i < l.length := by omega
      obtain ⟨p, hc⟩ : ∃ p, l[i]? = some p := ⟨l[i], by simp [hln]⟩
      have hpo := hl p (List.mem_of_getElem? hc)
      have hcb := holv_get hc
      have hge : (holv l)[i]'(by simp [hln]) = holF p := by
        have e := hcb
        rw [List.getElem?_eq_getElem (by simp [hln])] at e
        exact Option.some.inj e
      have hpt := holC_take p
      have hpl : (holC p).length = 3 := rfl
      have hfl : (holF p).length = 3 := rfl
      simp [hln, hge, holF_fz, hpt, hpl, hfl]
      refine ⟨byHold_body, ?_⟩
      refine call0 (byHold_ok p x) (by simp [I]) ?_
      rintro y H' ⟨rfl, rfl⟩
      refine ⟨.inl (by simp [-List.flatMap_eq_nil_iff, I]), le_ok rfl, ?_⟩
      simp [I]
      have hcm : cmpI p.id x = 0 ↔ ids[i]? = some x := by
        rw [hget i p hc]
        unfold cmpI
        simp only [Option.some.injEq]
        split <;> (try split) <;> omega
      rw [show decide (cmpI p.id x = 0) = decide (ids[i]? = some x) from decide_eq_decide.2 hcm]
      exact fin [] (by decide) rfl rfl rfl ⟨rfl, rfl⟩
    · have hnone : ids[i]? = none := List.getElem?_eq_none (by omega)
      simp [hi, hnone]
      exact fin [] (by decide) rfl rfl rfl ⟨rfl, rfl⟩

set_option maxHeartbeats 4000000 in
theorem SKeep_ok (s : Sta) (who : Int) (h : Hol) (hs : s.ok) (hw : i64 who) (hh : h.ok) : ECalls Tryz.prog 42 [SV s, I .i64 who, .v (.agg (holC h))] [] fun y H' => H' = [] ∧ y = SE (keeS s who h) := by
  obtain ⟨ok1, ok2, ok3, ok4, ok5, ok6, ok7⟩ := id hs
  obtain ⟨⟨p1, p1'⟩, ⟨p2, p2'⟩, p3, p4⟩ := id hh
  refine ecalls k_SKeep ?_
  simp [c_SKeep, SV, staC, hc0', I, -errV_0]
  by_cases h0 : mayS s = true ∧ s.num ≠ 1099511627776
  rotate_left
  · have hx : nxt s = (zSta, 1) := by simp only [nxt, if_neg h0]
    have ha : keeS s who h = (zSta, 1) := by simp [keeS, hx]
    rw [ha]
    refine call0 (next_ok s hs) (by simp [SV, staC]) ?_
    rintro y H' ⟨rfl, rfl⟩
    refine ⟨.inl (by simp), le_ok rfl, ?_⟩
    rw [hx]
    simp [SE, staC, zSta]
    refine finW _ (weak_nlB (o := 32) (k := 3) 36 rfl rfl) (finW _ (weak_nlB (o := 32) (k := 4) 3 rfl rfl) ?_)
    exact fin [] (by decide) rfl rfl rfl ⟨rfl, rfl⟩
  have hx : nxt s = (⟨s.num + 1, s.h0, s.h1, s.pays, s.holds⟩, 0) := by simp only [nxt, if_pos h0]
  obtain ⟨hr, hpl', hhl, htot⟩ := mayS_t h0.1
  have hpw := holL_pw hhl
  have tpv : List.take s.holds.length (holv s.holds) = holv s.holds := List.take_of_length_le (by simp)
  have hadd : keeS s who h = if ¬ (who = 0 ∨ who = 1) then (zSta, 33) else if h.am < 10 then (zSta, 27) else if mayH h = false then (zSta, 1)
      else if fndI (s.holds.map (·.id)) h.id = true then (zSta, 9) else if 8 ≤ s.pays.length + s.holds.length then (zSta, 30) else if sideS s who < h.am then (zSta, 20)
      else (⟨s.num + 1, if who = 0 then s.h0 - h.am else s.h0, if who = 0 then s.h1 else s.h1 - h.am, s.pays, insA Hol.id s.holds h⟩, 0) := by
    simp only [keeS, hx]
    rw [if_neg (by simp)]
  refine call0 (nextH_ok s hs h0) (by simp [SV, staC]) ?_
  rintro y H' ⟨rfl, rfl⟩
  refine ⟨.inl (by simp), le_ok rfl, ?_⟩
  simp [-errV_0]
  refine call0 (BinH_ok s.holds h.id ok5 ok7 hpw) (by simp [HL, I, tpv]) ?_
  rintro y H' ⟨rfl, rfl⟩
  refine ⟨.inr ⟨rfl, by simp⟩, le_ok rfl, ?_⟩
  obtain ⟨pos, hpos⟩ : ∃ pos, posI (s.holds.map (·.id)) h.id = pos := ⟨_, rfl⟩
  have hple : pos ≤ s.holds.length := by have := posI_le (s.holds.map (·.id)) h.id; rw [hpos] at this; simpa using this
  obtain ⟨fnd, hfnd⟩ : ∃ fnd, fndI (s.holds.map (·.id)) h.id = fnd := ⟨_, rfl⟩
  rw [hpos, hfnd]
  simp [-errV_0]
  refine call0 (side_ok who) (by simp [I]) ?_
  rintro y H' ⟨rfl, rfl⟩
  refine ⟨.inl (by simp), le_ok rfl, ?_⟩
  cases hb : decide (who = 0 ∨ who = 1)
  · have hb' := of_decide_eq_false hb
    rw [hadd, if_pos hb']
    simp [EV.lit, SE, staC, zSta]
    refine finW _ (weak_nlB (o := 32) (k := 3) 36 rfl rfl) (finW _ (weak_nlB (o := 32) (k := 4) 3 rfl rfl) ?_)
    exact fin [] (by decide) rfl rfl rfl ⟨rfl, rfl⟩
  have hb' := of_decide_eq_true hb
  rw [hadd, if_neg (by simp [hb']), hfnd]
  simp [EV.lit, -errV_0]
  refine alt (fun c1 => ?_) (fun c1 => ?_)
  · rw [if_pos c1]
    simp [EV.lit, SE, staC, zSta]
    refine finW _ (weak_nlB (o := 32) (k := 3) 36 rfl rfl) (finW _ (weak_nlB (o := 32) (k := 4) 3 rfl rfl) ?_)
    exact fin [] (by decide) rfl rfl rfl ⟨rfl, rfl⟩
  rw [if_neg c1]
  simp [-errV_0]
  refine call0 (Hmay_ok h p4) (by simp [hc0']) ?_
  rintro y H' ⟨rfl, rfl⟩
  refine ⟨.inl (by simp [-List.flatMap_eq_nil_iff]), le_ok rfl, ?_⟩
  cases hm : mayH h
  · rw [if_pos rfl]
    simp [EV.lit, SE, staC, zSta]
    refine finW _ (weak_nlB (o := 32) (k := 3) 36 rfl rfl) (finW _ (weak_nlB (o := 32) (k := 4) 3 rfl rfl) ?_)
    exact fin [] (by decide) rfl rfl rfl ⟨rfl, rfl⟩
  rw [if_neg (by simp)]
  cases fnd
  rotate_left
  · rw [if_pos rfl]
    simp [EV.lit, SE, staC, zSta]
    refine finW _ (weak_nlB (o := 32) (k := 3) 36 rfl rfl) (finW _ (weak_nlB (o := 32) (k := 4) 3 rfl rfl) ?_)
    exact fin [] (by decide) rfl rfl rfl ⟨rfl, rfl⟩
  rw [if_neg (by simp)]
  simp [EV.lit, -errV_0]
  refine call0 (Sslots_ok ⟨s.num + 1, s.h0, s.h1, s.pays, s.holds⟩ (nxt_ok hs h0.1)) (by simp [SV, staC, tpv]) ?_
  rintro y H' ⟨rfl, rfl⟩
  refine ⟨.inr ⟨rfl, by simp⟩, le_ok rfl, ?_⟩
  simp [I, -errV_0]
  refine alt (fun c2 => ?_) (fun c2 => ?_)
  · rw [if_pos (by omega)]
    simp [EV.lit, SE, staC, zSta]
    refine finW _ (weak_nlB (o := 32) (k := 3) 36 rfl rfl) (finW _ (weak_nlB (o := 32) (k := 4) 3 rfl rfl) ?_)
    exact fin [] (by decide) rfl rfl rfl ⟨rfl, rfl⟩
  rw [if_neg (by omega)]
  have hins := InsH.ins_ok (holv s.holds) (holF h) pos (by simpa using hple) (by simp; omega)
  simp [holF] at hins
  have hpv : holv (insA Hol.id s.holds h) = (holv s.holds).take pos ++ holF h :: (holv s.holds).drop pos := by rw [holv_ins, hpos]
  have hpl1 : (insA Hol.id s.holds h).length = s.holds.length + 1 := len_ins Hol.id s.holds h
  have hpt2 : List.take (s.holds.length + 1) (holv (insA Hol.id s.holds h)) = holv (insA Hol.id s.holds h) := List.take_of_length_le (by simp [hpl1])
  rcases hb' with rfl | rfl
  · simp [EV.lit, -errV_0]
    refine alt (fun c3 => ?_) (fun c3 => ?_)
    · rw [if_pos (by simpa [sideS] using c3)]
      simp [EV.lit, SE, staC, zSta]
      refine finW _ (weak_nlB (o := 32) (k := 3) 36 rfl rfl) (finW _ (weak_nlB (o := 32) (k := 4) 3 rfl rfl) ?_)
      exact fin [] (by decide) rfl rfl rfl ⟨rfl, rfl⟩
    rw [if_neg (by simpa [sideS] using c3)]
    have w1 : IntKind.i64.wrap (s.h0 - h.am) = s.h0 - h.am := wrap_i64 (by omega) (by omega)
    simp [EV.lit, w1, -errV_0]
    refine call0 (cloneI_fz h.keys p4) (by simp [IL]) ?_
    rintro y H' ⟨rfl, rfl⟩
    refine ⟨.inl (by simp), le_ok rfl, ?_⟩
    simp [IL, -errV_0]
    refine callH [80, 1104] hins (by simp) (by simp) (by simp) (by simp) (by simp) ?_
    rintro y H' ⟨rfl, rfl⟩
    refine ⟨.inl (by simp), by simp, ?_⟩
    simp [-errV_0]
    refine finW _ (weak_frz (o := 1120) (ty := 124) (es := 3) (xs := holv (insA Hol.id s.holds h)) (by rw [hpv]; rfl)) ?_
    exact fin [] (by decide) rfl rfl rfl ⟨rfl, by simp [SE, staC, hpl1, hpt2, errV, -errV_0]⟩
  · simp [EV.lit, -errV_0]
    refine alt (fun c3 => ?_) (fun c3 => ?_)
    · rw [if_pos (by simpa [sideS] using c3)]
      simp [EV.lit, SE, staC, zSta]
      refine finW _ (weak_nlB (o := 32) (k := 3) 36 rfl rfl) (finW _ (weak_nlB (o := 32) (k := 4) 3 rfl rfl) ?_)
      exact fin [] (by decide) rfl rfl rfl ⟨rfl, rfl⟩
    rw [if_neg (by simpa [sideS] using c3)]
    have w1 : IntKind.i64.wrap (s.h1 - h.am) = s.h1 - h.am := wrap_i64 (by omega) (by omega)
    simp [EV.lit, w1, -errV_0]
    refine call0 (cloneI_fz h.keys p4) (by simp [IL]) ?_
    rintro y H' ⟨rfl, rfl⟩
    refine ⟨.inl (by simp), le_ok rfl, ?_⟩
    simp [IL, -errV_0]
    refine callH [80, 1104] hins (by simp) (by simp) (by simp) (by simp) (by simp) ?_
    rintro y H' ⟨rfl, rfl⟩
    refine ⟨.inl (by simp), by simp, ?_⟩
    simp [-errV_0]
    refine finW _ (weak_frz (o := 1120) (ty := 124) (es := 3) (xs := holv (insA Hol.id s.holds h)) (by rw [hpv]; rfl)) ?_
    exact fin [] (by decide) rfl rfl rfl ⟨rfl, by simp [SE, staC, hpl1, hpt2, errV, -errV_0]⟩

set_option maxHeartbeats 4000000 in
theorem SFree_ok (s : Sta) (x a : Int) (hs : s.ok) (hx64 : i64 x) (ha64 : i64 a) : ECalls Tryz.prog 112 [SV s, I .i64 x, I .i64 a] [] fun y H' => H' = [] ∧ y = SE (freS s x a) := by
  obtain ⟨ok1, ok2, ok3, ok4, ok5, ok6, ok7⟩ := id hs
  refine ecalls k_SFree ?_
  simp [c_SFree, SV, staC, I, -errV_0]
  by_cases h0 : mayS s = true ∧ s.num ≠ 1099511627776
  rotate_left
  · have hx : nxt s = (zSta, 1) := by simp only [nxt, if_neg h0]
    have ha : freS s x a = (zSta, 1) := by simp [freS, hx]
    rw [ha]
    refine call0 (next_ok s hs) (by simp [SV, staC]) ?_
    rintro y H' ⟨rfl, rfl⟩
    refine ⟨.inl (by simp), le_ok rfl, ?_⟩
    rw [hx]
    simp [SE, staC, zSta]
    refine finW _ (weak_nlB (o := 16) (k := 3) 36 rfl rfl) (finW _ (weak_nlB (o := 16) (k := 4) 3 rfl rfl) ?_)
    exact fin [] (by decide) rfl rfl rfl ⟨rfl, rfl⟩
  have hx : nxt s = (⟨s.num + 1, s.h0, s.h1, s.pays, s.holds⟩, 0) := by simp only [nxt, if_pos h0]
  obtain ⟨hr, hpl', hhl, htot⟩ := mayS_t h0.1
  have hpw := holL_pw hhl
  have tpv : List.take s.holds.length (holv s.holds) = holv s.holds := List.take_of_length_le (by simp)
  refine call0 (nextH_ok s hs h0) (by simp [SV, staC]) ?_
  rintro y H' ⟨rfl, rfl⟩
  refine ⟨.inl (by simp), le_ok rfl, ?_⟩
  simp [-errV_0]
  refine call0 (BinH_ok s.holds x ok5 ok7 hpw) (by simp [HL, I, tpv]) ?_
  rintro y H' ⟨rfl, rfl⟩
  refine ⟨.inr ⟨rfl, by simp⟩, le_ok rfl, ?_⟩
  simp [-errV_0]
  cases hf : fndI (s.holds.map (·.id)) x
  · have hne : (s.holds.map (·.id))[posI (s.holds.map (·.id)) x]? ≠ some x := of_decide_eq_false hf
    have ha : freS s x a = (zSta, 8) := by
      simp only [freS, hx]
      rw [if_neg (by simp)]
      split
      · rfl
      · rename_i h hc
        rw [List.getElem?_map, hc] at hne
        rw [if_pos (by simpa using hne)]
    rw [ha]
    simp [SE, staC, zSta]
    refine finW _ (weak_nlB (o := 16) (k := 3) 36 rfl rfl) (finW _ (weak_nlB (o := 16) (k := 4) 3 rfl rfl) ?_)
    exact fin [] (by decide) rfl rfl rfl ⟨rfl, rfl⟩
  obtain ⟨h, hc, hid⟩ := fnd_get (f := Hol.id) hf
  have hfr : freS s x a = if a < 0 ∨ h.am < a then (zSta, 20) else (⟨s.num + 1, s.h0 + a, s.h1 + (h.am - a), s.pays, delA Hol.id s.holds x⟩, 0) := by
    simp only [freS, hx, hc]
    rw [if_neg (by simp), if_neg (by simp [hid])]
  have hpv0 := holv_del s.holds x
  have hpl1 : (delA Hol.id s.holds x).length = s.holds.length - 1 := len_del hc
  obtain ⟨pos, hpos⟩ : ∃ pos, posI (s.holds.map (·.id)) x = pos := ⟨_, rfl⟩
  rw [hpos] at hc hpv0 ⊢
  have hlt : pos < s.holds.length := lt_len hc
  have hge : (holv s.holds)[pos]'(by simp [hlt]) = holF h := by
    have e := holv_get hc
    rw [List.getElem?_eq_getElem (by simp [hlt])] at e
    exact Option.some.inj e
  have hpt2 : List.take (s.holds.length - 1) (holv (delA Hol.id s.holds x)) = holv (delA Hol.id s.holds x) := List.take_of_length_le (by simp [hpl1])
  have hdel := InsH.del_ok (holv s.holds) pos (by simpa using hlt)
  simp at hdel
  have w1 : IntKind.i64.wrap ((pos : Int) + 1) = (pos : Int) + 1 := wrap_i64 (by omega) (by omega)
  have hle := holL_sum hhl h (List.mem_of_getElem? hc)
  have hma := mayH_am (holL_mem hhl h (List.mem_of_getElem? hc))
  have hnn := sumP_nn hpl'
  have hto : total s = s.h0 + s.h1 + sumP s.pays + sumH s.holds := rfl
  rw [hfr]
  by_cases c1 : a < 0
  · rw [if_pos (.inl c1)]
    simp [c1, show ¬ 0 ≤ a by omega, -errV_0]
    refine finW _ (weak_nlB (o := 16) (k := 3) 36 rfl rfl) (finW _ (weak_nlB (o := 16) (k := 4) 3 rfl rfl) ?_)
    exact fin [] (by decide) rfl rfl rfl ⟨rfl, rfl⟩
  by_cases c2 : h.am < a
  · rw [if_pos (.inr c2)]
    simp [c1, show 0 ≤ a by omega, c2, hlt, hge, holF, -errV_0]
    refine finW _ (weak_nlB (o := 16) (k := 3) 36 rfl rfl) (finW _ (weak_nlB (o := 16) (k := 4) 3 rfl rfl) ?_)
    exact fin [] (by decide) rfl rfl rfl ⟨rfl, rfl⟩
  rw [if_neg (by omega)]
  have w2 : IntKind.i64.wrap (s.h0 + a) = s.h0 + a := wrap_i64 (by omega) (by omega)
  have w3 : IntKind.i64.wrap (h.am - a) = h.am - a := wrap_i64 (by omega) (by omega)
  have w4 : IntKind.i64.wrap (s.h1 + (h.am - a)) = s.h1 + (h.am - a) := wrap_i64 (by omega) (by omega)
  simp [c1, c2, show 0 ≤ a by omega, hlt, hge, holF, w1, w2, w3, w4, -errV_0]
  refine callH [64] hdel (by simp) (by simp) (by simp) (by simp) (by simp) ?_
  rintro y H' ⟨rfl, rfl⟩
  refine ⟨.inl (by simp), by simp, ?_⟩
  simp [-errV_0]
  refine finW _ (weak_frz (o := 1056) (ty := 124) (es := 3) (xs := holv (delA Hol.id s.holds x)) (by rw [hpv0]; rfl)) ?_
  exact fin [] (by decide) rfl rfl rfl ⟨rfl, by simp [SE, staC, hpl1, hpt2, errV, -errV_0]⟩

end Go.Proofs.YtejjhgdnmknejaaGreatDoor

namespace Go.Proofs.YtejjhgdnmknejaaGreatDoor
open Go Go.EW
set_option linter.unusedSimpArgs false
set_option linter.unusedVariables false

@[simp] def l_VOpen_1 (_ : Unit) : List EOp := [⟨0, (some 4), none, (.q (.box 44 (.t 0))), []⟩, ⟨1, (some 6), none, (.q (.box 49 (.t 2))), []⟩, ⟨2, (some 7), none, (.q (.box 49 (.t 3))), []⟩, ⟨3, (some 8), none, (.q (.alloc 49 [(.int .i64 0), (.int .i64 0), (.int .i64 0), (.slice none 0 0), (.slice none 0 0)])), []⟩, ⟨4, (some 9), none, (.q (.alloc 49 [(.int .i64 0), (.int .i64 0), (.int .i64 0), (.slice none 0 0), (.slice none 0 0)])), []⟩, ⟨5, (some 10), none, (.q (.mov (.k .nilIface))), []⟩]
@[simp] def b_VOpen_2 (_ : Unit) : EB := reg0 (hid l_VOpen_1) 6
@[simp] def l_VOpen_3 (_ : Unit) : List EOp := [⟨0, (some 17), none, (.q (.lda 81 (.t 4))), []⟩, ⟨1, (some 18), none, (.call 15 [(.t 17)]), []⟩, ⟨2, (some 11), none, (.q (.mov (.t 18))), []⟩]
@[simp] def b_VOpen_4 (_ : Unit) : EB := reg0 (hid l_VOpen_3) 3
@[simp] def l_VOpen_5 (_ : Unit) : List EOp := [⟨0, (some 19), none, (.q (.mov (.t 11))), []⟩, ⟨1, (some 20), none, (.q (.eqi true (.t 19))), []⟩]
@[simp] def b_VOpen_6 (_ : Unit) : EB := reg0 (hid l_VOpen_5) 2
@[simp] def l_VOpen_7 (_ : Unit) : List EOp := [⟨0, (some 21), none, (.q (.build [(.int .i64 0), (.int .i64 0), (.int .i64 0), (.slice none 0 0), (.slice none 0 0)] [])), []⟩, ⟨1, (some 22), none, (.q (.build [(.int .i64 0), (.int .i64 0), (.int .i64 0), (.slice none 0 0), (.slice none 0 0)] [])), []⟩, ⟨2, (some 23), none, (.q (.mov (.t 11))), []⟩, ⟨3, none, none, (.fz (.sto 5 (.t 8) (.t 21))), []⟩, ⟨4, none, none, (.fz (.sto 5 (.t 9) (.t 22))), []⟩, ⟨5, (some 10), none, (.q (.mov (.t 23))), []⟩]
@[simp] def b_VOpen_8 (_ : Unit) : EB := reg0 (hid l_VOpen_7) 6
@[simp] def b_VOpen_9 (_ : Unit) : EB := .seq (hid b_VOpen_8) .ret
@[simp] def b_VOpen_10 (_ : Unit) : EB := .cond (.t 20) (hid b_VOpen_9) .skip
@[simp] def b_VOpen_11 (_ : Unit) : EB := .seq (hid b_VOpen_6) (hid b_VOpen_10)
@[simp] def b_VOpen_12 (_ : Unit) : EB := .seq (hid b_VOpen_4) (hid b_VOpen_11)
@[simp] def l_VOpen_14 (_ : Unit) : List EOp := [⟨6, (some 13), none, (.q (.mov (.t 28))), []⟩]
@[simp] def l_VOpen_13 (_ : Unit) : List EOp := ⟨0, (some 25), none, (.q (.lda 81 (.t 4))), []⟩ :: ⟨1, (some 26), none, (.call 41 [(.t 25)]), []⟩ :: ⟨2, (some 24), none, (.q (.mov (.t 26))), []⟩ :: ⟨3, (some 27), none, (.q (.ext 0 (.t 24))), []⟩ :: ⟨4, (some 28), none, (.q (.ext 1 (.t 24))), []⟩ :: ⟨5, (some 12), none, (.q (.mov (.t 27))), []⟩ :: hid l_VOpen_14
@[simp] def b_VOpen_15 (_ : Unit) : EB := reg0 (hid l_VOpen_13) 7
@[simp] def l_VOpen_17 (_ : Unit) : List EOp := [⟨5, (some 35), none, (.call 42 [(.t 30), (.t 31), (.t 34)]), [9]⟩, ⟨6, (some 29), none, (.q (.mov (.t 35))), []⟩, ⟨7, (some 36), none, (.q (.ext 0 (.t 29))), []⟩, ⟨8, (some 37), none, (.q (.ext 1 (.t 29))), []⟩, ⟨10, none, none, (.fz (.sto 5 (.t 14) (.t 36))), [8]⟩, ⟨11, (some 15), none, (.q (.mov (.t 37))), []⟩]
@[simp] def l_VOpen_16 (_ : Unit) : List EOp := ⟨0, (some 30), none, (.q (.lda 5 (.t 6))), []⟩ :: ⟨1, (some 31), none, (.q (.mov (.t 12))), []⟩ :: ⟨2, (some 32), none, (.q (.lda 81 (.t 4))), []⟩ :: ⟨3, (some 33), none, (.q (.mov (.t 1))), []⟩ :: ⟨9, (some 14), none, (.q (.alloc 49 [(.int .i64 0), (.int .i64 0), (.int .i64 0), (.slice none 0 0), (.slice none 0 0)])), []⟩ :: ⟨4, (some 34), none, (.call 43 [(.t 32), (.t 33)]), [0, 1, 9]⟩ :: hid l_VOpen_17
@[simp] def b_VOpen_18 (_ : Unit) : EB := reg1 (hid l_VOpen_16) 12
@[simp] def l_VOpen_19 (_ : Unit) : List EOp := [⟨0, (some 38), none, (.q (.mov (.t 15))), []⟩, ⟨1, (some 39), none, (.q (.eqi true (.t 38))), []⟩]
@[simp] def b_VOpen_20 (_ : Unit) : EB := reg0 (hid l_VOpen_19) 2
@[simp] def l_VOpen_21 (_ : Unit) : List EOp := [⟨0, (some 40), none, (.q (.build [(.int .i64 0), (.int .i64 0), (.int .i64 0), (.slice none 0 0), (.slice none 0 0)] [])), []⟩, ⟨1, (some 41), none, (.q (.build [(.int .i64 0), (.int .i64 0), (.int .i64 0), (.slice none 0 0), (.slice none 0 0)] [])), []⟩, ⟨2, (some 42), none, (.q (.mov (.t 15))), []⟩, ⟨3, none, none, (.fz (.sto 5 (.t 8) (.t 40))), []⟩, ⟨4, none, none, (.fz (.sto 5 (.t 9) (.t 41))), []⟩, ⟨5, (some 10), none, (.q (.mov (.t 42))), []⟩]
@[simp] def b_VOpen_22 (_ : Unit) : EB := reg0 (hid l_VOpen_21) 6
@[simp] def b_VOpen_23 (_ : Unit) : EB := .seq (hid b_VOpen_22) .ret
@[simp] def b_VOpen_24 (_ : Unit) : EB := .cond (.t 39) (hid b_VOpen_23) .skip
@[simp] def b_VOpen_25 (_ : Unit) : EB := .seq (hid b_VOpen_20) (hid b_VOpen_24)
@[simp] def l_VOpen_27 (_ : Unit) : List EOp := [⟨5, (some 49), none, (.call 42 [(.t 44), (.t 45), (.t 48)]), [9]⟩, ⟨6, (some 43), none, (.q (.mov (.t 49))), []⟩, ⟨7, (some 50), none, (.q (.ext 0 (.t 43))), []⟩, ⟨8, (some 51), none, (.q (.ext 1 (.t 43))), []⟩, ⟨10, none, none, (.fz (.sto 5 (.t 16) (.t 50))), [8]⟩, ⟨11, (some 15), none, (.q (.mov (.t 51))), []⟩]
@[simp] def l_VOpen_26 (_ : Unit) : List EOp := ⟨0, (some 44), none, (.q (.lda 5 (.t 7))), []⟩ :: ⟨1, (some 45), none, (.q (.mov (.t 13))), []⟩ :: ⟨2, (some 46), none, (.q (.lda 81 (.t 4))), []⟩ :: ⟨3, (some 47), none, (.q (.mov (.t 1))), []⟩ :: ⟨9, (some 16), none, (.q (.alloc 49 [(.int .i64 0), (.int .i64 0), (.int .i64 0), (.slice none 0 0), (.slice none 0 0)])), []⟩ :: ⟨4, (some 48), none, (.call 43 [(.t 46), (.t 47)]), [0, 1, 9]⟩ :: hid l_VOpen_27
@[simp] def b_VOpen_28 (_ : Unit) : EB := reg1 (hid l_VOpen_26) 12
@[simp] def l_VOpen_29 (_ : Unit) : List EOp := [⟨0, (some 52), none, (.q (.mov (.t 15))), []⟩, ⟨1, (some 53), none, (.q (.eqi true (.t 52))), []⟩]
@[simp] def b_VOpen_30 (_ : Unit) : EB := reg0 (hid l_VOpen_29) 2
@[simp] def l_VOpen_31 (_ : Unit) : List EOp := [⟨0, (some 54), none, (.q (.build [(.int .i64 0), (.int .i64 0), (.int .i64 0), (.slice none 0 0), (.slice none 0 0)] [])), []⟩, ⟨1, (some 55), none, (.q (.build [(.int .i64 0), (.int .i64 0), (.int .i64 0), (.slice none 0 0), (.slice none 0 0)] [])), []⟩, ⟨2, (some 56), none, (.q (.mov (.t 15))), []⟩, ⟨3, none, none, (.fz (.sto 5 (.t 8) (.t 54))), []⟩, ⟨4, none, none, (.fz (.sto 5 (.t 9) (.t 55))), []⟩, ⟨5, (some 10), none, (.q (.mov (.t 56))), []⟩]
@[simp] def b_VOpen_32 (_ : Unit) : EB := reg0 (hid l_VOpen_31) 6
@[simp] def b_VOpen_33 (_ : Unit) : EB := .seq (hid b_VOpen_32) .ret
@[simp] def b_VOpen_34 (_ : Unit) : EB := .cond (.t 53) (hid b_VOpen_33) .skip
@[simp] def b_VOpen_35 (_ : Unit) : EB := .seq (hid b_VOpen_30) (hid b_VOpen_34)
@[simp] def l_VOpen_36 (_ : Unit) : List EOp := [⟨0, (some 57), none, (.q (.lda 5 (.t 14))), []⟩, ⟨1, (some 58), none, (.q (.lda 5 (.t 16))), []⟩, ⟨2, none, none, (.fz (.sto 5 (.t 8) (.t 57))), [1]⟩, ⟨3, none, none, (.fz (.sto 5 (.t 9) (.t 58))), []⟩, ⟨4, (some 10), none, (.q (.mov (.k .nilIface))), []⟩]
@[simp] def b_VOpen_37 (_ : Unit) : EB := reg1 (hid l_VOpen_36) 5
@[simp] def b_VOpen_38 (_ : Unit) : EB := .seq (hid b_VOpen_37) .ret
@[simp] def b_VOpen_39 (_ : Unit) : EB := .seq (hid b_VOpen_35) (hid b_VOpen_38)
@[simp] def b_VOpen_40 (_ : Unit) : EB := .seq (hid b_VOpen_28) (hid b_VOpen_39)
@[simp] def b_VOpen_41 (_ : Unit) : EB := .seq (hid b_VOpen_25) (hid b_VOpen_40)
@[simp] def b_VOpen_42 (_ : Unit) : EB := .seq (hid b_VOpen_18) (hid b_VOpen_41)
@[simp] def b_VOpen_43 (_ : Unit) : EB := .seq (hid b_VOpen_15) (hid b_VOpen_42)
@[simp] def b_VOpen_44 (_ : Unit) : EB := .seq (hid b_VOpen_12) (hid b_VOpen_43)
@[simp] def b_VOpen_45 (_ : Unit) : EB := .seq (hid b_VOpen_2) (hid b_VOpen_44)
def c_VOpen : EB × List QOp × Nat := ((hid b_VOpen_45), [(.lda 5 (.t 8)), (.lda 5 (.t 9)), (.mov (.t 10))], 59)
theorem k_VOpen : cfun Tryz.prog 10 = some c_VOpen := by kernel_rfl


theorem swS_i64 {l : List Int} {j : Nat} (h : ∀ x ∈ l, i64 x) : ∀ x ∈ swS l j, i64 x := by
  have hz : i64 0 := by simp [i64]
  have hd : ∀ k : Nat, i64 ((l[k]?).getD 0) := by
    intro k
    cases hk : l[k]? with
    | none => exact hz
    | some y => exact h y (List.mem_of_getElem? hk)
  intro x hx
  unfold swS at hx
  rcases List.mem_or_eq_of_mem_set hx with hx | rfl
  · rcases List.mem_or_eq_of_mem_set hx with hx | rfl
    · exact h x hx
    · exact hd _
  · exact hd _
theorem sinkS_i64 : ∀ (j : Nat) {l : List Int}, (∀ x ∈ l, i64 x) → ∀ x ∈ sinkS j l, i64 x
  | 0, l, h => h
  | j + 1, l, h => by
    unfold sinkS
    split
    · exact sinkS_i64 j (swS_i64 h)
    · exact h
theorem srt_i64 {l : List Int} (h : ∀ x ∈ l, i64 x) : ∀ x ∈ srt l, i64 x := sinkS_i64 2 (sinkS_i64 1 h)
theorem holV_ok {r : Rte} {id' : Int} (hr : r.ok) (hi : i64 id') : (holV r id').ok := by
  obtain ⟨_, _, ha, hb, hc, hm, _⟩ := hr
  refine ⟨hi, hm, ?_, ?_⟩
  · refine srt_i64 (l := [r.a, r.b, r.c]) ?_
    intro x hx
    simp only [List.mem_cons, List.mem_nil_iff, or_false] at hx
    rcases hx with rfl | rfl | rfl
    · exact ha
    · exact hb
    · exact hc
  · show (srt [r.a, r.b, r.c]).length ≤ _
    rw [srt_len]
    simp
theorem sid_i64 (a b x : Int) : i64 (sid a b x) := by
  unfold sid
  split
  · simp [i64]
  · split <;> simp [i64]
/-- Both channels' states behind a route is opened; the error. -/
def opnS (r : Rte) (id' : Int) (s t : Sta) : Sta × Sta × Nat :=
  if chkV r ≠ 0 then (zSta, zSta, chkV r)
  else if (keeS s (sid r.f.k0 r.f.k1 r.a) (holV r id')).2 ≠ 0 then (zSta, zSta, (keeS s (sid r.f.k0 r.f.k1 r.a) (holV r id')).2)
  else if (keeS t (sid r.s.k0 r.s.k1 r.b) (holV r id')).2 ≠ 0 then (zSta, zSta, (keeS t (sid r.s.k0 r.s.k1 r.b) (holV r id')).2)
  else ((keeS s (sid r.f.k0 r.f.k1 r.a) (holV r id')).1, (keeS t (sid r.s.k0 r.s.k1 r.b) (holV r id')).1, 0)
def SSE (q : Sta × Sta × Nat) : EV := .tup [.agg (staC q.1), .agg (staC q.2.1), .c (.fz (.lit (errV q.2.2)))]
theorem hke (s : Sta) (k : Int) (r : Rte) (id' : Int) (hs : s.ok) (hk : i64 k) (hr : r.ok) (hi : i64 id') : ECalls Tryz.prog 42 [SV s, I .i64 k, .v (.agg [iC id', iC r.am, .row 0 3])] [.row 3 1 (intv (srt [r.a, r.b, r.c]))] fun y H' => H' = [none] ∧ y = SE (keeS s k (holV r id')) := by
  have hl : List.take 3 (intv (srt [r.a, r.b, r.c])) = intv (srt [r.a, r.b, r.c]) := List.take_of_length_le (by simp [srt_len])
  exact ecalls_thaw (SKeep_ok s k (holV r id') hs hk (holV_ok hr hi)) (by simp [SV, staC, I, hc0', holV, iC, hl])

set_option maxHeartbeats 8000000 in
theorem VOpen_ok (r : Rte) (id' : Int) (s t : Sta) (hr : r.ok) (hi : i64 id') (hs : s.ok) (ht : t.ok) : ECalls Tryz.prog 10 [RVv r, I .i64 id', SV s, SV t] [] fun y H' => H' = [] ∧ y = SSE (opnS r id' s t) := by
  obtain ⟨⟨h1, _⟩, ⟨h2, _⟩, _⟩ := id hr
  have l0 := rteC_len h1 h2
  have t0 := rt_take h1 h2
  refine ecalls k_VOpen ?_
  simp [c_VOpen, RVv, I, SV, staC, l0, t0, -errV_0]
  refine call0 (VCheck_ok r hr) (by simp [RVv]) ?_
  rintro y H' ⟨rfl, rfl⟩
  refine ⟨.inl (by simp), le_ok rfl, ?_⟩
  by_cases c0 : chkV r = 0
  rotate_left
  · have hv : opnS r id' s t = (zSta, zSta, chkV r) := by unfold opnS; rw [if_pos c0]
    rw [hv]
    simp [SSE, staC, zSta, c0, -errV_0]
    refine finW _ (weak_nlB (o := 48) (k := 3) 36 rfl rfl) (finW _ (weak_nlB (o := 48) (k := 4) 3 rfl rfl) (finW _ (weak_nlB (o := 64) (k := 3) 36 rfl rfl) (finW _ (weak_nlB (o := 64) (k := 4) 3 rfl rfl) ?_)))
    exact fin [] (by decide) rfl rfl rfl ⟨rfl, rfl⟩
  simp [c0, l0, t0, -errV_0]
  refine call0 (Vsides_ok r hr) (by simp [RVv]) ?_
  rintro y H' ⟨rfl, rfl⟩
  refine ⟨.inl (by simp [iC]), le_ok rfl, ?_⟩
  simp [iC, l0, t0, -errV_0]
  refine call0 (Vhold_ok r id' hr) (by simp [RVv, I]) ?_
  rintro y H' ⟨rfl, rfl⟩
  refine ⟨.inl (by simp), by simp, ?_⟩
  simp [iC, -errV_0]
  have hk1 := hke s (sid r.f.k0 r.f.k1 r.a) r id' hs (sid_i64 _ _ _) hr hi
  have hk2 := hke t (sid r.s.k0 r.s.k1 r.b) r id' ht (sid_i64 _ _ _) hr hi
  obtain ⟨A, hA⟩ : ∃ A, keeS s (sid r.f.k0 r.f.k1 r.a) (holV r id') = A := ⟨_, rfl⟩
  obtain ⟨B, hB⟩ : ∃ B, keeS t (sid r.s.k0 r.s.k1 r.b) (holV r id') = B := ⟨_, rfl⟩
  rw [hA] at hk1
  rw [hB] at hk2
  have ho : opnS r id' s t = if A.2 ≠ 0 then (zSta, zSta, A.2) else if B.2 ≠ 0 then (zSta, zSta, B.2) else (A.1, B.1, 0) := by unfold opnS; rw [if_neg (by simpa using c0), hA, hB]
  rw [ho]
  refine callH [352] hk1 (by simp [SV, staC, I, iC]) (by simp) (by simp) (by simp) (by simp) ?_
  rintro y H' ⟨rfl, rfl⟩
  refine ⟨.inl (by simp), by simp, ?_⟩
  by_cases c1 : A.2 = 0
  rotate_left
  · rw [if_pos c1]
    simp [SE, SSE, staC, zSta, c1, -errV_0]
    refine finW _ (weak_nlB (o := 48) (k := 3) 36 rfl rfl) (finW _ (weak_nlB (o := 48) (k := 4) 3 rfl rfl) (finW _ (weak_nlB (o := 64) (k := 3) 36 rfl rfl) (finW _ (weak_nlB (o := 64) (k := 4) 3 rfl rfl) ?_)))
    exact fin [] (by decide) rfl rfl rfl ⟨rfl, rfl⟩
  rw [if_neg (by simpa using c1)]
  obtain ⟨Q, hQ⟩ : ∃ Q, (if B.2 ≠ 0 then (zSta, zSta, B.2) else (A.1, B.1, 0)) = Q := ⟨_, rfl⟩
  rw [hQ]
  simp [SE, staC, c1, l0, t0, -errV_0]
  refine call0 (Vhold_ok r id' hr) (by simp [RVv, I]) ?_
  rintro y H' ⟨rfl, rfl⟩
  refine ⟨.inl (by simp), by simp, ?_⟩
  simp [iC, -errV_0]
  refine callH [576] hk2 (by simp [SV, staC, I, iC]) (by simp) (by simp) (by simp) (by simp) ?_
  rintro y H' ⟨rfl, rfl⟩
  refine ⟨.inl (by simp), by simp, ?_⟩
  by_cases c2 : B.2 = 0
  rotate_left
  · rw [if_pos c2] at hQ
    rw [← hQ]
    simp [SE, SSE, staC, zSta, c2, -errV_0]
    refine finW _ (weak_nlB (o := 48) (k := 3) 36 rfl rfl) (finW _ (weak_nlB (o := 48) (k := 4) 3 rfl rfl) (finW _ (weak_nlB (o := 64) (k := 3) 36 rfl rfl) (finW _ (weak_nlB (o := 64) (k := 4) 3 rfl rfl) ?_)))
    exact fin [] (by decide) rfl rfl rfl ⟨rfl, rfl⟩
  rw [if_neg (by simpa using c2)] at hQ
  rw [← hQ]
  simp [SE, SSE, staC, c2, -errV_0]
  exact fin [] (by decide) rfl rfl rfl ⟨rfl, rfl⟩

end Go.Proofs.YtejjhgdnmknejaaGreatDoor

namespace Go.Proofs.YtejjhgdnmknejaaGreatDoor
open Go Go.EW
set_option linter.unusedSimpArgs false
set_option linter.unusedVariables false

@[simp] def l_EqI_1 (_ : Unit) : List EOp := [⟨0, (some 4), none, (.q (.mov (.k (.bool false)))), []⟩]
@[simp] def b_EqI_2 (_ : Unit) : EB := reg0 (hid l_EqI_1) 1
@[simp] def l_EqI_3 (_ : Unit) : List EOp := [⟨0, (some 6), none, (.q (.mov (.t 0))), []⟩, ⟨1, (some 7), none, (.q (.len (.t 6))), []⟩, ⟨2, (some 8), none, (.q (.mov (.t 1))), []⟩, ⟨3, (some 9), none, (.q (.len (.t 8))), []⟩, ⟨4, (some 10), none, (.q (.bin .neq (.t 7) (.t 9))), []⟩]
@[simp] def b_EqI_4 (_ : Unit) : EB := reg0 (hid l_EqI_3) 5
@[simp] def l_EqI_5 (_ : Unit) : List EOp := [⟨0, (some 4), none, (.q (.mov (.k (.bool false)))), []⟩]
@[simp] def b_EqI_6 (_ : Unit) : EB := reg0 (hid l_EqI_5) 1
@[simp] def b_EqI_7 (_ : Unit) : EB := .seq (hid b_EqI_6) .ret
@[simp] def b_EqI_8 (_ : Unit) : EB := .cond (.t 10) (hid b_EqI_7) .skip
@[simp] def b_EqI_9 (_ : Unit) : EB := .seq (hid b_EqI_4) (hid b_EqI_8)
@[simp] def l_EqI_10 (_ : Unit) : List EOp := [⟨0, (some 11), none, (.q (.mov (.t 0))), []⟩, ⟨1, (some 12), none, (.q (.len (.t 11))), []⟩, ⟨2, (some 13), none, (.q (.mov (.k (.int .i64 0)))), []⟩]
@[simp] def b_EqI_11 (_ : Unit) : EB := reg0 (hid l_EqI_10) 3
@[simp] def l_EqI_12 (_ : Unit) : List EOp := [⟨0, (some 14), none, (.q (.bin .lss (.t 13) (.t 12))), []⟩]
@[simp] def b_EqI_13 (_ : Unit) : EB := reg0 (hid l_EqI_12) 1
@[simp] def b_EqI_14 (_ : Unit) : EB := .cond (.t 14) .skip (.exit 0)
@[simp] def l_EqI_15 (_ : Unit) : List EOp := [⟨0, (some 15), none, (.q (.mov (.t 13))), []⟩, ⟨1, (some 5), none, (.q (.mov (.t 15))), []⟩]
@[simp] def b_EqI_16 (_ : Unit) : EB := reg0 (hid l_EqI_15) 2
@[simp] def l_EqI_18 (_ : Unit) : List EOp := [⟨6, (some 22), none, (.q (.isl 1 (.t 20) (.t 21))), []⟩, ⟨7, (some 23), none, (.q (.ldc (.t 22))), []⟩, ⟨8, (some 24), none, (.q (.bin .neq (.t 19) (.t 23))), []⟩]
@[simp] def l_EqI_17 (_ : Unit) : List EOp := ⟨0, (some 16), none, (.q (.mov (.t 0))), []⟩ :: ⟨1, (some 17), none, (.q (.mov (.t 5))), []⟩ :: ⟨2, (some 18), none, (.q (.isl 1 (.t 16) (.t 17))), []⟩ :: ⟨3, (some 19), none, (.q (.ldc (.t 18))), []⟩ :: ⟨4, (some 20), none, (.q (.mov (.t 1))), []⟩ :: ⟨5, (some 21), none, (.q (.mov (.t 5))), []⟩ :: hid l_EqI_18
@[simp] def b_EqI_19 (_ : Unit) : EB := reg0 (hid l_EqI_17) 9
@[simp] def l_EqI_20 (_ : Unit) : List EOp := [⟨0, (some 4), none, (.q (.mov (.k (.bool false)))), []⟩]
@[simp] def b_EqI_21 (_ : Unit) : EB := reg0 (hid l_EqI_20) 1
@[simp] def b_EqI_22 (_ : Unit) : EB := .seq (hid b_EqI_21) .ret
@[simp] def b_EqI_23 (_ : Unit) : EB := .cond (.t 24) (hid b_EqI_22) .skip
@[simp] def b_EqI_24 (_ : Unit) : EB := .seq (hid b_EqI_19) (hid b_EqI_23)
@[simp] def b_EqI_25 (_ : Unit) : EB := .seq (hid b_EqI_16) (hid b_EqI_24)
@[simp] def b_EqI_26 (_ : Unit) : EB := .block 1 (hid b_EqI_25)
@[simp] def l_EqI_27 (_ : Unit) : List EOp := [⟨0, (some 25), none, (.q (.bin .add (.t 13) (.k (.int .i64 1)))), []⟩, ⟨1, (some 13), none, (.q (.mov (.t 25))), []⟩]
@[simp] def b_EqI_28 (_ : Unit) : EB := reg0 (hid l_EqI_27) 2
@[simp] def b_EqI_29 (_ : Unit) : EB := .seq (hid b_EqI_26) (hid b_EqI_28)
@[simp] def b_EqI_30 (_ : Unit) : EB := .seq (hid b_EqI_14) (hid b_EqI_29)
@[simp] def b_EqI_31 (_ : Unit) : EB := .seq (hid b_EqI_13) (hid b_EqI_30)
@[simp] def b_EqI_32 (_ : Unit) : EB := .loop (hid b_EqI_31)
@[simp] def b_EqI_33 (_ : Unit) : EB := .block 0 (hid b_EqI_32)
@[simp] def b_EqI_34 (_ : Unit) : EB := .seq (hid b_EqI_11) (hid b_EqI_33)
@[simp] def l_EqI_35 (_ : Unit) : List EOp := [⟨0, (some 4), none, (.q (.mov (.k (.bool true)))), []⟩]
@[simp] def b_EqI_36 (_ : Unit) : EB := reg0 (hid l_EqI_35) 1
@[simp] def b_EqI_37 (_ : Unit) : EB := .seq (hid b_EqI_36) .ret
@[simp] def b_EqI_38 (_ : Unit) : EB := .seq (hid b_EqI_34) (hid b_EqI_37)
@[simp] def b_EqI_39 (_ : Unit) : EB := .seq (hid b_EqI_9) (hid b_EqI_38)
@[simp] def b_EqI_40 (_ : Unit) : EB := .seq (hid b_EqI_2) (hid b_EqI_39)
def c_EqI : EB × List QOp × Nat := ((hid b_EqI_40), [(.mov (.t 4))], 26)
theorem k_EqI : cfun Tryz.prog 111 = some c_EqI := by kernel_rfl

@[simp] def l_Vh1_1 (_ : Unit) : List EOp := [⟨0, (some 3), none, (.q (.box 124 (.t 0))), []⟩, ⟨1, (some 4), none, (.q (.mov (.k (.bool false)))), []⟩]
@[simp] def b_Vh1_2 (_ : Unit) : EB := reg0 (hid l_Vh1_1) 2
@[simp] def l_Vh1_6 (_ : Unit) : List EOp := [⟨18, (some 4), none, (.q (.mov (.t 22))), []⟩]
@[simp] def l_Vh1_5 (_ : Unit) : List EOp := ⟨12, (some 17), (some (16, true)), (.q (.fad 2 (.t 3))), []⟩ :: ⟨13, (some 18), (some (16, true)), (.q (.ldc (.t 17))), []⟩ :: ⟨14, (some 19), (some (16, true)), (.q (.fad 2 (.t 2))), []⟩ :: ⟨15, (some 20), (some (16, true)), (.q (.ldc (.t 19))), []⟩ :: ⟨16, (some 21), (some (16, true)), (.call 111 [(.t 18), (.t 20)]), []⟩ :: ⟨17, (some 22), none, (.q (.pick (.t 16) (.t 21) (.k (.bool false)))), []⟩ :: hid l_Vh1_6
@[simp] def l_Vh1_4 (_ : Unit) : List EOp := ⟨6, (some 11), (some (9, true)), (.q (.ldc (.t 10))), []⟩ :: ⟨7, (some 12), (some (9, true)), (.q (.fad 1 (.t 2))), []⟩ :: ⟨8, (some 13), (some (9, true)), (.q (.ldc (.t 12))), []⟩ :: ⟨9, (some 14), (some (9, true)), (.q (.bin .eql (.t 11) (.t 13))), []⟩ :: ⟨10, (some 15), none, (.q (.pick (.t 9) (.t 14) (.k (.bool false)))), []⟩ :: ⟨11, (some 16), none, (.q (.mov (.t 15))), []⟩ :: hid l_Vh1_5
@[simp] def l_Vh1_3 (_ : Unit) : List EOp := ⟨0, (some 5), none, (.q (.fad 0 (.t 3))), []⟩ :: ⟨1, (some 6), none, (.q (.ldc (.t 5))), []⟩ :: ⟨2, (some 7), none, (.q (.ldc (.t 1))), []⟩ :: ⟨3, (some 8), none, (.q (.bin .eql (.t 6) (.t 7))), []⟩ :: ⟨4, (some 9), none, (.q (.mov (.t 8))), []⟩ :: ⟨5, (some 10), (some (9, true)), (.q (.fad 1 (.t 3))), []⟩ :: hid l_Vh1_4
@[simp] def b_Vh1_7 (_ : Unit) : EB := reg0 (hid l_Vh1_3) 19
@[simp] def b_Vh1_8 (_ : Unit) : EB := .seq (hid b_Vh1_7) .ret
@[simp] def b_Vh1_9 (_ : Unit) : EB := .seq (hid b_Vh1_2) (hid b_Vh1_8)
def c_Vh1 : EB × List QOp × Nat := ((hid b_Vh1_9), [(.mov (.t 4))], 23)
theorem k_Vh1 : cfun Tryz.prog 110 = some c_Vh1 := by kernel_rfl


theorem EqI_ok (a b : List Int) (ha : a.length ≤ 100000000) : ECalls Tryz.prog 111 [IL a, IL b] [] fun y H' => H' = [] ∧ y = .lit (.bool (decide (a = b))) := by
  refine ecalls k_EqI ?_
  simp [c_EqI, IL, I]
  by_cases hl : a.length = b.length
  rotate_left
  · have hl' : ¬ (a.length : Int) = (b.length : Int) := by omega
    rw [decide_eq_false (fun h => hl (by rw [h]))]
    simp [hl, hl']
    exact fin [] (by decide) rfl rfl rfl ⟨rfl, rfl⟩
  obtain ⟨D, hD⟩ : ∃ D, decide (a = b) = D := ⟨_, rfl⟩
  rw [hD]
  simp [hl]
  refine eloop (α := Nat) (fun i => i ≤ a.length ∧ ∀ k, k < i → (a[k]?).getD 0 = (b[k]?).getD 0) (fun i => a.length - i) (fun i => [IL a, IL b, .any, .any, .any, .any, .any, .any, .any, .any, .any, .any, I .i64 b.length, I .i64 i, .any, .any, .any, .any, .any, .any, .any, .any, .any, .any, .any, .any]) (fun _ => []) 0 []
    ⟨Nat.zero_le _, fun k h => by omega⟩ (by simp [I, IL]) (by simp) (by simp) (by simp) (by simp) ?_
  rintro i ⟨hi, hno⟩
  by_cases hlt : i < a.length
  · have hlb : i < b.length := by omega
    have hli : (i : Int) < (b.length : Int) := by omega
    have w4 : IntKind.i64.wrap ((i : Int) + 1) = ((i + 1 : Nat) : Int) := wrap_i64 (by omega) (by omega)
    obtain ⟨A, hA⟩ : ∃ A, (a[i]?).getD 0 = A := ⟨_, rfl⟩
    obtain ⟨B, hB⟩ : ∃ B, (b[i]?).getD 0 = B := ⟨_, rfl⟩
    have ga : ∀ h2, (intv a)[i]'h2 = [.lit (.int .i64 A)] := fun h2 => by rw [intv_at hlt, hA]
    have gb : ∀ h2, (intv b)[i]'h2 = [.lit (.int .i64 B)] := fun h2 => by rw [intv_at hlb, hB]
    by_cases he : A = B
    · simp [I, IL, hlt, hlb, hli, ga, gb, he, w4, -Int.natCast_add]
      refine round (i + 1) [] ⟨by omega, ?_⟩ (by omega) (by simp [I, IL]) (by simp) (by simp) (by simp) (by simp)
      intro k hk
      rcases Nat.lt_or_ge k i with h1 | h1
      · exact hno k h1
      · obtain rfl : k = i := by omega
        rw [hA, hB, he]
    · have hDf : D = false := by
        rw [← hD]
        refine decide_eq_false fun h => he ?_
        rw [← hA, ← hB, h]
      subst hDf
      simp [I, IL, hlt, hlb, hli, ga, gb, he]
      exact fin [] (by decide) rfl rfl rfl ⟨rfl, rfl⟩
  · have hie : i = a.length := by omega
    subst hie
    have hDt : D = true := by
      rw [← hD]
      refine decide_eq_true (List.ext_getElem hl fun k h1 h2 => ?_)
      have := hno k h1
      simpa [h1, h2] using this
    subst hDt
    have hll : (a.length : Int) = (b.length : Int) := by omega
    simp [I, IL, hl]
    exact fin [] (by decide) rfl rfl rfl ⟨rfl, rfl⟩

def BXI (x : Int) : EO := .box 3 [.fz (.lit (.int .i64 x))]
def BHo (id' am : Int) : EO := .box 124 [.fz (.lit (.int .i64 id')), .fz (.lit (.int .i64 am)), .row 2 3]
def RKo (K : List Int) : EO := .row 3 1 (intv K)
def hitV (id' am : Int) (K : List Int) (h : Hol) : Bool := decide (h.id = id') && (decide (h.am = am) && decide (h.keys = K))

set_option maxHeartbeats 2000000 in
theorem Vh1_ok (h : Hol) (id' am : Int) (K : List Int) (hh : h.ok) (hK : K.length = 3) : ECalls Tryz.prog 110 [.v (.agg (holC h)), .v (.c (.ptr 0 0)), .v (.c (.ptr 1 0))] [BXI id', BHo id' am, RKo K] fun y H' => H' = [some (BXI id'), some (BHo id' am), some (RKo K)] ∧ y = .lit (.bool (hitV id' am K h)) := by
  obtain ⟨_, _, _, hkl⟩ := id hh
  have tK : List.take 3 (intv K) = intv K := List.take_of_length_le (by simp [hK])
  refine ecalls k_Vh1 ?_
  simp [c_Vh1, holC, BXI, BHo, RKo]
  unfold hitV
  by_cases c1 : h.id = id'
  rotate_left
  · simp [c1]
    exact fin [] (by decide) rfl rfl (by simp [objsOut, show List.range 3 = [0, 1, 2] from rfl]) ⟨rfl, rfl⟩
  by_cases c2 : h.am = am
  rotate_left
  · simp [c1, c2]
    exact fin [] (by decide) rfl rfl (by simp [objsOut, show List.range 3 = [0, 1, 2] from rfl]) ⟨rfl, rfl⟩
  simp [c1, c2]
  refine call0 (EqI_ok h.keys K hkl) (by simp [IL, tK]) ?_
  rintro y H' ⟨rfl, rfl⟩
  refine ⟨.inr ⟨rfl, by simp⟩, le_ok rfl, ?_⟩
  simp
  exact fin [] (by decide) rfl rfl (by simp [objsOut, show List.range 3 = [0, 1, 2] from rfl]) ⟨rfl, rfl⟩
theorem Vh1_body : bodyOK Tryz.prog 110 = true := by kernel_rfl

end Go.Proofs.YtejjhgdnmknejaaGreatDoor

namespace Go.Proofs.YtejjhgdnmknejaaGreatDoor
open Go Go.EW
set_option linter.unusedSimpArgs false
set_option linter.unusedVariables false

@[simp] def l_IdxH_1 (_ : Unit) : List EOp := [⟨0, (some 4), none, (.q (.mov (.k (.int .i64 0)))), []⟩]
@[simp] def b_IdxH_2 (_ : Unit) : EB := reg0 (hid l_IdxH_1) 1
@[simp] def l_IdxH_3 (_ : Unit) : List EOp := [⟨0, (some 6), none, (.q (.mov (.t 0))), []⟩, ⟨1, (some 7), none, (.q (.len (.t 6))), []⟩, ⟨2, (some 8), none, (.q (.mov (.k (.int .i64 0)))), []⟩]
@[simp] def b_IdxH_4 (_ : Unit) : EB := reg0 (hid l_IdxH_3) 3
@[simp] def l_IdxH_5 (_ : Unit) : List EOp := [⟨0, (some 9), none, (.q (.bin .lss (.t 8) (.t 7))), []⟩]
@[simp] def b_IdxH_6 (_ : Unit) : EB := reg0 (hid l_IdxH_5) 1
@[simp] def b_IdxH_7 (_ : Unit) : EB := .cond (.t 9) .skip (.exit 0)
@[simp] def l_IdxH_8 (_ : Unit) : List EOp := [⟨0, (some 10), none, (.q (.mov (.t 8))), []⟩, ⟨1, (some 5), none, (.q (.mov (.t 10))), []⟩]
@[simp] def b_IdxH_9 (_ : Unit) : EB := reg0 (hid l_IdxH_8) 2
@[simp] def l_IdxH_10 (_ : Unit) : List EOp := [⟨0, (some 11), none, (.q (.mov (.t 1))), []⟩, ⟨1, (some 12), none, (.q (.mov (.t 0))), []⟩, ⟨2, (some 13), none, (.q (.mov (.t 5))), []⟩, ⟨3, (some 14), none, (.q (.isl 3 (.t 12) (.t 13))), []⟩, ⟨4, (some 15), none, (.q (.lda 3 (.t 14))), []⟩, ⟨5, (some 16), none, (.clo (.t 11) [(.t 15)]), []⟩]
@[simp] def b_IdxH_11 (_ : Unit) : EB := reg0 (hid l_IdxH_10) 6
@[simp] def l_IdxH_12 (_ : Unit) : List EOp := [⟨0, (some 17), none, (.q (.mov (.t 5))), []⟩, ⟨1, (some 4), none, (.q (.mov (.t 17))), []⟩]
@[simp] def b_IdxH_13 (_ : Unit) : EB := reg0 (hid l_IdxH_12) 2
@[simp] def b_IdxH_14 (_ : Unit) : EB := .seq (hid b_IdxH_13) .ret
@[simp] def b_IdxH_15 (_ : Unit) : EB := .cond (.t 16) (hid b_IdxH_14) .skip
@[simp] def b_IdxH_16 (_ : Unit) : EB := .seq (hid b_IdxH_11) (hid b_IdxH_15)
@[simp] def b_IdxH_17 (_ : Unit) : EB := .seq (hid b_IdxH_9) (hid b_IdxH_16)
@[simp] def b_IdxH_18 (_ : Unit) : EB := .block 1 (hid b_IdxH_17)
@[simp] def l_IdxH_19 (_ : Unit) : List EOp := [⟨0, (some 18), none, (.q (.bin .add (.t 8) (.k (.int .i64 1)))), []⟩, ⟨1, (some 8), none, (.q (.mov (.t 18))), []⟩]
@[simp] def b_IdxH_20 (_ : Unit) : EB := reg0 (hid l_IdxH_19) 2
@[simp] def b_IdxH_21 (_ : Unit) : EB := .seq (hid b_IdxH_18) (hid b_IdxH_20)
@[simp] def b_IdxH_22 (_ : Unit) : EB := .seq (hid b_IdxH_7) (hid b_IdxH_21)
@[simp] def b_IdxH_23 (_ : Unit) : EB := .seq (hid b_IdxH_6) (hid b_IdxH_22)
@[simp] def b_IdxH_24 (_ : Unit) : EB := .loop (hid b_IdxH_23)
@[simp] def b_IdxH_25 (_ : Unit) : EB := .block 0 (hid b_IdxH_24)
@[simp] def b_IdxH_26 (_ : Unit) : EB := .seq (hid b_IdxH_4) (hid b_IdxH_25)
@[simp] def l_IdxH_27 (_ : Unit) : List EOp := [⟨0, (some 4), none, (.q (.mov (.k (.int .i64 (-1))))), []⟩]
@[simp] def b_IdxH_28 (_ : Unit) : EB := reg0 (hid l_IdxH_27) 1
@[simp] def b_IdxH_29 (_ : Unit) : EB := .seq (hid b_IdxH_28) .ret
@[simp] def b_IdxH_30 (_ : Unit) : EB := .seq (hid b_IdxH_26) (hid b_IdxH_29)
@[simp] def b_IdxH_31 (_ : Unit) : EB := .seq (hid b_IdxH_2) (hid b_IdxH_30)
def c_IdxH : EB × List QOp × Nat := ((hid b_IdxH_31), [(.mov (.t 4))], 19)
theorem k_IdxH : cfun Tryz.prog 166 = some c_IdxH := by kernel_rfl

@[simp] def l_ConH_1 (_ : Unit) : List EOp := [⟨0, (some 4), none, (.q (.mov (.k (.bool false)))), []⟩]
@[simp] def b_ConH_2 (_ : Unit) : EB := reg0 (hid l_ConH_1) 1
@[simp] def l_ConH_3 (_ : Unit) : List EOp := [⟨0, (some 5), none, (.q (.mov (.t 0))), []⟩, ⟨1, (some 6), none, (.q (.mov (.t 1))), []⟩, ⟨2, (some 7), none, (.call 166 [(.t 5), (.t 6)]), []⟩, ⟨3, (some 8), none, (.q (.bin .geq (.t 7) (.k (.int .i64 0)))), []⟩, ⟨4, (some 4), none, (.q (.mov (.t 8))), []⟩]
@[simp] def b_ConH_4 (_ : Unit) : EB := reg0 (hid l_ConH_3) 5
@[simp] def b_ConH_5 (_ : Unit) : EB := .seq (hid b_ConH_4) .ret
@[simp] def b_ConH_6 (_ : Unit) : EB := .seq (hid b_ConH_2) (hid b_ConH_5)
def c_ConH : EB × List QOp × Nat := ((hid b_ConH_6), [(.mov (.t 4))], 9)
theorem k_ConH : cfun Tryz.prog 109 = some c_ConH := by kernel_rfl

@[simp] def l_Vholds_1 (_ : Unit) : List EOp := [⟨0, (some 3), none, (.q (.box 44 (.t 0))), []⟩, ⟨1, (some 4), none, (.q (.box 49 (.t 1))), []⟩, ⟨2, (some 5), none, (.q (.box 3 (.t 2))), []⟩, ⟨3, (some 6), none, (.q (.mov (.k (.bool false)))), []⟩]
@[simp] def b_Vholds_2 (_ : Unit) : EB := reg0 (hid l_Vholds_1) 4
@[simp] def l_Vholds_3 (_ : Unit) : List EOp := [⟨0, (some 8), none, (.q (.lda 81 (.t 3))), []⟩, ⟨1, (some 9), none, (.q (.ldc (.t 5))), []⟩, ⟨2, (some 10), none, (.call 43 [(.t 8), (.t 9)]), []⟩, ⟨3, (some 7), none, (.q (.alloc 124 [(.int .i64 0), (.int .i64 0), (.slice none 0 0)])), []⟩, ⟨4, none, none, (.fz (.sto 3 (.t 7) (.t 10))), []⟩]
@[simp] def b_Vholds_4 (_ : Unit) : EB := reg0 (hid l_Vholds_3) 5
@[simp] def l_Vholds_5 (_ : Unit) : List EOp := [⟨0, (some 11), none, (.q (.fad 4 (.t 4))), []⟩, ⟨1, (some 12), none, (.q (.ldc (.t 11))), []⟩, ⟨2, (some 13), none, (.q (.mkf 110 [(.t 5), (.t 7)])), []⟩, ⟨3, (some 14), none, (.call 109 [(.t 12), (.t 13)]), []⟩, ⟨4, (some 6), none, (.q (.mov (.t 14))), []⟩]
@[simp] def b_Vholds_6 (_ : Unit) : EB := reg0 (hid l_Vholds_5) 5
@[simp] def b_Vholds_7 (_ : Unit) : EB := .seq (hid b_Vholds_6) .ret
@[simp] def b_Vholds_8 (_ : Unit) : EB := .seq (hid b_Vholds_4) (hid b_Vholds_7)
@[simp] def b_Vholds_9 (_ : Unit) : EB := .seq (hid b_Vholds_2) (hid b_Vholds_8)
def c_Vholds : EB × List QOp × Nat := ((hid b_Vholds_9), [(.mov (.t 6))], 15)
theorem k_Vholds : cfun Tryz.prog 52 = some c_Vholds := by kernel_rfl

@[simp] def l_Vfree_1 (_ : Unit) : List EOp := [⟨0, (some 5), none, (.q (.box 44 (.t 0))), []⟩, ⟨1, (some 6), none, (.q (.box 49 (.t 1))), []⟩, ⟨2, (some 10), none, (.q (.alloc 49 [(.int .i64 0), (.int .i64 0), (.int .i64 0), (.slice none 0 0), (.slice none 0 0)])), []⟩, ⟨3, (some 11), none, (.q (.mov (.k .nilIface))), []⟩]
@[simp] def b_Vfree_2 (_ : Unit) : EB := reg0 (hid l_Vfree_1) 4
@[simp] def l_Vfree_3 (_ : Unit) : List EOp := [⟨0, (some 12), none, (.q (.mov (.t 3))), []⟩, ⟨1, (some 13), none, (.q (.bin .eql (.t 12) (.k (.int .i64 0)))), []⟩]
@[simp] def b_Vfree_4 (_ : Unit) : EB := reg0 (hid l_Vfree_3) 2
@[simp] def l_Vfree_6 (_ : Unit) : List EOp := [⟨6, (some 20), none, (.call 112 [(.t 14), (.t 15), (.t 19)]), []⟩, ⟨7, (some 21), none, (.q (.ext 0 (.t 20))), []⟩, ⟨8, (some 22), none, (.q (.ext 1 (.t 20))), []⟩, ⟨9, none, none, (.fz (.sto 5 (.t 10) (.t 21))), []⟩, ⟨10, (some 11), none, (.q (.mov (.t 22))), []⟩]
@[simp] def l_Vfree_5 (_ : Unit) : List EOp := ⟨0, (some 14), none, (.q (.lda 5 (.t 6))), []⟩ :: ⟨1, (some 15), none, (.q (.mov (.t 2))), []⟩ :: ⟨2, (some 16), none, (.q (.fad 79 (.t 5))), []⟩ :: ⟨3, (some 17), none, (.q (.ldc (.t 16))), []⟩ :: ⟨4, (some 18), none, (.q (.mov (.t 4))), []⟩ :: ⟨5, (some 19), none, (.q (.bin .sub (.t 17) (.t 18))), []⟩ :: hid l_Vfree_6
@[simp] def b_Vfree_7 (_ : Unit) : EB := reg0 (hid l_Vfree_5) 11
@[simp] def b_Vfree_8 (_ : Unit) : EB := .seq (hid b_Vfree_7) .ret
@[simp] def b_Vfree_9 (_ : Unit) : EB := .cond (.t 13) (hid b_Vfree_8) .skip
@[simp] def b_Vfree_10 (_ : Unit) : EB := .seq (hid b_Vfree_4) (hid b_Vfree_9)
@[simp] def l_Vfree_12 (_ : Unit) : List EOp := [⟨6, none, none, (.fz (.sto 5 (.t 10) (.t 27))), []⟩, ⟨7, (some 11), none, (.q (.mov (.t 28))), []⟩]
@[simp] def l_Vfree_11 (_ : Unit) : List EOp := ⟨0, (some 23), none, (.q (.lda 5 (.t 6))), []⟩ :: ⟨1, (some 24), none, (.q (.mov (.t 2))), []⟩ :: ⟨2, (some 25), none, (.q (.mov (.t 4))), []⟩ :: ⟨3, (some 26), none, (.call 112 [(.t 23), (.t 24), (.t 25)]), []⟩ :: ⟨4, (some 27), none, (.q (.ext 0 (.t 26))), []⟩ :: ⟨5, (some 28), none, (.q (.ext 1 (.t 26))), []⟩ :: hid l_Vfree_12
@[simp] def b_Vfree_13 (_ : Unit) : EB := reg0 (hid l_Vfree_11) 8
@[simp] def b_Vfree_14 (_ : Unit) : EB := .seq (hid b_Vfree_13) .ret
@[simp] def b_Vfree_15 (_ : Unit) : EB := .seq (hid b_Vfree_10) (hid b_Vfree_14)
@[simp] def b_Vfree_16 (_ : Unit) : EB := .seq (hid b_Vfree_2) (hid b_Vfree_15)
def c_Vfree : EB × List QOp × Nat := ((hid b_Vfree_16), [(.lda 5 (.t 10)), (.mov (.t 11))], 29)
theorem k_Vfree : cfun Tryz.prog 53 = some c_Vfree := by kernel_rfl

@[simp] def l_VClose_1 (_ : Unit) : List EOp := [⟨0, (some 5), none, (.q (.box 44 (.t 0))), []⟩, ⟨1, (some 8), none, (.q (.box 49 (.t 3))), []⟩, ⟨2, (some 9), none, (.q (.box 49 (.t 4))), []⟩, ⟨3, (some 10), none, (.q (.alloc 49 [(.int .i64 0), (.int .i64 0), (.int .i64 0), (.slice none 0 0), (.slice none 0 0)])), []⟩, ⟨4, (some 11), none, (.q (.alloc 49 [(.int .i64 0), (.int .i64 0), (.int .i64 0), (.slice none 0 0), (.slice none 0 0)])), []⟩, ⟨5, (some 12), none, (.q (.mov (.k .nilIface))), []⟩]
@[simp] def b_VClose_2 (_ : Unit) : EB := reg0 (hid l_VClose_1) 6
@[simp] def l_VClose_3 (_ : Unit) : List EOp := [⟨0, (some 19), none, (.q (.lda 81 (.t 5))), []⟩, ⟨1, (some 20), none, (.call 15 [(.t 19)]), []⟩, ⟨2, (some 13), none, (.q (.mov (.t 20))), []⟩]
@[simp] def b_VClose_4 (_ : Unit) : EB := reg0 (hid l_VClose_3) 3
@[simp] def l_VClose_5 (_ : Unit) : List EOp := [⟨0, (some 21), none, (.q (.mov (.t 13))), []⟩, ⟨1, (some 22), none, (.q (.eqi true (.t 21))), []⟩]
@[simp] def b_VClose_6 (_ : Unit) : EB := reg0 (hid l_VClose_5) 2
@[simp] def l_VClose_7 (_ : Unit) : List EOp := [⟨0, (some 23), none, (.q (.build [(.int .i64 0), (.int .i64 0), (.int .i64 0), (.slice none 0 0), (.slice none 0 0)] [])), []⟩, ⟨1, (some 24), none, (.q (.build [(.int .i64 0), (.int .i64 0), (.int .i64 0), (.slice none 0 0), (.slice none 0 0)] [])), []⟩, ⟨2, (some 25), none, (.q (.mov (.t 13))), []⟩, ⟨3, none, none, (.fz (.sto 5 (.t 10) (.t 23))), []⟩, ⟨4, none, none, (.fz (.sto 5 (.t 11) (.t 24))), []⟩, ⟨5, (some 12), none, (.q (.mov (.t 25))), []⟩]
@[simp] def b_VClose_8 (_ : Unit) : EB := reg0 (hid l_VClose_7) 6
@[simp] def b_VClose_9 (_ : Unit) : EB := .seq (hid b_VClose_8) .ret
@[simp] def b_VClose_10 (_ : Unit) : EB := .cond (.t 22) (hid b_VClose_9) .skip
@[simp] def b_VClose_11 (_ : Unit) : EB := .seq (hid b_VClose_6) (hid b_VClose_10)
@[simp] def b_VClose_12 (_ : Unit) : EB := .seq (hid b_VClose_4) (hid b_VClose_11)
@[simp] def l_VClose_14 (_ : Unit) : List EOp := [⟨6, (some 33), (some (29, false)), (.q (.bin .gtr (.t 30) (.t 32))), []⟩, ⟨7, (some 34), none, (.q (.pick (.t 29) (.k (.bool true)) (.t 33))), []⟩, ⟨8, (some 26), none, (.q (.mov (.t 34))), []⟩]
@[simp] def l_VClose_13 (_ : Unit) : List EOp := ⟨0, (some 27), none, (.q (.mov (.t 2))), []⟩ :: ⟨1, (some 28), none, (.q (.bin .lss (.t 27) (.k (.int .i64 0)))), []⟩ :: ⟨2, (some 29), none, (.q (.mov (.t 28))), []⟩ :: ⟨3, (some 30), (some (29, false)), (.q (.mov (.t 2))), []⟩ :: ⟨4, (some 31), (some (29, false)), (.q (.fad 79 (.t 5))), []⟩ :: ⟨5, (some 32), (some (29, false)), (.q (.ldc (.t 31))), []⟩ :: hid l_VClose_14
@[simp] def b_VClose_15 (_ : Unit) : EB := reg0 (hid l_VClose_13) 9
@[simp] def l_VClose_16 (_ : Unit) : List EOp := [⟨0, (some 35), none, (.q (.build [(.int .i64 0), (.int .i64 0), (.int .i64 0), (.slice none 0 0), (.slice none 0 0)] [])), []⟩, ⟨1, (some 36), none, (.q (.build [(.int .i64 0), (.int .i64 0), (.int .i64 0), (.slice none 0 0), (.slice none 0 0)] [])), []⟩, ⟨2, (some 37), none, (.q (.mki 132 (.k (.int .i64 20)))), []⟩, ⟨3, none, none, (.fz (.sto 5 (.t 10) (.t 35))), []⟩, ⟨4, none, none, (.fz (.sto 5 (.t 11) (.t 36))), []⟩, ⟨5, (some 12), none, (.q (.mov (.t 37))), []⟩]
@[simp] def b_VClose_17 (_ : Unit) : EB := reg0 (hid l_VClose_16) 6
@[simp] def b_VClose_18 (_ : Unit) : EB := .seq (hid b_VClose_17) .ret
@[simp] def l_VClose_21 (_ : Unit) : List EOp := [⟨12, (some 38), none, (.q (.mov (.t 50))), []⟩]
@[simp] def l_VClose_20 (_ : Unit) : List EOp := ⟨6, (some 45), (some (44, false)), (.q (.lda 81 (.t 5))), []⟩ :: ⟨7, (some 46), (some (44, false)), (.q (.lda 5 (.t 9))), []⟩ :: ⟨8, (some 47), (some (44, false)), (.q (.mov (.t 1))), []⟩ :: ⟨9, (some 48), (some (44, false)), (.call 52 [(.t 45), (.t 46), (.t 47)]), []⟩ :: ⟨10, (some 49), (some (44, false)), (.q (.un .not (.t 48))), []⟩ :: ⟨11, (some 50), none, (.q (.pick (.t 44) (.k (.bool true)) (.t 49))), []⟩ :: hid l_VClose_21
@[simp] def l_VClose_19 (_ : Unit) : List EOp := ⟨0, (some 39), none, (.q (.lda 81 (.t 5))), []⟩ :: ⟨1, (some 40), none, (.q (.lda 5 (.t 8))), []⟩ :: ⟨2, (some 41), none, (.q (.mov (.t 1))), []⟩ :: ⟨3, (some 42), none, (.call 52 [(.t 39), (.t 40), (.t 41)]), []⟩ :: ⟨4, (some 43), none, (.q (.un .not (.t 42))), []⟩ :: ⟨5, (some 44), none, (.q (.mov (.t 43))), []⟩ :: hid l_VClose_20
@[simp] def b_VClose_22 (_ : Unit) : EB := reg0 (hid l_VClose_19) 13
@[simp] def l_VClose_23 (_ : Unit) : List EOp := [⟨0, (some 51), none, (.q (.build [(.int .i64 0), (.int .i64 0), (.int .i64 0), (.slice none 0 0), (.slice none 0 0)] [])), []⟩, ⟨1, (some 52), none, (.q (.build [(.int .i64 0), (.int .i64 0), (.int .i64 0), (.slice none 0 0), (.slice none 0 0)] [])), []⟩, ⟨2, (some 53), none, (.q (.mki 132 (.k (.int .i64 8)))), []⟩, ⟨3, none, none, (.fz (.sto 5 (.t 10) (.t 51))), []⟩, ⟨4, none, none, (.fz (.sto 5 (.t 11) (.t 52))), []⟩, ⟨5, (some 12), none, (.q (.mov (.t 53))), []⟩]
@[simp] def b_VClose_24 (_ : Unit) : EB := reg0 (hid l_VClose_23) 6
@[simp] def b_VClose_25 (_ : Unit) : EB := .seq (hid b_VClose_24) .ret
@[simp] def b_VClose_26 (_ : Unit) : EB := .cond (.t 38) (hid b_VClose_25) .skip
@[simp] def b_VClose_27 (_ : Unit) : EB := .seq (hid b_VClose_22) (hid b_VClose_26)
@[simp] def b_VClose_28 (_ : Unit) : EB := .cond (.t 26) (hid b_VClose_18) (hid b_VClose_27)
@[simp] def b_VClose_29 (_ : Unit) : EB := .seq (hid b_VClose_15) (hid b_VClose_28)
@[simp] def b_VClose_30 (_ : Unit) : EB := .block 0 (hid b_VClose_29)
@[simp] def l_VClose_32 (_ : Unit) : List EOp := [⟨6, (some 15), none, (.q (.mov (.t 58))), []⟩]
@[simp] def l_VClose_31 (_ : Unit) : List EOp := ⟨0, (some 55), none, (.q (.lda 81 (.t 5))), []⟩ :: ⟨1, (some 56), none, (.call 41 [(.t 55)]), []⟩ :: ⟨2, (some 54), none, (.q (.mov (.t 56))), []⟩ :: ⟨3, (some 57), none, (.q (.ext 0 (.t 54))), []⟩ :: ⟨4, (some 58), none, (.q (.ext 1 (.t 54))), []⟩ :: ⟨5, (some 14), none, (.q (.mov (.t 57))), []⟩ :: hid l_VClose_32
@[simp] def b_VClose_33 (_ : Unit) : EB := reg0 (hid l_VClose_31) 7
@[simp] def l_VClose_35 (_ : Unit) : List EOp := [⟨6, (some 59), none, (.q (.mov (.t 65))), []⟩, ⟨7, (some 66), none, (.q (.ext 0 (.t 59))), []⟩, ⟨8, (some 67), none, (.q (.ext 1 (.t 59))), []⟩, ⟨9, (some 16), none, (.q (.alloc 49 [(.int .i64 0), (.int .i64 0), (.int .i64 0), (.slice none 0 0), (.slice none 0 0)])), []⟩, ⟨10, none, none, (.fz (.sto 5 (.t 16) (.t 66))), []⟩, ⟨11, (some 17), none, (.q (.mov (.t 67))), []⟩]
@[simp] def l_VClose_34 (_ : Unit) : List EOp := ⟨0, (some 60), none, (.q (.lda 81 (.t 5))), []⟩ :: ⟨1, (some 61), none, (.q (.lda 5 (.t 8))), []⟩ :: ⟨2, (some 62), none, (.q (.mov (.t 1))), []⟩ :: ⟨3, (some 63), none, (.q (.mov (.t 14))), []⟩ :: ⟨4, (some 64), none, (.q (.mov (.t 2))), []⟩ :: ⟨5, (some 65), none, (.call 53 [(.t 60), (.t 61), (.t 62), (.t 63), (.t 64)]), []⟩ :: hid l_VClose_35
@[simp] def b_VClose_36 (_ : Unit) : EB := reg0 (hid l_VClose_34) 12
@[simp] def l_VClose_37 (_ : Unit) : List EOp := [⟨0, (some 68), none, (.q (.mov (.t 17))), []⟩, ⟨1, (some 69), none, (.q (.eqi true (.t 68))), []⟩]
@[simp] def b_VClose_38 (_ : Unit) : EB := reg0 (hid l_VClose_37) 2
@[simp] def l_VClose_39 (_ : Unit) : List EOp := [⟨0, (some 70), none, (.q (.build [(.int .i64 0), (.int .i64 0), (.int .i64 0), (.slice none 0 0), (.slice none 0 0)] [])), []⟩, ⟨1, (some 71), none, (.q (.build [(.int .i64 0), (.int .i64 0), (.int .i64 0), (.slice none 0 0), (.slice none 0 0)] [])), []⟩, ⟨2, (some 72), none, (.q (.mov (.t 17))), []⟩, ⟨3, none, none, (.fz (.sto 5 (.t 10) (.t 70))), []⟩, ⟨4, none, none, (.fz (.sto 5 (.t 11) (.t 71))), []⟩, ⟨5, (some 12), none, (.q (.mov (.t 72))), []⟩]
@[simp] def b_VClose_40 (_ : Unit) : EB := reg0 (hid l_VClose_39) 6
@[simp] def b_VClose_41 (_ : Unit) : EB := .seq (hid b_VClose_40) .ret
@[simp] def b_VClose_42 (_ : Unit) : EB := .cond (.t 69) (hid b_VClose_41) .skip
@[simp] def b_VClose_43 (_ : Unit) : EB := .seq (hid b_VClose_38) (hid b_VClose_42)
@[simp] def l_VClose_45 (_ : Unit) : List EOp := [⟨6, (some 73), none, (.q (.mov (.t 79))), []⟩, ⟨7, (some 80), none, (.q (.ext 0 (.t 73))), []⟩, ⟨8, (some 81), none, (.q (.ext 1 (.t 73))), []⟩, ⟨9, (some 18), none, (.q (.alloc 49 [(.int .i64 0), (.int .i64 0), (.int .i64 0), (.slice none 0 0), (.slice none 0 0)])), []⟩, ⟨10, none, none, (.fz (.sto 5 (.t 18) (.t 80))), []⟩, ⟨11, (some 17), none, (.q (.mov (.t 81))), []⟩]
@[simp] def l_VClose_44 (_ : Unit) : List EOp := ⟨0, (some 74), none, (.q (.lda 81 (.t 5))), []⟩ :: ⟨1, (some 75), none, (.q (.lda 5 (.t 9))), []⟩ :: ⟨2, (some 76), none, (.q (.mov (.t 1))), []⟩ :: ⟨3, (some 77), none, (.q (.mov (.t 15))), []⟩ :: ⟨4, (some 78), none, (.q (.mov (.t 2))), []⟩ :: ⟨5, (some 79), none, (.call 53 [(.t 74), (.t 75), (.t 76), (.t 77), (.t 78)]), []⟩ :: hid l_VClose_45
@[simp] def b_VClose_46 (_ : Unit) : EB := reg0 (hid l_VClose_44) 12
@[simp] def l_VClose_47 (_ : Unit) : List EOp := [⟨0, (some 82), none, (.q (.mov (.t 17))), []⟩, ⟨1, (some 83), none, (.q (.eqi true (.t 82))), []⟩]
@[simp] def b_VClose_48 (_ : Unit) : EB := reg0 (hid l_VClose_47) 2
@[simp] def l_VClose_49 (_ : Unit) : List EOp := [⟨0, (some 84), none, (.q (.build [(.int .i64 0), (.int .i64 0), (.int .i64 0), (.slice none 0 0), (.slice none 0 0)] [])), []⟩, ⟨1, (some 85), none, (.q (.build [(.int .i64 0), (.int .i64 0), (.int .i64 0), (.slice none 0 0), (.slice none 0 0)] [])), []⟩, ⟨2, (some 86), none, (.q (.mov (.t 17))), []⟩, ⟨3, none, none, (.fz (.sto 5 (.t 10) (.t 84))), []⟩, ⟨4, none, none, (.fz (.sto 5 (.t 11) (.t 85))), []⟩, ⟨5, (some 12), none, (.q (.mov (.t 86))), []⟩]
@[simp] def b_VClose_50 (_ : Unit) : EB := reg0 (hid l_VClose_49) 6
@[simp] def b_VClose_51 (_ : Unit) : EB := .seq (hid b_VClose_50) .ret
@[simp] def b_VClose_52 (_ : Unit) : EB := .cond (.t 83) (hid b_VClose_51) .skip
@[simp] def b_VClose_53 (_ : Unit) : EB := .seq (hid b_VClose_48) (hid b_VClose_52)
@[simp] def l_VClose_54 (_ : Unit) : List EOp := [⟨0, (some 87), none, (.q (.lda 5 (.t 16))), []⟩, ⟨1, (some 88), none, (.q (.lda 5 (.t 18))), []⟩, ⟨2, none, none, (.fz (.sto 5 (.t 10) (.t 87))), [1]⟩, ⟨3, none, none, (.fz (.sto 5 (.t 11) (.t 88))), []⟩, ⟨4, (some 12), none, (.q (.mov (.k .nilIface))), []⟩]
@[simp] def b_VClose_55 (_ : Unit) : EB := reg1 (hid l_VClose_54) 5
@[simp] def b_VClose_56 (_ : Unit) : EB := .seq (hid b_VClose_55) .ret
@[simp] def b_VClose_57 (_ : Unit) : EB := .seq (hid b_VClose_53) (hid b_VClose_56)
@[simp] def b_VClose_58 (_ : Unit) : EB := .seq (hid b_VClose_46) (hid b_VClose_57)
@[simp] def b_VClose_59 (_ : Unit) : EB := .seq (hid b_VClose_43) (hid b_VClose_58)
@[simp] def b_VClose_60 (_ : Unit) : EB := .seq (hid b_VClose_36) (hid b_VClose_59)
@[simp] def b_VClose_61 (_ : Unit) : EB := .seq (hid b_VClose_33) (hid b_VClose_60)
@[simp] def b_VClose_62 (_ : Unit) : EB := .seq (hid b_VClose_30) (hid b_VClose_61)
@[simp] def b_VClose_63 (_ : Unit) : EB := .seq (hid b_VClose_12) (hid b_VClose_62)
@[simp] def b_VClose_64 (_ : Unit) : EB := .seq (hid b_VClose_2) (hid b_VClose_63)
def c_VClose : EB × List QOp × Nat := ((hid b_VClose_64), [(.lda 5 (.t 10)), (.lda 5 (.t 11)), (.mov (.t 12))], 89)
theorem k_VClose : cfun Tryz.prog 17 = some c_VClose := by kernel_rfl


set_option maxHeartbeats 4000000 in
theorem IdxH_ok (l : List Hol) (id' am : Int) (K : List Int) (hl : ∀ h ∈ l, h.ok) (hn : l.length ≤ 100000000) (hK : K.length = 3) : ECalls Tryz.prog 166 [HL l, .v (.c (.clo 110 [(0, 0), (1, 0)]))] [BXI id', BHo id' am, RKo K] fun y H' => H' = [some (BXI id'), some (BHo id' am), some (RKo K)] ∧ ((l.any (hitV id' am K) = false ∧ y = I .i64 (-1)) ∨ (l.any (hitV id' am K) = true ∧ ∃ i : Nat, y = I .i64 i)) := by
  obtain ⟨B, hB⟩ : ∃ B, l.any (hitV id' am K) = B := ⟨_, rfl⟩
  rw [hB]
  refine ecalls k_IdxH ?_
  simp [c_IdxH, HL, I]
  refine eloop (α := Nat) (fun i => i ≤ l.length ∧ ∀ (k : Nat) (x : Hol), k < i → l[k]? = some x → hitV id' am K x = false) (fun i => l.length - i)
    (fun i => [HL l, .v (.c (.clo 110 [(0, 0), (1, 0)])), .any, .any, .any, .any, .any, I .i64 l.length, I .i64 i, .any, .any, .any, .any, .any, .any, .any, .any, .any, .any]) (fun _ => [some (BXI id'), some (BHo id' am), some (RKo K)]) 0 [0, 1, 2]
    ⟨Nat.zero_le _, fun k x h => by omega⟩ (by simp [I, HL]) (by simp [BXI, BHo, RKo]) (by simp [BXI, BHo, RKo]) (by decide) (by simp) ?_
  rintro i ⟨hi, hlo⟩
  simp [I, HL, BXI, BHo, RKo]
  refine alt (fun hlt => ?_) (fun hlt => ?_)
  · have hln : i < l.length := by omega
    obtain ⟨p, hc⟩ : ∃ p, l[i]? = some p := ⟨l[i], by simp [hln]⟩
    have hge : (holv l)[i]'(by simp [hln]) = holF p := by
      have e := holv_get hc
      rw [List.getElem?_eq_getElem (by simp [hln])] at e
      exact Option.some.inj e
    have w4 : IntKind.i64.wrap ((i : Int) + 1) = ((i + 1 : Nat) : Int) := wrap_i64 (by omega) (by omega)
    have hpo := hl p (List.mem_of_getElem? hc)
    have hv1 := Vh1_ok p id' am K hpo hK
    simp [hln, hge, holF]
    refine ⟨Vh1_body, ?_⟩
    refine callH [0, 1, 2] hv1 (by simp [holC]) (by simp [BXI, BHo, RKo]) (by simp) (by simp) (by simp) ?_
    rintro y H' ⟨rfl, rfl⟩
    refine ⟨.inl (by simp [-List.flatMap_eq_nil_iff]), by simp, ?_⟩
    simp [BXI, BHo, RKo]
    refine alt (fun he => ?_) (fun he => ?_)
    · simp
      exact fin [] (by decide) rfl rfl (by simp [objsOut, show List.range 3 = [0, 1, 2] from rfl]) ⟨rfl, .inr ⟨by rw [← hB]; exact List.any_eq_true.2 ⟨p, List.mem_of_getElem? hc, he⟩, i, rfl⟩⟩
    · simp [w4, -Int.natCast_add]
      refine round (i + 1) [0, 1, 2] ⟨by omega, ?_⟩ (by omega) (by simp [I, HL]) (by simp [BXI, BHo, RKo]) (by simp [BXI, BHo, RKo]) (by decide) (by simp)
      intro k q hk hq
      rcases Nat.lt_or_ge k i with h1 | h1
      · exact hlo k q h1 hq
      · obtain rfl : k = i := by omega
        rw [hc] at hq
        obtain rfl := Option.some.inj hq
        simpa using he
  · simp
    refine fin [] (by decide) rfl rfl (by simp [objsOut, show List.range 3 = [0, 1, 2] from rfl]) ⟨rfl, .inl ⟨?_, rfl⟩⟩
    rw [← hB, List.any_eq_false]
    intro x hx
    obtain ⟨k, hk⟩ := List.getElem?_of_mem hx
    have := hlo k x (by have := lt_len hk; omega) hk
    simp [this]
theorem ConH_ok (l : List Hol) (id' am : Int) (K : List Int) (hl : ∀ h ∈ l, h.ok) (hn : l.length ≤ 100000000) (hK : K.length = 3) : ECalls Tryz.prog 109 [HL l, .v (.c (.clo 110 [(0, 0), (1, 0)]))] [BXI id', BHo id' am, RKo K] fun y H' => H' = [some (BXI id'), some (BHo id' am), some (RKo K)] ∧ y = .lit (.bool (l.any (hitV id' am K))) := by
  refine ecalls k_ConH ?_
  simp [c_ConH, HL, BXI, BHo, RKo]
  refine callH [0, 1, 2] (IdxH_ok l id' am K hl hn hK) (by simp [HL]) (by simp [BXI, BHo, RKo]) (by simp) (by simp) (by simp) ?_
  rintro y H' ⟨rfl, h⟩
  rcases h with ⟨h, rfl⟩ | ⟨h, i, rfl⟩
  · refine ⟨.inl (by simp [I]), by simp, ?_⟩
    rw [h]
    simp [I, BXI, BHo, RKo]
    exact fin [] (by decide) rfl rfl (by simp [objsOut, show List.range 3 = [0, 1, 2] from rfl]) ⟨rfl, rfl⟩
  · refine ⟨.inl (by simp [I]), by simp, ?_⟩
    have n0 : (0 : Int) ≤ (i : Int) := by omega
    rw [h]
    simp [I, BXI, BHo, RKo, n0]
    exact fin [] (by decide) rfl rfl (by simp [objsOut, show List.range 3 = [0, 1, 2] from rfl]) ⟨rfl, rfl⟩
def hasV (r : Rte) (s : Sta) (id' : Int) : Bool := s.holds.any (hitV id' r.am (srt [r.a, r.b, r.c]))
theorem Vholds_ok (r : Rte) (s : Sta) (id' : Int) (hr : r.ok) (hs : s.ok) : ECalls Tryz.prog 52 [RVv r, SV s, I .i64 id'] [] fun y H' => H' = [] ∧ y = .lit (.bool (hasV r s id')) := by
  obtain ⟨⟨h1, _⟩, ⟨h2, _⟩, _⟩ := id hr
  obtain ⟨ok1, ok2, ok3, ok4, ok5, ok6, ok7⟩ := id hs
  have l0 := rteC_len h1 h2
  have t0 := rt_take h1 h2
  refine ecalls k_Vholds ?_
  simp [c_Vholds, RVv, SV, staC, I, l0, t0]
  refine call0 (Vhold_ok r id' hr) (by simp [RVv, I]) ?_
  rintro y H' ⟨rfl, rfl⟩
  refine ⟨.inl (by simp), by simp, ?_⟩
  simp [iC]
  refine callH [32, 112, 96] (ConH_ok s.holds id' r.am (srt [r.a, r.b, r.c]) ok5 ok7 (by rw [srt_len]; rfl)) (by simp [HL]) (by simp [BXI, BHo, RKo]) (by simp) (by simp) (by simp) ?_
  rintro y H' ⟨rfl, rfl⟩
  refine ⟨.inl (by simp), by simp, ?_⟩
  simp
  exact fin [] (by decide) rfl rfl rfl ⟨rfl, rfl⟩
def freV (r : Rte) (s : Sta) (id' near far : Int) : Sta × Nat := if near = 0 then freS s id' (r.am - far) else freS s id' far
theorem Vfree_ok (r : Rte) (s : Sta) (id' near far : Int) (hr : r.ok) (hs : s.ok) (hi : i64 id') (hf : i64 far) (hw : i64 (r.am - far)) : ECalls Tryz.prog 53 [RVv r, SV s, I .i64 id', I .i64 near, I .i64 far] [] fun y H' => H' = [] ∧ y = SE (freV r s id' near far) := by
  obtain ⟨⟨h1, _⟩, ⟨h2, _⟩, _⟩ := id hr
  have l0 := rteC_len h1 h2
  have t0 := rt_take h1 h2
  have e79 := idx_of (rt_79 h1 h2) (by omega)
  have w1 : IntKind.i64.wrap (r.am - far) = r.am - far := wrap_i64 hw.1 hw.2
  refine ecalls k_Vfree ?_
  simp [c_Vfree, RVv, SV, staC, I, l0, t0, -errV_0]
  by_cases c0 : near = 0
  · have hv : freV r s id' near far = freS s id' (r.am - far) := if_pos c0
    rw [hv]
    simp [c0, e79, l0, iC, w1, -errV_0]
    refine call0 (SFree_ok s id' (r.am - far) hs hi hw) (by simp [SV, staC, I]) ?_
    rintro y H' ⟨rfl, rfl⟩
    refine ⟨.inl (by simp), le_ok rfl, ?_⟩
    simp [SE, staC, -errV_0]
    exact fin [] (by decide) rfl rfl rfl ⟨rfl, rfl⟩
  · have hv : freV r s id' near far = freS s id' far := if_neg c0
    rw [hv]
    simp [c0, -errV_0]
    refine call0 (SFree_ok s id' far hs hi hf) (by simp [SV, staC, I]) ?_
    rintro y H' ⟨rfl, rfl⟩
    refine ⟨.inl (by simp), le_ok rfl, ?_⟩
    simp [SE, staC, -errV_0]
    exact fin [] (by decide) rfl rfl rfl ⟨rfl, rfl⟩

/-- Both channels' states behind a route is closed; the error. -/
def cloS (r : Rte) (id' last : Int) (s t : Sta) : Sta × Sta × Nat :=
  if chkV r ≠ 0 then (zSta, zSta, chkV r)
  else if last < 0 ∨ r.am < last then (zSta, zSta, 20)
  else if hasV r s id' = false ∨ hasV r t id' = false then (zSta, zSta, 8)
  else if (freV r s id' (sid r.f.k0 r.f.k1 r.a) last).2 ≠ 0 then (zSta, zSta, (freV r s id' (sid r.f.k0 r.f.k1 r.a) last).2)
  else if (freV r t id' (sid r.s.k0 r.s.k1 r.b) last).2 ≠ 0 then (zSta, zSta, (freV r t id' (sid r.s.k0 r.s.k1 r.b) last).2)
  else ((freV r s id' (sid r.f.k0 r.f.k1 r.a) last).1, (freV r t id' (sid r.s.k0 r.s.k1 r.b) last).1, 0)
@[simp] theorem errV_20v : Value.iface 132 (.int .i64 20) = errV 20 := rfl
@[simp] theorem errV_8v : Value.iface 132 (.int .i64 8) = errV 8 := rfl

set_option maxHeartbeats 8000000 in
theorem VClose_ok (r : Rte) (id' last : Int) (s t : Sta) (hr : r.ok) (hi : i64 id') (hla : i64 last) (hs : s.ok) (ht : t.ok) : ECalls Tryz.prog 17 [RVv r, I .i64 id', I .i64 last, SV s, SV t] [] fun y H' => H' = [] ∧ y = SSE (cloS r id' last s t) := by
  obtain ⟨⟨h1, _⟩, ⟨h2, _⟩, _⟩ := id hr
  have l0 := rteC_len h1 h2
  have t0 := rt_take h1 h2
  have e79 := idx_of (rt_79 h1 h2) (by omega)
  refine ecalls k_VClose ?_
  simp [c_VClose, RVv, I, SV, staC, l0, t0, -errV_0]
  refine call0 (VCheck_ok r hr) (by simp [RVv]) ?_
  rintro y H' ⟨rfl, rfl⟩
  refine ⟨.inl (by simp), le_ok rfl, ?_⟩
  by_cases c0 : chkV r = 0
  rotate_left
  · have hv : cloS r id' last s t = (zSta, zSta, chkV r) := by unfold cloS; rw [if_pos c0]
    rw [hv]
    simp [SSE, staC, zSta, c0, -errV_0]
    refine finW _ (weak_nlB (o := 48) (k := 3) 36 rfl rfl) (finW _ (weak_nlB (o := 48) (k := 4) 3 rfl rfl) (finW _ (weak_nlB (o := 64) (k := 3) 36 rfl rfl) (finW _ (weak_nlB (o := 64) (k := 4) 3 rfl rfl) ?_)))
    exact fin [] (by decide) rfl rfl rfl ⟨rfl, rfl⟩
  have hc0 : ¬ chkV r ≠ 0 := by simpa using c0
  by_cases d0 : last < 0
  · have hv : cloS r id' last s t = (zSta, zSta, 20) := by unfold cloS; rw [if_neg hc0, if_pos (.inl d0)]
    have d0n : ¬ 0 ≤ last := by omega
    rw [hv]
    simp [SSE, staC, zSta, c0, d0, d0n, -errV_0]
    refine finW _ (weak_nlB (o := 48) (k := 3) 36 rfl rfl) (finW _ (weak_nlB (o := 48) (k := 4) 3 rfl rfl) (finW _ (weak_nlB (o := 64) (k := 3) 36 rfl rfl) (finW _ (weak_nlB (o := 64) (k := 4) 3 rfl rfl) ?_)))
    exact fin [] (by decide) rfl rfl rfl ⟨rfl, rfl⟩
  have d0p : 0 ≤ last := by omega
  by_cases d1 : r.am < last
  · have hv : cloS r id' last s t = (zSta, zSta, 20) := by unfold cloS; rw [if_neg hc0, if_pos (.inr d1)]
    rw [hv]
    simp [SSE, staC, zSta, c0, d0, d0p, d1, e79, l0, iC, -errV_0]
    refine finW _ (weak_nlB (o := 48) (k := 3) 36 rfl rfl) (finW _ (weak_nlB (o := 48) (k := 4) 3 rfl rfl) (finW _ (weak_nlB (o := 64) (k := 3) 36 rfl rfl) (finW _ (weak_nlB (o := 64) (k := 4) 3 rfl rfl) ?_)))
    exact fin [] (by decide) rfl rfl rfl ⟨rfl, rfl⟩
  have d1p : last ≤ r.am := by omega
  have hw : i64 (r.am - last) := by
    have := hr.2.2.2.2.2.1
    unfold i64 at this ⊢
    omega
  simp [c0, d0, d0p, d1, d1p, e79, l0, t0, iC, -errV_0]
  refine call0 (Vholds_ok r s id' hr hs) (by simp [RVv, SV, staC, I]) ?_
  rintro y H' ⟨rfl, rfl⟩
  refine ⟨.inl (by simp), le_ok rfl, ?_⟩
  cases p0 : hasV r s id' with
  | false =>
    have hv : cloS r id' last s t = (zSta, zSta, 8) := by unfold cloS; rw [if_neg hc0, if_neg (by omega), if_pos (.inl p0)]
    rw [hv]
    simp [SSE, staC, zSta, -errV_0]
    refine finW _ (weak_nlB (o := 48) (k := 3) 36 rfl rfl) (finW _ (weak_nlB (o := 48) (k := 4) 3 rfl rfl) (finW _ (weak_nlB (o := 64) (k := 3) 36 rfl rfl) (finW _ (weak_nlB (o := 64) (k := 4) 3 rfl rfl) ?_)))
    exact fin [] (by decide) rfl rfl rfl ⟨rfl, rfl⟩
  | true =>
  simp [l0, t0, -errV_0]
  refine call0 (Vholds_ok r t id' hr ht) (by simp [RVv, SV, staC, I]) ?_
  rintro y H' ⟨rfl, rfl⟩
  refine ⟨.inl (by simp), le_ok rfl, ?_⟩
  cases p1 : hasV r t id' with
  | false =>
    have hv : cloS r id' last s t = (zSta, zSta, 8) := by unfold cloS; rw [if_neg hc0, if_neg (by omega), if_pos (.inr p1)]
    rw [hv]
    simp [SSE, staC, zSta, -errV_0]
    refine finW _ (weak_nlB (o := 48) (k := 3) 36 rfl rfl) (finW _ (weak_nlB (o := 48) (k := 4) 3 rfl rfl) (finW _ (weak_nlB (o := 64) (k := 3) 36 rfl rfl) (finW _ (weak_nlB (o := 64) (k := 4) 3 rfl rfl) ?_)))
    exact fin [] (by decide) rfl rfl rfl ⟨rfl, rfl⟩
  | true =>
  have hv0 : cloS r id' last s t = if (freV r s id' (sid r.f.k0 r.f.k1 r.a) last).2 ≠ 0 then (zSta, zSta, (freV r s id' (sid r.f.k0 r.f.k1 r.a) last).2) else if (freV r t id' (sid r.s.k0 r.s.k1 r.b) last).2 ≠ 0 then (zSta, zSta, (freV r t id' (sid r.s.k0 r.s.k1 r.b) last).2) else ((freV r s id' (sid r.f.k0 r.f.k1 r.a) last).1, (freV r t id' (sid r.s.k0 r.s.k1 r.b) last).1, 0) := by
    unfold cloS
    rw [if_neg hc0, if_neg (by omega), if_neg (by rw [p0, p1]; simp)]
  have hf1 := Vfree_ok r s id' (sid r.f.k0 r.f.k1 r.a) last hr hs hi hla hw
  have hf2 := Vfree_ok r t id' (sid r.s.k0 r.s.k1 r.b) last hr ht hi hla hw
  obtain ⟨A, hA⟩ : ∃ A, freV r s id' (sid r.f.k0 r.f.k1 r.a) last = A := ⟨_, rfl⟩
  obtain ⟨B, hB⟩ : ∃ B, freV r t id' (sid r.s.k0 r.s.k1 r.b) last = B := ⟨_, rfl⟩
  rw [hA] at hf1 hv0
  rw [hB] at hf2 hv0
  obtain ⟨Q, hQ⟩ : ∃ Q, cloS r id' last s t = Q := ⟨_, rfl⟩
  rw [hQ] at hv0 ⊢
  simp [l0, t0, -errV_0]
  refine call0 (Vsides_ok r hr) (by simp [RVv]) ?_
  rintro y H' ⟨rfl, rfl⟩
  refine ⟨.inl (by simp [iC]), le_ok rfl, ?_⟩
  simp [iC, l0, t0, -errV_0]
  refine call0 hf1 (by simp [RVv, SV, staC, I]) ?_
  rintro y H' ⟨rfl, rfl⟩
  refine ⟨.inl (by simp), le_ok rfl, ?_⟩
  by_cases c1 : A.2 = 0
  rotate_left
  · rw [if_pos c1] at hv0
    rw [hv0]
    simp [SE, SSE, staC, zSta, c1, -errV_0]
    refine finW _ (weak_nlB (o := 48) (k := 3) 36 rfl rfl) (finW _ (weak_nlB (o := 48) (k := 4) 3 rfl rfl) (finW _ (weak_nlB (o := 64) (k := 3) 36 rfl rfl) (finW _ (weak_nlB (o := 64) (k := 4) 3 rfl rfl) ?_)))
    exact fin [] (by decide) rfl rfl rfl ⟨rfl, rfl⟩
  rw [if_neg (by simpa using c1)] at hv0
  simp [SE, staC, c1, l0, t0, -errV_0]
  refine call0 hf2 (by simp [RVv, SV, staC, I]) ?_
  rintro y H' ⟨rfl, rfl⟩
  refine ⟨.inl (by simp), le_ok rfl, ?_⟩
  by_cases c2 : B.2 = 0
  rotate_left
  · rw [if_pos c2] at hv0
    rw [hv0]
    simp [SE, SSE, staC, zSta, c2, -errV_0]
    refine finW _ (weak_nlB (o := 48) (k := 3) 36 rfl rfl) (finW _ (weak_nlB (o := 48) (k := 4) 3 rfl rfl) (finW _ (weak_nlB (o := 64) (k := 3) 36 rfl rfl) (finW _ (weak_nlB (o := 64) (k := 4) 3 rfl rfl) ?_)))
    exact fin [] (by decide) rfl rfl rfl ⟨rfl, rfl⟩
  rw [if_neg (by simpa using c2)] at hv0
  rw [hv0]
  simp [SE, SSE, staC, c2, -errV_0]
  exact fin [] (by decide) rfl rfl rfl ⟨rfl, rfl⟩

end Go.Proofs.YtejjhgdnmknejaaGreatDoor

namespace Go.Proofs.YtejjhgdnmknejaaGreatDoor
open Go Go.EW
set_option linter.unusedSimpArgs false
set_option linter.unusedVariables false

@[simp] def l_SCheck_1 (_ : Unit) : List EOp := [⟨0, (some 1), none, (.q (.box 49 (.t 0))), []⟩, ⟨1, (some 2), none, (.q (.mov (.k .nilIface))), []⟩]
@[simp] def b_SCheck_2 (_ : Unit) : EB := reg0 (hid l_SCheck_1) 2
@[simp] def l_SCheck_3 (_ : Unit) : List EOp := [⟨0, (some 3), none, (.q (.lda 5 (.t 1))), []⟩, ⟨1, (some 4), none, (.call 130 [(.t 3)]), []⟩, ⟨2, (some 5), none, (.q (.un .not (.t 4))), []⟩]
@[simp] def b_SCheck_4 (_ : Unit) : EB := reg0 (hid l_SCheck_3) 3
@[simp] def l_SCheck_5 (_ : Unit) : List EOp := [⟨0, (some 6), none, (.q (.mki 132 (.k (.int .i64 1)))), []⟩, ⟨1, (some 2), none, (.q (.mov (.t 6))), []⟩]
@[simp] def b_SCheck_6 (_ : Unit) : EB := reg0 (hid l_SCheck_5) 2
@[simp] def b_SCheck_7 (_ : Unit) : EB := .seq (hid b_SCheck_6) .ret
@[simp] def b_SCheck_8 (_ : Unit) : EB := .cond (.t 5) (hid b_SCheck_7) .skip
@[simp] def b_SCheck_9 (_ : Unit) : EB := .seq (hid b_SCheck_4) (hid b_SCheck_8)
@[simp] def l_SCheck_10 (_ : Unit) : List EOp := [⟨0, (some 2), none, (.q (.mov (.k .nilIface))), []⟩]
@[simp] def b_SCheck_11 (_ : Unit) : EB := reg0 (hid l_SCheck_10) 1
@[simp] def b_SCheck_12 (_ : Unit) : EB := .seq (hid b_SCheck_11) .ret
@[simp] def b_SCheck_13 (_ : Unit) : EB := .seq (hid b_SCheck_9) (hid b_SCheck_12)
@[simp] def b_SCheck_14 (_ : Unit) : EB := .seq (hid b_SCheck_2) (hid b_SCheck_13)
end Go.Proofs.YtejjhgdnmknejaaGreatDoor

namespace Go.Proofs.YtejjhgdnmknejaaGreatDoor
open Go Go.EW
set_option linter.unusedSimpArgs false
set_option linter.unusedVariables false

@[simp] def l_sure_1 (_ : Unit) : List EOp := [⟨0, (some 0), none, (.q (.mov (.k (.bool false)))), []⟩]
@[simp] def b_sure_2 (_ : Unit) : EB := reg0 (hid l_sure_1) 1
@[simp] def l_sure_4 (_ : Unit) : List EOp := [⟨6, (some 1), none, (.q (.alloc 44 (zU8 ++ (([(.int .i64 0), (.int .i64 0), (.int .i64 0), (.int .i64 0), (.int .i64 0), (.int .i64 0)] : List Value) ++ zU8 ++ [(.int .i64 0), (.int .i64 0), (.int .i64 0), (.int .i64 0), (.int .i64 0), (.int .i64 0), (.int .i64 0), (.int .i64 0), (.int .i64 0), (.int .i64 0), (.int .i64 0)])))), []⟩, ⟨7, none, none, (.sto 81 (.t 1) (.t 13)), []⟩]
@[simp] def l_sure_3 (_ : Unit) : List EOp := ⟨0, (some 8), none, (.q (.build [(.int .i64 0), (.int .i64 0)] [(0, 1, (.k (.int .i64 1))), (1, 1, (.k (.int .i64 2)))])), []⟩ :: ⟨1, (some 9), none, (.q (.build (zU8 ++ [(.int .i64 0), (.int .i64 0), (.int .i64 0), (.int .i64 0), (.int .i64 0), (.int .i64 0)]) [(34, 2, (.t 8))])), []⟩ :: ⟨2, (some 10), none, (.q (.build [(.int .i64 0), (.int .i64 0)] [(0, 1, (.k (.int .i64 2))), (1, 1, (.k (.int .i64 3)))])), []⟩ :: ⟨3, (some 11), none, (.q (.build (zU8 ++ [(.int .i64 0), (.int .i64 0), (.int .i64 0), (.int .i64 0), (.int .i64 0), (.int .i64 0)]) [(34, 2, (.t 10))])), []⟩ :: ⟨4, (some 12), none, (.q (.build [(.int .i64 0), (.int .i64 0), (.int .i64 0)] [(0, 1, (.k (.int .i64 1))), (1, 1, (.k (.int .i64 2))), (2, 1, (.k (.int .i64 3)))])), []⟩ :: ⟨5, (some 13), none, (.q (.build (zU8 ++ (([(.int .i64 0), (.int .i64 0), (.int .i64 0), (.int .i64 0), (.int .i64 0), (.int .i64 0)] : List Value) ++ zU8 ++ [(.int .i64 0), (.int .i64 0), (.int .i64 0), (.int .i64 0), (.int .i64 0), (.int .i64 0), (.int .i64 0), (.int .i64 0), (.int .i64 0), (.int .i64 0), (.int .i64 0)])) [(0, 38, (.t 9)), (38, 38, (.t 11)), (76, 3, (.t 12)), (79, 1, (.k (.int .i64 50)))])), []⟩ :: hid l_sure_4
@[simp] def b_sure_5 (_ : Unit) : EB := reg0 (hid l_sure_3) 8
@[simp] def l_sure_8 (_ : Unit) : List EOp := [⟨12, none, none, (.fz (.sto 5 (.t 2) (.t 21))), []⟩, ⟨13, none, none, (.fz (.sto 5 (.t 3) (.t 22))), []⟩, ⟨14, (some 4), none, (.q (.mov (.t 23))), []⟩]
@[simp] def l_sure_7 (_ : Unit) : List EOp := ⟨6, (some 14), none, (.q (.mov (.t 20))), []⟩ :: ⟨7, (some 21), none, (.q (.ext 0 (.t 14))), []⟩ :: ⟨8, (some 22), none, (.q (.ext 1 (.t 14))), []⟩ :: ⟨9, (some 23), none, (.q (.ext 2 (.t 14))), []⟩ :: ⟨10, (some 2), none, (.q (.alloc 49 [(.int .i64 0), (.int .i64 0), (.int .i64 0), (.slice none 0 0), (.slice none 0 0)])), []⟩ :: ⟨11, (some 3), none, (.q (.alloc 49 [(.int .i64 0), (.int .i64 0), (.int .i64 0), (.slice none 0 0), (.slice none 0 0)])), []⟩ :: hid l_sure_8
@[simp] def l_sure_6 (_ : Unit) : List EOp := ⟨0, (some 15), none, (.q (.lda 81 (.t 1))), []⟩ :: ⟨1, (some 16), none, (.q (.build [(.int .i64 0), (.int .i64 0)] [(0, 1, (.k (.int .i64 100))), (1, 1, (.k (.int .i64 0)))])), []⟩ :: ⟨2, (some 17), none, (.q (.build [(.int .i64 0), (.int .i64 0), (.int .i64 0), (.slice none 0 0), (.slice none 0 0)] [(1, 2, (.t 16))])), []⟩ :: ⟨3, (some 18), none, (.q (.build [(.int .i64 0), (.int .i64 0)] [(0, 1, (.k (.int .i64 100))), (1, 1, (.k (.int .i64 0)))])), []⟩ :: ⟨4, (some 19), none, (.q (.build [(.int .i64 0), (.int .i64 0), (.int .i64 0), (.slice none 0 0), (.slice none 0 0)] [(1, 2, (.t 18))])), []⟩ :: ⟨5, (some 20), none, (.call 10 [(.t 15), (.k (.int .i64 7)), (.t 17), (.t 19)]), []⟩ :: hid l_sure_7
@[simp] def b_sure_9 (_ : Unit) : EB := reg0 (hid l_sure_6) 15
@[simp] def l_sure_12 (_ : Unit) : List EOp := [⟨12, (some 7), none, (.q (.mov (.t 31))), []⟩]
@[simp] def l_sure_11 (_ : Unit) : List EOp := ⟨6, (some 30), none, (.q (.ext 1 (.t 24))), []⟩ :: ⟨7, (some 31), none, (.q (.ext 2 (.t 24))), []⟩ :: ⟨8, (some 5), none, (.q (.alloc 49 [(.int .i64 0), (.int .i64 0), (.int .i64 0), (.slice none 0 0), (.slice none 0 0)])), []⟩ :: ⟨9, (some 6), none, (.q (.alloc 49 [(.int .i64 0), (.int .i64 0), (.int .i64 0), (.slice none 0 0), (.slice none 0 0)])), []⟩ :: ⟨10, none, none, (.fz (.sto 5 (.t 5) (.t 29))), []⟩ :: ⟨11, none, none, (.fz (.sto 5 (.t 6) (.t 30))), []⟩ :: hid l_sure_12
@[simp] def l_sure_10 (_ : Unit) : List EOp := ⟨0, (some 25), none, (.q (.lda 81 (.t 1))), []⟩ :: ⟨1, (some 26), none, (.q (.lda 5 (.t 2))), []⟩ :: ⟨2, (some 27), none, (.q (.lda 5 (.t 3))), []⟩ :: ⟨3, (some 28), none, (.call 17 [(.t 25), (.k (.int .i64 7)), (.k (.int .i64 20)), (.t 26), (.t 27)]), []⟩ :: ⟨4, (some 24), none, (.q (.mov (.t 28))), []⟩ :: ⟨5, (some 29), none, (.q (.ext 0 (.t 24))), []⟩ :: hid l_sure_11
@[simp] def b_sure_13 (_ : Unit) : EB := reg0 (hid l_sure_10) 13
@[simp] def l_sure_18 (_ : Unit) : List EOp := [⟨24, (some 0), none, (.q (.mov (.t 55))), []⟩]
@[simp] def l_sure_17 (_ : Unit) : List EOp := ⟨18, (some 50), none, (.q (.mov (.t 49))), []⟩ :: ⟨19, (some 51), (some (50, true)), (.q (.fad 1 (.t 6))), []⟩ :: ⟨20, (some 52), (some (50, true)), (.q (.lda 2 (.t 51))), []⟩ :: ⟨21, (some 53), (some (50, true)), (.q (.build [(.int .i64 0), (.int .i64 0)] [(0, 1, (.k (.int .i64 80))), (1, 1, (.k (.int .i64 20)))])), []⟩ :: ⟨22, (some 54), (some (50, true)), (.q (.eqa false 2 .i64 (.t 52) (.t 53))), []⟩ :: ⟨23, (some 55), none, (.q (.pick (.t 50) (.t 54) (.k (.bool false)))), []⟩ :: hid l_sure_18
@[simp] def l_sure_16 (_ : Unit) : List EOp := ⟨12, (some 44), none, (.q (.mov (.t 43))), []⟩ :: ⟨13, (some 45), (some (44, true)), (.q (.fad 1 (.t 5))), []⟩ :: ⟨14, (some 46), (some (44, true)), (.q (.lda 2 (.t 45))), []⟩ :: ⟨15, (some 47), (some (44, true)), (.q (.build [(.int .i64 0), (.int .i64 0)] [(0, 1, (.k (.int .i64 80))), (1, 1, (.k (.int .i64 20)))])), []⟩ :: ⟨16, (some 48), (some (44, true)), (.q (.eqa false 2 .i64 (.t 46) (.t 47))), []⟩ :: ⟨17, (some 49), none, (.q (.pick (.t 44) (.t 48) (.k (.bool false)))), []⟩ :: hid l_sure_17
@[simp] def l_sure_15 (_ : Unit) : List EOp := ⟨6, (some 38), none, (.q (.mov (.t 37))), []⟩ :: ⟨7, (some 39), (some (38, true)), (.q (.fad 1 (.t 2))), []⟩ :: ⟨8, (some 40), (some (38, true)), (.q (.lda 2 (.t 39))), []⟩ :: ⟨9, (some 41), (some (38, true)), (.q (.build [(.int .i64 0), (.int .i64 0)] [(0, 1, (.k (.int .i64 50))), (1, 1, (.k (.int .i64 0)))])), []⟩ :: ⟨10, (some 42), (some (38, true)), (.q (.eqa false 2 .i64 (.t 40) (.t 41))), []⟩ :: ⟨11, (some 43), none, (.q (.pick (.t 38) (.t 42) (.k (.bool false)))), []⟩ :: hid l_sure_16
@[simp] def l_sure_14 (_ : Unit) : List EOp := ⟨0, (some 32), none, (.q (.mov (.t 4))), []⟩ :: ⟨1, (some 33), none, (.q (.eqi false (.t 32))), []⟩ :: ⟨2, (some 34), none, (.q (.mov (.t 33))), []⟩ :: ⟨3, (some 35), (some (34, true)), (.q (.mov (.t 7))), []⟩ :: ⟨4, (some 36), (some (34, true)), (.q (.eqi false (.t 35))), []⟩ :: ⟨5, (some 37), none, (.q (.pick (.t 34) (.t 36) (.k (.bool false)))), []⟩ :: hid l_sure_15
@[simp] def b_sure_19 (_ : Unit) : EB := reg0 (hid l_sure_14) 25
@[simp] def b_sure_20 (_ : Unit) : EB := .seq (hid b_sure_19) .ret
@[simp] def b_sure_21 (_ : Unit) : EB := .seq (hid b_sure_13) (hid b_sure_20)
@[simp] def b_sure_22 (_ : Unit) : EB := .seq (hid b_sure_9) (hid b_sure_21)
@[simp] def b_sure_23 (_ : Unit) : EB := .seq (hid b_sure_5) (hid b_sure_22)
@[simp] def b_sure_24 (_ : Unit) : EB := .seq (hid b_sure_2) (hid b_sure_23)
def c_sure : EB × List QOp × Nat := ((hid b_sure_24), [(.mov (.t 0))], 56)
theorem k_sure : cfun Tryz.prog 8 = some c_sure := by kernel_rfl


theorem VV_nl {X : Cx} {e1 e2 : Nat} {a b c : EC} {u : Value} (h : VV X (.v (.agg [a, b, c, .fz (.lit (.slice none 0 0)), .fz (.lit (.slice none 0 0))])) u) : VV X (.v (.agg [a, b, c, .fz (.sl e1 []), .fz (.sl e2 [])])) u := by
  obtain ⟨vs, rfl, hv⟩ := h
  refine ⟨vs, rfl, by simpa using hv.1, ?_⟩
  intro i x y hx hy
  rcases i with _ | _ | _ | _ | _ | i
  · exact hv.2 0 x y hx hy
  · exact hv.2 1 x y hx hy
  · exact hv.2 2 x y hx hy
  · have := hv.2 3 _ y rfl hy
    simp at hx; subst hx
    exact nl_vr this
  · have := hv.2 4 _ y rfl hy
    simp at hx; subst hx
    exact nl_vr this
  · simp at hx
theorem ecalls_nl34 {P : Program} {f : FuncId} {e1 e2 e3 e4 : Nat} {a b c a' b' c' : EC} {x y : EV} {H : List EO} {post : EV → List (Option EO) → Prop} (h : ECalls P f [x, y, .v (.agg [a, b, c, .fz (.sl e1 []), .fz (.sl e2 [])]), .v (.agg [a', b', c', .fz (.sl e3 []), .fz (.sl e4 [])])] H post) :
    ECalls P f [x, y, .v (.agg [a, b, c, .fz (.lit (.slice none 0 0)), .fz (.lit (.slice none 0 0))]), .v (.agg [a', b', c', .fz (.lit (.slice none 0 0)), .fz (.lit (.slice none 0 0))])] H post := by
  intro ρ Φ w vals r ha
  refine h ρ Φ w vals r ?_
  obtain ⟨u, us, rfl, h1, h2⟩ := ha.cons_left
  obtain ⟨u2, us2, rfl, h3, h4⟩ := h2.cons_left
  obtain ⟨u3, us3, rfl, h5, h6⟩ := h4.cons_left
  obtain ⟨u4, us4, rfl, h7, h8⟩ := h6.cons_left
  exact All2.cons h1 (All2.cons h3 (All2.cons (VV_nl h5) (All2.cons (VV_nl h7) h8)))

/-- The route of the sample. -/
def R0 : Rte := ⟨⟨hz, 0, 0, 1, 2, 0, 0⟩, ⟨hz, 0, 0, 2, 3, 0, 0⟩, 1, 2, 3, 50, 0⟩
theorem R0_ok : R0.ok := by simp [R0, Rte.ok, Prm.ok, i64, hz]
theorem s100_ok : (Sta.mk 0 100 0 [] []).ok := by simp [Sta.ok, i64]
theorem s50h_ok : (Sta.mk 1 50 0 [] [⟨7, 50, [1, 2, 3]⟩]).ok := by simp [Sta.ok, i64, Hol.ok]
theorem R0_open : opnS R0 7 ⟨0, 100, 0, [], []⟩ ⟨0, 100, 0, [], []⟩ = (⟨1, 50, 0, [], [⟨7, 50, [1, 2, 3]⟩]⟩, ⟨1, 50, 0, [], [⟨7, 50, [1, 2, 3]⟩]⟩, 0) := by kernel_rfl
theorem R0_close : cloS R0 7 20 ⟨1, 50, 0, [], [⟨7, 50, [1, 2, 3]⟩]⟩ ⟨1, 50, 0, [], [⟨7, 50, [1, 2, 3]⟩]⟩ = (⟨2, 80, 20, [], []⟩, ⟨2, 80, 20, [], []⟩, 0) := by kernel_rfl

set_option maxHeartbeats 8000000 in
set_option maxRecDepth 8000 in
theorem sure_ok : ECalls Tryz.prog 8 [] [] fun y H' => H' = [] ∧ y = .lit (.bool true) := by
  have hop := VOpen_ok R0 7 ⟨0, 100, 0, [], []⟩ ⟨0, 100, 0, [], []⟩ R0_ok (by simp [i64]) s100_ok s100_ok
  rw [R0_open] at hop
  have hop' : ECalls Tryz.prog 10 [RVv R0, I .i64 7, .v (.agg [iC 0, iC 100, iC 0, .fz (.lit (.slice none 0 0)), .fz (.lit (.slice none 0 0))]), .v (.agg [iC 0, iC 100, iC 0, .fz (.lit (.slice none 0 0)), .fz (.lit (.slice none 0 0))])] [] fun y H' => H' = [] ∧ y = SSE (⟨1, 50, 0, [], [⟨7, 50, [1, 2, 3]⟩]⟩, ⟨1, 50, 0, [], [⟨7, 50, [1, 2, 3]⟩]⟩, 0) := ecalls_nl34 (e1 := 36) (e2 := 3) (e3 := 36) (e4 := 3) hop
  have hcl := VClose_ok R0 7 20 ⟨1, 50, 0, [], [⟨7, 50, [1, 2, 3]⟩]⟩ ⟨1, 50, 0, [], [⟨7, 50, [1, 2, 3]⟩]⟩ R0_ok (by simp [i64]) (by simp [i64]) s50h_ok s50h_ok
  rw [R0_close] at hcl
  refine ecalls k_sure ?_
  simp [c_sure]
  refine call0 hop' (by kernel_rfl) ?_
  rintro y H' ⟨rfl, rfl⟩
  refine ⟨.inl (by kernel_rfl), le_ok rfl, ?_⟩
  simp [SSE, staC, -errV_0]
  refine call0 hcl (by kernel_rfl) ?_
  rintro y H' ⟨rfl, rfl⟩
  refine ⟨.inl (by kernel_rfl), le_ok rfl, ?_⟩
  simp [SSE, staC, -errV_0]
  exact fin [] (by decide) rfl rfl rfl ⟨rfl, rfl⟩

end Go.Proofs.YtejjhgdnmknejaaGreatDoor
