import Derived.Test.YtpohjnhlhfbnaaaDoorAll11
import Derived.Test.YtpohjnhlhfbnaaaDoorAll8
import Derived.Test.YtpohjnhlhfbnaaaDoorAll10
namespace Go.Proofs.YtpohjnhlhfbnaaaDoor
open Go Go.EW
set_option linter.unusedSimpArgs false
set_option linter.unusedVariables false

@[simp] def l_byHold_1 (_ : Unit) : List EOp := [⟨0, (some 2), none, (.q (.box 65 (.t 0))), []⟩, ⟨1, (some 4), none, (.q (.mov (.k (.int .i64 0)))), []⟩]
@[simp] def b_byHold_2 (_ : Unit) : EB := reg0 (hid l_byHold_1) 2
@[simp] def l_byHold_3 (_ : Unit) : List EOp := [⟨0, (some 5), none, (.q (.fad 0 (.t 2))), []⟩, ⟨1, (some 6), none, (.q (.ldc (.t 5))), []⟩, ⟨2, (some 7), none, (.q (.mov (.t 1))), []⟩, ⟨3, (some 8), none, (.call 95 [(.t 6), (.t 7)]), []⟩, ⟨4, (some 4), none, (.q (.mov (.t 8))), []⟩]
@[simp] def b_byHold_4 (_ : Unit) : EB := reg0 (hid l_byHold_3) 5
@[simp] def b_byHold_5 (_ : Unit) : EB := .seq (hid b_byHold_4) .ret
@[simp] def b_byHold_6 (_ : Unit) : EB := .seq (hid b_byHold_2) (hid b_byHold_5)
def c_byHold : EB × List QOp × Nat := ((hid b_byHold_6), [(.mov (.t 4))], 9)
theorem k_byHold : cfun Tryd.prog 68 = some c_byHold := by kernel_rfl

@[simp] def l_BinH_1 (_ : Unit) : List EOp := [⟨0, (some 6), none, (.q (.mov (.k (.int .i64 0)))), []⟩, ⟨1, (some 7), none, (.q (.mov (.k (.bool false)))), []⟩]
@[simp] def b_BinH_2 (_ : Unit) : EB := reg0 (hid l_BinH_1) 2
@[simp] def l_BinH_3 (_ : Unit) : List EOp := [⟨0, (some 12), none, (.q (.mov (.t 0))), []⟩, ⟨1, (some 13), none, (.q (.len (.t 12))), []⟩, ⟨2, (some 8), none, (.q (.mov (.t 13))), []⟩]
@[simp] def b_BinH_4 (_ : Unit) : EB := reg0 (hid l_BinH_3) 3
@[simp] def l_BinH_5 (_ : Unit) : List EOp := [⟨0, (some 14), none, (.q (.mov (.t 8))), []⟩, ⟨1, (some 9), none, (.q (.mov (.k (.int .i64 0)))), []⟩, ⟨2, (some 10), none, (.q (.mov (.t 14))), []⟩]
@[simp] def b_BinH_6 (_ : Unit) : EB := reg0 (hid l_BinH_5) 3
@[simp] def l_BinH_7 (_ : Unit) : List EOp := [⟨0, (some 15), none, (.q (.mov (.t 9))), []⟩, ⟨1, (some 16), none, (.q (.mov (.t 10))), []⟩, ⟨2, (some 17), none, (.q (.bin .lss (.t 15) (.t 16))), []⟩]
@[simp] def b_BinH_8 (_ : Unit) : EB := reg0 (hid l_BinH_7) 3
@[simp] def b_BinH_9 (_ : Unit) : EB := .cond (.t 17) .skip (.exit 0)
@[simp] def b_BinH_10 (_ : Unit) : EB := .seq (hid b_BinH_8) (hid b_BinH_9)
@[simp] def l_BinH_12 (_ : Unit) : List EOp := [⟨6, (some 11), none, (.q (.mov (.t 23))), []⟩]
@[simp] def l_BinH_11 (_ : Unit) : List EOp := ⟨0, (some 18), none, (.q (.mov (.t 9))), []⟩ :: ⟨1, (some 19), none, (.q (.mov (.t 10))), []⟩ :: ⟨2, (some 20), none, (.q (.bin .add (.t 18) (.t 19))), []⟩ :: ⟨3, (some 21), none, (.q (.cnv .u64 (.t 20))), []⟩ :: ⟨4, (some 22), none, (.q (.bin .shr (.t 21) (.k (.int .u64 1)))), []⟩ :: ⟨5, (some 23), none, (.q (.cnv .i64 (.t 22))), []⟩ :: hid l_BinH_12
@[simp] def b_BinH_13 (_ : Unit) : EB := reg0 (hid l_BinH_11) 7
@[simp] def l_BinH_15 (_ : Unit) : List EOp := [⟨6, (some 30), none, (.clo (.t 24) [(.t 28), (.t 29)]), []⟩, ⟨7, (some 31), none, (.q (.bin .lss (.t 30) (.k (.int .i64 0)))), []⟩]
@[simp] def l_BinH_14 (_ : Unit) : List EOp := ⟨0, (some 24), none, (.q (.mov (.t 2))), []⟩ :: ⟨1, (some 25), none, (.q (.mov (.t 0))), []⟩ :: ⟨2, (some 26), none, (.q (.mov (.t 11))), []⟩ :: ⟨3, (some 27), none, (.q (.isl 3 (.t 25) (.t 26))), []⟩ :: ⟨4, (some 28), none, (.q (.lda 3 (.t 27))), []⟩ :: ⟨5, (some 29), none, (.q (.mov (.t 1))), []⟩ :: hid l_BinH_15
@[simp] def b_BinH_16 (_ : Unit) : EB := reg0 (hid l_BinH_14) 8
@[simp] def l_BinH_17 (_ : Unit) : List EOp := [⟨0, (some 32), none, (.q (.mov (.t 11))), []⟩, ⟨1, (some 33), none, (.q (.bin .add (.t 32) (.k (.int .i64 1)))), []⟩, ⟨2, (some 9), none, (.q (.mov (.t 33))), []⟩]
@[simp] def b_BinH_18 (_ : Unit) : EB := reg0 (hid l_BinH_17) 3
@[simp] def l_BinH_19 (_ : Unit) : List EOp := [⟨0, (some 34), none, (.q (.mov (.t 11))), []⟩, ⟨1, (some 10), none, (.q (.mov (.t 34))), []⟩]
@[simp] def b_BinH_20 (_ : Unit) : EB := reg0 (hid l_BinH_19) 2
@[simp] def b_BinH_21 (_ : Unit) : EB := .cond (.t 31) (hid b_BinH_18) (hid b_BinH_20)
@[simp] def b_BinH_22 (_ : Unit) : EB := .seq (hid b_BinH_16) (hid b_BinH_21)
@[simp] def b_BinH_23 (_ : Unit) : EB := .seq (hid b_BinH_13) (hid b_BinH_22)
@[simp] def b_BinH_24 (_ : Unit) : EB := .block 1 (hid b_BinH_23)
@[simp] def b_BinH_25 (_ : Unit) : EB := .seq (hid b_BinH_10) (hid b_BinH_24)
@[simp] def b_BinH_26 (_ : Unit) : EB := .loop (hid b_BinH_25)
@[simp] def b_BinH_27 (_ : Unit) : EB := .block 0 (hid b_BinH_26)
@[simp] def l_BinH_30 (_ : Unit) : List EOp := [⟨12, (some 47), (some (39, true)), (.q (.bin .eql (.t 46) (.k (.int .i64 0)))), []⟩, ⟨13, (some 48), none, (.q (.pick (.t 39) (.t 47) (.k (.bool false)))), []⟩, ⟨14, (some 6), none, (.q (.mov (.t 35))), []⟩, ⟨15, (some 7), none, (.q (.mov (.t 48))), []⟩]
@[simp] def l_BinH_29 (_ : Unit) : List EOp := ⟨6, (some 41), (some (39, true)), (.q (.mov (.t 0))), []⟩ :: ⟨7, (some 42), (some (39, true)), (.q (.mov (.t 9))), []⟩ :: ⟨8, (some 43), (some (39, true)), (.q (.isl 3 (.t 41) (.t 42))), []⟩ :: ⟨9, (some 44), (some (39, true)), (.q (.lda 3 (.t 43))), []⟩ :: ⟨10, (some 45), (some (39, true)), (.q (.mov (.t 1))), []⟩ :: ⟨11, (some 46), (some (39, true)), (.clo (.t 40) [(.t 44), (.t 45)]), []⟩ :: hid l_BinH_30
@[simp] def l_BinH_28 (_ : Unit) : List EOp := ⟨0, (some 35), none, (.q (.mov (.t 9))), []⟩ :: ⟨1, (some 36), none, (.q (.mov (.t 9))), []⟩ :: ⟨2, (some 37), none, (.q (.mov (.t 8))), []⟩ :: ⟨3, (some 38), none, (.q (.bin .lss (.t 36) (.t 37))), []⟩ :: ⟨4, (some 39), none, (.q (.mov (.t 38))), []⟩ :: ⟨5, (some 40), (some (39, true)), (.q (.mov (.t 2))), []⟩ :: hid l_BinH_29
@[simp] def b_BinH_31 (_ : Unit) : EB := reg0 (hid l_BinH_28) 16
@[simp] def b_BinH_32 (_ : Unit) : EB := .seq (hid b_BinH_31) .ret
@[simp] def b_BinH_33 (_ : Unit) : EB := .seq (hid b_BinH_27) (hid b_BinH_32)
@[simp] def b_BinH_34 (_ : Unit) : EB := .seq (hid b_BinH_6) (hid b_BinH_33)
@[simp] def b_BinH_35 (_ : Unit) : EB := .seq (hid b_BinH_4) (hid b_BinH_34)
@[simp] def b_BinH_36 (_ : Unit) : EB := .seq (hid b_BinH_2) (hid b_BinH_35)
def c_BinH : EB × List QOp × Nat := ((hid b_BinH_36), [(.mov (.t 6)), (.mov (.t 7))], 49)
theorem k_BinH : cfun Tryd.prog 67 = some c_BinH := by kernel_rfl

@[simp] def l_SKeep_1 (_ : Unit) : List EOp := [⟨0, (some 3), none, (.q (.box 32 (.t 0))), []⟩, ⟨1, (some 5), none, (.q (.box 65 (.t 2))), []⟩, ⟨2, (some 6), none, (.q (.alloc 32 [(.int .i64 0), (.int .i64 0), (.int .i64 0), (.slice none 0 0), (.slice none 0 0)])), []⟩, ⟨3, (some 7), none, (.q (.mov (.k .nilIface))), []⟩]
@[simp] def b_SKeep_2 (_ : Unit) : EB := reg0 (hid l_SKeep_1) 4
@[simp] def l_SKeep_4 (_ : Unit) : List EOp := [⟨6, none, none, (.fz (.sto 5 (.t 8) (.t 15))), []⟩, ⟨7, (some 9), none, (.q (.mov (.t 16))), []⟩]
@[simp] def l_SKeep_3 (_ : Unit) : List EOp := ⟨0, (some 13), none, (.q (.lda 5 (.t 3))), []⟩ :: ⟨1, (some 14), none, (.call 37 [(.t 13)]), []⟩ :: ⟨2, (some 12), none, (.q (.mov (.t 14))), []⟩ :: ⟨3, (some 15), none, (.q (.ext 0 (.t 12))), []⟩ :: ⟨4, (some 16), none, (.q (.ext 1 (.t 12))), []⟩ :: ⟨5, (some 8), none, (.q (.alloc 32 [(.int .i64 0), (.int .i64 0), (.int .i64 0), (.slice none 0 0), (.slice none 0 0)])), []⟩ :: hid l_SKeep_4
@[simp] def b_SKeep_5 (_ : Unit) : EB := reg0 (hid l_SKeep_3) 8
@[simp] def l_SKeep_6 (_ : Unit) : List EOp := [⟨0, (some 17), none, (.q (.mov (.t 9))), []⟩, ⟨1, (some 18), none, (.q (.eqi true (.t 17))), []⟩]
@[simp] def b_SKeep_7 (_ : Unit) : EB := reg0 (hid l_SKeep_6) 2
@[simp] def l_SKeep_8 (_ : Unit) : List EOp := [⟨0, (some 19), none, (.q (.build [(.int .i64 0), (.int .i64 0), (.int .i64 0), (.slice none 0 0), (.slice none 0 0)] [])), []⟩, ⟨1, (some 20), none, (.q (.mov (.t 9))), []⟩, ⟨2, none, none, (.fz (.sto 5 (.t 6) (.t 19))), []⟩, ⟨3, (some 7), none, (.q (.mov (.t 20))), []⟩]
@[simp] def b_SKeep_9 (_ : Unit) : EB := reg0 (hid l_SKeep_8) 4
@[simp] def b_SKeep_10 (_ : Unit) : EB := .seq (hid b_SKeep_9) .ret
@[simp] def b_SKeep_11 (_ : Unit) : EB := .cond (.t 18) (hid b_SKeep_10) .skip
@[simp] def b_SKeep_12 (_ : Unit) : EB := .seq (hid b_SKeep_7) (hid b_SKeep_11)
@[simp] def l_SKeep_14 (_ : Unit) : List EOp := [⟨6, (some 27), none, (.q (.ext 0 (.t 21))), []⟩, ⟨7, (some 28), none, (.q (.ext 1 (.t 21))), []⟩, ⟨8, (some 10), none, (.q (.mov (.t 27))), []⟩, ⟨9, (some 11), none, (.q (.mov (.t 28))), []⟩]
@[simp] def l_SKeep_13 (_ : Unit) : List EOp := ⟨0, (some 22), none, (.q (.fad 4 (.t 8))), []⟩ :: ⟨1, (some 23), none, (.q (.ldc (.t 22))), []⟩ :: ⟨2, (some 24), none, (.q (.fad 0 (.t 5))), []⟩ :: ⟨3, (some 25), none, (.q (.ldc (.t 24))), []⟩ :: ⟨4, (some 26), none, (.call 67 [(.t 23), (.t 25), (.k (.func (.func 68) #[] #[]))]), []⟩ :: ⟨5, (some 21), none, (.q (.mov (.t 26))), []⟩ :: hid l_SKeep_14
@[simp] def b_SKeep_15 (_ : Unit) : EB := reg0 (hid l_SKeep_13) 10
@[simp] def l_SKeep_16 (_ : Unit) : List EOp := [⟨0, (some 30), none, (.q (.mov (.t 1))), []⟩, ⟨1, (some 31), none, (.call 38 [(.t 30)]), []⟩, ⟨2, (some 32), none, (.q (.un .not (.t 31))), []⟩, ⟨3, (some 29), none, (.q (.mov (.t 32))), []⟩]
@[simp] def b_SKeep_17 (_ : Unit) : EB := reg0 (hid l_SKeep_16) 4
@[simp] def l_SKeep_18 (_ : Unit) : List EOp := [⟨0, (some 33), none, (.q (.build [(.int .i64 0), (.int .i64 0), (.int .i64 0), (.slice none 0 0), (.slice none 0 0)] [])), []⟩, ⟨1, (some 34), none, (.q (.mki 79 (.k (.int .i64 33)))), []⟩, ⟨2, none, none, (.fz (.sto 5 (.t 6) (.t 33))), []⟩, ⟨3, (some 7), none, (.q (.mov (.t 34))), []⟩]
@[simp] def b_SKeep_19 (_ : Unit) : EB := reg0 (hid l_SKeep_18) 4
@[simp] def b_SKeep_20 (_ : Unit) : EB := .seq (hid b_SKeep_19) .ret
@[simp] def l_SKeep_21 (_ : Unit) : List EOp := [⟨0, (some 36), none, (.q (.fad 1 (.t 5))), []⟩, ⟨1, (some 37), none, (.q (.ldc (.t 36))), []⟩, ⟨2, (some 38), none, (.q (.bin .lss (.t 37) (.k (.int .i64 10)))), []⟩, ⟨3, (some 35), none, (.q (.mov (.t 38))), []⟩]
@[simp] def b_SKeep_22 (_ : Unit) : EB := reg0 (hid l_SKeep_21) 4
@[simp] def l_SKeep_23 (_ : Unit) : List EOp := [⟨0, (some 39), none, (.q (.build [(.int .i64 0), (.int .i64 0), (.int .i64 0), (.slice none 0 0), (.slice none 0 0)] [])), []⟩, ⟨1, (some 40), none, (.q (.mki 79 (.k (.int .i64 27)))), []⟩, ⟨2, none, none, (.fz (.sto 5 (.t 6) (.t 39))), []⟩, ⟨3, (some 7), none, (.q (.mov (.t 40))), []⟩]
@[simp] def b_SKeep_24 (_ : Unit) : EB := reg0 (hid l_SKeep_23) 4
@[simp] def b_SKeep_25 (_ : Unit) : EB := .seq (hid b_SKeep_24) .ret
@[simp] def l_SKeep_26 (_ : Unit) : List EOp := [⟨0, (some 42), none, (.q (.lda 3 (.t 5))), []⟩, ⟨1, (some 43), none, (.call 69 [(.t 42)]), []⟩, ⟨2, (some 44), none, (.q (.un .not (.t 43))), []⟩, ⟨3, (some 41), none, (.q (.mov (.t 44))), []⟩]
@[simp] def b_SKeep_27 (_ : Unit) : EB := reg0 (hid l_SKeep_26) 4
@[simp] def l_SKeep_28 (_ : Unit) : List EOp := [⟨0, (some 45), none, (.q (.build [(.int .i64 0), (.int .i64 0), (.int .i64 0), (.slice none 0 0), (.slice none 0 0)] [])), []⟩, ⟨1, (some 46), none, (.q (.mki 79 (.k (.int .i64 1)))), []⟩, ⟨2, none, none, (.fz (.sto 5 (.t 6) (.t 45))), []⟩, ⟨3, (some 7), none, (.q (.mov (.t 46))), []⟩]
@[simp] def b_SKeep_29 (_ : Unit) : EB := reg0 (hid l_SKeep_28) 4
@[simp] def b_SKeep_30 (_ : Unit) : EB := .seq (hid b_SKeep_29) .ret
@[simp] def l_SKeep_31 (_ : Unit) : List EOp := [⟨0, (some 48), none, (.q (.mov (.t 11))), []⟩, ⟨1, (some 47), none, (.q (.mov (.t 48))), []⟩]
@[simp] def b_SKeep_32 (_ : Unit) : EB := reg0 (hid l_SKeep_31) 2
@[simp] def l_SKeep_33 (_ : Unit) : List EOp := [⟨0, (some 49), none, (.q (.build [(.int .i64 0), (.int .i64 0), (.int .i64 0), (.slice none 0 0), (.slice none 0 0)] [])), []⟩, ⟨1, (some 50), none, (.q (.mki 79 (.k (.int .i64 9)))), []⟩, ⟨2, none, none, (.fz (.sto 5 (.t 6) (.t 49))), []⟩, ⟨3, (some 7), none, (.q (.mov (.t 50))), []⟩]
@[simp] def b_SKeep_34 (_ : Unit) : EB := reg0 (hid l_SKeep_33) 4
@[simp] def b_SKeep_35 (_ : Unit) : EB := .seq (hid b_SKeep_34) .ret
@[simp] def l_SKeep_36 (_ : Unit) : List EOp := [⟨0, (some 52), none, (.q (.lda 5 (.t 8))), []⟩, ⟨1, (some 53), none, (.call 63 [(.t 52)]), []⟩, ⟨2, (some 54), none, (.q (.bin .geq (.t 53) (.k (.int .i64 8)))), []⟩, ⟨3, (some 51), none, (.q (.mov (.t 54))), []⟩]
@[simp] def b_SKeep_37 (_ : Unit) : EB := reg0 (hid l_SKeep_36) 4
@[simp] def l_SKeep_38 (_ : Unit) : List EOp := [⟨0, (some 55), none, (.q (.build [(.int .i64 0), (.int .i64 0), (.int .i64 0), (.slice none 0 0), (.slice none 0 0)] [])), []⟩, ⟨1, (some 56), none, (.q (.mki 79 (.k (.int .i64 30)))), []⟩, ⟨2, none, none, (.fz (.sto 5 (.t 6) (.t 55))), []⟩, ⟨3, (some 7), none, (.q (.mov (.t 56))), []⟩]
@[simp] def b_SKeep_39 (_ : Unit) : EB := reg0 (hid l_SKeep_38) 4
@[simp] def b_SKeep_40 (_ : Unit) : EB := .seq (hid b_SKeep_39) .ret
@[simp] def l_SKeep_42 (_ : Unit) : List EOp := [⟨6, (some 64), none, (.q (.bin .lss (.t 61) (.t 63))), []⟩, ⟨7, (some 57), none, (.q (.mov (.t 64))), []⟩]
@[simp] def l_SKeep_41 (_ : Unit) : List EOp := ⟨0, (some 58), none, (.q (.mov (.t 1))), []⟩ :: ⟨1, (some 59), none, (.q (.fad 1 (.t 8))), []⟩ :: ⟨2, (some 60), none, (.q (.iad 2 1 (.t 59) (.t 58))), []⟩ :: ⟨3, (some 61), none, (.q (.ldc (.t 60))), []⟩ :: ⟨4, (some 62), none, (.q (.fad 1 (.t 5))), []⟩ :: ⟨5, (some 63), none, (.q (.ldc (.t 62))), []⟩ :: hid l_SKeep_42
@[simp] def b_SKeep_43 (_ : Unit) : EB := reg0 (hid l_SKeep_41) 8
@[simp] def l_SKeep_44 (_ : Unit) : List EOp := [⟨0, (some 65), none, (.q (.build [(.int .i64 0), (.int .i64 0), (.int .i64 0), (.slice none 0 0), (.slice none 0 0)] [])), []⟩, ⟨1, (some 66), none, (.q (.mki 79 (.k (.int .i64 20)))), []⟩, ⟨2, none, none, (.fz (.sto 5 (.t 6) (.t 65))), []⟩, ⟨3, (some 7), none, (.q (.mov (.t 66))), []⟩]
@[simp] def b_SKeep_45 (_ : Unit) : EB := reg0 (hid l_SKeep_44) 4
@[simp] def b_SKeep_46 (_ : Unit) : EB := .seq (hid b_SKeep_45) .ret
@[simp] def b_SKeep_47 (_ : Unit) : EB := .cond (.t 57) (hid b_SKeep_46) .skip
@[simp] def b_SKeep_48 (_ : Unit) : EB := .seq (hid b_SKeep_43) (hid b_SKeep_47)
@[simp] def b_SKeep_49 (_ : Unit) : EB := .cond (.t 51) (hid b_SKeep_40) (hid b_SKeep_48)
@[simp] def b_SKeep_50 (_ : Unit) : EB := .seq (hid b_SKeep_37) (hid b_SKeep_49)
@[simp] def b_SKeep_51 (_ : Unit) : EB := .cond (.t 47) (hid b_SKeep_35) (hid b_SKeep_50)
@[simp] def b_SKeep_52 (_ : Unit) : EB := .seq (hid b_SKeep_32) (hid b_SKeep_51)
@[simp] def b_SKeep_53 (_ : Unit) : EB := .cond (.t 41) (hid b_SKeep_30) (hid b_SKeep_52)
@[simp] def b_SKeep_54 (_ : Unit) : EB := .seq (hid b_SKeep_27) (hid b_SKeep_53)
@[simp] def b_SKeep_55 (_ : Unit) : EB := .cond (.t 35) (hid b_SKeep_25) (hid b_SKeep_54)
@[simp] def b_SKeep_56 (_ : Unit) : EB := .seq (hid b_SKeep_22) (hid b_SKeep_55)
@[simp] def b_SKeep_57 (_ : Unit) : EB := .cond (.t 29) (hid b_SKeep_20) (hid b_SKeep_56)
@[simp] def b_SKeep_58 (_ : Unit) : EB := .seq (hid b_SKeep_17) (hid b_SKeep_57)
@[simp] def b_SKeep_59 (_ : Unit) : EB := .block 0 (hid b_SKeep_58)
@[simp] def l_SKeep_61 (_ : Unit) : List EOp := [⟨6, (some 73), none, (.q (.bin .sub (.t 70) (.t 72))), []⟩, ⟨7, (some 74), none, (.q (.fad 1 (.t 8))), []⟩, ⟨8, (some 75), none, (.q (.iad 2 1 (.t 74) (.t 67))), []⟩, ⟨9, none, none, (.sto 1 (.t 75) (.t 73)), []⟩]
@[simp] def l_SKeep_60 (_ : Unit) : List EOp := ⟨0, (some 67), none, (.q (.mov (.t 1))), []⟩ :: ⟨1, (some 68), none, (.q (.fad 1 (.t 8))), []⟩ :: ⟨2, (some 69), none, (.q (.iad 2 1 (.t 68) (.t 67))), []⟩ :: ⟨3, (some 70), none, (.q (.ldc (.t 69))), []⟩ :: ⟨4, (some 71), none, (.q (.fad 1 (.t 5))), []⟩ :: ⟨5, (some 72), none, (.q (.ldc (.t 71))), []⟩ :: hid l_SKeep_61
@[simp] def b_SKeep_62 (_ : Unit) : EB := reg0 (hid l_SKeep_60) 10
@[simp] def l_SKeep_63 (_ : Unit) : List EOp := [⟨0, (some 76), none, (.q (.fad 2 (.t 5))), []⟩, ⟨1, (some 77), none, (.q (.ldc (.t 76))), []⟩, ⟨2, (some 78), none, (.call 70 [(.t 77)]), []⟩, ⟨3, (some 79), none, (.q (.fad 2 (.t 5))), []⟩, ⟨4, none, none, (.fz (.sto 1 (.t 79) (.t 78))), []⟩]
@[simp] def b_SKeep_64 (_ : Unit) : EB := reg0 (hid l_SKeep_63) 5
@[simp] def l_SKeep_66 (_ : Unit) : List EOp := [⟨6, (some 86), none, (.q (.fad 4 (.t 8))), []⟩, ⟨7, none, none, (.fz (.sto 1 (.t 86) (.t 85))), []⟩]
@[simp] def l_SKeep_65 (_ : Unit) : List EOp := ⟨0, (some 80), none, (.q (.fad 4 (.t 8))), []⟩ :: ⟨1, (some 81), none, (.q (.ldc (.t 80))), []⟩ :: ⟨2, (some 82), none, (.q (.mov (.t 10))), []⟩ :: ⟨3, (some 83), none, (.q (.lda 3 (.t 5))), []⟩ :: ⟨4, (some 84), none, (.q (.bsr 65 3 [(.int .i64 0), (.int .i64 0), (.slice none 0 0)] 1 [(0, (.t 83))])), []⟩ :: ⟨5, (some 85), none, (.call 71 [(.t 81), (.t 82), (.t 84)]), []⟩ :: hid l_SKeep_66
@[simp] def b_SKeep_67 (_ : Unit) : EB := reg0 (hid l_SKeep_65) 8
@[simp] def l_SKeep_68 (_ : Unit) : List EOp := [⟨0, (some 87), none, (.q (.lda 5 (.t 8))), []⟩, ⟨1, none, none, (.fz (.sto 5 (.t 6) (.t 87))), []⟩, ⟨2, (some 7), none, (.q (.mov (.k .nilIface))), []⟩]
@[simp] def b_SKeep_69 (_ : Unit) : EB := reg0 (hid l_SKeep_68) 3
@[simp] def b_SKeep_70 (_ : Unit) : EB := .seq (hid b_SKeep_69) .ret
@[simp] def b_SKeep_71 (_ : Unit) : EB := .seq (hid b_SKeep_67) (hid b_SKeep_70)
@[simp] def b_SKeep_72 (_ : Unit) : EB := .seq (hid b_SKeep_64) (hid b_SKeep_71)
@[simp] def b_SKeep_73 (_ : Unit) : EB := .seq (hid b_SKeep_62) (hid b_SKeep_72)
@[simp] def b_SKeep_74 (_ : Unit) : EB := .seq (hid b_SKeep_59) (hid b_SKeep_73)
@[simp] def b_SKeep_75 (_ : Unit) : EB := .seq (hid b_SKeep_15) (hid b_SKeep_74)
@[simp] def b_SKeep_76 (_ : Unit) : EB := .seq (hid b_SKeep_12) (hid b_SKeep_75)
@[simp] def b_SKeep_77 (_ : Unit) : EB := .seq (hid b_SKeep_5) (hid b_SKeep_76)
@[simp] def b_SKeep_78 (_ : Unit) : EB := .seq (hid b_SKeep_2) (hid b_SKeep_77)
def c_SKeep : EB × List QOp × Nat := ((hid b_SKeep_78), [(.lda 5 (.t 6)), (.mov (.t 7))], 88)
theorem k_SKeep : cfun Tryd.prog 26 = some c_SKeep := by kernel_rfl

@[simp] def l_SFree_1 (_ : Unit) : List EOp := [⟨0, (some 3), none, (.q (.box 32 (.t 0))), []⟩, ⟨1, (some 6), none, (.q (.alloc 32 [(.int .i64 0), (.int .i64 0), (.int .i64 0), (.slice none 0 0), (.slice none 0 0)])), []⟩, ⟨2, (some 7), none, (.q (.mov (.k .nilIface))), []⟩]
@[simp] def b_SFree_2 (_ : Unit) : EB := reg0 (hid l_SFree_1) 3
@[simp] def l_SFree_4 (_ : Unit) : List EOp := [⟨6, none, none, (.fz (.sto 5 (.t 8) (.t 15))), []⟩, ⟨7, (some 9), none, (.q (.mov (.t 16))), []⟩]
@[simp] def l_SFree_3 (_ : Unit) : List EOp := ⟨0, (some 13), none, (.q (.lda 5 (.t 3))), []⟩ :: ⟨1, (some 14), none, (.call 37 [(.t 13)]), []⟩ :: ⟨2, (some 12), none, (.q (.mov (.t 14))), []⟩ :: ⟨3, (some 15), none, (.q (.ext 0 (.t 12))), []⟩ :: ⟨4, (some 16), none, (.q (.ext 1 (.t 12))), []⟩ :: ⟨5, (some 8), none, (.q (.alloc 32 [(.int .i64 0), (.int .i64 0), (.int .i64 0), (.slice none 0 0), (.slice none 0 0)])), []⟩ :: hid l_SFree_4
@[simp] def b_SFree_5 (_ : Unit) : EB := reg0 (hid l_SFree_3) 8
@[simp] def l_SFree_6 (_ : Unit) : List EOp := [⟨0, (some 17), none, (.q (.mov (.t 9))), []⟩, ⟨1, (some 18), none, (.q (.eqi true (.t 17))), []⟩]
@[simp] def b_SFree_7 (_ : Unit) : EB := reg0 (hid l_SFree_6) 2
@[simp] def l_SFree_8 (_ : Unit) : List EOp := [⟨0, (some 19), none, (.q (.build [(.int .i64 0), (.int .i64 0), (.int .i64 0), (.slice none 0 0), (.slice none 0 0)] [])), []⟩, ⟨1, (some 20), none, (.q (.mov (.t 9))), []⟩, ⟨2, none, none, (.fz (.sto 5 (.t 6) (.t 19))), []⟩, ⟨3, (some 7), none, (.q (.mov (.t 20))), []⟩]
@[simp] def b_SFree_9 (_ : Unit) : EB := reg0 (hid l_SFree_8) 4
@[simp] def b_SFree_10 (_ : Unit) : EB := .seq (hid b_SFree_9) .ret
@[simp] def b_SFree_11 (_ : Unit) : EB := .cond (.t 18) (hid b_SFree_10) .skip
@[simp] def b_SFree_12 (_ : Unit) : EB := .seq (hid b_SFree_7) (hid b_SFree_11)
@[simp] def l_SFree_14 (_ : Unit) : List EOp := [⟨6, (some 27), none, (.q (.ext 1 (.t 21))), []⟩, ⟨7, (some 10), none, (.q (.mov (.t 26))), []⟩, ⟨8, (some 11), none, (.q (.mov (.t 27))), []⟩]
@[simp] def l_SFree_13 (_ : Unit) : List EOp := ⟨0, (some 22), none, (.q (.fad 4 (.t 8))), []⟩ :: ⟨1, (some 23), none, (.q (.ldc (.t 22))), []⟩ :: ⟨2, (some 24), none, (.q (.mov (.t 1))), []⟩ :: ⟨3, (some 25), none, (.call 67 [(.t 23), (.t 24), (.k (.func (.func 68) #[] #[]))]), []⟩ :: ⟨4, (some 21), none, (.q (.mov (.t 25))), []⟩ :: ⟨5, (some 26), none, (.q (.ext 0 (.t 21))), []⟩ :: hid l_SFree_14
@[simp] def b_SFree_15 (_ : Unit) : EB := reg0 (hid l_SFree_13) 9
@[simp] def l_SFree_16 (_ : Unit) : List EOp := [⟨0, (some 29), none, (.q (.mov (.t 11))), []⟩, ⟨1, (some 30), none, (.q (.un .not (.t 29))), []⟩, ⟨2, (some 28), none, (.q (.mov (.t 30))), []⟩]
@[simp] def b_SFree_17 (_ : Unit) : EB := reg0 (hid l_SFree_16) 3
@[simp] def l_SFree_18 (_ : Unit) : List EOp := [⟨0, (some 31), none, (.q (.build [(.int .i64 0), (.int .i64 0), (.int .i64 0), (.slice none 0 0), (.slice none 0 0)] [])), []⟩, ⟨1, (some 32), none, (.q (.mki 79 (.k (.int .i64 8)))), []⟩, ⟨2, none, none, (.fz (.sto 5 (.t 6) (.t 31))), []⟩, ⟨3, (some 7), none, (.q (.mov (.t 32))), []⟩]
@[simp] def b_SFree_19 (_ : Unit) : EB := reg0 (hid l_SFree_18) 4
@[simp] def b_SFree_20 (_ : Unit) : EB := .seq (hid b_SFree_19) .ret
@[simp] def l_SFree_23 (_ : Unit) : List EOp := [⟨12, (some 33), none, (.q (.mov (.t 45))), []⟩]
@[simp] def l_SFree_22 (_ : Unit) : List EOp := ⟨6, (some 40), (some (36, false)), (.q (.mov (.t 10))), []⟩ :: ⟨7, (some 41), (some (36, false)), (.q (.isl 3 (.t 39) (.t 40))), []⟩ :: ⟨8, (some 42), (some (36, false)), (.q (.fad 1 (.t 41))), []⟩ :: ⟨9, (some 43), (some (36, false)), (.q (.ldc (.t 42))), []⟩ :: ⟨10, (some 44), (some (36, false)), (.q (.bin .gtr (.t 37) (.t 43))), []⟩ :: ⟨11, (some 45), none, (.q (.pick (.t 36) (.k (.bool true)) (.t 44))), []⟩ :: hid l_SFree_23
@[simp] def l_SFree_21 (_ : Unit) : List EOp := ⟨0, (some 34), none, (.q (.mov (.t 2))), []⟩ :: ⟨1, (some 35), none, (.q (.bin .lss (.t 34) (.k (.int .i64 0)))), []⟩ :: ⟨2, (some 36), none, (.q (.mov (.t 35))), []⟩ :: ⟨3, (some 37), (some (36, false)), (.q (.mov (.t 2))), []⟩ :: ⟨4, (some 38), (some (36, false)), (.q (.fad 4 (.t 8))), []⟩ :: ⟨5, (some 39), (some (36, false)), (.q (.ldc (.t 38))), []⟩ :: hid l_SFree_22
@[simp] def b_SFree_24 (_ : Unit) : EB := reg0 (hid l_SFree_21) 13
@[simp] def l_SFree_25 (_ : Unit) : List EOp := [⟨0, (some 46), none, (.q (.build [(.int .i64 0), (.int .i64 0), (.int .i64 0), (.slice none 0 0), (.slice none 0 0)] [])), []⟩, ⟨1, (some 47), none, (.q (.mki 79 (.k (.int .i64 20)))), []⟩, ⟨2, none, none, (.fz (.sto 5 (.t 6) (.t 46))), []⟩, ⟨3, (some 7), none, (.q (.mov (.t 47))), []⟩]
@[simp] def b_SFree_26 (_ : Unit) : EB := reg0 (hid l_SFree_25) 4
@[simp] def b_SFree_27 (_ : Unit) : EB := .seq (hid b_SFree_26) .ret
@[simp] def b_SFree_28 (_ : Unit) : EB := .cond (.t 33) (hid b_SFree_27) .skip
@[simp] def b_SFree_29 (_ : Unit) : EB := .seq (hid b_SFree_24) (hid b_SFree_28)
@[simp] def b_SFree_30 (_ : Unit) : EB := .cond (.t 28) (hid b_SFree_20) (hid b_SFree_29)
@[simp] def b_SFree_31 (_ : Unit) : EB := .seq (hid b_SFree_17) (hid b_SFree_30)
@[simp] def b_SFree_32 (_ : Unit) : EB := .block 0 (hid b_SFree_31)
@[simp] def l_SFree_34 (_ : Unit) : List EOp := [⟨6, (some 54), none, (.q (.iad 2 1 (.t 53) (.k (.int .i64 0)))), []⟩, ⟨7, none, none, (.sto 1 (.t 54) (.t 52)), []⟩]
@[simp] def l_SFree_33 (_ : Unit) : List EOp := ⟨0, (some 48), none, (.q (.fad 1 (.t 8))), []⟩ :: ⟨1, (some 49), none, (.q (.iad 2 1 (.t 48) (.k (.int .i64 0)))), []⟩ :: ⟨2, (some 50), none, (.q (.ldc (.t 49))), []⟩ :: ⟨3, (some 51), none, (.q (.mov (.t 2))), []⟩ :: ⟨4, (some 52), none, (.q (.bin .add (.t 50) (.t 51))), []⟩ :: ⟨5, (some 53), none, (.q (.fad 1 (.t 8))), []⟩ :: hid l_SFree_34
@[simp] def b_SFree_35 (_ : Unit) : EB := reg0 (hid l_SFree_33) 8
@[simp] def l_SFree_38 (_ : Unit) : List EOp := [⟨12, (some 67), none, (.q (.fad 1 (.t 8))), []⟩, ⟨13, (some 68), none, (.q (.iad 2 1 (.t 67) (.k (.int .i64 1)))), []⟩, ⟨14, none, none, (.sto 1 (.t 68) (.t 66)), []⟩]
@[simp] def l_SFree_37 (_ : Unit) : List EOp := ⟨6, (some 61), none, (.q (.isl 3 (.t 59) (.t 60))), []⟩ :: ⟨7, (some 62), none, (.q (.fad 1 (.t 61))), []⟩ :: ⟨8, (some 63), none, (.q (.ldc (.t 62))), []⟩ :: ⟨9, (some 64), none, (.q (.mov (.t 2))), []⟩ :: ⟨10, (some 65), none, (.q (.bin .sub (.t 63) (.t 64))), []⟩ :: ⟨11, (some 66), none, (.q (.bin .add (.t 57) (.t 65))), []⟩ :: hid l_SFree_38
@[simp] def l_SFree_36 (_ : Unit) : List EOp := ⟨0, (some 55), none, (.q (.fad 1 (.t 8))), []⟩ :: ⟨1, (some 56), none, (.q (.iad 2 1 (.t 55) (.k (.int .i64 1)))), []⟩ :: ⟨2, (some 57), none, (.q (.ldc (.t 56))), []⟩ :: ⟨3, (some 58), none, (.q (.fad 4 (.t 8))), []⟩ :: ⟨4, (some 59), none, (.q (.ldc (.t 58))), []⟩ :: ⟨5, (some 60), none, (.q (.mov (.t 10))), []⟩ :: hid l_SFree_37
@[simp] def b_SFree_39 (_ : Unit) : EB := reg0 (hid l_SFree_36) 15
@[simp] def l_SFree_41 (_ : Unit) : List EOp := [⟨6, (some 75), none, (.q (.fad 4 (.t 8))), []⟩, ⟨7, none, none, (.fz (.sto 1 (.t 75) (.t 74))), []⟩]
@[simp] def l_SFree_40 (_ : Unit) : List EOp := ⟨0, (some 69), none, (.q (.fad 4 (.t 8))), []⟩ :: ⟨1, (some 70), none, (.q (.ldc (.t 69))), []⟩ :: ⟨2, (some 71), none, (.q (.mov (.t 10))), []⟩ :: ⟨3, (some 72), none, (.q (.mov (.t 10))), []⟩ :: ⟨4, (some 73), none, (.q (.bin .add (.t 72) (.k (.int .i64 1)))), []⟩ :: ⟨5, (some 74), none, (.call 72 [(.t 70), (.t 71), (.t 73)]), []⟩ :: hid l_SFree_41
@[simp] def b_SFree_42 (_ : Unit) : EB := reg0 (hid l_SFree_40) 8
@[simp] def l_SFree_43 (_ : Unit) : List EOp := [⟨0, (some 76), none, (.q (.lda 5 (.t 8))), []⟩, ⟨1, none, none, (.fz (.sto 5 (.t 6) (.t 76))), []⟩, ⟨2, (some 7), none, (.q (.mov (.k .nilIface))), []⟩]
@[simp] def b_SFree_44 (_ : Unit) : EB := reg0 (hid l_SFree_43) 3
@[simp] def b_SFree_45 (_ : Unit) : EB := .seq (hid b_SFree_44) .ret
@[simp] def b_SFree_46 (_ : Unit) : EB := .seq (hid b_SFree_42) (hid b_SFree_45)
@[simp] def b_SFree_47 (_ : Unit) : EB := .seq (hid b_SFree_39) (hid b_SFree_46)
@[simp] def b_SFree_48 (_ : Unit) : EB := .seq (hid b_SFree_35) (hid b_SFree_47)
@[simp] def b_SFree_49 (_ : Unit) : EB := .seq (hid b_SFree_32) (hid b_SFree_48)
@[simp] def b_SFree_50 (_ : Unit) : EB := .seq (hid b_SFree_15) (hid b_SFree_49)
@[simp] def b_SFree_51 (_ : Unit) : EB := .seq (hid b_SFree_12) (hid b_SFree_50)
@[simp] def b_SFree_52 (_ : Unit) : EB := .seq (hid b_SFree_5) (hid b_SFree_51)
@[simp] def b_SFree_53 (_ : Unit) : EB := .seq (hid b_SFree_2) (hid b_SFree_52)
def c_SFree : EB × List QOp × Nat := ((hid b_SFree_53), [(.lda 5 (.t 6)), (.mov (.t 7))], 77)
theorem k_SFree : cfun Tryd.prog 27 = some c_SFree := by kernel_rfl


/-- A row that is made and handed back may be handed back as one that is only looked at. -/
theorem ecalls_frz {P : Program} {f : FuncId} {args : List EV} {ty es : Nat} {xs : List (List FV)} (h : ECalls P f args [] fun y H' => H' = [some (.row ty es xs)] ∧ y = .v (.c (.row 0 xs.length))) : ECalls P f args [] fun y H' => H' = [] ∧ y = .v (.c (.fz (.sl es xs))) := by
  intro ρ Φ w vals r ha
  refine (h ρ Φ w vals r ha).mono ?_
  rintro e w' ⟨y, H', v, ρ', Φ', he, ⟨rfl, rfl⟩, hlen, hv, hr⟩
  have hw := weak_frz (m := 0) (n := 1) (T := [.v (.c (.row 0 xs.length))]) (H := ofO [some (.row ty es xs)]) (o := 0) (ty := ty) (es := es) (xs := xs) rfl
  obtain ⟨⟨X, hX, r1, a1, _, _⟩, _⟩ := hw w ρ Φ { tmps := #[v], defers := [] } w' ⟨⟨⟨fun o => o < 1, ρ', Φ', w'⟩, rfl, hr, All2.cons hv All2.nil, rfl, fun i hi => hi⟩, Nat.zero_le _⟩
  obtain ⟨XU, Xρ, XΦ, Xw⟩ := X
  obtain rfl : Xw = w' := hX
  refine ⟨_, [], v, Xρ, XΦ, he, ⟨rfl, rfl⟩, Nat.zero_le _, ?_, ?_⟩
  · have := a1.head
    simp at this
    exact this
  · refine ⟨r1.os, r1.tape, r1.output, r1.size, r1.block, fun o ho => absurd ho (Nat.not_lt_zero _), ?_, ?_, ?_, ?_, r1.fro, r1.phi, r1.glob⟩
    · intro o x hx; simp [ofO] at hx
    · intro o o' x x' b hx; simp [ofO] at hx
    · intro o x b hx; simp [ofO] at hx
    · intro o x b hx; simp [ofO] at hx
theorem cloneI_fz (l : List Int) (hl : l.length ≤ 100000000) : ECalls Tryd.prog 70 [IL l] [] fun y H' => H' = [] ∧ y = IL l := by
  have h := cloneI_ok l hl
  rw [show l.length = (intv l).length by simp] at h
  exact ecalls_frz h

@[simp] theorem conAll_holC (H : Nat → Option EO) (ids : List Nat) (p : Hol) : conAll H ids (holC p) = some (holC p) := by simp [holC]
@[simp] theorem strAll_holC (ids : List Nat) (p : Hol) : strAll ids (holC p) = some (holC p) := by simp [holC, strAll, strC]
@[simp] theorem frzAll_holC (p : Hol) : frzAll (holC p) = some (holF p) := by simp [holC, holF, frzAll, frz]
@[simp] theorem refs_holC (p : Hol) : (holC p).flatMap refsC = [] := by simp [holC]
@[simp] theorem fz_holC (ids : List Nat) (p : Hol) : (holC p).flatMap (fzC ids) = [] := by simp [holC]
@[simp] theorem ren_holC (g : Nat → Nat) (p : Hol) : (holC p).map (renC g) = holC p := by simp [holC]
theorem byHold_ok (p : Hol) (x : Int) : ECalls Tryd.prog 68 [.v (.agg (holC p)), I .i64 x] [] fun y H' => H' = [] ∧ y = I .i64 (cmpI p.id x) := by
  refine ecalls k_byHold ?_
  simp [c_byHold, I, holC]
  refine call0 (CmpI_ok p.id x) (by simp [Ptr, I, EV.lit]) ?_
  rintro y H' ⟨rfl, rfl⟩
  refine ⟨.inl (by simp [Ptr, I, EV.lit]), le_ok rfl, ?_⟩
  simp [Ptr, I, EV.lit]
  exact fin [] (by decide) rfl rfl rfl ⟨rfl, rfl⟩
theorem byHold_body : bodyOK Tryd.prog 68 = true := by kernel_rfl

set_option maxHeartbeats 4000000 in
theorem BinH_ok (l : List Hol) (x : Int) (hl : ∀ p ∈ l, p.ok) (hn : l.length ≤ 100000000) (hs : (l.map (·.id)).Pairwise (· < ·)) :
    ECalls Tryd.prog 67 [HL l, I .i64 x, .v (.c (.clo 68 []))] [] fun y H' => H' = [] ∧ y = .tup [.c (.fz (.lit (.int .i64 (posI (l.map (·.id)) x)))), .c (.fz (.lit (.bool (fndI (l.map (·.id)) x))))] := by
  obtain ⟨ids, hids⟩ : ∃ ids, l.map (·.id) = ids := ⟨_, rfl⟩
  rw [hids] at hs ⊢
  have idl : ids.length = l.length := by rw [← hids]; simp
  have hget : ∀ (k : Nat) (p : Hol), l[k]? = some p → ids[k]? = some p.id := fun k p h => by rw [← hids, List.getElem?_map, h]; rfl
  refine ecalls k_BinH ?_
  simp [c_BinH, I, HL]
  refine eloop (α := Nat × Nat) (fun a => a.1 ≤ a.2 ∧ a.2 ≤ l.length ∧ (∀ k y, k < a.1 → ids[k]? = some y → y < x) ∧ ∀ k y, a.2 ≤ k → ids[k]? = some y → x ≤ y) (fun a => a.2 - a.1)
    (fun a => [HL l, I .i64 x, .v (.c (.clo 68 [])), .any, .any, .any, .any, .any, I .i64 l.length, I .i64 a.1, I .i64 a.2, .any, .any, .any, .any, .any, .any, .any, .any, .any, .any, .any, .any, .any, .any, .any, .any, .any, .any, .any, .any, .any, .any, .any, .any, .any, .any, .any, .any, .any, .any, .any, .any, .any, .any, .any, .any, .any, .any]) (fun _ => []) (0, l.length) []
    ⟨by simp, Nat.le_refl _, by intro k y h; simp at h, by
      intro k y h hk
      have := lt_len hk
      simp at h; omega⟩ (by simp [I, HL]) (by simp) (by simp) (by simp) (by simp) ?_
  rintro ⟨i, j⟩ ⟨h1, h2, h3, h4⟩
  dsimp only at h1 h2 h3 h4
  simp [I, HL]
  refine alt (fun hlt => ?_) (fun hlt => ?_)
  · have hij : i < j := by omega
    obtain ⟨h, hh⟩ : ∃ h, (i + j) / 2 = h := ⟨_, rfl⟩
    have hl1 : i ≤ h := by omega
    have hl2 : h < j := by omega
    have hln : h < l.length := by omega
    obtain ⟨p, hc⟩ : ∃ p, l[h]? = some p := ⟨l[h], by simp [hln]⟩
    have hpo := hl p (List.mem_of_getElem? hc)
    have hcb := holv_get hc
    have hge : (holv l)[h]'(by simp [hln]) = holF p := by
      have e := hcb
      rw [List.getElem?_eq_getElem (by simp [hln])] at e
      exact Option.some.inj e
    have hpt := holC_take p
    have hpl : (holC p).length = 3 := rfl
    have hfl : (holF p).length = 3 := rfl
    have w0 : IntKind.i64.wrap ((i : Int) + (j : Int)) = ((i + j : Nat) : Int) := by rw [wrap_i64 (by omega) (by omega)]; omega
    have w1 : IntKind.u64.wrap ((i + j : Nat) : Int) = ((i + j : Nat) : Int) := wrap_u64 (by omega) (by omega)
    have w2 : ishr .u64 ((i + j : Nat) : Int) 1 = (h : Int) := by
      have e := ishr_nat .u64 (i + j) 1 (by decide)
      rw [show ((1 : Nat) : Int) = 1 from rfl] at e
      rw [e, ← hh]
    have w3 : IntKind.i64.wrap (h : Int) = (h : Int) := wrap_i64 (by omega) (by omega)
    have w4 : IntKind.i64.wrap ((h : Int) + 1) = ((h + 1 : Nat) : Int) := wrap_i64 (by omega) (by omega)
    simp [w0, w1, w2, w3, hln, hge, holF_fz, hpt, hpl, hfl, -Int.natCast_add]
    refine ⟨byHold_body, ?_⟩
    refine call0 (byHold_ok p x) (by simp [I]) ?_
    rintro y H' ⟨rfl, rfl⟩
    refine ⟨.inl (by simp [-List.flatMap_eq_nil_iff, I]), le_ok rfl, ?_⟩
    simp [I]
    have hcm : cmpI p.id x < 0 ↔ p.id < x := by unfold cmpI; split <;> (try split) <;> omega
    refine alt (fun hneg => ?_) (fun hneg => ?_)
    · have hpx := hcm.1 hneg
      simp [w4, -Int.natCast_add]
      refine round (h + 1, j) [] ⟨by dsimp only; omega, h2, ?_, h4⟩ (by dsimp only; omega) (by simp) (by simp) (by simp) (by simp) (by simp)
      intro k y hk hy
      dsimp only at hk
      rcases Nat.lt_or_ge k h with hkh | hkh
      · have := pw_get hs hkh hy (hget h p hc)
        omega
      · obtain rfl : k = h := by omega
        rw [hget k p hc] at hy
        obtain rfl := Option.some.inj hy
        exact hpx
    · have hpx : x ≤ p.id := by
        rcases Int.lt_or_le p.id x with q | q
        · exact absurd (hcm.2 q) hneg
        · exact q
      simp [-Int.natCast_add]
      refine round (i, h) [] ⟨hl1, by dsimp only; omega, h3, ?_⟩ (by dsimp only; omega) (by simp) (by simp) (by simp) (by simp) (by simp)
      intro k y hk hy
      dsimp only at hk
      rcases Nat.lt_or_ge h k with hkh | hkh
      · have := pw_get hs hkh (hget h p hc) hy
        omega
      · obtain rfl : k = h := by omega
        rw [hget k p hc] at hy
        obtain rfl := Option.some.inj hy
        exact hpx
  · obtain rfl : i = j := by omega
    have hpos : posI ids x = i := posI_eq (by omega) h3 fun y hy => h4 i y (Nat.le_refl _) hy
    rw [show fndI ids x = decide (ids[i]? = some x) by unfold fndI; rw [hpos], hpos]
    simp
    refine alt (fun hi => ?_) (fun hi => ?_)
    · have hln : i < l.length := by omega
      obtain ⟨p, hc⟩ : ∃ p, l[i]? = some p := ⟨l[i], by simp [hln]⟩
      have hpo := hl p (List.mem_of_getElem? hc)
      have hcb := holv_get hc
      have hge : (holv l)[i]'(by simp [hln]) = holF p := by
        have e := hcb
        rw [List.getElem?_eq_getElem (by simp [hln])] at e
        exact Option.some.inj e
      have hpt := holC_take p
      have hpl : (holC p).length = 3 := rfl
      have hfl : (holF p).length = 3 := rfl
      simp [hln, hge, holF_fz, hpt, hpl, hfl]
      refine ⟨byHold_body, ?_⟩
      refine call0 (byHold_ok p x) (by simp [I]) ?_
      rintro y H' ⟨rfl, rfl⟩
      refine ⟨.inl (by simp [-List.flatMap_eq_nil_iff, I]), le_ok rfl, ?_⟩
      simp [I]
      have hcm : cmpI p.id x = 0 ↔ ids[i]? = some x := by
        rw [hget i p hc]
        unfold cmpI
        simp only [Option.some.injEq]
        split <;> (try split) <;> omega
      rw [show decide (cmpI p.id x = 0) = decide (ids[i]? = some x) from decide_eq_decide.2 hcm]
      exact fin [] (by decide) rfl rfl rfl ⟨rfl, rfl⟩
    · have hnone : ids[i]? = none := List.getElem?_eq_none (by omega)
      simp [hi, hnone]
      exact fin [] (by decide) rfl rfl rfl ⟨rfl, rfl⟩

theorem holL_lo : ∀ {o : Option Int} {l : List Hol}, holL o l = true → ∀ p ∈ l, ∀ q, o = some q → q < p.id
  | o, [], _, p, hp, q, _ => by simp at hp
  | o, a :: r, h, p, hp, q, hq => by
    simp only [holL, Bool.and_eq_true] at h
    have ha : q < a.id := by
      have := h.1.2
      rw [hq] at this
      exact of_decide_eq_true this
    rcases List.mem_cons.1 hp with rfl | hp
    · exact ha
    · have := holL_lo h.2 p hp a.id rfl
      omega
theorem holL_pw : ∀ {o : Option Int} {l : List Hol}, holL o l = true → (l.map (·.id)).Pairwise (· < ·)
  | o, [], _ => by simp
  | o, a :: r, h => by
    simp only [holL, Bool.and_eq_true] at h
    simp only [List.map_cons, List.pairwise_cons]
    refine ⟨?_, holL_pw h.2⟩
    intro y hy
    obtain ⟨p, hp, rfl⟩ := List.mem_map.1 hy
    exact holL_lo h.2 p hp a.id rfl
theorem holL_mem : ∀ {o : Option Int} {l : List Hol}, holL o l = true → ∀ p ∈ l, mayH p = true
  | o, [], _, p, hp => by simp at hp
  | o, q :: r, h, p, hp => by
    simp only [holL, Bool.and_eq_true] at h
    rcases List.mem_cons.1 hp with rfl | hp
    · exact h.1.1
    · exact holL_mem h.2 p hp
theorem holL_iff : ∀ {o : Option Int} {l : List Hol}, holL o l = true ↔ (∀ p ∈ l, mayH p = true) ∧ (l.map Hol.id).Pairwise (· < ·) ∧ ∀ q, o = some q → ∀ p ∈ l, q < p.id := by
  intro o l
  constructor
  · intro h
    exact ⟨holL_mem h, holL_pw h, fun q hq p hp => holL_lo h p hp q hq⟩
  · revert o
    induction l with
    | nil => intro o _; rfl
    | cons a r ih =>
      rintro o ⟨h1, h2, h3⟩
      simp only [List.map_cons, List.pairwise_cons] at h2
      have ha : aft o a.id = true := by
        cases o with
        | none => rfl
        | some q => exact decide_eq_true (h3 q rfl a (by simp))
      simp only [holL, h1 a (by simp), ha, Bool.true_and]
      exact ih ⟨fun p hp => h1 p (by simp [hp]), h2.2, fun q hq p hp => by
        obtain rfl := Option.some.inj hq
        exact h2.1 p.id (List.mem_map.2 ⟨p, hp, rfl⟩)⟩
/-- A hold kept; the error. -/
def keeS (s : Sta) (who : Int) (h : Hol) : Sta × Nat :=
  if (nxt s).2 ≠ 0 then (zSta, 1) else if ¬ (who = 0 ∨ who = 1) then (zSta, 33) else if h.am < 10 then (zSta, 27) else if mayH h = false then (zSta, 1)
  else if fndI (s.holds.map (·.id)) h.id = true then (zSta, 9) else if 8 ≤ s.pays.length + s.holds.length then (zSta, 30) else if sideS s who < h.am then (zSta, 20)
  else (⟨s.num + 1, if who = 0 then s.h0 - h.am else s.h0, if who = 0 then s.h1 else s.h1 - h.am, s.pays, insA Hol.id s.holds h⟩, 0)
theorem holv_ins (l : List Hol) (h : Hol) : holv (insA Hol.id l h) = (holv l).take (posI (l.map (·.id)) h.id) ++ holF h :: (holv l).drop (posI (l.map (·.id)) h.id) := by simp [holv, insA]
theorem holv_del (l : List Hol) (x : Int) : holv (delA Hol.id l x) = (holv l).take (posI (l.map (·.id)) x) ++ (holv l).drop (posI (l.map (·.id)) x + 1) := by simp [holv, delA]
theorem hc0' (h : Hol) : holC h = [.fz (.lit (.int .i64 h.id)), .fz (.lit (.int .i64 h.am)), .fz (.sl 1 (intv h.keys))] := rfl

set_option maxHeartbeats 4000000 in
theorem SKeep_ok (s : Sta) (who : Int) (h : Hol) (hs : s.ok) (hw : i64 who) (hh : h.ok) : ECalls Tryd.prog 26 [SV s, I .i64 who, .v (.agg (holC h))] [] fun y H' => H' = [] ∧ y = SE (keeS s who h) := by
  obtain ⟨ok1, ok2, ok3, ok4, ok5, ok6, ok7⟩ := id hs
  obtain ⟨⟨p1, p1'⟩, ⟨p2, p2'⟩, p3, p4⟩ := id hh
  refine ecalls k_SKeep ?_
  simp [c_SKeep, SV, staC, hc0', I, -errV_0]
  by_cases h0 : mayS s = true ∧ s.num ≠ 1099511627776
  rotate_left
  · have hx : nxt s = (zSta, 1) := by simp only [nxt, if_neg h0]
    have ha : keeS s who h = (zSta, 1) := by simp [keeS, hx]
    rw [ha]
    refine call0 (next_ok s hs) (by simp [SV, staC]) ?_
    rintro y H' ⟨rfl, rfl⟩
    refine ⟨.inl (by simp), le_ok rfl, ?_⟩
    rw [hx]
    simp [SE, staC, zSta]
    refine finW _ (weak_nlB (o := 32) (k := 3) 36 rfl rfl) (finW _ (weak_nlB (o := 32) (k := 4) 3 rfl rfl) ?_)
    exact fin [] (by decide) rfl rfl rfl ⟨rfl, rfl⟩
  have hx : nxt s = (⟨s.num + 1, s.h0, s.h1, s.pays, s.holds⟩, 0) := by simp only [nxt, if_pos h0]
  obtain ⟨hr, hpl', hhl, htot⟩ := mayS_t h0.1
  have hpw := holL_pw hhl
  have tpv : List.take s.holds.length (holv s.holds) = holv s.holds := List.take_of_length_le (by simp)
  have hadd : keeS s who h = if ¬ (who = 0 ∨ who = 1) then (zSta, 33) else if h.am < 10 then (zSta, 27) else if mayH h = false then (zSta, 1)
      else if fndI (s.holds.map (·.id)) h.id = true then (zSta, 9) else if 8 ≤ s.pays.length + s.holds.length then (zSta, 30) else if sideS s who < h.am then (zSta, 20)
      else (⟨s.num + 1, if who = 0 then s.h0 - h.am else s.h0, if who = 0 then s.h1 else s.h1 - h.am, s.pays, insA Hol.id s.holds h⟩, 0) := by
    simp only [keeS, hx]
    rw [if_neg (by simp)]
  refine call0 (nextH_ok s hs h0) (by simp [SV, staC]) ?_
  rintro y H' ⟨rfl, rfl⟩
  refine ⟨.inl (by simp), le_ok rfl, ?_⟩
  simp [-errV_0]
  refine call0 (BinH_ok s.holds h.id ok5 ok7 hpw) (by simp [HL, I, tpv]) ?_
  rintro y H' ⟨rfl, rfl⟩
  refine ⟨.inr ⟨rfl, by simp⟩, le_ok rfl, ?_⟩
  obtain ⟨pos, hpos⟩ : ∃ pos, posI (s.holds.map (·.id)) h.id = pos := ⟨_, rfl⟩
  have hple : pos ≤ s.holds.length := by have := posI_le (s.holds.map (·.id)) h.id; rw [hpos] at this; simpa using this
  obtain ⟨fnd, hfnd⟩ : ∃ fnd, fndI (s.holds.map (·.id)) h.id = fnd := ⟨_, rfl⟩
  rw [hpos, hfnd]
  simp [-errV_0]
  refine call0 (side_ok who) (by simp [I]) ?_
  rintro y H' ⟨rfl, rfl⟩
  refine ⟨.inl (by simp), le_ok rfl, ?_⟩
  cases hb : decide (who = 0 ∨ who = 1)
  · have hb' := of_decide_eq_false hb
    rw [hadd, if_pos hb']
    simp [EV.lit, SE, staC, zSta]
    refine finW _ (weak_nlB (o := 32) (k := 3) 36 rfl rfl) (finW _ (weak_nlB (o := 32) (k := 4) 3 rfl rfl) ?_)
    exact fin [] (by decide) rfl rfl rfl ⟨rfl, rfl⟩
  have hb' := of_decide_eq_true hb
  rw [hadd, if_neg (by simp [hb']), hfnd]
  simp [EV.lit, -errV_0]
  refine alt (fun c1 => ?_) (fun c1 => ?_)
  · rw [if_pos c1]
    simp [EV.lit, SE, staC, zSta]
    refine finW _ (weak_nlB (o := 32) (k := 3) 36 rfl rfl) (finW _ (weak_nlB (o := 32) (k := 4) 3 rfl rfl) ?_)
    exact fin [] (by decide) rfl rfl rfl ⟨rfl, rfl⟩
  rw [if_neg c1]
  simp [-errV_0]
  refine call0 (Hmay_ok h p4) (by simp [hc0']) ?_
  rintro y H' ⟨rfl, rfl⟩
  refine ⟨.inl (by simp [-List.flatMap_eq_nil_iff]), le_ok rfl, ?_⟩
  cases hm : mayH h
  · rw [if_pos rfl]
    simp [EV.lit, SE, staC, zSta]
    refine finW _ (weak_nlB (o := 32) (k := 3) 36 rfl rfl) (finW _ (weak_nlB (o := 32) (k := 4) 3 rfl rfl) ?_)
    exact fin [] (by decide) rfl rfl rfl ⟨rfl, rfl⟩
  rw [if_neg (by simp)]
  cases fnd
  rotate_left
  · rw [if_pos rfl]
    simp [EV.lit, SE, staC, zSta]
    refine finW _ (weak_nlB (o := 32) (k := 3) 36 rfl rfl) (finW _ (weak_nlB (o := 32) (k := 4) 3 rfl rfl) ?_)
    exact fin [] (by decide) rfl rfl rfl ⟨rfl, rfl⟩
  rw [if_neg (by simp)]
  simp [EV.lit, -errV_0]
  refine call0 (Sslots_ok ⟨s.num + 1, s.h0, s.h1, s.pays, s.holds⟩ (nxt_ok hs h0.1)) (by simp [SV, staC, tpv]) ?_
  rintro y H' ⟨rfl, rfl⟩
  refine ⟨.inr ⟨rfl, by simp⟩, le_ok rfl, ?_⟩
  simp [I, -errV_0]
  refine alt (fun c2 => ?_) (fun c2 => ?_)
  · rw [if_pos (by omega)]
    simp [EV.lit, SE, staC, zSta]
    refine finW _ (weak_nlB (o := 32) (k := 3) 36 rfl rfl) (finW _ (weak_nlB (o := 32) (k := 4) 3 rfl rfl) ?_)
    exact fin [] (by decide) rfl rfl rfl ⟨rfl, rfl⟩
  rw [if_neg (by omega)]
  have hins := InsH.ins_ok (holv s.holds) (holF h) pos (by simpa using hple) (by simp; omega)
  simp [holF] at hins
  have hpv : holv (insA Hol.id s.holds h) = (holv s.holds).take pos ++ holF h :: (holv s.holds).drop pos := by rw [holv_ins, hpos]
  have hpl1 : (insA Hol.id s.holds h).length = s.holds.length + 1 := len_ins Hol.id s.holds h
  have hpt2 : List.take (s.holds.length + 1) (holv (insA Hol.id s.holds h)) = holv (insA Hol.id s.holds h) := List.take_of_length_le (by simp [hpl1])
  rcases hb' with rfl | rfl
  · simp [EV.lit, -errV_0]
    refine alt (fun c3 => ?_) (fun c3 => ?_)
    · rw [if_pos (by simpa [sideS] using c3)]
      simp [EV.lit, SE, staC, zSta]
      refine finW _ (weak_nlB (o := 32) (k := 3) 36 rfl rfl) (finW _ (weak_nlB (o := 32) (k := 4) 3 rfl rfl) ?_)
      exact fin [] (by decide) rfl rfl rfl ⟨rfl, rfl⟩
    rw [if_neg (by simpa [sideS] using c3)]
    have w1 : IntKind.i64.wrap (s.h0 - h.am) = s.h0 - h.am := wrap_i64 (by omega) (by omega)
    simp [EV.lit, w1, -errV_0]
    refine call0 (cloneI_fz h.keys p4) (by simp [IL]) ?_
    rintro y H' ⟨rfl, rfl⟩
    refine ⟨.inl (by simp), le_ok rfl, ?_⟩
    simp [IL, -errV_0]
    refine callH [80, 1104] hins (by simp) (by simp) (by simp) (by simp) (by simp) ?_
    rintro y H' ⟨rfl, rfl⟩
    refine ⟨.inl (by simp), by simp, ?_⟩
    simp [-errV_0]
    refine finW _ (weak_frz (o := 1120) (ty := 65) (es := 3) (xs := holv (insA Hol.id s.holds h)) (by rw [hpv]; rfl)) ?_
    exact fin [] (by decide) rfl rfl rfl ⟨rfl, by simp [SE, staC, hpl1, hpt2, errV, -errV_0]⟩
  · simp [EV.lit, -errV_0]
    refine alt (fun c3 => ?_) (fun c3 => ?_)
    · rw [if_pos (by simpa [sideS] using c3)]
      simp [EV.lit, SE, staC, zSta]
      refine finW _ (weak_nlB (o := 32) (k := 3) 36 rfl rfl) (finW _ (weak_nlB (o := 32) (k := 4) 3 rfl rfl) ?_)
      exact fin [] (by decide) rfl rfl rfl ⟨rfl, rfl⟩
    rw [if_neg (by simpa [sideS] using c3)]
    have w1 : IntKind.i64.wrap (s.h1 - h.am) = s.h1 - h.am := wrap_i64 (by omega) (by omega)
    simp [EV.lit, w1, -errV_0]
    refine call0 (cloneI_fz h.keys p4) (by simp [IL]) ?_
    rintro y H' ⟨rfl, rfl⟩
    refine ⟨.inl (by simp), le_ok rfl, ?_⟩
    simp [IL, -errV_0]
    refine callH [80, 1104] hins (by simp) (by simp) (by simp) (by simp) (by simp) ?_
    rintro y H' ⟨rfl, rfl⟩
    refine ⟨.inl (by simp), by simp, ?_⟩
    simp [-errV_0]
    refine finW _ (weak_frz (o := 1120) (ty := 65) (es := 3) (xs := holv (insA Hol.id s.holds h)) (by rw [hpv]; rfl)) ?_
    exact fin [] (by decide) rfl rfl rfl ⟨rfl, by simp [SE, staC, hpl1, hpt2, errV, -errV_0]⟩

/-- A hold freed; the error. -/
def freS (s : Sta) (x a : Int) : Sta × Nat :=
  if (nxt s).2 ≠ 0 then (zSta, 1) else match s.holds[posI (s.holds.map (·.id)) x]? with
  | none => (zSta, 8)
  | some h => if h.id ≠ x then (zSta, 8) else if a < 0 ∨ h.am < a then (zSta, 20) else (⟨s.num + 1, s.h0 + a, s.h1 + (h.am - a), s.pays, delA Hol.id s.holds x⟩, 0)
theorem holL_sum : ∀ {o : Option Int} {l : List Hol}, holL o l = true → ∀ p ∈ l, p.am ≤ sumH l
  | o, [], _, p, hp => by simp at hp
  | o, a :: r, h, p, hp => by
    simp only [holL, Bool.and_eq_true] at h
    have h1 := mayH_am h.1.1
    have h2 := sumH_nn h.2
    have e : sumH (a :: r) = a.am + sumH r := by simp [sumH]
    rcases List.mem_cons.1 hp with rfl | hp
    · omega
    · have := holL_sum h.2 p hp
      omega

set_option maxHeartbeats 4000000 in
theorem SFree_ok (s : Sta) (x a : Int) (hs : s.ok) (hx64 : i64 x) (ha64 : i64 a) : ECalls Tryd.prog 27 [SV s, I .i64 x, I .i64 a] [] fun y H' => H' = [] ∧ y = SE (freS s x a) := by
  obtain ⟨ok1, ok2, ok3, ok4, ok5, ok6, ok7⟩ := id hs
  refine ecalls k_SFree ?_
  simp [c_SFree, SV, staC, I, -errV_0]
  by_cases h0 : mayS s = true ∧ s.num ≠ 1099511627776
  rotate_left
  · have hx : nxt s = (zSta, 1) := by simp only [nxt, if_neg h0]
    have ha : freS s x a = (zSta, 1) := by simp [freS, hx]
    rw [ha]
    refine call0 (next_ok s hs) (by simp [SV, staC]) ?_
    rintro y H' ⟨rfl, rfl⟩
    refine ⟨.inl (by simp), le_ok rfl, ?_⟩
    rw [hx]
    simp [SE, staC, zSta]
    refine finW _ (weak_nlB (o := 16) (k := 3) 36 rfl rfl) (finW _ (weak_nlB (o := 16) (k := 4) 3 rfl rfl) ?_)
    exact fin [] (by decide) rfl rfl rfl ⟨rfl, rfl⟩
  have hx : nxt s = (⟨s.num + 1, s.h0, s.h1, s.pays, s.holds⟩, 0) := by simp only [nxt, if_pos h0]
  obtain ⟨hr, hpl', hhl, htot⟩ := mayS_t h0.1
  have hpw := holL_pw hhl
  have tpv : List.take s.holds.length (holv s.holds) = holv s.holds := List.take_of_length_le (by simp)
  refine call0 (nextH_ok s hs h0) (by simp [SV, staC]) ?_
  rintro y H' ⟨rfl, rfl⟩
  refine ⟨.inl (by simp), le_ok rfl, ?_⟩
  simp [-errV_0]
  refine call0 (BinH_ok s.holds x ok5 ok7 hpw) (by simp [HL, I, tpv]) ?_
  rintro y H' ⟨rfl, rfl⟩
  refine ⟨.inr ⟨rfl, by simp⟩, le_ok rfl, ?_⟩
  simp [-errV_0]
  cases hf : fndI (s.holds.map (·.id)) x
  · have hne : (s.holds.map (·.id))[posI (s.holds.map (·.id)) x]? ≠ some x := of_decide_eq_false hf
    have ha : freS s x a = (zSta, 8) := by
      simp only [freS, hx]
      rw [if_neg (by simp)]
      split
      · rfl
      · rename_i h hc
        rw [List.getElem?_map, hc] at hne
        rw [if_pos (by simpa using hne)]
    rw [ha]
    simp [SE, staC, zSta]
    refine finW _ (weak_nlB (o := 16) (k := 3) 36 rfl rfl) (finW _ (weak_nlB (o := 16) (k := 4) 3 rfl rfl) ?_)
    exact fin [] (by decide) rfl rfl rfl ⟨rfl, rfl⟩
  obtain ⟨h, hc, hid⟩ := fnd_get (f := Hol.id) hf
  have hfr : freS s x a = if a < 0 ∨ h.am < a then (zSta, 20) else (⟨s.num + 1, s.h0 + a, s.h1 + (h.am - a), s.pays, delA Hol.id s.holds x⟩, 0) := by
    simp only [freS, hx, hc]
    rw [if_neg (by simp), if_neg (by simp [hid])]
  have hpv0 := holv_del s.holds x
  have hpl1 : (delA Hol.id s.holds x).length = s.holds.length - 1 := len_del hc
  obtain ⟨pos, hpos⟩ : ∃ pos, posI (s.holds.map (·.id)) x = pos := ⟨_, rfl⟩
  rw [hpos] at hc hpv0 ⊢
  have hlt : pos < s.holds.length := lt_len hc
  have hge : (holv s.holds)[pos]'(by simp [hlt]) = holF h := by
    have e := holv_get hc
    rw [List.getElem?_eq_getElem (by simp [hlt])] at e
    exact Option.some.inj e
  have hpt2 : List.take (s.holds.length - 1) (holv (delA Hol.id s.holds x)) = holv (delA Hol.id s.holds x) := List.take_of_length_le (by simp [hpl1])
  have hdel := InsH.del_ok (holv s.holds) pos (by simpa using hlt)
  simp at hdel
  have w1 : IntKind.i64.wrap ((pos : Int) + 1) = (pos : Int) + 1 := wrap_i64 (by omega) (by omega)
  have hle := holL_sum hhl h (List.mem_of_getElem? hc)
  have hma := mayH_am (holL_mem hhl h (List.mem_of_getElem? hc))
  have hnn := sumP_nn hpl'
  have hto : total s = s.h0 + s.h1 + sumP s.pays + sumH s.holds := rfl
  rw [hfr]
  by_cases c1 : a < 0
  · rw [if_pos (.inl c1)]
    simp [c1, show ¬ 0 ≤ a by omega, -errV_0]
    refine finW _ (weak_nlB (o := 16) (k := 3) 36 rfl rfl) (finW _ (weak_nlB (o := 16) (k := 4) 3 rfl rfl) ?_)
    exact fin [] (by decide) rfl rfl rfl ⟨rfl, rfl⟩
  by_cases c2 : h.am < a
  · rw [if_pos (.inr c2)]
    simp [c1, show 0 ≤ a by omega, c2, hlt, hge, holF, -errV_0]
    refine finW _ (weak_nlB (o := 16) (k := 3) 36 rfl rfl) (finW _ (weak_nlB (o := 16) (k := 4) 3 rfl rfl) ?_)
    exact fin [] (by decide) rfl rfl rfl ⟨rfl, rfl⟩
  rw [if_neg (by omega)]
  have w2 : IntKind.i64.wrap (s.h0 + a) = s.h0 + a := wrap_i64 (by omega) (by omega)
  have w3 : IntKind.i64.wrap (h.am - a) = h.am - a := wrap_i64 (by omega) (by omega)
  have w4 : IntKind.i64.wrap (s.h1 + (h.am - a)) = s.h1 + (h.am - a) := wrap_i64 (by omega) (by omega)
  simp [c1, c2, show 0 ≤ a by omega, hlt, hge, holF, w1, w2, w3, w4, -errV_0]
  refine callH [64] hdel (by simp) (by simp) (by simp) (by simp) (by simp) ?_
  rintro y H' ⟨rfl, rfl⟩
  refine ⟨.inl (by simp), by simp, ?_⟩
  simp [-errV_0]
  refine finW _ (weak_frz (o := 1056) (ty := 65) (es := 3) (xs := holv (delA Hol.id s.holds x)) (by rw [hpv0]; rfl)) ?_
  exact fin [] (by decide) rfl rfl rfl ⟨rfl, by simp [SE, staC, hpl1, hpt2, errV, -errV_0]⟩

end Go.Proofs.YtpohjnhlhfbnaaaDoor

namespace Go.Proofs.YtpohjnhlhfbnaaaDoor
open Go Go.EW
set_option linter.unusedSimpArgs false
set_option linter.unusedVariables false

@[simp] def l_RholdAt_1 (_ : Unit) : List EOp := [⟨0, (some 4), none, (.q (.mov (.k (.int .i64 0)))), []⟩]
@[simp] def b_RholdAt_2 (_ : Unit) : EB := reg0 (hid l_RholdAt_1) 1
@[simp] def l_RholdAt_3 (_ : Unit) : List EOp := [⟨0, (some 5), none, (.q (.mov (.k (.int .i64 0)))), []⟩]
@[simp] def b_RholdAt_4 (_ : Unit) : EB := reg0 (hid l_RholdAt_3) 1
@[simp] def l_RholdAt_5 (_ : Unit) : List EOp := [⟨0, (some 6), none, (.q (.mov (.t 5))), []⟩, ⟨1, (some 7), none, (.q (.mov (.t 0))), []⟩, ⟨2, (some 8), none, (.q (.len (.t 7))), []⟩, ⟨3, (some 9), none, (.q (.bin .lss (.t 6) (.t 8))), []⟩]
@[simp] def b_RholdAt_6 (_ : Unit) : EB := reg0 (hid l_RholdAt_5) 4
@[simp] def b_RholdAt_7 (_ : Unit) : EB := .cond (.t 9) .skip (.exit 0)
@[simp] def b_RholdAt_8 (_ : Unit) : EB := .seq (hid b_RholdAt_6) (hid b_RholdAt_7)
@[simp] def l_RholdAt_10 (_ : Unit) : List EOp := [⟨6, (some 18), none, (.q (.bin .eql (.t 16) (.t 17))), []⟩]
@[simp] def l_RholdAt_9 (_ : Unit) : List EOp := ⟨0, (some 12), none, (.q (.mov (.t 0))), []⟩ :: ⟨1, (some 13), none, (.q (.mov (.t 5))), []⟩ :: ⟨2, (some 14), none, (.q (.isl 3 (.t 12) (.t 13))), []⟩ :: ⟨3, (some 15), none, (.q (.fad 0 (.t 14))), []⟩ :: ⟨4, (some 16), none, (.q (.ldc (.t 15))), []⟩ :: ⟨5, (some 17), none, (.q (.mov (.t 1))), []⟩ :: hid l_RholdAt_10
@[simp] def b_RholdAt_11 (_ : Unit) : EB := reg0 (hid l_RholdAt_9) 7
@[simp] def l_RholdAt_12 (_ : Unit) : List EOp := [⟨0, (some 19), none, (.q (.mov (.t 5))), []⟩, ⟨1, (some 4), none, (.q (.mov (.t 19))), []⟩]
@[simp] def b_RholdAt_13 (_ : Unit) : EB := reg0 (hid l_RholdAt_12) 2
@[simp] def b_RholdAt_14 (_ : Unit) : EB := .seq (hid b_RholdAt_13) .ret
@[simp] def b_RholdAt_15 (_ : Unit) : EB := .cond (.t 18) (hid b_RholdAt_14) .skip
@[simp] def b_RholdAt_16 (_ : Unit) : EB := .seq (hid b_RholdAt_11) (hid b_RholdAt_15)
@[simp] def b_RholdAt_17 (_ : Unit) : EB := .block 1 (hid b_RholdAt_16)
@[simp] def l_RholdAt_18 (_ : Unit) : List EOp := [⟨0, (some 10), none, (.q (.mov (.t 5))), []⟩, ⟨1, (some 11), none, (.q (.bin .add (.t 10) (.k (.int .i64 1)))), []⟩, ⟨2, (some 5), none, (.q (.mov (.t 11))), []⟩]
@[simp] def b_RholdAt_19 (_ : Unit) : EB := reg0 (hid l_RholdAt_18) 3
@[simp] def b_RholdAt_20 (_ : Unit) : EB := .seq (hid b_RholdAt_17) (hid b_RholdAt_19)
@[simp] def b_RholdAt_21 (_ : Unit) : EB := .seq (hid b_RholdAt_8) (hid b_RholdAt_20)
@[simp] def b_RholdAt_22 (_ : Unit) : EB := .loop (hid b_RholdAt_21)
@[simp] def b_RholdAt_23 (_ : Unit) : EB := .block 0 (hid b_RholdAt_22)
@[simp] def b_RholdAt_24 (_ : Unit) : EB := .seq (hid b_RholdAt_4) (hid b_RholdAt_23)
@[simp] def l_RholdAt_25 (_ : Unit) : List EOp := [⟨0, (some 4), none, (.q (.mov (.k (.int .i64 (-1))))), []⟩]
@[simp] def b_RholdAt_26 (_ : Unit) : EB := reg0 (hid l_RholdAt_25) 1
@[simp] def b_RholdAt_27 (_ : Unit) : EB := .seq (hid b_RholdAt_26) .ret
@[simp] def b_RholdAt_28 (_ : Unit) : EB := .seq (hid b_RholdAt_24) (hid b_RholdAt_27)
@[simp] def b_RholdAt_29 (_ : Unit) : EB := .seq (hid b_RholdAt_2) (hid b_RholdAt_28)
def c_RholdAt : EB × List QOp × Nat := ((hid b_RholdAt_29), [(.mov (.t 4))], 20)
theorem k_RholdAt : cfun Tryd.prog 75 = some c_RholdAt := by kernel_rfl

@[simp] def l_RKeep_1 (_ : Unit) : List EOp := [⟨0, (some 3), none, (.q (.box 26 (.t 0))), []⟩, ⟨1, (some 5), none, (.q (.box 57 (.t 2))), []⟩, ⟨2, (some 6), none, (.q (.alloc 26 [(.int .i64 0), (.int .i64 0), (.int .i64 0), (.slice none 0 0), (.slice none 0 0)])), []⟩, ⟨3, (some 7), none, (.q (.mov (.k (.int .i64 0)))), []⟩]
@[simp] def b_RKeep_2 (_ : Unit) : EB := reg0 (hid l_RKeep_1) 4
@[simp] def l_RKeep_3 (_ : Unit) : List EOp := [⟨0, (some 13), none, (.q (.lda 5 (.t 3))), []⟩, ⟨1, (some 14), none, (.call 39 [(.t 13)]), []⟩, ⟨2, (some 15), none, (.q (.un .not (.t 14))), []⟩, ⟨3, (some 12), none, (.q (.mov (.t 15))), []⟩]
@[simp] def b_RKeep_4 (_ : Unit) : EB := reg0 (hid l_RKeep_3) 4
@[simp] def l_RKeep_5 (_ : Unit) : List EOp := [⟨0, (some 16), none, (.q (.build [(.int .i64 0), (.int .i64 0), (.int .i64 0), (.slice none 0 0), (.slice none 0 0)] [])), []⟩, ⟨1, none, none, (.fz (.sto 5 (.t 6) (.t 16))), []⟩, ⟨2, (some 7), none, (.q (.mov (.k (.int .i64 1)))), []⟩]
@[simp] def b_RKeep_6 (_ : Unit) : EB := reg0 (hid l_RKeep_5) 3
@[simp] def b_RKeep_7 (_ : Unit) : EB := .seq (hid b_RKeep_6) .ret
@[simp] def l_RKeep_9 (_ : Unit) : List EOp := [⟨6, (some 17), none, (.q (.mov (.t 23))), []⟩]
@[simp] def l_RKeep_8 (_ : Unit) : List EOp := ⟨0, (some 18), none, (.q (.mov (.t 1))), []⟩ :: ⟨1, (some 19), none, (.q (.bin .neq (.t 18) (.k (.int .i64 0)))), []⟩ :: ⟨2, (some 20), none, (.q (.mov (.t 19))), []⟩ :: ⟨3, (some 21), (some (20, true)), (.q (.mov (.t 1))), []⟩ :: ⟨4, (some 22), (some (20, true)), (.q (.bin .neq (.t 21) (.k (.int .i64 1)))), []⟩ :: ⟨5, (some 23), none, (.q (.pick (.t 20) (.t 22) (.k (.bool false)))), []⟩ :: hid l_RKeep_9
@[simp] def b_RKeep_10 (_ : Unit) : EB := reg0 (hid l_RKeep_8) 7
@[simp] def l_RKeep_11 (_ : Unit) : List EOp := [⟨0, (some 24), none, (.q (.build [(.int .i64 0), (.int .i64 0), (.int .i64 0), (.slice none 0 0), (.slice none 0 0)] [])), []⟩, ⟨1, none, none, (.fz (.sto 5 (.t 6) (.t 24))), []⟩, ⟨2, (some 7), none, (.q (.mov (.k (.int .i64 33)))), []⟩]
@[simp] def b_RKeep_12 (_ : Unit) : EB := reg0 (hid l_RKeep_11) 3
@[simp] def b_RKeep_13 (_ : Unit) : EB := .seq (hid b_RKeep_12) .ret
@[simp] def l_RKeep_14 (_ : Unit) : List EOp := [⟨0, (some 26), none, (.q (.fad 1 (.t 5))), []⟩, ⟨1, (some 27), none, (.q (.ldc (.t 26))), []⟩, ⟨2, (some 28), none, (.q (.bin .lss (.t 27) (.k (.int .i64 10)))), []⟩, ⟨3, (some 25), none, (.q (.mov (.t 28))), []⟩]
@[simp] def b_RKeep_15 (_ : Unit) : EB := reg0 (hid l_RKeep_14) 4
@[simp] def l_RKeep_16 (_ : Unit) : List EOp := [⟨0, (some 29), none, (.q (.build [(.int .i64 0), (.int .i64 0), (.int .i64 0), (.slice none 0 0), (.slice none 0 0)] [])), []⟩, ⟨1, none, none, (.fz (.sto 5 (.t 6) (.t 29))), []⟩, ⟨2, (some 7), none, (.q (.mov (.k (.int .i64 27)))), []⟩]
@[simp] def b_RKeep_17 (_ : Unit) : EB := reg0 (hid l_RKeep_16) 3
@[simp] def b_RKeep_18 (_ : Unit) : EB := .seq (hid b_RKeep_17) .ret
@[simp] def l_RKeep_19 (_ : Unit) : List EOp := [⟨0, (some 31), none, (.q (.lda 3 (.t 5))), []⟩, ⟨1, (some 32), none, (.call 74 [(.t 31)]), []⟩, ⟨2, (some 33), none, (.q (.un .not (.t 32))), []⟩, ⟨3, (some 30), none, (.q (.mov (.t 33))), []⟩]
@[simp] def b_RKeep_20 (_ : Unit) : EB := reg0 (hid l_RKeep_19) 4
@[simp] def l_RKeep_21 (_ : Unit) : List EOp := [⟨0, (some 34), none, (.q (.build [(.int .i64 0), (.int .i64 0), (.int .i64 0), (.slice none 0 0), (.slice none 0 0)] [])), []⟩, ⟨1, none, none, (.fz (.sto 5 (.t 6) (.t 34))), []⟩, ⟨2, (some 7), none, (.q (.mov (.k (.int .i64 1)))), []⟩]
@[simp] def b_RKeep_22 (_ : Unit) : EB := reg0 (hid l_RKeep_21) 3
@[simp] def b_RKeep_23 (_ : Unit) : EB := .seq (hid b_RKeep_22) .ret
@[simp] def l_RKeep_25 (_ : Unit) : List EOp := [⟨6, (some 35), none, (.q (.mov (.t 41))), []⟩]
@[simp] def l_RKeep_24 (_ : Unit) : List EOp := ⟨0, (some 36), none, (.q (.fad 4 (.t 3))), []⟩ :: ⟨1, (some 37), none, (.q (.ldc (.t 36))), []⟩ :: ⟨2, (some 38), none, (.q (.fad 0 (.t 5))), []⟩ :: ⟨3, (some 39), none, (.q (.ldc (.t 38))), []⟩ :: ⟨4, (some 40), none, (.call 75 [(.t 37), (.t 39)]), []⟩ :: ⟨5, (some 41), none, (.q (.bin .geq (.t 40) (.k (.int .i64 0)))), []⟩ :: hid l_RKeep_25
@[simp] def b_RKeep_26 (_ : Unit) : EB := reg0 (hid l_RKeep_24) 7
@[simp] def l_RKeep_27 (_ : Unit) : List EOp := [⟨0, (some 42), none, (.q (.build [(.int .i64 0), (.int .i64 0), (.int .i64 0), (.slice none 0 0), (.slice none 0 0)] [])), []⟩, ⟨1, none, none, (.fz (.sto 5 (.t 6) (.t 42))), []⟩, ⟨2, (some 7), none, (.q (.mov (.k (.int .i64 9)))), []⟩]
@[simp] def b_RKeep_28 (_ : Unit) : EB := reg0 (hid l_RKeep_27) 3
@[simp] def b_RKeep_29 (_ : Unit) : EB := .seq (hid b_RKeep_28) .ret
@[simp] def l_RKeep_31 (_ : Unit) : List EOp := [⟨6, (some 50), none, (.q (.bin .add (.t 46) (.t 49))), []⟩, ⟨7, (some 51), none, (.q (.bin .gtr (.t 50) (.k (.int .i64 7)))), []⟩, ⟨8, (some 43), none, (.q (.mov (.t 51))), []⟩]
@[simp] def l_RKeep_30 (_ : Unit) : List EOp := ⟨0, (some 44), none, (.q (.fad 3 (.t 3))), []⟩ :: ⟨1, (some 45), none, (.q (.ldc (.t 44))), []⟩ :: ⟨2, (some 46), none, (.q (.len (.t 45))), []⟩ :: ⟨3, (some 47), none, (.q (.fad 4 (.t 3))), []⟩ :: ⟨4, (some 48), none, (.q (.ldc (.t 47))), []⟩ :: ⟨5, (some 49), none, (.q (.len (.t 48))), []⟩ :: hid l_RKeep_31
@[simp] def b_RKeep_32 (_ : Unit) : EB := reg0 (hid l_RKeep_30) 9
@[simp] def l_RKeep_33 (_ : Unit) : List EOp := [⟨0, (some 52), none, (.q (.build [(.int .i64 0), (.int .i64 0), (.int .i64 0), (.slice none 0 0), (.slice none 0 0)] [])), []⟩, ⟨1, none, none, (.fz (.sto 5 (.t 6) (.t 52))), []⟩, ⟨2, (some 7), none, (.q (.mov (.k (.int .i64 30)))), []⟩]
@[simp] def b_RKeep_34 (_ : Unit) : EB := reg0 (hid l_RKeep_33) 3
@[simp] def b_RKeep_35 (_ : Unit) : EB := .seq (hid b_RKeep_34) .ret
@[simp] def l_RKeep_37 (_ : Unit) : List EOp := [⟨6, (some 60), none, (.q (.bin .lss (.t 57) (.t 59))), []⟩, ⟨7, (some 53), none, (.q (.mov (.t 60))), []⟩]
@[simp] def l_RKeep_36 (_ : Unit) : List EOp := ⟨0, (some 54), none, (.q (.mov (.t 1))), []⟩ :: ⟨1, (some 55), none, (.q (.fad 1 (.t 3))), []⟩ :: ⟨2, (some 56), none, (.q (.iad 2 1 (.t 55) (.t 54))), []⟩ :: ⟨3, (some 57), none, (.q (.ldc (.t 56))), []⟩ :: ⟨4, (some 58), none, (.q (.fad 1 (.t 5))), []⟩ :: ⟨5, (some 59), none, (.q (.ldc (.t 58))), []⟩ :: hid l_RKeep_37
@[simp] def b_RKeep_38 (_ : Unit) : EB := reg0 (hid l_RKeep_36) 8
@[simp] def l_RKeep_39 (_ : Unit) : List EOp := [⟨0, (some 61), none, (.q (.build [(.int .i64 0), (.int .i64 0), (.int .i64 0), (.slice none 0 0), (.slice none 0 0)] [])), []⟩, ⟨1, none, none, (.fz (.sto 5 (.t 6) (.t 61))), []⟩, ⟨2, (some 7), none, (.q (.mov (.k (.int .i64 20)))), []⟩]
@[simp] def b_RKeep_40 (_ : Unit) : EB := reg0 (hid l_RKeep_39) 3
@[simp] def b_RKeep_41 (_ : Unit) : EB := .seq (hid b_RKeep_40) .ret
@[simp] def b_RKeep_42 (_ : Unit) : EB := .cond (.t 53) (hid b_RKeep_41) .skip
@[simp] def b_RKeep_43 (_ : Unit) : EB := .seq (hid b_RKeep_38) (hid b_RKeep_42)
@[simp] def b_RKeep_44 (_ : Unit) : EB := .cond (.t 43) (hid b_RKeep_35) (hid b_RKeep_43)
@[simp] def b_RKeep_45 (_ : Unit) : EB := .seq (hid b_RKeep_32) (hid b_RKeep_44)
@[simp] def b_RKeep_46 (_ : Unit) : EB := .cond (.t 35) (hid b_RKeep_29) (hid b_RKeep_45)
@[simp] def b_RKeep_47 (_ : Unit) : EB := .seq (hid b_RKeep_26) (hid b_RKeep_46)
@[simp] def b_RKeep_48 (_ : Unit) : EB := .cond (.t 30) (hid b_RKeep_23) (hid b_RKeep_47)
@[simp] def b_RKeep_49 (_ : Unit) : EB := .seq (hid b_RKeep_20) (hid b_RKeep_48)
@[simp] def b_RKeep_50 (_ : Unit) : EB := .cond (.t 25) (hid b_RKeep_18) (hid b_RKeep_49)
@[simp] def b_RKeep_51 (_ : Unit) : EB := .seq (hid b_RKeep_15) (hid b_RKeep_50)
@[simp] def b_RKeep_52 (_ : Unit) : EB := .cond (.t 17) (hid b_RKeep_13) (hid b_RKeep_51)
@[simp] def b_RKeep_53 (_ : Unit) : EB := .seq (hid b_RKeep_10) (hid b_RKeep_52)
@[simp] def b_RKeep_54 (_ : Unit) : EB := .cond (.t 12) (hid b_RKeep_7) (hid b_RKeep_53)
@[simp] def b_RKeep_55 (_ : Unit) : EB := .seq (hid b_RKeep_4) (hid b_RKeep_54)
@[simp] def b_RKeep_56 (_ : Unit) : EB := .block 0 (hid b_RKeep_55)
@[simp] def l_RKeep_57 (_ : Unit) : List EOp := [⟨0, (some 8), none, (.q (.mov (.k (.slice none 0 0)))), []⟩]
@[simp] def b_RKeep_58 (_ : Unit) : EB := reg0 (hid l_RKeep_57) 1
@[simp] def l_RKeep_59 (_ : Unit) : List EOp := [⟨0, (some 9), none, (.q (.mov (.k (.int .i64 0)))), []⟩]
@[simp] def b_RKeep_60 (_ : Unit) : EB := reg0 (hid l_RKeep_59) 1
@[simp] def l_RKeep_63 (_ : Unit) : List EOp := [⟨12, (some 74), (some (67, true)), (.q (.fad 0 (.t 5))), []⟩, ⟨13, (some 75), (some (67, true)), (.q (.ldc (.t 74))), []⟩, ⟨14, (some 76), (some (67, true)), (.q (.bin .lss (.t 73) (.t 75))), []⟩, ⟨15, (some 77), none, (.q (.pick (.t 67) (.t 76) (.k (.bool false)))), []⟩]
@[simp] def l_RKeep_62 (_ : Unit) : List EOp := ⟨6, (some 68), (some (67, true)), (.q (.fad 4 (.t 3))), []⟩ :: ⟨7, (some 69), (some (67, true)), (.q (.ldc (.t 68))), []⟩ :: ⟨8, (some 70), (some (67, true)), (.q (.mov (.t 9))), []⟩ :: ⟨9, (some 71), (some (67, true)), (.q (.isl 3 (.t 69) (.t 70))), []⟩ :: ⟨10, (some 72), (some (67, true)), (.q (.fad 0 (.t 71))), []⟩ :: ⟨11, (some 73), (some (67, true)), (.q (.ldc (.t 72))), []⟩ :: hid l_RKeep_63
@[simp] def l_RKeep_61 (_ : Unit) : List EOp := ⟨0, (some 62), none, (.q (.mov (.t 9))), []⟩ :: ⟨1, (some 63), none, (.q (.fad 4 (.t 3))), []⟩ :: ⟨2, (some 64), none, (.q (.ldc (.t 63))), []⟩ :: ⟨3, (some 65), none, (.q (.len (.t 64))), []⟩ :: ⟨4, (some 66), none, (.q (.bin .lss (.t 62) (.t 65))), []⟩ :: ⟨5, (some 67), none, (.q (.mov (.t 66))), []⟩ :: hid l_RKeep_62
@[simp] def b_RKeep_64 (_ : Unit) : EB := reg0 (hid l_RKeep_61) 16
@[simp] def b_RKeep_65 (_ : Unit) : EB := .cond (.t 77) .skip (.exit 1)
@[simp] def b_RKeep_66 (_ : Unit) : EB := .seq (hid b_RKeep_64) (hid b_RKeep_65)
@[simp] def l_RKeep_67 (_ : Unit) : List EOp := [⟨0, (some 78), none, (.q (.mov (.t 9))), []⟩, ⟨1, (some 79), none, (.q (.bin .add (.t 78) (.k (.int .i64 1)))), []⟩, ⟨2, (some 9), none, (.q (.mov (.t 79))), []⟩]
@[simp] def b_RKeep_68 (_ : Unit) : EB := reg0 (hid l_RKeep_67) 3
@[simp] def b_RKeep_69 (_ : Unit) : EB := .block 2 (hid b_RKeep_68)
@[simp] def b_RKeep_70 (_ : Unit) : EB := .seq (hid b_RKeep_66) (hid b_RKeep_69)
@[simp] def b_RKeep_71 (_ : Unit) : EB := .loop (hid b_RKeep_70)
@[simp] def b_RKeep_72 (_ : Unit) : EB := .block 1 (hid b_RKeep_71)
@[simp] def l_RKeep_75 (_ : Unit) : List EOp := [⟨8, (some 88), none, (.app 57 3 40 (.t 85) (.t 87)), [9, 10, 11, 12]⟩, ⟨13, (some 93), none, (.app 57 3 40 (.t 88) (.t 92)), []⟩, ⟨14, (some 8), none, (.q (.mov (.t 93))), []⟩]
@[simp] def l_RKeep_74 (_ : Unit) : List EOp := ⟨7, (some 87), none, (.q (.bsl 3 [(.int .i64 0), (.int .i64 0), (.slice none 0 0)] 1 [(0, (.t 86))])), []⟩ :: ⟨9, (some 89), none, (.q (.fad 4 (.t 3))), []⟩ :: ⟨10, (some 90), none, (.q (.ldc (.t 89))), []⟩ :: ⟨11, (some 91), none, (.q (.mov (.t 9))), []⟩ :: ⟨12, (some 92), none, (.q (.ssl 3 (.t 90) (some (.t 91)) none)), []⟩ :: ⟨5, (some 85), none, (.app 57 3 40 (.t 80) (.t 84)), [6, 7, 9, 10, 11, 12]⟩ :: hid l_RKeep_75
@[simp] def l_RKeep_73 (_ : Unit) : List EOp := ⟨0, (some 80), none, (.q (.mov (.t 8))), []⟩ :: ⟨1, (some 81), none, (.q (.fad 4 (.t 3))), []⟩ :: ⟨2, (some 82), none, (.q (.ldc (.t 81))), []⟩ :: ⟨3, (some 83), none, (.q (.mov (.t 9))), []⟩ :: ⟨4, (some 84), none, (.q (.ssl 3 (.t 82) none (some (.t 83)))), []⟩ :: ⟨6, (some 86), none, (.q (.lda 3 (.t 5))), []⟩ :: hid l_RKeep_74
@[simp] def b_RKeep_76 (_ : Unit) : EB := reg1 (hid l_RKeep_73) 15
@[simp] def l_RKeep_78 (_ : Unit) : List EOp := [⟨6, (some 100), none, (.q (.ext 0 (.t 94))), []⟩, ⟨7, (some 101), none, (.q (.ext 1 (.t 94))), []⟩, ⟨8, (some 10), none, (.q (.mov (.t 100))), []⟩, ⟨9, (some 11), none, (.q (.mov (.t 101))), []⟩]
@[simp] def l_RKeep_77 (_ : Unit) : List EOp := ⟨0, (some 95), none, (.q (.mov (.t 1))), []⟩ :: ⟨1, (some 96), none, (.q (.fad 1 (.t 5))), []⟩ :: ⟨2, (some 97), none, (.q (.ldc (.t 96))), []⟩ :: ⟨3, (some 98), none, (.q (.un .neg (.t 97))), []⟩ :: ⟨4, (some 99), none, (.call 42 [(.t 95), (.t 98)]), []⟩ :: ⟨5, (some 94), none, (.q (.mov (.t 99))), []⟩ :: hid l_RKeep_78
@[simp] def b_RKeep_79 (_ : Unit) : EB := reg0 (hid l_RKeep_77) 10
@[simp] def l_RKeep_81 (_ : Unit) : List EOp := [⟨6, (some 108), none, (.call 40 [(.t 102), (.t 103), (.t 104), (.t 106), (.t 107)]), []⟩, ⟨7, none, none, (.fz (.sto 5 (.t 6) (.t 108))), []⟩, ⟨8, (some 7), none, (.q (.mov (.k (.int .i64 0)))), []⟩]
@[simp] def l_RKeep_80 (_ : Unit) : List EOp := ⟨0, (some 102), none, (.q (.lda 5 (.t 3))), []⟩ :: ⟨1, (some 103), none, (.q (.mov (.t 10))), []⟩ :: ⟨2, (some 104), none, (.q (.mov (.t 11))), []⟩ :: ⟨3, (some 105), none, (.q (.fad 3 (.t 3))), []⟩ :: ⟨4, (some 106), none, (.q (.ldc (.t 105))), []⟩ :: ⟨5, (some 107), none, (.q (.mov (.t 8))), []⟩ :: hid l_RKeep_81
@[simp] def b_RKeep_82 (_ : Unit) : EB := reg0 (hid l_RKeep_80) 9
@[simp] def b_RKeep_83 (_ : Unit) : EB := .seq (hid b_RKeep_82) .ret
@[simp] def b_RKeep_84 (_ : Unit) : EB := .seq (hid b_RKeep_79) (hid b_RKeep_83)
@[simp] def b_RKeep_85 (_ : Unit) : EB := .seq (hid b_RKeep_76) (hid b_RKeep_84)
@[simp] def b_RKeep_86 (_ : Unit) : EB := .seq (hid b_RKeep_72) (hid b_RKeep_85)
@[simp] def b_RKeep_87 (_ : Unit) : EB := .seq (hid b_RKeep_60) (hid b_RKeep_86)
@[simp] def b_RKeep_88 (_ : Unit) : EB := .seq (hid b_RKeep_58) (hid b_RKeep_87)
@[simp] def b_RKeep_89 (_ : Unit) : EB := .seq (hid b_RKeep_56) (hid b_RKeep_88)
@[simp] def b_RKeep_90 (_ : Unit) : EB := .seq (hid b_RKeep_2) (hid b_RKeep_89)
def c_RKeep : EB × List QOp × Nat := ((hid b_RKeep_90), [(.lda 5 (.t 6)), (.mov (.t 7))], 109)
theorem k_RKeep : cfun Tryd.prog 31 = some c_RKeep := by kernel_rfl

@[simp] def l_RFree_1 (_ : Unit) : List EOp := [⟨0, (some 3), none, (.q (.box 26 (.t 0))), []⟩, ⟨1, (some 6), none, (.q (.alloc 26 [(.int .i64 0), (.int .i64 0), (.int .i64 0), (.slice none 0 0), (.slice none 0 0)])), []⟩, ⟨2, (some 7), none, (.q (.mov (.k (.int .i64 0)))), []⟩]
@[simp] def b_RFree_2 (_ : Unit) : EB := reg0 (hid l_RFree_1) 3
@[simp] def l_RFree_3 (_ : Unit) : List EOp := [⟨0, (some 10), none, (.q (.fad 4 (.t 3))), []⟩, ⟨1, (some 11), none, (.q (.ldc (.t 10))), []⟩, ⟨2, (some 12), none, (.q (.mov (.t 1))), []⟩, ⟨3, (some 13), none, (.call 75 [(.t 11), (.t 12)]), []⟩, ⟨4, (some 8), none, (.q (.mov (.t 13))), []⟩]
@[simp] def b_RFree_4 (_ : Unit) : EB := reg0 (hid l_RFree_3) 5
@[simp] def l_RFree_5 (_ : Unit) : List EOp := [⟨0, (some 15), none, (.q (.lda 5 (.t 3))), []⟩, ⟨1, (some 16), none, (.call 39 [(.t 15)]), []⟩, ⟨2, (some 17), none, (.q (.un .not (.t 16))), []⟩, ⟨3, (some 14), none, (.q (.mov (.t 17))), []⟩]
@[simp] def b_RFree_6 (_ : Unit) : EB := reg0 (hid l_RFree_5) 4
@[simp] def l_RFree_7 (_ : Unit) : List EOp := [⟨0, (some 18), none, (.q (.build [(.int .i64 0), (.int .i64 0), (.int .i64 0), (.slice none 0 0), (.slice none 0 0)] [])), []⟩, ⟨1, none, none, (.fz (.sto 5 (.t 6) (.t 18))), []⟩, ⟨2, (some 7), none, (.q (.mov (.k (.int .i64 1)))), []⟩]
@[simp] def b_RFree_8 (_ : Unit) : EB := reg0 (hid l_RFree_7) 3
@[simp] def b_RFree_9 (_ : Unit) : EB := .seq (hid b_RFree_8) .ret
@[simp] def l_RFree_10 (_ : Unit) : List EOp := [⟨0, (some 20), none, (.q (.mov (.t 8))), []⟩, ⟨1, (some 21), none, (.q (.bin .lss (.t 20) (.k (.int .i64 0)))), []⟩, ⟨2, (some 19), none, (.q (.mov (.t 21))), []⟩]
@[simp] def b_RFree_11 (_ : Unit) : EB := reg0 (hid l_RFree_10) 3
@[simp] def l_RFree_12 (_ : Unit) : List EOp := [⟨0, (some 22), none, (.q (.build [(.int .i64 0), (.int .i64 0), (.int .i64 0), (.slice none 0 0), (.slice none 0 0)] [])), []⟩, ⟨1, none, none, (.fz (.sto 5 (.t 6) (.t 22))), []⟩, ⟨2, (some 7), none, (.q (.mov (.k (.int .i64 8)))), []⟩]
@[simp] def b_RFree_13 (_ : Unit) : EB := reg0 (hid l_RFree_12) 3
@[simp] def b_RFree_14 (_ : Unit) : EB := .seq (hid b_RFree_13) .ret
@[simp] def l_RFree_17 (_ : Unit) : List EOp := [⟨12, (some 23), none, (.q (.mov (.t 35))), []⟩]
@[simp] def l_RFree_16 (_ : Unit) : List EOp := ⟨6, (some 30), (some (26, false)), (.q (.mov (.t 8))), []⟩ :: ⟨7, (some 31), (some (26, false)), (.q (.isl 3 (.t 29) (.t 30))), []⟩ :: ⟨8, (some 32), (some (26, false)), (.q (.fad 1 (.t 31))), []⟩ :: ⟨9, (some 33), (some (26, false)), (.q (.ldc (.t 32))), []⟩ :: ⟨10, (some 34), (some (26, false)), (.q (.bin .gtr (.t 27) (.t 33))), []⟩ :: ⟨11, (some 35), none, (.q (.pick (.t 26) (.k (.bool true)) (.t 34))), []⟩ :: hid l_RFree_17
@[simp] def l_RFree_15 (_ : Unit) : List EOp := ⟨0, (some 24), none, (.q (.mov (.t 2))), []⟩ :: ⟨1, (some 25), none, (.q (.bin .lss (.t 24) (.k (.int .i64 0)))), []⟩ :: ⟨2, (some 26), none, (.q (.mov (.t 25))), []⟩ :: ⟨3, (some 27), (some (26, false)), (.q (.mov (.t 2))), []⟩ :: ⟨4, (some 28), (some (26, false)), (.q (.fad 4 (.t 3))), []⟩ :: ⟨5, (some 29), (some (26, false)), (.q (.ldc (.t 28))), []⟩ :: hid l_RFree_16
@[simp] def b_RFree_18 (_ : Unit) : EB := reg0 (hid l_RFree_15) 13
@[simp] def l_RFree_19 (_ : Unit) : List EOp := [⟨0, (some 36), none, (.q (.build [(.int .i64 0), (.int .i64 0), (.int .i64 0), (.slice none 0 0), (.slice none 0 0)] [])), []⟩, ⟨1, none, none, (.fz (.sto 5 (.t 6) (.t 36))), []⟩, ⟨2, (some 7), none, (.q (.mov (.k (.int .i64 20)))), []⟩]
@[simp] def b_RFree_20 (_ : Unit) : EB := reg0 (hid l_RFree_19) 3
@[simp] def b_RFree_21 (_ : Unit) : EB := .seq (hid b_RFree_20) .ret
@[simp] def b_RFree_22 (_ : Unit) : EB := .cond (.t 23) (hid b_RFree_21) .skip
@[simp] def b_RFree_23 (_ : Unit) : EB := .seq (hid b_RFree_18) (hid b_RFree_22)
@[simp] def b_RFree_24 (_ : Unit) : EB := .cond (.t 19) (hid b_RFree_14) (hid b_RFree_23)
@[simp] def b_RFree_25 (_ : Unit) : EB := .seq (hid b_RFree_11) (hid b_RFree_24)
@[simp] def b_RFree_26 (_ : Unit) : EB := .cond (.t 14) (hid b_RFree_9) (hid b_RFree_25)
@[simp] def b_RFree_27 (_ : Unit) : EB := .seq (hid b_RFree_6) (hid b_RFree_26)
@[simp] def b_RFree_28 (_ : Unit) : EB := .block 0 (hid b_RFree_27)
@[simp] def l_RFree_29 (_ : Unit) : List EOp := [⟨0, (some 9), none, (.q (.mov (.k (.slice none 0 0)))), []⟩]
@[simp] def b_RFree_30 (_ : Unit) : EB := reg0 (hid l_RFree_29) 1
@[simp] def l_RFree_33 (_ : Unit) : List EOp := [⟨12, (some 9), none, (.q (.mov (.t 48))), []⟩]
@[simp] def l_RFree_32 (_ : Unit) : List EOp := ⟨7, (some 44), none, (.q (.ldc (.t 43))), []⟩ :: ⟨8, (some 45), none, (.q (.mov (.t 8))), []⟩ :: ⟨9, (some 46), none, (.q (.bin .add (.t 45) (.k (.int .i64 1)))), []⟩ :: ⟨10, (some 47), none, (.q (.ssl 3 (.t 44) (some (.t 46)) none)), []⟩ :: ⟨5, (some 42), none, (.app 57 3 40 (.t 37) (.t 41)), [6, 7, 8, 9, 10]⟩ :: ⟨11, (some 48), none, (.app 57 3 40 (.t 42) (.t 47)), []⟩ :: hid l_RFree_33
@[simp] def l_RFree_31 (_ : Unit) : List EOp := ⟨0, (some 37), none, (.q (.mov (.t 9))), []⟩ :: ⟨1, (some 38), none, (.q (.fad 4 (.t 3))), []⟩ :: ⟨2, (some 39), none, (.q (.ldc (.t 38))), []⟩ :: ⟨3, (some 40), none, (.q (.mov (.t 8))), []⟩ :: ⟨4, (some 41), none, (.q (.ssl 3 (.t 39) none (some (.t 40)))), []⟩ :: ⟨6, (some 43), none, (.q (.fad 4 (.t 3))), []⟩ :: hid l_RFree_32
@[simp] def b_RFree_34 (_ : Unit) : EB := reg1 (hid l_RFree_31) 13
@[simp] def l_RFree_37 (_ : Unit) : List EOp := [⟨12, (some 61), none, (.q (.mov (.t 9))), []⟩, ⟨13, (some 62), none, (.call 40 [(.t 49), (.t 50), (.t 58), (.t 60), (.t 61)]), []⟩, ⟨14, none, none, (.fz (.sto 5 (.t 6) (.t 62))), []⟩, ⟨15, (some 7), none, (.q (.mov (.k (.int .i64 0)))), []⟩]
@[simp] def l_RFree_36 (_ : Unit) : List EOp := ⟨6, (some 55), none, (.q (.fad 1 (.t 54))), []⟩ :: ⟨7, (some 56), none, (.q (.ldc (.t 55))), []⟩ :: ⟨8, (some 57), none, (.q (.mov (.t 2))), []⟩ :: ⟨9, (some 58), none, (.q (.bin .sub (.t 56) (.t 57))), []⟩ :: ⟨10, (some 59), none, (.q (.fad 3 (.t 3))), []⟩ :: ⟨11, (some 60), none, (.q (.ldc (.t 59))), []⟩ :: hid l_RFree_37
@[simp] def l_RFree_35 (_ : Unit) : List EOp := ⟨0, (some 49), none, (.q (.lda 5 (.t 3))), []⟩ :: ⟨1, (some 50), none, (.q (.mov (.t 2))), []⟩ :: ⟨2, (some 51), none, (.q (.fad 4 (.t 3))), []⟩ :: ⟨3, (some 52), none, (.q (.ldc (.t 51))), []⟩ :: ⟨4, (some 53), none, (.q (.mov (.t 8))), []⟩ :: ⟨5, (some 54), none, (.q (.isl 3 (.t 52) (.t 53))), []⟩ :: hid l_RFree_36
@[simp] def b_RFree_38 (_ : Unit) : EB := reg0 (hid l_RFree_35) 16
@[simp] def b_RFree_39 (_ : Unit) : EB := .seq (hid b_RFree_38) .ret
@[simp] def b_RFree_40 (_ : Unit) : EB := .seq (hid b_RFree_34) (hid b_RFree_39)
@[simp] def b_RFree_41 (_ : Unit) : EB := .seq (hid b_RFree_30) (hid b_RFree_40)
@[simp] def b_RFree_42 (_ : Unit) : EB := .seq (hid b_RFree_28) (hid b_RFree_41)
@[simp] def b_RFree_43 (_ : Unit) : EB := .seq (hid b_RFree_4) (hid b_RFree_42)
@[simp] def b_RFree_44 (_ : Unit) : EB := .seq (hid b_RFree_2) (hid b_RFree_43)
def c_RFree : EB × List QOp × Nat := ((hid b_RFree_44), [(.lda 5 (.t 6)), (.mov (.t 7))], 63)
theorem k_RFree : cfun Tryd.prog 32 = some c_RFree := by kernel_rfl


/-- The first place of a number, or -1. -/
def FI (l : List Int) (x r : Int) : Prop := (r = -1 ∧ ∀ (k : Nat) (y : Int), l[k]? = some y → y ≠ x) ∨ ∃ i : Nat, r = i ∧ l[i]? = some x
theorem FI_pos {l : List Int} {x r : Int} (hs : l.Pairwise (· < ·)) (h : FI l x r) : (fndI l x = false ∧ r = -1) ∨ (fndI l x = true ∧ r = posI l x) := by
  rcases h with ⟨h1, h2⟩ | ⟨i, h1, h2⟩
  · refine .inl ⟨?_, h1⟩
    unfold fndI
    exact decide_eq_false fun h => h2 _ _ h rfl
  · have hi := lt_len h2
    have hp : posI l x = i := posI_eq (by omega) (fun k y hk hy => pw_get hs hk hy h2) (fun y hy => by rw [h2] at hy; have := Option.some.inj hy; omega)
    refine .inr ⟨?_, by rw [hp]; exact h1⟩
    unfold fndI
    rw [hp]
    exact decide_eq_true h2

set_option maxHeartbeats 2000000 in
theorem RholdAt_ok (l : List Hol) (x : Int) (hn : l.length ≤ 100000000) : ECalls Tryd.prog 75 [HL l, I .i64 x] [] fun y H' => H' = [] ∧ ∃ r, FI (l.map (·.id)) x r ∧ y = I .i64 r := by
  obtain ⟨ids, hids⟩ : ∃ ids, l.map (·.id) = ids := ⟨_, rfl⟩
  rw [hids]
  have idl : ids.length = l.length := by rw [← hids]; simp
  have hget : ∀ (k : Nat) (p : Hol), l[k]? = some p → ids[k]? = some p.id := fun k p h => by rw [← hids, List.getElem?_map, h]; rfl
  refine ecalls k_RholdAt ?_
  simp [c_RholdAt, I, HL]
  refine eloop (α := Nat) (fun i => i ≤ l.length ∧ ∀ (k : Nat) (y : Int), k < i → ids[k]? = some y → y ≠ x) (fun i => l.length - i)
    (fun i => [HL l, I .i64 x, .any, .any, .any, I .i64 i, .any, .any, .any, .any, .any, .any, .any, .any, .any, .any, .any, .any, .any, .any]) (fun _ => []) 0 []
    ⟨Nat.zero_le _, fun k y h => by omega⟩ (by simp [I, HL]) (by simp) (by simp) (by simp) (by simp) ?_
  rintro i ⟨hi, hlo⟩
  simp [I, HL]
  refine alt (fun hlt => ?_) (fun hlt => ?_)
  · have hln : i < l.length := by omega
    obtain ⟨p, hc⟩ : ∃ p, l[i]? = some p := ⟨l[i], by simp [hln]⟩
    have hge : (holv l)[i]'(by simp [hln]) = holF p := by
      have e := holv_get hc
      rw [List.getElem?_eq_getElem (by simp [hln])] at e
      exact Option.some.inj e
    have w4 : IntKind.i64.wrap ((i : Int) + 1) = ((i + 1 : Nat) : Int) := wrap_i64 (by omega) (by omega)
    simp [hln, hge, holF]
    refine alt (fun he => ?_) (fun he => ?_)
    · simp
      exact fin [] (by decide) rfl rfl rfl ⟨rfl, (i : Int), .inr ⟨i, rfl, by rw [hget i p hc, he]⟩, rfl⟩
    · simp [w4, -Int.natCast_add]
      refine round (i + 1) [] ⟨by omega, ?_⟩ (by omega) (by simp) (by simp) (by simp) (by simp) (by simp)
      intro k y hk hy
      rcases Nat.lt_or_ge k i with h1 | h1
      · exact hlo k y h1 hy
      · obtain rfl : k = i := by omega
        rw [hget k p hc] at hy
        obtain rfl := Option.some.inj hy
        exact he
  · simp
    exact fin [] (by decide) rfl rfl rfl ⟨rfl, -1, .inl ⟨rfl, fun k y hk => hlo k y (by have := lt_len hk; omega) hk⟩, rfl⟩

theorem RwithH_ok (s : Sta) (a b : Int) (h1 : IntKind.i64.wrap (s.num + 1) = s.num + 1) (h2 : IntKind.i64.wrap (s.h0 + a) = s.h0 + a) (h3 : IntKind.i64.wrap (s.h1 + b) = s.h1 + b) (ps : List Pay) (hs : List Hol) :
    ECalls Tryd.prog 40 [SV s, I .i64 a, I .i64 b, PL ps, .v (.c (.row 0 hs.length))] [.row 57 3 (holv hs)] fun y H' => H' = [some (.row 57 3 (holv hs))] ∧ y = .v (.agg [.fz (.lit (.int .i64 (s.num + 1))), .fz (.lit (.int .i64 (s.h0 + a))), .fz (.lit (.int .i64 (s.h1 + b))), .fz (.sl 36 (payv ps)), .row 0 hs.length]) := by
  refine ecalls k_Rwith ?_
  simp [c_Rwith, SV, staC, I, PL, HL, h1, h2, h3]
  exact fin [] (by decide) rfl rfl rfl ⟨rfl, rfl⟩

set_option maxHeartbeats 4000000 in
theorem RFree_ok (s : Sta) (x a : Int) (hs : s.ok) (hx64 : i64 x) (ha64 : i64 a) : ECalls Tryd.prog 32 [SV s, I .i64 x, I .i64 a] [] fun y H' => H' = [] ∧ y = RE (freS s x a) := by
  obtain ⟨ok1, ok2, ok3, ok4, ok5, ok6, ok7⟩ := id hs
  refine ecalls k_RFree ?_
  simp [c_RFree, SV, staC, I, -errV_0]
  refine call0 (RholdAt_ok s.holds x ok7) (by simp [HL, I]) ?_
  rintro y H' ⟨rfl, r, hr, rfl⟩
  refine ⟨.inl (by simp), le_ok rfl, ?_⟩
  simp [I, -errV_0]
  refine call0 (Rright_ok s hs) (by simp [SV, staC]) ?_
  rintro y H' ⟨rfl, rfl⟩
  refine ⟨.inl (by simp), le_ok rfl, ?_⟩
  by_cases h0 : mayS s = true ∧ s.num ≠ 1099511627776
  rotate_left
  · have hx : nxt s = (zSta, 1) := by simp only [nxt, if_neg h0]
    have ha : freS s x a = (zSta, 1) := by simp [freS, hx]
    rw [ha, decide_eq_false h0]
    simp [RE, staC, zSta]
    refine finW _ (weak_nlB (o := 16) (k := 3) 36 rfl rfl) (finW _ (weak_nlB (o := 16) (k := 4) 3 rfl rfl) ?_)
    exact fin [] (by decide) rfl rfl rfl ⟨rfl, rfl⟩
  rw [decide_eq_true h0]
  have hx : nxt s = (⟨s.num + 1, s.h0, s.h1, s.pays, s.holds⟩, 0) := by simp only [nxt, if_pos h0]
  obtain ⟨hr', hpl', hhl, htot⟩ := mayS_t h0.1
  have hpw := holL_pw hhl
  rcases FI_pos hpw hr with ⟨hf, rfl⟩ | ⟨hf, rfl⟩
  · have hne : (s.holds.map (·.id))[posI (s.holds.map (·.id)) x]? ≠ some x := of_decide_eq_false hf
    have ha : freS s x a = (zSta, 8) := by
      simp only [freS, hx]
      rw [if_neg (by simp)]
      split
      · rfl
      · rename_i h hc
        rw [List.getElem?_map, hc] at hne
        rw [if_pos (by simpa using hne)]
    rw [ha]
    simp [RE, staC, zSta]
    refine finW _ (weak_nlB (o := 16) (k := 3) 36 rfl rfl) (finW _ (weak_nlB (o := 16) (k := 4) 3 rfl rfl) ?_)
    exact fin [] (by decide) rfl rfl rfl ⟨rfl, rfl⟩
  obtain ⟨h, hc, hid⟩ := fnd_get (f := Hol.id) hf
  have hfr : freS s x a = if a < 0 ∨ h.am < a then (zSta, 20) else (⟨s.num + 1, s.h0 + a, s.h1 + (h.am - a), s.pays, delA Hol.id s.holds x⟩, 0) := by
    simp only [freS, hx, hc]
    rw [if_neg (by simp), if_neg (by simp [hid])]
  have hpv0 := holv_del s.holds x
  have hpl1 : (delA Hol.id s.holds x).length = s.holds.length - 1 := len_del hc
  obtain ⟨pos, hpos⟩ : ∃ pos, posI (s.holds.map (·.id)) x = pos := ⟨_, rfl⟩
  rw [hpos] at hc hpv0 ⊢
  have hlt : pos < s.holds.length := lt_len hc
  have hge : (holv s.holds)[pos]'(by simp [hlt]) = holF h := by
    have e := holv_get hc
    rw [List.getElem?_eq_getElem (by simp [hlt])] at e
    exact Option.some.inj e
  have hpt2 : List.take (s.holds.length - 1) (holv (delA Hol.id s.holds x)) = holv (delA Hol.id s.holds x) := List.take_of_length_le (by simp [hpl1])
  have w1 : IntKind.i64.wrap ((pos : Int) + 1) = ((pos + 1 : Nat) : Int) := wrap_i64 (by omega) (by omega)
  have hle := holL_sum hhl h (List.mem_of_getElem? hc)
  have hma := mayH_am (holL_mem hhl h (List.mem_of_getElem? hc))
  have hnn := sumP_nn hpl'
  have hto : total s = s.h0 + s.h1 + sumP s.pays + sumH s.holds := rfl
  rw [hfr]
  have hn0 : ¬ ((pos : Int) < 0) := by omega
  simp [hn0, -errV_0]
  by_cases c1 : a < 0
  · rw [if_pos (.inl c1)]
    simp [c1, show ¬ 0 ≤ a by omega, RE, staC, zSta]
    refine finW _ (weak_nlB (o := 16) (k := 3) 36 rfl rfl) (finW _ (weak_nlB (o := 16) (k := 4) 3 rfl rfl) ?_)
    exact fin [] (by decide) rfl rfl rfl ⟨rfl, rfl⟩
  by_cases c2 : h.am < a
  · rw [if_pos (.inr c2)]
    simp [c1, show 0 ≤ a by omega, c2, hlt, hge, holF, RE, staC, zSta]
    refine finW _ (weak_nlB (o := 16) (k := 3) 36 rfl rfl) (finW _ (weak_nlB (o := 16) (k := 4) 3 rfl rfl) ?_)
    exact fin [] (by decide) rfl rfl rfl ⟨rfl, rfl⟩
  rw [if_neg (by omega)]
  have w2 : IntKind.i64.wrap (s.h0 + a) = s.h0 + a := wrap_i64 (by omega) (by omega)
  have w3 : IntKind.i64.wrap (h.am - a) = h.am - a := wrap_i64 (by omega) (by omega)
  have w4 : IntKind.i64.wrap (s.h1 + (h.am - a)) = s.h1 + (h.am - a) := wrap_i64 (by omega) (by omega)
  have w5 : IntKind.i64.wrap (s.num + 1) = s.num + 1 := wrap_i64 (by omega) (by omega)
  have tpv : List.take s.holds.length (holv s.holds) = holv s.holds := List.take_of_length_le (by simp)
  obtain ⟨L, hL⟩ : ∃ L, delA Hol.id s.holds x = L := ⟨_, rfl⟩
  rw [hL] at hpv0 hpl1 hpt2 ⊢
  have hlen : min pos s.holds.length + (s.holds.length - (pos + 1)) = L.length := by omega
  simp [c1, c2, show 0 ≤ a by omega, hlt, hge, holF, w1, w3, tpv, hlen, ← hpv0, -errV_0, -Int.natCast_add]
  refine ⟨by omega, by omega, by omega, by omega, ?_⟩
  refine callH [640] (RwithH_ok s a (h.am - a) w5 w2 w4 s.pays L) (by simp [SV, staC, PL, I]) (by simp) (by simp) (by simp) (by simp) ?_
  rintro y H' ⟨rfl, rfl⟩
  refine ⟨.inl (by simp), by simp, ?_⟩
  simp [-errV_0]
  refine finW _ (weak_frz (o := 640) (ty := 57) (es := 3) (xs := holv L) rfl) ?_
  exact fin [] (by decide) rfl rfl rfl ⟨rfl, by simp [RE, staC, List.take_of_length_le, -errV_0]⟩

set_option maxHeartbeats 4000000 in
theorem RKeep_ok (s : Sta) (who : Int) (h : Hol) (hs : s.ok) (hw : i64 who) (hh : h.ok) : ECalls Tryd.prog 31 [SV s, I .i64 who, .v (.agg (holC h))] [] fun y H' => H' = [] ∧ y = RE (keeS s who h) := by
  obtain ⟨ok1, ok2, ok3, ok4, ok5, ok6, ok7⟩ := id hs
  obtain ⟨⟨p1, p1'⟩, ⟨p2, p2'⟩, p3, p4⟩ := id hh
  refine ecalls k_RKeep ?_
  simp [c_RKeep, SV, staC, hc0', I, -errV_0]
  refine call0 (Rright_ok s hs) (by simp [SV, staC]) ?_
  rintro y H' ⟨rfl, rfl⟩
  refine ⟨.inl (by simp), le_ok rfl, ?_⟩
  by_cases h0 : mayS s = true ∧ s.num ≠ 1099511627776
  rotate_left
  · have hx : nxt s = (zSta, 1) := by simp only [nxt, if_neg h0]
    have ha : keeS s who h = (zSta, 1) := by simp [keeS, hx]
    rw [ha, decide_eq_false h0]
    simp [RE, staC, zSta]
    refine finW _ (weak_nlB (o := 32) (k := 3) 36 rfl rfl) (finW _ (weak_nlB (o := 32) (k := 4) 3 rfl rfl) ?_)
    exact fin [] (by decide) rfl rfl rfl ⟨rfl, rfl⟩
  rw [decide_eq_true h0]
  have hx : nxt s = (⟨s.num + 1, s.h0, s.h1, s.pays, s.holds⟩, 0) := by simp only [nxt, if_pos h0]
  obtain ⟨hr', hpl', hhl, htot⟩ := mayS_t h0.1
  have hpw := holL_pw hhl
  have hadd : keeS s who h = if ¬ (who = 0 ∨ who = 1) then (zSta, 33) else if h.am < 10 then (zSta, 27) else if mayH h = false then (zSta, 1)
      else if fndI (s.holds.map (·.id)) h.id = true then (zSta, 9) else if 8 ≤ s.pays.length + s.holds.length then (zSta, 30) else if sideS s who < h.am then (zSta, 20)
      else (⟨s.num + 1, if who = 0 then s.h0 - h.am else s.h0, if who = 0 then s.h1 else s.h1 - h.am, s.pays, insA Hol.id s.holds h⟩, 0) := by
    simp only [keeS, hx]
    rw [if_neg (by simp)]
  by_cases hb' : who = 0 ∨ who = 1
  rotate_left
  · rw [hadd, if_pos hb']
    have b0 : ¬ who = 0 := fun e => hb' (.inl e)
    have b1 : ¬ who = 1 := fun e => hb' (.inr e)
    simp [b0, b1, RE, staC, zSta]
    refine finW _ (weak_nlB (o := 32) (k := 3) 36 rfl rfl) (finW _ (weak_nlB (o := 32) (k := 4) 3 rfl rfl) ?_)
    exact fin [] (by decide) rfl rfl rfl ⟨rfl, rfl⟩
  rw [hadd, if_neg (by simp [hb'])]
  have hsd : ∃ sd : Int, sideS s who = sd ∧ 0 ≤ sd ∧ sd ≤ 1125899906842624 := ⟨_, rfl, by unfold sideS; split <;> omega⟩
  obtain ⟨W, hW⟩ : ∃ W : EV, W = I .i64 who := ⟨_, rfl⟩
  obtain ⟨wh, hwh⟩ : ∃ w : Int, w = who := ⟨_, rfl⟩
  obtain ⟨ids, hids⟩ : ∃ ids, s.holds.map (·.id) = ids := ⟨_, rfl⟩
  have idl : ids.length = s.holds.length := by rw [← hids]; simp
  have hget : ∀ (k : Nat) (p : Hol), s.holds[k]? = some p → ids[k]? = some p.id := fun k p h => by rw [← hids, List.getElem?_map, h]; rfl
  obtain ⟨A, hA⟩ : ∃ A : Int, A = if who = 0 then -h.am else 0 := ⟨_, rfl⟩
  obtain ⟨B, hB⟩ : ∃ B : Int, B = if who = 0 then 0 else -h.am := ⟨_, rfl⟩
  rcases hb' with rfl | rfl
  all_goals
    simp at hA hB
    simp [-errV_0]
    refine alt (fun c1 => ?_) (fun c1 => ?_)
    · rw [if_pos c1]
      simp [RE, staC, zSta]
      refine finW _ (weak_nlB (o := 32) (k := 3) 36 rfl rfl) (finW _ (weak_nlB (o := 32) (k := 4) 3 rfl rfl) ?_)
      exact fin [] (by decide) rfl rfl rfl ⟨rfl, rfl⟩
    rw [if_neg c1]
    simp [-errV_0]
    refine call0 (RholdMay_ok h p4) (by simp [hc0']) ?_
    rintro y H' ⟨rfl, rfl⟩
    refine ⟨.inl (by simp [-List.flatMap_eq_nil_iff]), le_ok rfl, ?_⟩
    cases hm : mayH h
    · simp [RE, staC, zSta]
      refine finW _ (weak_nlB (o := 32) (k := 3) 36 rfl rfl) (finW _ (weak_nlB (o := 32) (k := 4) 3 rfl rfl) ?_)
      exact fin [] (by decide) rfl rfl rfl ⟨rfl, rfl⟩
    simp [-errV_0]
    refine call0 (RholdAt_ok s.holds h.id ok7) (by simp [HL, I]) ?_
    rintro y H' ⟨rfl, r, hr, rfl⟩
    refine ⟨.inl (by simp), le_ok rfl, ?_⟩
    rcases FI_pos hpw hr with ⟨hf, rfl⟩ | ⟨hf, rfl⟩
    rotate_left
    · rw [hf]
      simp [I, RE, staC, zSta]
      refine finW _ (weak_nlB (o := 32) (k := 3) 36 rfl rfl) (finW _ (weak_nlB (o := 32) (k := 4) 3 rfl rfl) ?_)
      exact fin [] (by decide) rfl rfl rfl ⟨rfl, rfl⟩
    rw [hf]
    have wl : IntKind.i64.wrap ((s.pays.length : Int) + (s.holds.length : Int)) = ((s.pays.length + s.holds.length : Nat) : Int) := by rw [wrap_i64 (by omega) (by omega)]; omega
    simp [I, wl, -errV_0, -Int.natCast_add]
    refine alt (fun c2 => ?_) (fun c2 => ?_)
    · rw [if_pos (by omega)]
      simp [RE, staC, zSta]
      refine finW _ (weak_nlB (o := 32) (k := 3) 36 rfl rfl) (finW _ (weak_nlB (o := 32) (k := 4) 3 rfl rfl) ?_)
      exact fin [] (by decide) rfl rfl rfl ⟨rfl, rfl⟩
    rw [if_neg (by omega)]
    simp [-errV_0]
    refine alt (fun c3 => ?_) (fun c3 => ?_)
    · rw [if_pos (by simpa [sideS] using c3)]
      simp [RE, staC, zSta]
      refine finW _ (weak_nlB (o := 32) (k := 3) 36 rfl rfl) (finW _ (weak_nlB (o := 32) (k := 4) 3 rfl rfl) ?_)
      exact fin [] (by decide) rfl rfl rfl ⟨rfl, rfl⟩
    rw [if_neg (by simpa [sideS] using c3)]
    simp [-errV_0]
    refine eloop (α := Nat) (fun i => i ≤ s.holds.length ∧ ∀ (k : Nat) (y : Int), k < i → ids[k]? = some y → y < h.id) (fun i => s.holds.length - i)
      (fun i => [.any, W, .any, Ptr 0, .any, Ptr 1, Ptr 2, .any, EV.lit (.slice none 0 0), I .i64 i, .any, .any, .any, .any, .any, .any, .any, .any, .any, .any, .any, .any, .any, .any, .any, .any, .any, .any, .any, .any, .any, .any, .any, .any, .any, .any, .any, .any, .any, .any, .any, .any, .any, .any, .any, .any, .any, .any, .any, .any, .any, .any, .any, .any, .any, .any, .any, .any, .any, .any, .any, .any, .any, .any, .any, .any, .any, .any, .any, .any, .any, .any, .any, .any, .any, .any, .any, .any, .any, .any, .any, .any, .any, .any, .any, .any, .any, .any, .any, .any, .any, .any, .any, .any, .any, .any, .any, .any, .any, .any, .any, .any, .any, .any, .any, .any, .any, .any, .any]) (fun _ => [some (.box 26 (staC s)), some (.box 57 (holC h)), some (.box 26 [.fz (.lit (.int .i64 0)), .fz (.lit (.int .i64 0)), .fz (.lit (.int .i64 0)), .fz (.lit (.slice none 0 0)), .fz (.lit (.slice none 0 0))])]) 0 [0, 16, 32]
      ⟨Nat.zero_le _, fun k y hk => absurd hk (Nat.not_lt_zero k)⟩ (by simp [I, Ptr, hW]) (by simp [staC, holC, zSta]) (by simp) (by simp) (by simp) ?_
    rintro i ⟨hi, hlo⟩
    simp [I, Ptr, hW, staC, holC, zSta]
    have hn0 : ¬ ((i : Int) < 0) := by omega
    have wn : IntKind.i64.wrap (-h.am) = -h.am := wrap_i64 (by omega) (by omega)
    have w2 : IntKind.i64.wrap (s.h0 + A) = s.h0 + A := wrap_i64 (by omega) (by omega)
    have w3 : IntKind.i64.wrap (s.h1 + B) = s.h1 + B := wrap_i64 (by omega) (by omega)
    have w5 : IntKind.i64.wrap (s.num + 1) = s.num + 1 := wrap_i64 (by omega) (by omega)
    have tpv : List.take s.holds.length (holv s.holds) = holv s.holds := List.take_of_length_le (by simp)
    refine alt (fun hlt => ?_) (fun hlt => ?_)
    · have hln : i < s.holds.length := by omega
      obtain ⟨p, hc⟩ : ∃ p, s.holds[i]? = some p := ⟨s.holds[i], by simp [hln]⟩
      have hge : (holv s.holds)[i]'(by simp [hln]) = holF p := by
        have e := holv_get hc
        rw [List.getElem?_eq_getElem (by simp [hln])] at e
        exact Option.some.inj e
      have w4 : IntKind.i64.wrap ((i : Int) + 1) = ((i + 1 : Nat) : Int) := wrap_i64 (by omega) (by omega)
      simp [hln, hge, holF, -errV_0]
      refine alt (fun he => ?_) (fun he => ?_)
      · simp [w4, -errV_0, -Int.natCast_add]
        refine round (i + 1) [0, 1, 2] ⟨by omega, ?_⟩ (by omega) (by simp) (by simp) (by simp) (by simp) (by simp)
        intro k y hk hy
        rcases Nat.lt_or_ge k i with h1 | h1
        · exact hlo k y h1 hy
        · obtain rfl : k = i := by omega
          rw [hget k p hc] at hy
          obtain rfl := Option.some.inj hy
          exact he
      · have hpos : posI (s.holds.map (·.id)) h.id = i := by
          rw [hids]
          exact posI_eq (by omega) hlo fun y hy => by
            rw [hget i p hc] at hy
            obtain rfl := Option.some.inj hy
            omega
        have hpv := holv_ins s.holds h
        rw [hpos] at hpv
        have hpl1 : (insA Hol.id s.holds h).length = s.holds.length + 1 := len_ins Hol.id s.holds h
        obtain ⟨L, hL⟩ : ∃ L, insA Hol.id s.holds h = L := ⟨_, rfl⟩
        rw [hL] at hpv hpl1 ⊢
        simp [holF] at hpv
        have hlen : i + 1 + (s.holds.length - i) = L.length := by omega
        simp [hlt, hn0, hi, tpv, hlen, wn, ← hpv, -errV_0]
        refine ⟨by omega, by omega, by omega, ?_⟩
        refine call0 (Rto_ok wh (-h.am)) (by simp [I, hwh]) ?_
        rintro y H' ⟨rfl, rfl⟩
        refine ⟨.inl (by simp), le_ok rfl, ?_⟩
        simp [-errV_0]
        refine callH [467] (RwithH_ok s A B w5 w2 w3 s.pays L) (by simp [SV, staC, PL, I, hA, hB, hwh]) (by simp) (by simp) (by simp) (by simp) ?_
        rintro y H' ⟨rfl, rfl⟩
        refine ⟨.inl (by simp), by simp, ?_⟩
        simp [-errV_0]
        refine finW _ (weak_frz (o := 467) (ty := 57) (es := 3) (xs := holv L) rfl) ?_
        exact fin [] (by decide) rfl rfl rfl ⟨rfl, by simp [RE, staC, hA, hB, List.take_of_length_le, Int.sub_eq_add_neg, -errV_0]⟩
    · have hpos : posI (s.holds.map (·.id)) h.id = i := by
        rw [hids]
        exact posI_eq (by omega) hlo fun y hy => absurd (lt_len hy) (by omega)
      have hpv := holv_ins s.holds h
      rw [hpos] at hpv
      have hpl1 : (insA Hol.id s.holds h).length = s.holds.length + 1 := len_ins Hol.id s.holds h
      obtain ⟨L, hL⟩ : ∃ L, insA Hol.id s.holds h = L := ⟨_, rfl⟩
      rw [hL] at hpv hpl1 ⊢
      simp [holF] at hpv
      have hlen : i + 1 + (s.holds.length - i) = L.length := by omega
      simp [hlt, hn0, hi, tpv, hlen, wn, ← hpv, -errV_0]
      refine ⟨by omega, by omega, by omega, ?_⟩
      refine call0 (Rto_ok wh (-h.am)) (by simp [I, hwh]) ?_
      rintro y H' ⟨rfl, rfl⟩
      refine ⟨.inl (by simp), le_ok rfl, ?_⟩
      simp [-errV_0]
      refine callH [467] (RwithH_ok s A B w5 w2 w3 s.pays L) (by simp [SV, staC, PL, I, hA, hB, hwh]) (by simp) (by simp) (by simp) (by simp) ?_
      rintro y H' ⟨rfl, rfl⟩
      refine ⟨.inl (by simp), by simp, ?_⟩
      simp [-errV_0]
      refine finW _ (weak_frz (o := 467) (ty := 57) (es := 3) (xs := holv L) rfl) ?_
      exact fin [] (by decide) rfl rfl rfl ⟨rfl, by simp [RE, staC, hA, hB, List.take_of_length_le, Int.sub_eq_add_neg, -errV_0]⟩

end Go.Proofs.YtpohjnhlhfbnaaaDoor

namespace Go.Proofs.YtpohjnhlhfbnaaaDoor
open Go Go.EW
set_option linter.unusedSimpArgs false
set_option linter.unusedVariables false

theorem resS_ok {s : Sta} {a n : Int} (hs : s.ok) (hm : s.small) : (resS s a n).1.ok ∧ (resS s a n).1.small ∧ ((resS s a n).2 = 0 → totS (resS s a n).1 = totS s + n ∧ 0 ≤ totS s ∧ totS s ≤ 1125899906842624) := by
  have hz := zSta_ok
  obtain ⟨ok1, ok2, ok3, ok4, ok5, ok6, ok7⟩ := id hs
  unfold resS
  split
  · rename_i h; exact ⟨hz.1, hz.2, fun h' => absurd h' h⟩
  rename_i h1
  have h0 : mayS s = true ∧ s.num ≠ 1099511627776 := by
    unfold nxt at h1
    split at h1
    · rename_i h; exact h
    · simp at h1
  have hb := mayS_b h0.1
  obtain ⟨hr, hp, hh, htot⟩ := mayS_t h0.1
  have n1 := sumP_nn hp
  have n2 := sumH_nn hh
  have hts : totS s = total s := by rw [totS, if_pos h0.1]
  split
  · exact ⟨hz.1, hz.2, fun h' => absurd h' (by simp)⟩
  rename_i h2
  have key : ∀ x y : Int, 0 ≤ x → 0 ≤ y → x + y = s.h0 + s.h1 + n → n ≤ 1125899906842624 - total s → (Sta.mk (s.num + 1) x y s.pays s.holds).ok ∧ (Sta.mk (s.num + 1) x y s.pays s.holds).small ∧ ((0 : Nat) = 0 → totS (Sta.mk (s.num + 1) x y s.pays s.holds) = totS s + n ∧ 0 ≤ totS s ∧ totS s ≤ 1125899906842624) := by
    intro x y hx hy hxy hn
    have ht2 : total (Sta.mk (s.num + 1) x y s.pays s.holds) = total s + n := by simp [total]; omega
    have hle : x ≤ 1125899906842624 ∧ y ≤ 1125899906842624 := by simp [total] at hn; omega
    have hm2 : mayS ⟨s.num + 1, x, y, s.pays, s.holds⟩ = true := by
      simp only [mayS, hp, hh, Bool.and_true, Bool.and_eq_true, decide_eq_true_eq, ht2]
      have := h0.2
      refine ⟨?_, by omega⟩
      omega
    refine ⟨⟨by unfold i64; simp; omega, by unfold i64; simp; omega, by unfold i64; simp; omega, ok4, ok5, ok6, ok7⟩, hm, fun _ => ?_⟩
    rw [totS, if_pos hm2, hts, ht2]
    refine ⟨rfl, ?_, htot⟩
    simp [total]; omega
  by_cases h5 : a = 0
  · simp only [h5, if_true]
    split
    · exact ⟨hz.1, hz.2, fun h' => absurd h' (by simp)⟩
    split
    · exact ⟨hz.1, hz.2, fun h' => absurd h' (by simp)⟩
    exact key _ _ (by omega) (by omega) (by omega) (by omega)
  · simp only [h5, if_false]
    split
    · exact ⟨hz.1, hz.2, fun h' => absurd h' (by simp)⟩
    split
    · exact ⟨hz.1, hz.2, fun h' => absurd h' (by simp)⟩
    exact key _ _ (by omega) (by omega) (by omega) (by omega)

set_option maxHeartbeats 2000000 in
theorem StateSizes_ok (s : Sta) (a b : Int) (hs : s.ok) (ha : i64 a) (hb : i64 b) : ECalls Tryd.prog 4 [SV s, I .i64 a, I .i64 b] [] fun y H' => H' = [] ∧ y = .lit (.bool true) := by
  refine ecalls k_StateSizes ?_
  simp [c_StateSizes, SV, staC, I]
  refine call0 (longState_ok s hs) (by simp [Ptr, I, EV.lit, Bs, SV, staC, SE, RE]) ?_
  rintro y H' ⟨rfl, rfl⟩
  refine ⟨.inl (by simp [Ptr, I, EV.lit, Bs, SV, staC, SE, RE]), le_ok rfl, ?_⟩
  simp
  refine alt (fun hl => ?_) (fun hl => ?_)
  · simp
    refine call0 (sure_ok) (by simp [Ptr, I, EV.lit, Bs, SV, staC, SE, RE]) ?_
    rintro y H' ⟨rfl, rfl⟩
    refine ⟨.inl (by simp [Ptr, I, EV.lit, Bs, SV, staC, SE, RE]), le_ok rfl, ?_⟩
    simp [Ptr, I, EV.lit, Bs, SV, staC, SE, RE]
    exact fin [] (by decide) rfl rfl rfl ⟨rfl, rfl⟩
  have hsm := (longS_small (by simpa using hl)).1
  obtain ⟨q1, q2, q3⟩ := resS_ok (a := a) (n := b) hs hsm
  simp
  refine call0 (giveState_ok s hs hsm) (by simp [Ptr, I, EV.lit, Bs, SV, staC, SE, RE]) ?_
  rintro y H' ⟨rfl, rfl⟩
  refine ⟨.inl (by simp [Ptr, I, EV.lit, Bs, SV, staC, SE, RE]), le_ok rfl, ?_⟩
  simp [Ptr, I, EV.lit, Bs, SV, staC, SE, RE]
  refine call0 (Resize_ok s a b hs ha hb) (by simp [Ptr, I, EV.lit, Bs, SV, staC, SE, RE]) ?_
  rintro y H' ⟨rfl, rfl⟩
  refine ⟨.inl (by simp [Ptr, I, EV.lit, Bs, SV, staC, SE, RE]), le_ok rfl, ?_⟩
  simp [Ptr, I, EV.lit, Bs, SV, staC, SE, RE]
  refine call0 (RResize_ok s a b hs ha hb) (by simp [Ptr, I, EV.lit, Bs, SV, staC, SE, RE]) ?_
  rintro y H' ⟨rfl, rfl⟩
  refine ⟨.inl (by simp [Ptr, I, EV.lit, Bs, SV, staC, SE, RE]), le_ok rfl, ?_⟩
  simp [Ptr, I, EV.lit, Bs, SV, staC, SE, RE]
  refine call0 (same_ok (resS s a b).1 (resS s a b).2 q1 q2) (by simp [Ptr, I, EV.lit, Bs, SV, staC, SE, RE]) ?_
  rintro y H' ⟨rfl, rfl⟩
  refine ⟨.inl (by simp [Ptr, I, EV.lit, Bs, SV, staC, SE, RE]), le_ok rfl, ?_⟩
  rcases Nat.eq_zero_or_pos (resS s a b).2 with he | he
  · obtain ⟨t1, t2, t3⟩ := q3 he
    have w1 : IntKind.i64.wrap (totS (resS s a b).1 - b) = totS s := by rw [wrap_i64 (by omega) (by omega)]; omega
    simp [he]
    refine call0 (Total_ok (resS s a b).1 q1) (by simp [Ptr, I, EV.lit, Bs, SV, staC, SE, RE]) ?_
    rintro y H' ⟨rfl, rfl⟩
    refine ⟨.inl (by simp [Ptr, I, EV.lit, Bs, SV, staC, SE, RE]), le_ok rfl, ?_⟩
    simp [Ptr, I, EV.lit, Bs, SV, staC, SE, RE]
    simp [w1]
    refine call0 (RTotal_ok s hs) (by simp [Ptr, I, EV.lit, Bs, SV, staC, SE, RE]) ?_
    rintro y H' ⟨rfl, rfl⟩
    refine ⟨.inl (by simp [Ptr, I, EV.lit, Bs, SV, staC, SE, RE]), le_ok rfl, ?_⟩
    simp [Ptr, I, EV.lit, Bs, SV, staC, SE, RE]
    refine call0 (sure_ok) (by simp [Ptr, I, EV.lit, Bs, SV, staC, SE, RE]) ?_
    rintro y H' ⟨rfl, rfl⟩
    refine ⟨.inl (by simp [Ptr, I, EV.lit, Bs, SV, staC, SE, RE]), le_ok rfl, ?_⟩
    simp [Ptr, I, EV.lit, Bs, SV, staC, SE, RE]
    exact fin [] (by decide) rfl rfl rfl ⟨rfl, rfl⟩
  · have he' : (resS s a b).2 ≠ 0 := by omega
    simp [he']
    refine call0 (sure_ok) (by simp [Ptr, I, EV.lit, Bs, SV, staC, SE, RE]) ?_
    rintro y H' ⟨rfl, rfl⟩
    refine ⟨.inl (by simp [Ptr, I, EV.lit, Bs, SV, staC, SE, RE]), le_ok rfl, ?_⟩
    simp [Ptr, I, EV.lit, Bs, SV, staC, SE, RE]
    exact fin [] (by decide) rfl rfl rfl ⟨rfl, rfl⟩

end Go.Proofs.YtpohjnhlhfbnaaaDoor
