import Derived.Test.YtejjhgdnmknejaaStateOa
import Derived.Test.YtejjhgdnmknejaaInsH
namespace Go.Proofs.Ytejjhgdnmknejaa
open Go Go.EW
set_option linter.unusedSimpArgs false
set_option linter.unusedVariables false

@[simp] def l_byHold_1 (_ : Unit) : List EOp := [⟨0, (some 2), none, (.q (.box 57 (.t 0))), []⟩, ⟨1, (some 4), none, (.q (.mov (.k (.int .i64 0)))), []⟩]
@[simp] def b_byHold_2 (_ : Unit) : EB := reg0 (hid l_byHold_1) 2
@[simp] def l_byHold_3 (_ : Unit) : List EOp := [⟨0, (some 5), none, (.q (.fad 0 (.t 2))), []⟩, ⟨1, (some 6), none, (.q (.ldc (.t 5))), []⟩, ⟨2, (some 7), none, (.q (.mov (.t 1))), []⟩, ⟨3, (some 8), none, (.call 37 [(.t 6), (.t 7)]), []⟩, ⟨4, (some 4), none, (.q (.mov (.t 8))), []⟩]
@[simp] def b_byHold_4 (_ : Unit) : EB := reg0 (hid l_byHold_3) 5
@[simp] def b_byHold_5 (_ : Unit) : EB := .seq (hid b_byHold_4) .ret
@[simp] def b_byHold_6 (_ : Unit) : EB := .seq (hid b_byHold_2) (hid b_byHold_5)
def c_byHold : EB × List QOp × Nat := ((hid b_byHold_6), [(.mov (.t 4))], 9)
theorem k_byHold : cfun Try.prog 22 = some c_byHold := by kernel_rfl

@[simp] def l_BinH_1 (_ : Unit) : List EOp := [⟨0, (some 6), none, (.q (.mov (.k (.int .i64 0)))), []⟩, ⟨1, (some 7), none, (.q (.mov (.k (.bool false)))), []⟩]
@[simp] def b_BinH_2 (_ : Unit) : EB := reg0 (hid l_BinH_1) 2
@[simp] def l_BinH_3 (_ : Unit) : List EOp := [⟨0, (some 12), none, (.q (.mov (.t 0))), []⟩, ⟨1, (some 13), none, (.q (.len (.t 12))), []⟩, ⟨2, (some 8), none, (.q (.mov (.t 13))), []⟩]
@[simp] def b_BinH_4 (_ : Unit) : EB := reg0 (hid l_BinH_3) 3
@[simp] def l_BinH_5 (_ : Unit) : List EOp := [⟨0, (some 14), none, (.q (.mov (.t 8))), []⟩, ⟨1, (some 9), none, (.q (.mov (.k (.int .i64 0)))), []⟩, ⟨2, (some 10), none, (.q (.mov (.t 14))), []⟩]
@[simp] def b_BinH_6 (_ : Unit) : EB := reg0 (hid l_BinH_5) 3
@[simp] def l_BinH_7 (_ : Unit) : List EOp := [⟨0, (some 15), none, (.q (.mov (.t 9))), []⟩, ⟨1, (some 16), none, (.q (.mov (.t 10))), []⟩, ⟨2, (some 17), none, (.q (.bin .lss (.t 15) (.t 16))), []⟩]
@[simp] def b_BinH_8 (_ : Unit) : EB := reg0 (hid l_BinH_7) 3
@[simp] def b_BinH_9 (_ : Unit) : EB := .cond (.t 17) .skip (.exit 0)
@[simp] def b_BinH_10 (_ : Unit) : EB := .seq (hid b_BinH_8) (hid b_BinH_9)
@[simp] def l_BinH_12 (_ : Unit) : List EOp := [⟨6, (some 11), none, (.q (.mov (.t 23))), []⟩]
@[simp] def l_BinH_11 (_ : Unit) : List EOp := ⟨0, (some 18), none, (.q (.mov (.t 9))), []⟩ :: ⟨1, (some 19), none, (.q (.mov (.t 10))), []⟩ :: ⟨2, (some 20), none, (.q (.bin .add (.t 18) (.t 19))), []⟩ :: ⟨3, (some 21), none, (.q (.cnv .u64 (.t 20))), []⟩ :: ⟨4, (some 22), none, (.q (.bin .shr (.t 21) (.k (.int .u64 1)))), []⟩ :: ⟨5, (some 23), none, (.q (.cnv .i64 (.t 22))), []⟩ :: hid l_BinH_12
@[simp] def b_BinH_13 (_ : Unit) : EB := reg0 (hid l_BinH_11) 7
@[simp] def l_BinH_15 (_ : Unit) : List EOp := [⟨6, (some 30), none, (.clo (.t 24) [(.t 28), (.t 29)]), []⟩, ⟨7, (some 31), none, (.q (.bin .lss (.t 30) (.k (.int .i64 0)))), []⟩]
@[simp] def l_BinH_14 (_ : Unit) : List EOp := ⟨0, (some 24), none, (.q (.mov (.t 2))), []⟩ :: ⟨1, (some 25), none, (.q (.mov (.t 0))), []⟩ :: ⟨2, (some 26), none, (.q (.mov (.t 11))), []⟩ :: ⟨3, (some 27), none, (.q (.isl 3 (.t 25) (.t 26))), []⟩ :: ⟨4, (some 28), none, (.q (.lda 3 (.t 27))), []⟩ :: ⟨5, (some 29), none, (.q (.mov (.t 1))), []⟩ :: hid l_BinH_15
@[simp] def b_BinH_16 (_ : Unit) : EB := reg0 (hid l_BinH_14) 8
@[simp] def l_BinH_17 (_ : Unit) : List EOp := [⟨0, (some 32), none, (.q (.mov (.t 11))), []⟩, ⟨1, (some 33), none, (.q (.bin .add (.t 32) (.k (.int .i64 1)))), []⟩, ⟨2, (some 9), none, (.q (.mov (.t 33))), []⟩]
@[simp] def b_BinH_18 (_ : Unit) : EB := reg0 (hid l_BinH_17) 3
@[simp] def l_BinH_19 (_ : Unit) : List EOp := [⟨0, (some 34), none, (.q (.mov (.t 11))), []⟩, ⟨1, (some 10), none, (.q (.mov (.t 34))), []⟩]
@[simp] def b_BinH_20 (_ : Unit) : EB := reg0 (hid l_BinH_19) 2
@[simp] def b_BinH_21 (_ : Unit) : EB := .cond (.t 31) (hid b_BinH_18) (hid b_BinH_20)
@[simp] def b_BinH_22 (_ : Unit) : EB := .seq (hid b_BinH_16) (hid b_BinH_21)
@[simp] def b_BinH_23 (_ : Unit) : EB := .seq (hid b_BinH_13) (hid b_BinH_22)
@[simp] def b_BinH_24 (_ : Unit) : EB := .block 1 (hid b_BinH_23)
@[simp] def b_BinH_25 (_ : Unit) : EB := .seq (hid b_BinH_10) (hid b_BinH_24)
@[simp] def b_BinH_26 (_ : Unit) : EB := .loop (hid b_BinH_25)
@[simp] def b_BinH_27 (_ : Unit) : EB := .block 0 (hid b_BinH_26)
@[simp] def l_BinH_30 (_ : Unit) : List EOp := [⟨12, (some 47), (some (39, true)), (.q (.bin .eql (.t 46) (.k (.int .i64 0)))), []⟩, ⟨13, (some 48), none, (.q (.pick (.t 39) (.t 47) (.k (.bool false)))), []⟩, ⟨14, (some 6), none, (.q (.mov (.t 35))), []⟩, ⟨15, (some 7), none, (.q (.mov (.t 48))), []⟩]
@[simp] def l_BinH_29 (_ : Unit) : List EOp := ⟨6, (some 41), (some (39, true)), (.q (.mov (.t 0))), []⟩ :: ⟨7, (some 42), (some (39, true)), (.q (.mov (.t 9))), []⟩ :: ⟨8, (some 43), (some (39, true)), (.q (.isl 3 (.t 41) (.t 42))), []⟩ :: ⟨9, (some 44), (some (39, true)), (.q (.lda 3 (.t 43))), []⟩ :: ⟨10, (some 45), (some (39, true)), (.q (.mov (.t 1))), []⟩ :: ⟨11, (some 46), (some (39, true)), (.clo (.t 40) [(.t 44), (.t 45)]), []⟩ :: hid l_BinH_30
@[simp] def l_BinH_28 (_ : Unit) : List EOp := ⟨0, (some 35), none, (.q (.mov (.t 9))), []⟩ :: ⟨1, (some 36), none, (.q (.mov (.t 9))), []⟩ :: ⟨2, (some 37), none, (.q (.mov (.t 8))), []⟩ :: ⟨3, (some 38), none, (.q (.bin .lss (.t 36) (.t 37))), []⟩ :: ⟨4, (some 39), none, (.q (.mov (.t 38))), []⟩ :: ⟨5, (some 40), (some (39, true)), (.q (.mov (.t 2))), []⟩ :: hid l_BinH_29
@[simp] def b_BinH_31 (_ : Unit) : EB := reg0 (hid l_BinH_28) 16
@[simp] def b_BinH_32 (_ : Unit) : EB := .seq (hid b_BinH_31) .ret
@[simp] def b_BinH_33 (_ : Unit) : EB := .seq (hid b_BinH_27) (hid b_BinH_32)
@[simp] def b_BinH_34 (_ : Unit) : EB := .seq (hid b_BinH_6) (hid b_BinH_33)
@[simp] def b_BinH_35 (_ : Unit) : EB := .seq (hid b_BinH_4) (hid b_BinH_34)
@[simp] def b_BinH_36 (_ : Unit) : EB := .seq (hid b_BinH_2) (hid b_BinH_35)
def c_BinH : EB × List QOp × Nat := ((hid b_BinH_36), [(.mov (.t 6)), (.mov (.t 7))], 49)
theorem k_BinH : cfun Try.prog 21 = some c_BinH := by kernel_rfl

@[simp] def l_SKeep_1 (_ : Unit) : List EOp := [⟨0, (some 3), none, (.q (.box 37 (.t 0))), []⟩, ⟨1, (some 5), none, (.q (.box 57 (.t 2))), []⟩, ⟨2, (some 6), none, (.q (.alloc 37 [(.int .i64 0), (.int .i64 0), (.int .i64 0), (.slice none 0 0), (.slice none 0 0)])), []⟩, ⟨3, (some 7), none, (.q (.mov (.k .nilIface))), []⟩]
@[simp] def b_SKeep_2 (_ : Unit) : EB := reg0 (hid l_SKeep_1) 4
@[simp] def l_SKeep_4 (_ : Unit) : List EOp := [⟨6, none, none, (.fz (.sto 5 (.t 8) (.t 15))), []⟩, ⟨7, (some 9), none, (.q (.mov (.t 16))), []⟩]
@[simp] def l_SKeep_3 (_ : Unit) : List EOp := ⟨0, (some 13), none, (.q (.lda 5 (.t 3))), []⟩ :: ⟨1, (some 14), none, (.call 20 [(.t 13)]), []⟩ :: ⟨2, (some 12), none, (.q (.mov (.t 14))), []⟩ :: ⟨3, (some 15), none, (.q (.ext 0 (.t 12))), []⟩ :: ⟨4, (some 16), none, (.q (.ext 1 (.t 12))), []⟩ :: ⟨5, (some 8), none, (.q (.alloc 37 [(.int .i64 0), (.int .i64 0), (.int .i64 0), (.slice none 0 0), (.slice none 0 0)])), []⟩ :: hid l_SKeep_4
@[simp] def b_SKeep_5 (_ : Unit) : EB := reg0 (hid l_SKeep_3) 8
@[simp] def l_SKeep_6 (_ : Unit) : List EOp := [⟨0, (some 17), none, (.q (.mov (.t 9))), []⟩, ⟨1, (some 18), none, (.q (.eqi true (.t 17))), []⟩]
@[simp] def b_SKeep_7 (_ : Unit) : EB := reg0 (hid l_SKeep_6) 2
@[simp] def l_SKeep_8 (_ : Unit) : List EOp := [⟨0, (some 19), none, (.q (.build [(.int .i64 0), (.int .i64 0), (.int .i64 0), (.slice none 0 0), (.slice none 0 0)] [])), []⟩, ⟨1, (some 20), none, (.q (.mov (.t 9))), []⟩, ⟨2, none, none, (.fz (.sto 5 (.t 6) (.t 19))), []⟩, ⟨3, (some 7), none, (.q (.mov (.t 20))), []⟩]
@[simp] def b_SKeep_9 (_ : Unit) : EB := reg0 (hid l_SKeep_8) 4
@[simp] def b_SKeep_10 (_ : Unit) : EB := .seq (hid b_SKeep_9) .ret
@[simp] def b_SKeep_11 (_ : Unit) : EB := .cond (.t 18) (hid b_SKeep_10) .skip
@[simp] def b_SKeep_12 (_ : Unit) : EB := .seq (hid b_SKeep_7) (hid b_SKeep_11)
@[simp] def l_SKeep_14 (_ : Unit) : List EOp := [⟨6, (some 27), none, (.q (.ext 0 (.t 21))), []⟩, ⟨7, (some 28), none, (.q (.ext 1 (.t 21))), []⟩, ⟨8, (some 10), none, (.q (.mov (.t 27))), []⟩, ⟨9, (some 11), none, (.q (.mov (.t 28))), []⟩]
@[simp] def l_SKeep_13 (_ : Unit) : List EOp := ⟨0, (some 22), none, (.q (.fad 4 (.t 8))), []⟩ :: ⟨1, (some 23), none, (.q (.ldc (.t 22))), []⟩ :: ⟨2, (some 24), none, (.q (.fad 0 (.t 5))), []⟩ :: ⟨3, (some 25), none, (.q (.ldc (.t 24))), []⟩ :: ⟨4, (some 26), none, (.call 21 [(.t 23), (.t 25), (.k (.func (.func 22) #[] #[]))]), []⟩ :: ⟨5, (some 21), none, (.q (.mov (.t 26))), []⟩ :: hid l_SKeep_14
@[simp] def b_SKeep_15 (_ : Unit) : EB := reg0 (hid l_SKeep_13) 10
@[simp] def l_SKeep_16 (_ : Unit) : List EOp := [⟨0, (some 30), none, (.q (.mov (.t 1))), []⟩, ⟨1, (some 31), none, (.call 23 [(.t 30)]), []⟩, ⟨2, (some 32), none, (.q (.un .not (.t 31))), []⟩, ⟨3, (some 29), none, (.q (.mov (.t 32))), []⟩]
@[simp] def b_SKeep_17 (_ : Unit) : EB := reg0 (hid l_SKeep_16) 4
@[simp] def l_SKeep_18 (_ : Unit) : List EOp := [⟨0, (some 33), none, (.q (.build [(.int .i64 0), (.int .i64 0), (.int .i64 0), (.slice none 0 0), (.slice none 0 0)] [])), []⟩, ⟨1, (some 34), none, (.q (.mki 59 (.k (.int .i64 33)))), []⟩, ⟨2, none, none, (.fz (.sto 5 (.t 6) (.t 33))), []⟩, ⟨3, (some 7), none, (.q (.mov (.t 34))), []⟩]
@[simp] def b_SKeep_19 (_ : Unit) : EB := reg0 (hid l_SKeep_18) 4
@[simp] def b_SKeep_20 (_ : Unit) : EB := .seq (hid b_SKeep_19) .ret
@[simp] def l_SKeep_21 (_ : Unit) : List EOp := [⟨0, (some 36), none, (.q (.fad 1 (.t 5))), []⟩, ⟨1, (some 37), none, (.q (.ldc (.t 36))), []⟩, ⟨2, (some 38), none, (.q (.bin .lss (.t 37) (.k (.int .i64 10)))), []⟩, ⟨3, (some 35), none, (.q (.mov (.t 38))), []⟩]
@[simp] def b_SKeep_22 (_ : Unit) : EB := reg0 (hid l_SKeep_21) 4
@[simp] def l_SKeep_23 (_ : Unit) : List EOp := [⟨0, (some 39), none, (.q (.build [(.int .i64 0), (.int .i64 0), (.int .i64 0), (.slice none 0 0), (.slice none 0 0)] [])), []⟩, ⟨1, (some 40), none, (.q (.mki 59 (.k (.int .i64 27)))), []⟩, ⟨2, none, none, (.fz (.sto 5 (.t 6) (.t 39))), []⟩, ⟨3, (some 7), none, (.q (.mov (.t 40))), []⟩]
@[simp] def b_SKeep_24 (_ : Unit) : EB := reg0 (hid l_SKeep_23) 4
@[simp] def b_SKeep_25 (_ : Unit) : EB := .seq (hid b_SKeep_24) .ret
@[simp] def l_SKeep_26 (_ : Unit) : List EOp := [⟨0, (some 42), none, (.q (.lda 3 (.t 5))), []⟩, ⟨1, (some 43), none, (.call 24 [(.t 42)]), []⟩, ⟨2, (some 44), none, (.q (.un .not (.t 43))), []⟩, ⟨3, (some 41), none, (.q (.mov (.t 44))), []⟩]
@[simp] def b_SKeep_27 (_ : Unit) : EB := reg0 (hid l_SKeep_26) 4
@[simp] def l_SKeep_28 (_ : Unit) : List EOp := [⟨0, (some 45), none, (.q (.build [(.int .i64 0), (.int .i64 0), (.int .i64 0), (.slice none 0 0), (.slice none 0 0)] [])), []⟩, ⟨1, (some 46), none, (.q (.mki 59 (.k (.int .i64 1)))), []⟩, ⟨2, none, none, (.fz (.sto 5 (.t 6) (.t 45))), []⟩, ⟨3, (some 7), none, (.q (.mov (.t 46))), []⟩]
@[simp] def b_SKeep_29 (_ : Unit) : EB := reg0 (hid l_SKeep_28) 4
@[simp] def b_SKeep_30 (_ : Unit) : EB := .seq (hid b_SKeep_29) .ret
@[simp] def l_SKeep_31 (_ : Unit) : List EOp := [⟨0, (some 48), none, (.q (.mov (.t 11))), []⟩, ⟨1, (some 47), none, (.q (.mov (.t 48))), []⟩]
@[simp] def b_SKeep_32 (_ : Unit) : EB := reg0 (hid l_SKeep_31) 2
@[simp] def l_SKeep_33 (_ : Unit) : List EOp := [⟨0, (some 49), none, (.q (.build [(.int .i64 0), (.int .i64 0), (.int .i64 0), (.slice none 0 0), (.slice none 0 0)] [])), []⟩, ⟨1, (some 50), none, (.q (.mki 59 (.k (.int .i64 9)))), []⟩, ⟨2, none, none, (.fz (.sto 5 (.t 6) (.t 49))), []⟩, ⟨3, (some 7), none, (.q (.mov (.t 50))), []⟩]
@[simp] def b_SKeep_34 (_ : Unit) : EB := reg0 (hid l_SKeep_33) 4
@[simp] def b_SKeep_35 (_ : Unit) : EB := .seq (hid b_SKeep_34) .ret
@[simp] def l_SKeep_36 (_ : Unit) : List EOp := [⟨0, (some 52), none, (.q (.lda 5 (.t 8))), []⟩, ⟨1, (some 53), none, (.call 25 [(.t 52)]), []⟩, ⟨2, (some 54), none, (.q (.bin .geq (.t 53) (.k (.int .i64 8)))), []⟩, ⟨3, (some 51), none, (.q (.mov (.t 54))), []⟩]
@[simp] def b_SKeep_37 (_ : Unit) : EB := reg0 (hid l_SKeep_36) 4
@[simp] def l_SKeep_38 (_ : Unit) : List EOp := [⟨0, (some 55), none, (.q (.build [(.int .i64 0), (.int .i64 0), (.int .i64 0), (.slice none 0 0), (.slice none 0 0)] [])), []⟩, ⟨1, (some 56), none, (.q (.mki 59 (.k (.int .i64 30)))), []⟩, ⟨2, none, none, (.fz (.sto 5 (.t 6) (.t 55))), []⟩, ⟨3, (some 7), none, (.q (.mov (.t 56))), []⟩]
@[simp] def b_SKeep_39 (_ : Unit) : EB := reg0 (hid l_SKeep_38) 4
@[simp] def b_SKeep_40 (_ : Unit) : EB := .seq (hid b_SKeep_39) .ret
@[simp] def l_SKeep_42 (_ : Unit) : List EOp := [⟨6, (some 64), none, (.q (.bin .lss (.t 61) (.t 63))), []⟩, ⟨7, (some 57), none, (.q (.mov (.t 64))), []⟩]
@[simp] def l_SKeep_41 (_ : Unit) : List EOp := ⟨0, (some 58), none, (.q (.mov (.t 1))), []⟩ :: ⟨1, (some 59), none, (.q (.fad 1 (.t 8))), []⟩ :: ⟨2, (some 60), none, (.q (.iad 2 1 (.t 59) (.t 58))), []⟩ :: ⟨3, (some 61), none, (.q (.ldc (.t 60))), []⟩ :: ⟨4, (some 62), none, (.q (.fad 1 (.t 5))), []⟩ :: ⟨5, (some 63), none, (.q (.ldc (.t 62))), []⟩ :: hid l_SKeep_42
@[simp] def b_SKeep_43 (_ : Unit) : EB := reg0 (hid l_SKeep_41) 8
@[simp] def l_SKeep_44 (_ : Unit) : List EOp := [⟨0, (some 65), none, (.q (.build [(.int .i64 0), (.int .i64 0), (.int .i64 0), (.slice none 0 0), (.slice none 0 0)] [])), []⟩, ⟨1, (some 66), none, (.q (.mki 59 (.k (.int .i64 20)))), []⟩, ⟨2, none, none, (.fz (.sto 5 (.t 6) (.t 65))), []⟩, ⟨3, (some 7), none, (.q (.mov (.t 66))), []⟩]
@[simp] def b_SKeep_45 (_ : Unit) : EB := reg0 (hid l_SKeep_44) 4
@[simp] def b_SKeep_46 (_ : Unit) : EB := .seq (hid b_SKeep_45) .ret
@[simp] def b_SKeep_47 (_ : Unit) : EB := .cond (.t 57) (hid b_SKeep_46) .skip
@[simp] def b_SKeep_48 (_ : Unit) : EB := .seq (hid b_SKeep_43) (hid b_SKeep_47)
@[simp] def b_SKeep_49 (_ : Unit) : EB := .cond (.t 51) (hid b_SKeep_40) (hid b_SKeep_48)
@[simp] def b_SKeep_50 (_ : Unit) : EB := .seq (hid b_SKeep_37) (hid b_SKeep_49)
@[simp] def b_SKeep_51 (_ : Unit) : EB := .cond (.t 47) (hid b_SKeep_35) (hid b_SKeep_50)
@[simp] def b_SKeep_52 (_ : Unit) : EB := .seq (hid b_SKeep_32) (hid b_SKeep_51)
@[simp] def b_SKeep_53 (_ : Unit) : EB := .cond (.t 41) (hid b_SKeep_30) (hid b_SKeep_52)
@[simp] def b_SKeep_54 (_ : Unit) : EB := .seq (hid b_SKeep_27) (hid b_SKeep_53)
@[simp] def b_SKeep_55 (_ : Unit) : EB := .cond (.t 35) (hid b_SKeep_25) (hid b_SKeep_54)
@[simp] def b_SKeep_56 (_ : Unit) : EB := .seq (hid b_SKeep_22) (hid b_SKeep_55)
@[simp] def b_SKeep_57 (_ : Unit) : EB := .cond (.t 29) (hid b_SKeep_20) (hid b_SKeep_56)
@[simp] def b_SKeep_58 (_ : Unit) : EB := .seq (hid b_SKeep_17) (hid b_SKeep_57)
@[simp] def b_SKeep_59 (_ : Unit) : EB := .block 0 (hid b_SKeep_58)
@[simp] def l_SKeep_61 (_ : Unit) : List EOp := [⟨6, (some 73), none, (.q (.bin .sub (.t 70) (.t 72))), []⟩, ⟨7, (some 74), none, (.q (.fad 1 (.t 8))), []⟩, ⟨8, (some 75), none, (.q (.iad 2 1 (.t 74) (.t 67))), []⟩, ⟨9, none, none, (.sto 1 (.t 75) (.t 73)), []⟩]
@[simp] def l_SKeep_60 (_ : Unit) : List EOp := ⟨0, (some 67), none, (.q (.mov (.t 1))), []⟩ :: ⟨1, (some 68), none, (.q (.fad 1 (.t 8))), []⟩ :: ⟨2, (some 69), none, (.q (.iad 2 1 (.t 68) (.t 67))), []⟩ :: ⟨3, (some 70), none, (.q (.ldc (.t 69))), []⟩ :: ⟨4, (some 71), none, (.q (.fad 1 (.t 5))), []⟩ :: ⟨5, (some 72), none, (.q (.ldc (.t 71))), []⟩ :: hid l_SKeep_61
@[simp] def b_SKeep_62 (_ : Unit) : EB := reg0 (hid l_SKeep_60) 10
@[simp] def l_SKeep_63 (_ : Unit) : List EOp := [⟨0, (some 76), none, (.q (.fad 2 (.t 5))), []⟩, ⟨1, (some 77), none, (.q (.ldc (.t 76))), []⟩, ⟨2, (some 78), none, (.call 26 [(.t 77)]), []⟩, ⟨3, (some 79), none, (.q (.fad 2 (.t 5))), []⟩, ⟨4, none, none, (.fz (.sto 1 (.t 79) (.t 78))), []⟩]
@[simp] def b_SKeep_64 (_ : Unit) : EB := reg0 (hid l_SKeep_63) 5
@[simp] def l_SKeep_66 (_ : Unit) : List EOp := [⟨6, (some 86), none, (.q (.fad 4 (.t 8))), []⟩, ⟨7, none, none, (.fz (.sto 1 (.t 86) (.t 85))), []⟩]
@[simp] def l_SKeep_65 (_ : Unit) : List EOp := ⟨0, (some 80), none, (.q (.fad 4 (.t 8))), []⟩ :: ⟨1, (some 81), none, (.q (.ldc (.t 80))), []⟩ :: ⟨2, (some 82), none, (.q (.mov (.t 10))), []⟩ :: ⟨3, (some 83), none, (.q (.lda 3 (.t 5))), []⟩ :: ⟨4, (some 84), none, (.q (.bsr 57 3 [(.int .i64 0), (.int .i64 0), (.slice none 0 0)] 1 [(0, (.t 83))])), []⟩ :: ⟨5, (some 85), none, (.call 27 [(.t 81), (.t 82), (.t 84)]), []⟩ :: hid l_SKeep_66
@[simp] def b_SKeep_67 (_ : Unit) : EB := reg0 (hid l_SKeep_65) 8
@[simp] def l_SKeep_68 (_ : Unit) : List EOp := [⟨0, (some 87), none, (.q (.lda 5 (.t 8))), []⟩, ⟨1, none, none, (.fz (.sto 5 (.t 6) (.t 87))), []⟩, ⟨2, (some 7), none, (.q (.mov (.k .nilIface))), []⟩]
@[simp] def b_SKeep_69 (_ : Unit) : EB := reg0 (hid l_SKeep_68) 3
@[simp] def b_SKeep_70 (_ : Unit) : EB := .seq (hid b_SKeep_69) .ret
@[simp] def b_SKeep_71 (_ : Unit) : EB := .seq (hid b_SKeep_67) (hid b_SKeep_70)
@[simp] def b_SKeep_72 (_ : Unit) : EB := .seq (hid b_SKeep_64) (hid b_SKeep_71)
@[simp] def b_SKeep_73 (_ : Unit) : EB := .seq (hid b_SKeep_62) (hid b_SKeep_72)
@[simp] def b_SKeep_74 (_ : Unit) : EB := .seq (hid b_SKeep_59) (hid b_SKeep_73)
@[simp] def b_SKeep_75 (_ : Unit) : EB := .seq (hid b_SKeep_15) (hid b_SKeep_74)
@[simp] def b_SKeep_76 (_ : Unit) : EB := .seq (hid b_SKeep_12) (hid b_SKeep_75)
@[simp] def b_SKeep_77 (_ : Unit) : EB := .seq (hid b_SKeep_5) (hid b_SKeep_76)
@[simp] def b_SKeep_78 (_ : Unit) : EB := .seq (hid b_SKeep_2) (hid b_SKeep_77)
def c_SKeep : EB × List QOp × Nat := ((hid b_SKeep_78), [(.lda 5 (.t 6)), (.mov (.t 7))], 88)
theorem k_SKeep : cfun Try.prog 12 = some c_SKeep := by kernel_rfl

@[simp] def l_SFree_1 (_ : Unit) : List EOp := [⟨0, (some 3), none, (.q (.box 37 (.t 0))), []⟩, ⟨1, (some 6), none, (.q (.alloc 37 [(.int .i64 0), (.int .i64 0), (.int .i64 0), (.slice none 0 0), (.slice none 0 0)])), []⟩, ⟨2, (some 7), none, (.q (.mov (.k .nilIface))), []⟩]
@[simp] def b_SFree_2 (_ : Unit) : EB := reg0 (hid l_SFree_1) 3
@[simp] def l_SFree_4 (_ : Unit) : List EOp := [⟨6, none, none, (.fz (.sto 5 (.t 8) (.t 15))), []⟩, ⟨7, (some 9), none, (.q (.mov (.t 16))), []⟩]
@[simp] def l_SFree_3 (_ : Unit) : List EOp := ⟨0, (some 13), none, (.q (.lda 5 (.t 3))), []⟩ :: ⟨1, (some 14), none, (.call 20 [(.t 13)]), []⟩ :: ⟨2, (some 12), none, (.q (.mov (.t 14))), []⟩ :: ⟨3, (some 15), none, (.q (.ext 0 (.t 12))), []⟩ :: ⟨4, (some 16), none, (.q (.ext 1 (.t 12))), []⟩ :: ⟨5, (some 8), none, (.q (.alloc 37 [(.int .i64 0), (.int .i64 0), (.int .i64 0), (.slice none 0 0), (.slice none 0 0)])), []⟩ :: hid l_SFree_4
@[simp] def b_SFree_5 (_ : Unit) : EB := reg0 (hid l_SFree_3) 8
@[simp] def l_SFree_6 (_ : Unit) : List EOp := [⟨0, (some 17), none, (.q (.mov (.t 9))), []⟩, ⟨1, (some 18), none, (.q (.eqi true (.t 17))), []⟩]
@[simp] def b_SFree_7 (_ : Unit) : EB := reg0 (hid l_SFree_6) 2
@[simp] def l_SFree_8 (_ : Unit) : List EOp := [⟨0, (some 19), none, (.q (.build [(.int .i64 0), (.int .i64 0), (.int .i64 0), (.slice none 0 0), (.slice none 0 0)] [])), []⟩, ⟨1, (some 20), none, (.q (.mov (.t 9))), []⟩, ⟨2, none, none, (.fz (.sto 5 (.t 6) (.t 19))), []⟩, ⟨3, (some 7), none, (.q (.mov (.t 20))), []⟩]
@[simp] def b_SFree_9 (_ : Unit) : EB := reg0 (hid l_SFree_8) 4
@[simp] def b_SFree_10 (_ : Unit) : EB := .seq (hid b_SFree_9) .ret
@[simp] def b_SFree_11 (_ : Unit) : EB := .cond (.t 18) (hid b_SFree_10) .skip
@[simp] def b_SFree_12 (_ : Unit) : EB := .seq (hid b_SFree_7) (hid b_SFree_11)
@[simp] def l_SFree_14 (_ : Unit) : List EOp := [⟨6, (some 27), none, (.q (.ext 1 (.t 21))), []⟩, ⟨7, (some 10), none, (.q (.mov (.t 26))), []⟩, ⟨8, (some 11), none, (.q (.mov (.t 27))), []⟩]
@[simp] def l_SFree_13 (_ : Unit) : List EOp := ⟨0, (some 22), none, (.q (.fad 4 (.t 8))), []⟩ :: ⟨1, (some 23), none, (.q (.ldc (.t 22))), []⟩ :: ⟨2, (some 24), none, (.q (.mov (.t 1))), []⟩ :: ⟨3, (some 25), none, (.call 21 [(.t 23), (.t 24), (.k (.func (.func 22) #[] #[]))]), []⟩ :: ⟨4, (some 21), none, (.q (.mov (.t 25))), []⟩ :: ⟨5, (some 26), none, (.q (.ext 0 (.t 21))), []⟩ :: hid l_SFree_14
@[simp] def b_SFree_15 (_ : Unit) : EB := reg0 (hid l_SFree_13) 9
@[simp] def l_SFree_16 (_ : Unit) : List EOp := [⟨0, (some 29), none, (.q (.mov (.t 11))), []⟩, ⟨1, (some 30), none, (.q (.un .not (.t 29))), []⟩, ⟨2, (some 28), none, (.q (.mov (.t 30))), []⟩]
@[simp] def b_SFree_17 (_ : Unit) : EB := reg0 (hid l_SFree_16) 3
@[simp] def l_SFree_18 (_ : Unit) : List EOp := [⟨0, (some 31), none, (.q (.build [(.int .i64 0), (.int .i64 0), (.int .i64 0), (.slice none 0 0), (.slice none 0 0)] [])), []⟩, ⟨1, (some 32), none, (.q (.mki 59 (.k (.int .i64 8)))), []⟩, ⟨2, none, none, (.fz (.sto 5 (.t 6) (.t 31))), []⟩, ⟨3, (some 7), none, (.q (.mov (.t 32))), []⟩]
@[simp] def b_SFree_19 (_ : Unit) : EB := reg0 (hid l_SFree_18) 4
@[simp] def b_SFree_20 (_ : Unit) : EB := .seq (hid b_SFree_19) .ret
@[simp] def l_SFree_23 (_ : Unit) : List EOp := [⟨12, (some 33), none, (.q (.mov (.t 45))), []⟩]
@[simp] def l_SFree_22 (_ : Unit) : List EOp := ⟨6, (some 40), (some (36, false)), (.q (.mov (.t 10))), []⟩ :: ⟨7, (some 41), (some (36, false)), (.q (.isl 3 (.t 39) (.t 40))), []⟩ :: ⟨8, (some 42), (some (36, false)), (.q (.fad 1 (.t 41))), []⟩ :: ⟨9, (some 43), (some (36, false)), (.q (.ldc (.t 42))), []⟩ :: ⟨10, (some 44), (some (36, false)), (.q (.bin .gtr (.t 37) (.t 43))), []⟩ :: ⟨11, (some 45), none, (.q (.pick (.t 36) (.k (.bool true)) (.t 44))), []⟩ :: hid l_SFree_23
@[simp] def l_SFree_21 (_ : Unit) : List EOp := ⟨0, (some 34), none, (.q (.mov (.t 2))), []⟩ :: ⟨1, (some 35), none, (.q (.bin .lss (.t 34) (.k (.int .i64 0)))), []⟩ :: ⟨2, (some 36), none, (.q (.mov (.t 35))), []⟩ :: ⟨3, (some 37), (some (36, false)), (.q (.mov (.t 2))), []⟩ :: ⟨4, (some 38), (some (36, false)), (.q (.fad 4 (.t 8))), []⟩ :: ⟨5, (some 39), (some (36, false)), (.q (.ldc (.t 38))), []⟩ :: hid l_SFree_22
@[simp] def b_SFree_24 (_ : Unit) : EB := reg0 (hid l_SFree_21) 13
@[simp] def l_SFree_25 (_ : Unit) : List EOp := [⟨0, (some 46), none, (.q (.build [(.int .i64 0), (.int .i64 0), (.int .i64 0), (.slice none 0 0), (.slice none 0 0)] [])), []⟩, ⟨1, (some 47), none, (.q (.mki 59 (.k (.int .i64 20)))), []⟩, ⟨2, none, none, (.fz (.sto 5 (.t 6) (.t 46))), []⟩, ⟨3, (some 7), none, (.q (.mov (.t 47))), []⟩]
@[simp] def b_SFree_26 (_ : Unit) : EB := reg0 (hid l_SFree_25) 4
@[simp] def b_SFree_27 (_ : Unit) : EB := .seq (hid b_SFree_26) .ret
@[simp] def b_SFree_28 (_ : Unit) : EB := .cond (.t 33) (hid b_SFree_27) .skip
@[simp] def b_SFree_29 (_ : Unit) : EB := .seq (hid b_SFree_24) (hid b_SFree_28)
@[simp] def b_SFree_30 (_ : Unit) : EB := .cond (.t 28) (hid b_SFree_20) (hid b_SFree_29)
@[simp] def b_SFree_31 (_ : Unit) : EB := .seq (hid b_SFree_17) (hid b_SFree_30)
@[simp] def b_SFree_32 (_ : Unit) : EB := .block 0 (hid b_SFree_31)
@[simp] def l_SFree_34 (_ : Unit) : List EOp := [⟨6, (some 54), none, (.q (.iad 2 1 (.t 53) (.k (.int .i64 0)))), []⟩, ⟨7, none, none, (.sto 1 (.t 54) (.t 52)), []⟩]
@[simp] def l_SFree_33 (_ : Unit) : List EOp := ⟨0, (some 48), none, (.q (.fad 1 (.t 8))), []⟩ :: ⟨1, (some 49), none, (.q (.iad 2 1 (.t 48) (.k (.int .i64 0)))), []⟩ :: ⟨2, (some 50), none, (.q (.ldc (.t 49))), []⟩ :: ⟨3, (some 51), none, (.q (.mov (.t 2))), []⟩ :: ⟨4, (some 52), none, (.q (.bin .add (.t 50) (.t 51))), []⟩ :: ⟨5, (some 53), none, (.q (.fad 1 (.t 8))), []⟩ :: hid l_SFree_34
@[simp] def b_SFree_35 (_ : Unit) : EB := reg0 (hid l_SFree_33) 8
@[simp] def l_SFree_38 (_ : Unit) : List EOp := [⟨12, (some 67), none, (.q (.fad 1 (.t 8))), []⟩, ⟨13, (some 68), none, (.q (.iad 2 1 (.t 67) (.k (.int .i64 1)))), []⟩, ⟨14, none, none, (.sto 1 (.t 68) (.t 66)), []⟩]
@[simp] def l_SFree_37 (_ : Unit) : List EOp := ⟨6, (some 61), none, (.q (.isl 3 (.t 59) (.t 60))), []⟩ :: ⟨7, (some 62), none, (.q (.fad 1 (.t 61))), []⟩ :: ⟨8, (some 63), none, (.q (.ldc (.t 62))), []⟩ :: ⟨9, (some 64), none, (.q (.mov (.t 2))), []⟩ :: ⟨10, (some 65), none, (.q (.bin .sub (.t 63) (.t 64))), []⟩ :: ⟨11, (some 66), none, (.q (.bin .add (.t 57) (.t 65))), []⟩ :: hid l_SFree_38
@[simp] def l_SFree_36 (_ : Unit) : List EOp := ⟨0, (some 55), none, (.q (.fad 1 (.t 8))), []⟩ :: ⟨1, (some 56), none, (.q (.iad 2 1 (.t 55) (.k (.int .i64 1)))), []⟩ :: ⟨2, (some 57), none, (.q (.ldc (.t 56))), []⟩ :: ⟨3, (some 58), none, (.q (.fad 4 (.t 8))), []⟩ :: ⟨4, (some 59), none, (.q (.ldc (.t 58))), []⟩ :: ⟨5, (some 60), none, (.q (.mov (.t 10))), []⟩ :: hid l_SFree_37
@[simp] def b_SFree_39 (_ : Unit) : EB := reg0 (hid l_SFree_36) 15
@[simp] def l_SFree_41 (_ : Unit) : List EOp := [⟨6, (some 75), none, (.q (.fad 4 (.t 8))), []⟩, ⟨7, none, none, (.fz (.sto 1 (.t 75) (.t 74))), []⟩]
@[simp] def l_SFree_40 (_ : Unit) : List EOp := ⟨0, (some 69), none, (.q (.fad 4 (.t 8))), []⟩ :: ⟨1, (some 70), none, (.q (.ldc (.t 69))), []⟩ :: ⟨2, (some 71), none, (.q (.mov (.t 10))), []⟩ :: ⟨3, (some 72), none, (.q (.mov (.t 10))), []⟩ :: ⟨4, (some 73), none, (.q (.bin .add (.t 72) (.k (.int .i64 1)))), []⟩ :: ⟨5, (some 74), none, (.call 43 [(.t 70), (.t 71), (.t 73)]), []⟩ :: hid l_SFree_41
@[simp] def b_SFree_42 (_ : Unit) : EB := reg0 (hid l_SFree_40) 8
@[simp] def l_SFree_43 (_ : Unit) : List EOp := [⟨0, (some 76), none, (.q (.lda 5 (.t 8))), []⟩, ⟨1, none, none, (.fz (.sto 5 (.t 6) (.t 76))), []⟩, ⟨2, (some 7), none, (.q (.mov (.k .nilIface))), []⟩]
@[simp] def b_SFree_44 (_ : Unit) : EB := reg0 (hid l_SFree_43) 3
@[simp] def b_SFree_45 (_ : Unit) : EB := .seq (hid b_SFree_44) .ret
@[simp] def b_SFree_46 (_ : Unit) : EB := .seq (hid b_SFree_42) (hid b_SFree_45)
@[simp] def b_SFree_47 (_ : Unit) : EB := .seq (hid b_SFree_39) (hid b_SFree_46)
@[simp] def b_SFree_48 (_ : Unit) : EB := .seq (hid b_SFree_35) (hid b_SFree_47)
@[simp] def b_SFree_49 (_ : Unit) : EB := .seq (hid b_SFree_32) (hid b_SFree_48)
@[simp] def b_SFree_50 (_ : Unit) : EB := .seq (hid b_SFree_15) (hid b_SFree_49)
@[simp] def b_SFree_51 (_ : Unit) : EB := .seq (hid b_SFree_12) (hid b_SFree_50)
@[simp] def b_SFree_52 (_ : Unit) : EB := .seq (hid b_SFree_5) (hid b_SFree_51)
@[simp] def b_SFree_53 (_ : Unit) : EB := .seq (hid b_SFree_2) (hid b_SFree_52)
def c_SFree : EB × List QOp × Nat := ((hid b_SFree_53), [(.lda 5 (.t 6)), (.mov (.t 7))], 77)
theorem k_SFree : cfun Try.prog 32 = some c_SFree := by kernel_rfl


theorem cloneI_fz (l : List Int) (hl : l.length ≤ 100000000) : ECalls Try.prog 26 [IL l] [] fun y H' => H' = [] ∧ y = IL l := by
  have h := cloneI_ok l hl
  rw [show l.length = (intv l).length by simp] at h
  exact ecalls_frz h

theorem byHold_ok (p : Hol) (x : Int) : ECalls Try.prog 22 [.v (.agg (holC p)), I .i64 x] [] fun y H' => H' = [] ∧ y = I .i64 (cmpI p.id x) := by
  refine ecalls k_byHold ?_
  simp [c_byHold, I, holC]
  refine call0 (CmpI_ok p.id x) (by simp [Ptr, I, EV.lit]) ?_
  rintro y H' ⟨rfl, rfl⟩
  refine ⟨.inl (by simp [Ptr, I, EV.lit]), le_ok rfl, ?_⟩
  simp [Ptr, I, EV.lit]
  exact fin [] (by decide) rfl rfl rfl ⟨rfl, rfl⟩
theorem byHold_body : bodyOK Try.prog 22 = true := by kernel_rfl

set_option maxHeartbeats 4000000 in
theorem BinH_ok (l : List Hol) (x : Int) (hl : ∀ p ∈ l, p.ok) (hn : l.length ≤ 100000000) (hs : (l.map (·.id)).Pairwise (· < ·)) :
    ECalls Try.prog 21 [HL l, I .i64 x, .v (.c (.clo 22 []))] [] fun y H' => H' = [] ∧ y = .tup [.c (.fz (.lit (.int .i64 (posI (l.map (·.id)) x)))), .c (.fz (.lit (.bool (fndI (l.map (·.id)) x))))] := by
  obtain ⟨ids, hids⟩ : ∃ ids, l.map (·.id) = ids := ⟨_, rfl⟩
  rw [hids] at hs ⊢
  have idl : ids.length = l.length := by rw [← hids]; simp
  have hget : ∀ (k : Nat) (p : Hol), l[k]? = some p → ids[k]? = some p.id := fun k p h => by rw [← hids, List.getElem?_map, h]; rfl
  refine ecalls k_BinH ?_
  simp [c_BinH, I, HL]
  refine eloop (α := Nat × Nat) (fun a => a.1 ≤ a.2 ∧ a.2 ≤ l.length ∧ (∀ k y, k < a.1 → ids[k]? = some y → y < x) ∧ ∀ k y, a.2 ≤ k → ids[k]? = some y → x ≤ y) (fun a => a.2 - a.1)
    (fun a => [HL l, I .i64 x, .v (.c (.clo 22 [])), .any, .any, .any, .any, .any, I .i64 l.length, I .i64 a.1, I .i64 a.2, .any, .any, .any, .any, .any, .any, .any, .any, .any, .any, .any, .any, .any, .any, .any, .any, .any, .any, .any, .any, .any, .any, .any, .any, .any, .any, .any, .any, .any, .any, .any, .any, .any, .any, .any, .any, .any, .any]) (fun _ => []) (0, l.length) []
    ⟨by simp, Nat.le_refl _, by intro k y h; simp at h, by
      intro k y h hk
      have := lt_len hk
      simp at h; omega⟩ (by simp [I, HL]) (by simp) (by simp) (by simp) (by simp) ?_
  rintro ⟨i, j⟩ ⟨h1, h2, h3, h4⟩
  dsimp only at h1 h2 h3 h4
  simp [I, HL]
  refine alt (fun hlt => ?_) (fun hlt => ?_)
  · have hij : i < j := by omega
    obtain ⟨h, hh⟩ : ∃ h, (i + j) / 2 = h := ⟨_, rfl⟩
    have hl1 : i ≤ h := by omega
    have hl2 : h < j := by omega
    have hln : h < l.length := by omega
    obtain ⟨p, hc⟩ : ∃ p, l[h]? = some p := ⟨l[h], by simp [hln]⟩
    have hpo := hl p (List.mem_of_getElem? hc)
    have hcb := holv_get hc
    have hge : (holv l)[h]'(by simp [hln]) = holF p := by
      have e := hcb
      rw [List.getElem?_eq_getElem (by simp [hln])] at e
      exact Option.some.inj e
    have hpt := holC_take p
    have hpl : (holC p).length = 3 := rfl
    have hfl : (holF p).length = 3 := rfl
    have w0 : IntKind.i64.wrap ((i : Int) + (j : Int)) = ((i + j : Nat) : Int) := by rw [wrap_i64 (by omega) (by omega)]; omega
    have w1 : IntKind.u64.wrap ((i + j : Nat) : Int) = ((i + j : Nat) : Int) := wrap_u64 (by omega) (by omega)
    have w2 : ishr .u64 ((i + j : Nat) : Int) 1 = (h : Int) := by
      have e := ishr_nat .u64 (i + j) 1 (by decide)
      rw [show ((1 : Nat) : Int) = 1 from rfl] at e
      rw [e, ← hh]
    have w3 : IntKind.i64.wrap (h : Int) = (h : Int) := wrap_i64 (by omega) (by omega)
    have w4 : IntKind.i64.wrap ((h : Int) + 1) = ((h + 1 : Nat) : Int) := wrap_i64 (by omega) (by omega)
    simp [w0, w1, w2, w3, hln, hge, holF_fz, hpt, hpl, hfl, -Int.natCast_add]
    refine ⟨byHold_body, ?_⟩
    refine call0 (byHold_ok p x) (by simp [I]) ?_
    rintro y H' ⟨rfl, rfl⟩
    refine ⟨.inl (by simp [-List.flatMap_eq_nil_iff, I]), le_ok rfl, ?_⟩
    simp [I]
    have hcm : cmpI p.id x < 0 ↔ p.id < x := by unfold cmpI; split <;> (try split) <;> omega
    refine alt (fun hneg => ?_) (fun hneg => ?_)
    · have hpx := hcm.1 hneg
      simp [w4, -Int.natCast_add]
      refine round (h + 1, j) [] ⟨by dsimp only; omega, h2, ?_, h4⟩ (by dsimp only; omega) (by simp) (by simp) (by simp) (by simp) (by simp)
      intro k y hk hy
      dsimp only at hk
      rcases Nat.lt_or_ge k h with hkh | hkh
      · have := pw_get hs hkh hy (hget h p hc)
        omega
      · obtain rfl : k = h := by omega
        rw [hget k p hc] at hy
        obtain rfl := Option.some.inj hy
        exact hpx
    · have hpx : x ≤ p.id := by
        rcases Int.lt_or_le p.id x with q | q
        · exact absurd (hcm.2 q) hneg
        · exact q
      simp [-Int.natCast_add]
      refine round (i, h) [] ⟨hl1, by dsimp only; omega, h3, ?_⟩ (by dsimp only; omega) (by simp) (by simp) (by simp) (by simp) (by simp)
      intro k y hk hy
      dsimp only at hk
      rcases Nat.lt_or_ge h k with hkh | hkh
      · have := pw_get hs hkh (hget h p hc) hy
        omega
      · obtain rfl : k = h := by omega
        rw [hget k p hc] at hy
        obtain rfl := Option.some.inj hy
        exact hpx
  · obtain rfl : i = j := by omega
    have hpos : posI ids x = i := posI_eq (by omega) h3 fun y hy => h4 i y (Nat.le_refl _) hy
    rw [show fndI ids x = decide (ids[i]? = some x) by unfold fndI; rw [hpos], hpos]
    simp
    refine alt (fun hi => ?_) (fun hi => ?_)
    · have hln : i < l.length := by omega
      obtain ⟨p, hc⟩ : ∃ p, l[i]? = some p := ⟨l[i], by simp [hln]⟩
      have hpo := hl p (List.mem_of_getElem? hc)
      have hcb := holv_get hc
      have hge : (holv l)[i]'(by simp [hln]) = holF p := by
        have e := hcb
        rw [List.getElem?_eq_getElem (by simp [hln])] at e
        exact Option.some.inj e
      have hpt := holC_take p
      have hpl : (holC p).length = 3 := rfl
      have hfl : (holF p).length = 3 := rfl
      simp [hln, hge, holF_fz, hpt, hpl, hfl]
      refine ⟨byHold_body, ?_⟩
      refine call0 (byHold_ok p x) (by simp [I]) ?_
      rintro y H' ⟨rfl, rfl⟩
      refine ⟨.inl (by simp [-List.flatMap_eq_nil_iff, I]), le_ok rfl, ?_⟩
      simp [I]
      have hcm : cmpI p.id x = 0 ↔ ids[i]? = some x := by
        rw [hget i p hc]
        unfold cmpI
        simp only [Option.some.injEq]
        split <;> (try split) <;> omega
      rw [show decide (cmpI p.id x = 0) = decide (ids[i]? = some x) from decide_eq_decide.2 hcm]
      exact fin [] (by decide) rfl rfl rfl ⟨rfl, rfl⟩
    · have hnone : ids[i]? = none := List.getElem?_eq_none (by omega)
      simp [hi, hnone]
      exact fin [] (by decide) rfl rfl rfl ⟨rfl, rfl⟩

set_option maxHeartbeats 4000000 in
theorem SKeep_ok (s : Sta) (who : Int) (h : Hol) (hs : s.ok) (hw : i64 who) (hh : h.ok) : ECalls Try.prog 12 [SV s, I .i64 who, .v (.agg (holC h))] [] fun y H' => H' = [] ∧ y = SE (keeS s who h) := by
  obtain ⟨ok1, ok2, ok3, ok4, ok5, ok6, ok7⟩ := id hs
  obtain ⟨⟨p1, p1'⟩, ⟨p2, p2'⟩, p3, p4⟩ := id hh
  refine ecalls k_SKeep ?_
  simp [c_SKeep, SV, staC, hc0', I, -errV_0]
  by_cases h0 : mayS s = true ∧ s.num ≠ 1099511627776
  rotate_left
  · have hx : nxt s = (zSta, 1) := by simp only [nxt, if_neg h0]
    have ha : keeS s who h = (zSta, 1) := by simp [keeS, hx]
    rw [ha]
    refine call0 (next_ok s hs) (by simp [SV, staC]) ?_
    rintro y H' ⟨rfl, rfl⟩
    refine ⟨.inl (by simp), le_ok rfl, ?_⟩
    rw [hx]
    simp [SE, staC, zSta]
    refine finW _ (weak_nlB (o := 32) (k := 3) 36 rfl rfl) (finW _ (weak_nlB (o := 32) (k := 4) 3 rfl rfl) ?_)
    exact fin [] (by decide) rfl rfl rfl ⟨rfl, rfl⟩
  have hx : nxt s = (⟨s.num + 1, s.h0, s.h1, s.pays, s.holds⟩, 0) := by simp only [nxt, if_pos h0]
  obtain ⟨hr, hpl', hhl, htot⟩ := mayS_t h0.1
  have hpw := holL_pw hhl
  have tpv : List.take s.holds.length (holv s.holds) = holv s.holds := List.take_of_length_le (by simp)
  have hadd : keeS s who h = if ¬ (who = 0 ∨ who = 1) then (zSta, 33) else if h.am < 10 then (zSta, 27) else if mayH h = false then (zSta, 1)
      else if fndI (s.holds.map (·.id)) h.id = true then (zSta, 9) else if 8 ≤ s.pays.length + s.holds.length then (zSta, 30) else if sideS s who < h.am then (zSta, 20)
      else (⟨s.num + 1, if who = 0 then s.h0 - h.am else s.h0, if who = 0 then s.h1 else s.h1 - h.am, s.pays, insA Hol.id s.holds h⟩, 0) := by
    simp only [keeS, hx]
    rw [if_neg (by simp)]
  refine call0 (nextH_ok s hs h0) (by simp [SV, staC]) ?_
  rintro y H' ⟨rfl, rfl⟩
  refine ⟨.inl (by simp), le_ok rfl, ?_⟩
  simp [-errV_0]
  refine call0 (BinH_ok s.holds h.id ok5 ok7 hpw) (by simp [HL, I, tpv]) ?_
  rintro y H' ⟨rfl, rfl⟩
  refine ⟨.inr ⟨rfl, by simp⟩, le_ok rfl, ?_⟩
  obtain ⟨pos, hpos⟩ : ∃ pos, posI (s.holds.map (·.id)) h.id = pos := ⟨_, rfl⟩
  have hple : pos ≤ s.holds.length := by have := posI_le (s.holds.map (·.id)) h.id; rw [hpos] at this; simpa using this
  obtain ⟨fnd, hfnd⟩ : ∃ fnd, fndI (s.holds.map (·.id)) h.id = fnd := ⟨_, rfl⟩
  rw [hpos, hfnd]
  simp [-errV_0]
  refine call0 (side_ok who) (by simp [I]) ?_
  rintro y H' ⟨rfl, rfl⟩
  refine ⟨.inl (by simp), le_ok rfl, ?_⟩
  cases hb : decide (who = 0 ∨ who = 1)
  · have hb' := of_decide_eq_false hb
    rw [hadd, if_pos hb']
    simp [EV.lit, SE, staC, zSta]
    refine finW _ (weak_nlB (o := 32) (k := 3) 36 rfl rfl) (finW _ (weak_nlB (o := 32) (k := 4) 3 rfl rfl) ?_)
    exact fin [] (by decide) rfl rfl rfl ⟨rfl, rfl⟩
  have hb' := of_decide_eq_true hb
  rw [hadd, if_neg (by simp [hb']), hfnd]
  simp [EV.lit, -errV_0]
  refine alt (fun c1 => ?_) (fun c1 => ?_)
  · rw [if_pos c1]
    simp [EV.lit, SE, staC, zSta]
    refine finW _ (weak_nlB (o := 32) (k := 3) 36 rfl rfl) (finW _ (weak_nlB (o := 32) (k := 4) 3 rfl rfl) ?_)
    exact fin [] (by decide) rfl rfl rfl ⟨rfl, rfl⟩
  rw [if_neg c1]
  simp [-errV_0]
  refine call0 (Hmay_ok h p4) (by simp [hc0']) ?_
  rintro y H' ⟨rfl, rfl⟩
  refine ⟨.inl (by simp [-List.flatMap_eq_nil_iff]), le_ok rfl, ?_⟩
  cases hm : mayH h
  · rw [if_pos rfl]
    simp [EV.lit, SE, staC, zSta]
    refine finW _ (weak_nlB (o := 32) (k := 3) 36 rfl rfl) (finW _ (weak_nlB (o := 32) (k := 4) 3 rfl rfl) ?_)
    exact fin [] (by decide) rfl rfl rfl ⟨rfl, rfl⟩
  rw [if_neg (by simp)]
  cases fnd
  rotate_left
  · rw [if_pos rfl]
    simp [EV.lit, SE, staC, zSta]
    refine finW _ (weak_nlB (o := 32) (k := 3) 36 rfl rfl) (finW _ (weak_nlB (o := 32) (k := 4) 3 rfl rfl) ?_)
    exact fin [] (by decide) rfl rfl rfl ⟨rfl, rfl⟩
  rw [if_neg (by simp)]
  simp [EV.lit, -errV_0]
  refine call0 (Sslots_ok ⟨s.num + 1, s.h0, s.h1, s.pays, s.holds⟩ (nxt_ok hs h0.1)) (by simp [SV, staC, tpv]) ?_
  rintro y H' ⟨rfl, rfl⟩
  refine ⟨.inr ⟨rfl, by simp⟩, le_ok rfl, ?_⟩
  simp [I, -errV_0]
  refine alt (fun c2 => ?_) (fun c2 => ?_)
  · rw [if_pos (by omega)]
    simp [EV.lit, SE, staC, zSta]
    refine finW _ (weak_nlB (o := 32) (k := 3) 36 rfl rfl) (finW _ (weak_nlB (o := 32) (k := 4) 3 rfl rfl) ?_)
    exact fin [] (by decide) rfl rfl rfl ⟨rfl, rfl⟩
  rw [if_neg (by omega)]
  have hins := InsH.ins_ok (holv s.holds) (holF h) pos (by simpa using hple) (by simp; omega)
  simp [holF] at hins
  have hpv : holv (insA Hol.id s.holds h) = (holv s.holds).take pos ++ holF h :: (holv s.holds).drop pos := by rw [holv_ins, hpos]
  have hpl1 : (insA Hol.id s.holds h).length = s.holds.length + 1 := len_ins Hol.id s.holds h
  have hpt2 : List.take (s.holds.length + 1) (holv (insA Hol.id s.holds h)) = holv (insA Hol.id s.holds h) := List.take_of_length_le (by simp [hpl1])
  rcases hb' with rfl | rfl
  · simp [EV.lit, -errV_0]
    refine alt (fun c3 => ?_) (fun c3 => ?_)
    · rw [if_pos (by simpa [sideS] using c3)]
      simp [EV.lit, SE, staC, zSta]
      refine finW _ (weak_nlB (o := 32) (k := 3) 36 rfl rfl) (finW _ (weak_nlB (o := 32) (k := 4) 3 rfl rfl) ?_)
      exact fin [] (by decide) rfl rfl rfl ⟨rfl, rfl⟩
    rw [if_neg (by simpa [sideS] using c3)]
    have w1 : IntKind.i64.wrap (s.h0 - h.am) = s.h0 - h.am := wrap_i64 (by omega) (by omega)
    simp [EV.lit, w1, -errV_0]
    refine call0 (cloneI_fz h.keys p4) (by simp [IL]) ?_
    rintro y H' ⟨rfl, rfl⟩
    refine ⟨.inl (by simp), le_ok rfl, ?_⟩
    simp [IL, -errV_0]
    refine callH [80, 1104] hins (by simp) (by simp) (by simp) (by simp) (by simp) ?_
    rintro y H' ⟨rfl, rfl⟩
    refine ⟨.inl (by simp), by simp, ?_⟩
    simp [-errV_0]
    refine finW _ (weak_frz (o := 1120) (ty := 57) (es := 3) (xs := holv (insA Hol.id s.holds h)) (by rw [hpv]; rfl)) ?_
    exact fin [] (by decide) rfl rfl rfl ⟨rfl, by simp [SE, staC, hpl1, hpt2, errV, -errV_0]⟩
  · simp [EV.lit, -errV_0]
    refine alt (fun c3 => ?_) (fun c3 => ?_)
    · rw [if_pos (by simpa [sideS] using c3)]
      simp [EV.lit, SE, staC, zSta]
      refine finW _ (weak_nlB (o := 32) (k := 3) 36 rfl rfl) (finW _ (weak_nlB (o := 32) (k := 4) 3 rfl rfl) ?_)
      exact fin [] (by decide) rfl rfl rfl ⟨rfl, rfl⟩
    rw [if_neg (by simpa [sideS] using c3)]
    have w1 : IntKind.i64.wrap (s.h1 - h.am) = s.h1 - h.am := wrap_i64 (by omega) (by omega)
    simp [EV.lit, w1, -errV_0]
    refine call0 (cloneI_fz h.keys p4) (by simp [IL]) ?_
    rintro y H' ⟨rfl, rfl⟩
    refine ⟨.inl (by simp), le_ok rfl, ?_⟩
    simp [IL, -errV_0]
    refine callH [80, 1104] hins (by simp) (by simp) (by simp) (by simp) (by simp) ?_
    rintro y H' ⟨rfl, rfl⟩
    refine ⟨.inl (by simp), by simp, ?_⟩
    simp [-errV_0]
    refine finW _ (weak_frz (o := 1120) (ty := 57) (es := 3) (xs := holv (insA Hol.id s.holds h)) (by rw [hpv]; rfl)) ?_
    exact fin [] (by decide) rfl rfl rfl ⟨rfl, by simp [SE, staC, hpl1, hpt2, errV, -errV_0]⟩

set_option maxHeartbeats 4000000 in
theorem SFree_ok (s : Sta) (x a : Int) (hs : s.ok) (hx64 : i64 x) (ha64 : i64 a) : ECalls Try.prog 32 [SV s, I .i64 x, I .i64 a] [] fun y H' => H' = [] ∧ y = SE (freS s x a) := by
  obtain ⟨ok1, ok2, ok3, ok4, ok5, ok6, ok7⟩ := id hs
  refine ecalls k_SFree ?_
  simp [c_SFree, SV, staC, I, -errV_0]
  by_cases h0 : mayS s = true ∧ s.num ≠ 1099511627776
  rotate_left
  · have hx : nxt s = (zSta, 1) := by simp only [nxt, if_neg h0]
    have ha : freS s x a = (zSta, 1) := by simp [freS, hx]
    rw [ha]
    refine call0 (next_ok s hs) (by simp [SV, staC]) ?_
    rintro y H' ⟨rfl, rfl⟩
    refine ⟨.inl (by simp), le_ok rfl, ?_⟩
    rw [hx]
    simp [SE, staC, zSta]
    refine finW _ (weak_nlB (o := 16) (k := 3) 36 rfl rfl) (finW _ (weak_nlB (o := 16) (k := 4) 3 rfl rfl) ?_)
    exact fin [] (by decide) rfl rfl rfl ⟨rfl, rfl⟩
  have hx : nxt s = (⟨s.num + 1, s.h0, s.h1, s.pays, s.holds⟩, 0) := by simp only [nxt, if_pos h0]
  obtain ⟨hr, hpl', hhl, htot⟩ := mayS_t h0.1
  have hpw := holL_pw hhl
  have tpv : List.take s.holds.length (holv s.holds) = holv s.holds := List.take_of_length_le (by simp)
  refine call0 (nextH_ok s hs h0) (by simp [SV, staC]) ?_
  rintro y H' ⟨rfl, rfl⟩
  refine ⟨.inl (by simp), le_ok rfl, ?_⟩
  simp [-errV_0]
  refine call0 (BinH_ok s.holds x ok5 ok7 hpw) (by simp [HL, I, tpv]) ?_
  rintro y H' ⟨rfl, rfl⟩
  refine ⟨.inr ⟨rfl, by simp⟩, le_ok rfl, ?_⟩
  simp [-errV_0]
  cases hf : fndI (s.holds.map (·.id)) x
  · have hne : (s.holds.map (·.id))[posI (s.holds.map (·.id)) x]? ≠ some x := of_decide_eq_false hf
    have ha : freS s x a = (zSta, 8) := by
      simp only [freS, hx]
      rw [if_neg (by simp)]
      split
      · rfl
      · rename_i h hc
        rw [List.getElem?_map, hc] at hne
        rw [if_pos (by simpa using hne)]
    rw [ha]
    simp [SE, staC, zSta]
    refine finW _ (weak_nlB (o := 16) (k := 3) 36 rfl rfl) (finW _ (weak_nlB (o := 16) (k := 4) 3 rfl rfl) ?_)
    exact fin [] (by decide) rfl rfl rfl ⟨rfl, rfl⟩
  obtain ⟨h, hc, hid⟩ := fnd_get (f := Hol.id) hf
  have hfr : freS s x a = if a < 0 ∨ h.am < a then (zSta, 20) else (⟨s.num + 1, s.h0 + a, s.h1 + (h.am - a), s.pays, delA Hol.id s.holds x⟩, 0) := by
    simp only [freS, hx, hc]
    rw [if_neg (by simp), if_neg (by simp [hid])]
  have hpv0 := holv_del s.holds x
  have hpl1 : (delA Hol.id s.holds x).length = s.holds.length - 1 := len_del hc
  obtain ⟨pos, hpos⟩ : ∃ pos, posI (s.holds.map (·.id)) x = pos := ⟨_, rfl⟩
  rw [hpos] at hc hpv0 ⊢
  have hlt : pos < s.holds.length := lt_len hc
  have hge : (holv s.holds)[pos]'(by simp [hlt]) = holF h := by
    have e := holv_get hc
    rw [List.getElem?_eq_getElem (by simp [hlt])] at e
    exact Option.some.inj e
  have hpt2 : List.take (s.holds.length - 1) (holv (delA Hol.id s.holds x)) = holv (delA Hol.id s.holds x) := List.take_of_length_le (by simp [hpl1])
  have hdel := InsH.del_ok (holv s.holds) pos (by simpa using hlt)
  simp at hdel
  have w1 : IntKind.i64.wrap ((pos : Int) + 1) = (pos : Int) + 1 := wrap_i64 (by omega) (by omega)
  have hle := holL_sum hhl h (List.mem_of_getElem? hc)
  have hma := mayH_am (holL_mem hhl h (List.mem_of_getElem? hc))
  have hnn := sumP_nn hpl'
  have hto : total s = s.h0 + s.h1 + sumP s.pays + sumH s.holds := rfl
  rw [hfr]
  by_cases c1 : a < 0
  · rw [if_pos (.inl c1)]
    simp [c1, show ¬ 0 ≤ a by omega, -errV_0]
    refine finW _ (weak_nlB (o := 16) (k := 3) 36 rfl rfl) (finW _ (weak_nlB (o := 16) (k := 4) 3 rfl rfl) ?_)
    exact fin [] (by decide) rfl rfl rfl ⟨rfl, rfl⟩
  by_cases c2 : h.am < a
  · rw [if_pos (.inr c2)]
    simp [c1, show 0 ≤ a by omega, c2, hlt, hge, holF, -errV_0]
    refine finW _ (weak_nlB (o := 16) (k := 3) 36 rfl rfl) (finW _ (weak_nlB (o := 16) (k := 4) 3 rfl rfl) ?_)
    exact fin [] (by decide) rfl rfl rfl ⟨rfl, rfl⟩
  rw [if_neg (by omega)]
  have w2 : IntKind.i64.wrap (s.h0 + a) = s.h0 + a := wrap_i64 (by omega) (by omega)
  have w3 : IntKind.i64.wrap (h.am - a) = h.am - a := wrap_i64 (by omega) (by omega)
  have w4 : IntKind.i64.wrap (s.h1 + (h.am - a)) = s.h1 + (h.am - a) := wrap_i64 (by omega) (by omega)
  simp [c1, c2, show 0 ≤ a by omega, hlt, hge, holF, w1, w2, w3, w4, -errV_0]
  refine callH [64] hdel (by simp) (by simp) (by simp) (by simp) (by simp) ?_
  rintro y H' ⟨rfl, rfl⟩
  refine ⟨.inl (by simp), by simp, ?_⟩
  simp [-errV_0]
  refine finW _ (weak_frz (o := 1056) (ty := 57) (es := 3) (xs := holv (delA Hol.id s.holds x)) (by rw [hpv0]; rfl)) ?_
  exact fin [] (by decide) rfl rfl rfl ⟨rfl, by simp [SE, staC, hpl1, hpt2, errV, -errV_0]⟩

end Go.Proofs.Ytejjhgdnmknejaa
