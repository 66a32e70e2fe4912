import Derived.Test.YtejjhgdnmknejaaGreatDoorAll9
import Derived.Test.YtejjhgdnmknejaaGreatDoorAll8
import Derived.Test.YtejjhgdnmknejaaGreatDoorAll7
namespace Go.Proofs.YtejjhgdnmknejaaGreatDoor
open Go Go.EW
set_option linter.unusedSimpArgs false
set_option linter.unusedVariables false

@[simp] def l_RCPut_1 (_ : Unit) : List EOp := [⟨0, (some 3), none, (.q (.box 152 (.t 1))), []⟩, ⟨1, (some 4), none, (.q (.mov (.k (.slice none 0 0)))), []⟩]
@[simp] def b_RCPut_2 (_ : Unit) : EB := reg0 (hid l_RCPut_1) 2
@[simp] def l_RCPut_3 (_ : Unit) : List EOp := [⟨0, (some 5), none, (.q (.mov (.k (.slice none 0 0)))), []⟩]
@[simp] def b_RCPut_4 (_ : Unit) : EB := reg0 (hid l_RCPut_3) 1
@[simp] def l_RCPut_6 (_ : Unit) : List EOp := [⟨2, (some 11), none, (.app 5 1 1 (.t 9) (.t 10)), [3, 4, 5, 6]⟩, ⟨7, (some 16), none, (.call 107 [(.t 11), (.t 15)]), []⟩, ⟨8, (some 5), none, (.q (.mov (.t 16))), []⟩]
@[simp] def l_RCPut_5 (_ : Unit) : List EOp := ⟨0, (some 9), none, (.q (.mov (.t 5))), []⟩ :: ⟨1, (some 10), none, (.q (.mov (.t 0))), []⟩ :: ⟨3, (some 12), none, (.q (.fad 0 (.t 3))), []⟩ :: ⟨4, (some 13), none, (.q (.ldc (.t 12))), []⟩ :: ⟨5, (some 14), none, (.q (.len (.t 13))), []⟩ :: ⟨6, (some 15), none, (.q (.cnv .u64 (.t 14))), []⟩ :: hid l_RCPut_6
@[simp] def b_RCPut_7 (_ : Unit) : EB := reg1 (hid l_RCPut_5) 9
@[simp] def l_RCPut_8 (_ : Unit) : List EOp := [⟨0, (some 6), none, (.q (.mov (.k (.int .i64 0)))), []⟩]
@[simp] def b_RCPut_9 (_ : Unit) : EB := reg0 (hid l_RCPut_8) 1
@[simp] def l_RCPut_10 (_ : Unit) : List EOp := [⟨0, (some 17), none, (.q (.mov (.t 6))), []⟩, ⟨1, (some 18), none, (.q (.fad 0 (.t 3))), []⟩, ⟨2, (some 19), none, (.q (.ldc (.t 18))), []⟩, ⟨3, (some 20), none, (.q (.len (.t 19))), []⟩, ⟨4, (some 21), none, (.q (.bin .lss (.t 17) (.t 20))), []⟩]
@[simp] def b_RCPut_11 (_ : Unit) : EB := reg0 (hid l_RCPut_10) 5
@[simp] def b_RCPut_12 (_ : Unit) : EB := .cond (.t 21) .skip (.exit 0)
@[simp] def b_RCPut_13 (_ : Unit) : EB := .seq (hid b_RCPut_11) (hid b_RCPut_12)
@[simp] def l_RCPut_15 (_ : Unit) : List EOp := [⟨6, none, none, (.fz (.sto 35 (.t 7) (.t 28))), []⟩]
@[simp] def l_RCPut_14 (_ : Unit) : List EOp := ⟨0, (some 24), none, (.q (.fad 0 (.t 3))), []⟩ :: ⟨1, (some 25), none, (.q (.ldc (.t 24))), []⟩ :: ⟨2, (some 26), none, (.q (.mov (.t 6))), []⟩ :: ⟨3, (some 27), none, (.q (.isl 35 (.t 25) (.t 26))), []⟩ :: ⟨4, (some 28), none, (.q (.lda 35 (.t 27))), []⟩ :: ⟨5, (some 7), none, (.q (.alloc 212 (([(.slice none 0 0)] : List Value) ++ zU8 ++ [(.int .i64 0), (.int .i64 0)]))), []⟩ :: hid l_RCPut_15
@[simp] def b_RCPut_16 (_ : Unit) : EB := reg0 (hid l_RCPut_14) 7
@[simp] def l_RCPut_18 (_ : Unit) : List EOp := [⟨6, (some 5), none, (.q (.mov (.t 34))), []⟩]
@[simp] def l_RCPut_17 (_ : Unit) : List EOp := ⟨0, (some 29), none, (.q (.mov (.t 5))), []⟩ :: ⟨1, (some 30), none, (.q (.fad 0 (.t 7))), []⟩ :: ⟨2, (some 31), none, (.q (.ldc (.t 30))), []⟩ :: ⟨3, (some 32), none, (.q (.len (.t 31))), []⟩ :: ⟨4, (some 33), none, (.q (.cnv .u64 (.t 32))), []⟩ :: ⟨5, (some 34), none, (.call 107 [(.t 29), (.t 33)]), []⟩ :: hid l_RCPut_18
@[simp] def b_RCPut_19 (_ : Unit) : EB := reg0 (hid l_RCPut_17) 7
@[simp] def l_RCPut_20 (_ : Unit) : List EOp := [⟨0, (some 8), none, (.q (.mov (.k (.int .i64 0)))), []⟩]
@[simp] def b_RCPut_21 (_ : Unit) : EB := reg0 (hid l_RCPut_20) 1
@[simp] def l_RCPut_22 (_ : Unit) : List EOp := [⟨0, (some 35), none, (.q (.mov (.t 8))), []⟩, ⟨1, (some 36), none, (.q (.fad 0 (.t 7))), []⟩, ⟨2, (some 37), none, (.q (.ldc (.t 36))), []⟩, ⟨3, (some 38), none, (.q (.len (.t 37))), []⟩, ⟨4, (some 39), none, (.q (.bin .lss (.t 35) (.t 38))), []⟩]
@[simp] def b_RCPut_23 (_ : Unit) : EB := reg0 (hid l_RCPut_22) 5
@[simp] def b_RCPut_24 (_ : Unit) : EB := .cond (.t 39) .skip (.exit 2)
@[simp] def b_RCPut_25 (_ : Unit) : EB := .seq (hid b_RCPut_23) (hid b_RCPut_24)
@[simp] def l_RCPut_27 (_ : Unit) : List EOp := [⟨6, (some 48), none, (.q (.cnv .u64 (.t 47))), []⟩, ⟨7, (some 49), none, (.call 107 [(.t 42), (.t 48)]), []⟩, ⟨8, (some 5), none, (.q (.mov (.t 49))), []⟩]
@[simp] def l_RCPut_26 (_ : Unit) : List EOp := ⟨0, (some 42), none, (.q (.mov (.t 5))), []⟩ :: ⟨1, (some 43), none, (.q (.fad 0 (.t 7))), []⟩ :: ⟨2, (some 44), none, (.q (.ldc (.t 43))), []⟩ :: ⟨3, (some 45), none, (.q (.mov (.t 8))), []⟩ :: ⟨4, (some 46), none, (.q (.isl 1 (.t 44) (.t 45))), []⟩ :: ⟨5, (some 47), none, (.q (.ldc (.t 46))), []⟩ :: hid l_RCPut_27
@[simp] def b_RCPut_28 (_ : Unit) : EB := reg0 (hid l_RCPut_26) 9
@[simp] def b_RCPut_29 (_ : Unit) : EB := .block 3 (hid b_RCPut_28)
@[simp] def l_RCPut_30 (_ : Unit) : List EOp := [⟨0, (some 40), none, (.q (.mov (.t 8))), []⟩, ⟨1, (some 41), none, (.q (.bin .add (.t 40) (.k (.int .i64 1)))), []⟩, ⟨2, (some 8), none, (.q (.mov (.t 41))), []⟩]
@[simp] def b_RCPut_31 (_ : Unit) : EB := reg0 (hid l_RCPut_30) 3
@[simp] def b_RCPut_32 (_ : Unit) : EB := .seq (hid b_RCPut_29) (hid b_RCPut_31)
@[simp] def b_RCPut_33 (_ : Unit) : EB := .seq (hid b_RCPut_25) (hid b_RCPut_32)
@[simp] def b_RCPut_34 (_ : Unit) : EB := .loop (hid b_RCPut_33)
@[simp] def b_RCPut_35 (_ : Unit) : EB := .block 2 (hid b_RCPut_34)
@[simp] def b_RCPut_36 (_ : Unit) : EB := .seq (hid b_RCPut_21) (hid b_RCPut_35)
@[simp] def l_RCPut_39 (_ : Unit) : List EOp := [⟨12, (some 5), none, (.q (.mov (.t 61))), []⟩]
@[simp] def l_RCPut_38 (_ : Unit) : List EOp := ⟨8, (some 58), none, (.q (.fad 34 (.t 7))), []⟩ :: ⟨9, (some 59), none, (.q (.ldc (.t 58))), []⟩ :: ⟨10, (some 60), none, (.q (.cnv .u64 (.t 59))), []⟩ :: ⟨3, (some 53), none, (.call 108 [(.t 50), (.t 52)]), [4, 5, 6, 8, 9, 10]⟩ :: ⟨7, (some 57), none, (.call 107 [(.t 53), (.t 56)]), [8, 9, 10]⟩ :: ⟨11, (some 61), none, (.call 107 [(.t 57), (.t 60)]), []⟩ :: hid l_RCPut_39
@[simp] def l_RCPut_37 (_ : Unit) : List EOp := ⟨0, (some 50), none, (.q (.mov (.t 5))), []⟩ :: ⟨1, (some 51), none, (.q (.fad 1 (.t 7))), []⟩ :: ⟨2, (some 52), none, (.q (.lda 32 (.t 51))), []⟩ :: ⟨4, (some 54), none, (.q (.fad 33 (.t 7))), []⟩ :: ⟨5, (some 55), none, (.q (.ldc (.t 54))), []⟩ :: ⟨6, (some 56), none, (.q (.cnv .u64 (.t 55))), []⟩ :: hid l_RCPut_38
@[simp] def b_RCPut_40 (_ : Unit) : EB := reg1 (hid l_RCPut_37) 13
@[simp] def b_RCPut_41 (_ : Unit) : EB := .seq (hid b_RCPut_36) (hid b_RCPut_40)
@[simp] def b_RCPut_42 (_ : Unit) : EB := .seq (hid b_RCPut_19) (hid b_RCPut_41)
@[simp] def b_RCPut_43 (_ : Unit) : EB := .seq (hid b_RCPut_16) (hid b_RCPut_42)
@[simp] def b_RCPut_44 (_ : Unit) : EB := .block 1 (hid b_RCPut_43)
@[simp] def l_RCPut_45 (_ : Unit) : List EOp := [⟨0, (some 22), none, (.q (.mov (.t 6))), []⟩, ⟨1, (some 23), none, (.q (.bin .add (.t 22) (.k (.int .i64 1)))), []⟩, ⟨2, (some 6), none, (.q (.mov (.t 23))), []⟩]
@[simp] def b_RCPut_46 (_ : Unit) : EB := reg0 (hid l_RCPut_45) 3
@[simp] def b_RCPut_47 (_ : Unit) : EB := .seq (hid b_RCPut_44) (hid b_RCPut_46)
@[simp] def b_RCPut_48 (_ : Unit) : EB := .seq (hid b_RCPut_13) (hid b_RCPut_47)
@[simp] def b_RCPut_49 (_ : Unit) : EB := .loop (hid b_RCPut_48)
@[simp] def b_RCPut_50 (_ : Unit) : EB := .block 0 (hid b_RCPut_49)
@[simp] def b_RCPut_51 (_ : Unit) : EB := .seq (hid b_RCPut_9) (hid b_RCPut_50)
@[simp] def l_RCPut_52 (_ : Unit) : List EOp := [⟨0, (some 62), none, (.q (.mov (.t 5))), []⟩, ⟨1, (some 4), none, (.q (.mov (.t 62))), []⟩]
@[simp] def b_RCPut_53 (_ : Unit) : EB := reg0 (hid l_RCPut_52) 2
@[simp] def b_RCPut_54 (_ : Unit) : EB := .seq (hid b_RCPut_53) .ret
@[simp] def b_RCPut_55 (_ : Unit) : EB := .seq (hid b_RCPut_51) (hid b_RCPut_54)
@[simp] def b_RCPut_56 (_ : Unit) : EB := .seq (hid b_RCPut_7) (hid b_RCPut_55)
@[simp] def b_RCPut_57 (_ : Unit) : EB := .seq (hid b_RCPut_4) (hid b_RCPut_56)
@[simp] def b_RCPut_58 (_ : Unit) : EB := .seq (hid b_RCPut_2) (hid b_RCPut_57)
def c_RCPut : EB × List QOp × Nat := ((hid b_RCPut_58), [(.mov (.t 4))], 63)
theorem k_RCPut : cfun Tryz.prog 125 = some c_RCPut := by kernel_rfl

@[simp] def l_RTPut_1 (_ : Unit) : List EOp := [⟨0, (some 2), none, (.q (.box 77 (.t 0))), []⟩, ⟨1, (some 4), none, (.q (.mov (.k (.slice none 0 0)))), []⟩]
@[simp] def b_RTPut_2 (_ : Unit) : EB := reg0 (hid l_RTPut_1) 2
@[simp] def l_RTPut_4 (_ : Unit) : List EOp := [⟨7, (some 16), none, (.q (.cnv .u64 (.t 15))), []⟩, ⟨3, (some 12), none, (.call 107 [(.k (.slice none 0 0)), (.t 11)]), [4, 5, 6, 7]⟩, ⟨8, (some 17), none, (.call 107 [(.t 12), (.t 16)]), []⟩, ⟨9, (some 5), none, (.q (.mov (.t 17))), []⟩]
@[simp] def l_RTPut_3 (_ : Unit) : List EOp := ⟨0, (some 9), none, (.q (.fad 0 (.t 2))), []⟩ :: ⟨1, (some 10), none, (.q (.ldc (.t 9))), []⟩ :: ⟨2, (some 11), none, (.q (.cnv .u64 (.t 10))), []⟩ :: ⟨4, (some 13), none, (.q (.fad 1 (.t 2))), []⟩ :: ⟨5, (some 14), none, (.q (.ldc (.t 13))), []⟩ :: ⟨6, (some 15), none, (.q (.len (.t 14))), []⟩ :: hid l_RTPut_4
@[simp] def b_RTPut_5 (_ : Unit) : EB := reg1 (hid l_RTPut_3) 10
@[simp] def l_RTPut_6 (_ : Unit) : List EOp := [⟨0, (some 6), none, (.q (.mov (.k (.int .i64 0)))), []⟩]
@[simp] def b_RTPut_7 (_ : Unit) : EB := reg0 (hid l_RTPut_6) 1
@[simp] def l_RTPut_8 (_ : Unit) : List EOp := [⟨0, (some 18), none, (.q (.mov (.t 6))), []⟩, ⟨1, (some 19), none, (.q (.fad 1 (.t 2))), []⟩, ⟨2, (some 20), none, (.q (.ldc (.t 19))), []⟩, ⟨3, (some 21), none, (.q (.len (.t 20))), []⟩, ⟨4, (some 22), none, (.q (.bin .lss (.t 18) (.t 21))), []⟩]
@[simp] def b_RTPut_9 (_ : Unit) : EB := reg0 (hid l_RTPut_8) 5
@[simp] def b_RTPut_10 (_ : Unit) : EB := .cond (.t 22) .skip (.exit 0)
@[simp] def b_RTPut_11 (_ : Unit) : EB := .seq (hid b_RTPut_9) (hid b_RTPut_10)
@[simp] def l_RTPut_13 (_ : Unit) : List EOp := [⟨6, none, none, (.fz (.sto 35 (.t 7) (.t 29))), []⟩]
@[simp] def l_RTPut_12 (_ : Unit) : List EOp := ⟨0, (some 25), none, (.q (.fad 1 (.t 2))), []⟩ :: ⟨1, (some 26), none, (.q (.ldc (.t 25))), []⟩ :: ⟨2, (some 27), none, (.q (.mov (.t 6))), []⟩ :: ⟨3, (some 28), none, (.q (.isl 35 (.t 26) (.t 27))), []⟩ :: ⟨4, (some 29), none, (.q (.lda 35 (.t 28))), []⟩ :: ⟨5, (some 7), none, (.q (.alloc 149 (zU8 ++ [(.int .i64 0), (.int .i64 0), (.slice none 0 0)]))), []⟩ :: hid l_RTPut_13
@[simp] def b_RTPut_14 (_ : Unit) : EB := reg0 (hid l_RTPut_12) 7
@[simp] def l_RTPut_17 (_ : Unit) : List EOp := [⟨9, (some 39), none, (.call 107 [(.t 34), (.t 38)]), [10, 11, 12]⟩, ⟨13, (some 43), none, (.call 107 [(.t 39), (.t 42)]), []⟩, ⟨14, (some 5), none, (.q (.mov (.t 43))), []⟩]
@[simp] def l_RTPut_16 (_ : Unit) : List EOp := ⟨7, (some 37), none, (.q (.ldc (.t 36))), []⟩ :: ⟨8, (some 38), none, (.q (.cnv .u64 (.t 37))), []⟩ :: ⟨10, (some 40), none, (.q (.fad 33 (.t 7))), []⟩ :: ⟨11, (some 41), none, (.q (.ldc (.t 40))), []⟩ :: ⟨12, (some 42), none, (.q (.cnv .u64 (.t 41))), []⟩ :: ⟨4, (some 34), none, (.call 108 [(.t 30), (.t 33)]), [5, 6, 7, 8, 10, 11, 12]⟩ :: hid l_RTPut_17
@[simp] def l_RTPut_15 (_ : Unit) : List EOp := ⟨0, (some 30), none, (.q (.mov (.t 5))), []⟩ :: ⟨1, (some 31), none, (.q (.fad 0 (.t 7))), []⟩ :: ⟨2, (some 32), none, (.q (.fad 0 (.t 31))), []⟩ :: ⟨3, (some 33), none, (.q (.lda 32 (.t 32))), []⟩ :: ⟨5, (some 35), none, (.q (.fad 0 (.t 7))), []⟩ :: ⟨6, (some 36), none, (.q (.fad 32 (.t 35))), []⟩ :: hid l_RTPut_16
@[simp] def b_RTPut_18 (_ : Unit) : EB := reg1 (hid l_RTPut_15) 15
@[simp] def l_RTPut_19 (_ : Unit) : List EOp := [⟨0, (some 44), none, (.q (.mov (.t 1))), []⟩]
@[simp] def b_RTPut_20 (_ : Unit) : EB := reg0 (hid l_RTPut_19) 1
@[simp] def l_RTPut_21 (_ : Unit) : List EOp := [⟨0, (some 45), none, (.q (.mov (.t 5))), []⟩, ⟨1, (some 46), none, (.q (.fad 34 (.t 7))), []⟩, ⟨2, (some 47), none, (.q (.ldc (.t 46))), []⟩, ⟨3, (some 48), none, (.call 124 [(.t 45), (.t 47)]), []⟩, ⟨4, (some 5), none, (.q (.mov (.t 48))), []⟩]
@[simp] def b_RTPut_22 (_ : Unit) : EB := reg0 (hid l_RTPut_21) 5
@[simp] def l_RTPut_23 (_ : Unit) : List EOp := [⟨0, (some 49), none, (.q (.mov (.t 5))), []⟩, ⟨1, (some 50), none, (.call 124 [(.t 49), (.k (.slice none 0 0))]), []⟩, ⟨2, (some 5), none, (.q (.mov (.t 50))), []⟩]
@[simp] def b_RTPut_24 (_ : Unit) : EB := reg0 (hid l_RTPut_23) 3
@[simp] def b_RTPut_25 (_ : Unit) : EB := .cond (.t 44) (hid b_RTPut_22) (hid b_RTPut_24)
@[simp] def b_RTPut_26 (_ : Unit) : EB := .seq (hid b_RTPut_20) (hid b_RTPut_25)
@[simp] def b_RTPut_27 (_ : Unit) : EB := .seq (hid b_RTPut_18) (hid b_RTPut_26)
@[simp] def b_RTPut_28 (_ : Unit) : EB := .seq (hid b_RTPut_14) (hid b_RTPut_27)
@[simp] def b_RTPut_29 (_ : Unit) : EB := .block 1 (hid b_RTPut_28)
@[simp] def l_RTPut_30 (_ : Unit) : List EOp := [⟨0, (some 23), none, (.q (.mov (.t 6))), []⟩, ⟨1, (some 24), none, (.q (.bin .add (.t 23) (.k (.int .i64 1)))), []⟩, ⟨2, (some 6), none, (.q (.mov (.t 24))), []⟩]
@[simp] def b_RTPut_31 (_ : Unit) : EB := reg0 (hid l_RTPut_30) 3
@[simp] def b_RTPut_32 (_ : Unit) : EB := .seq (hid b_RTPut_29) (hid b_RTPut_31)
@[simp] def b_RTPut_33 (_ : Unit) : EB := .seq (hid b_RTPut_11) (hid b_RTPut_32)
@[simp] def b_RTPut_34 (_ : Unit) : EB := .loop (hid b_RTPut_33)
@[simp] def b_RTPut_35 (_ : Unit) : EB := .block 0 (hid b_RTPut_34)
@[simp] def b_RTPut_36 (_ : Unit) : EB := .seq (hid b_RTPut_7) (hid b_RTPut_35)
@[simp] def l_RTPut_38 (_ : Unit) : List EOp := [⟨6, (some 5), none, (.q (.mov (.t 56))), []⟩]
@[simp] def l_RTPut_37 (_ : Unit) : List EOp := ⟨0, (some 51), none, (.q (.mov (.t 5))), []⟩ :: ⟨1, (some 52), none, (.q (.fad 2 (.t 2))), []⟩ :: ⟨2, (some 53), none, (.q (.ldc (.t 52))), []⟩ :: ⟨3, (some 54), none, (.q (.len (.t 53))), []⟩ :: ⟨4, (some 55), none, (.q (.cnv .u64 (.t 54))), []⟩ :: ⟨5, (some 56), none, (.call 107 [(.t 51), (.t 55)]), []⟩ :: hid l_RTPut_38
@[simp] def b_RTPut_39 (_ : Unit) : EB := reg0 (hid l_RTPut_37) 7
@[simp] def l_RTPut_40 (_ : Unit) : List EOp := [⟨0, (some 8), none, (.q (.mov (.k (.int .i64 0)))), []⟩]
@[simp] def b_RTPut_41 (_ : Unit) : EB := reg0 (hid l_RTPut_40) 1
@[simp] def l_RTPut_42 (_ : Unit) : List EOp := [⟨0, (some 57), none, (.q (.mov (.t 8))), []⟩, ⟨1, (some 58), none, (.q (.fad 2 (.t 2))), []⟩, ⟨2, (some 59), none, (.q (.ldc (.t 58))), []⟩, ⟨3, (some 60), none, (.q (.len (.t 59))), []⟩, ⟨4, (some 61), none, (.q (.bin .lss (.t 57) (.t 60))), []⟩]
@[simp] def b_RTPut_43 (_ : Unit) : EB := reg0 (hid l_RTPut_42) 5
@[simp] def b_RTPut_44 (_ : Unit) : EB := .cond (.t 61) .skip (.exit 2)
@[simp] def b_RTPut_45 (_ : Unit) : EB := .seq (hid b_RTPut_43) (hid b_RTPut_44)
@[simp] def l_RTPut_48 (_ : Unit) : List EOp := [⟨13, (some 77), none, (.q (.fad 1 (.t 76))), []⟩, ⟨14, (some 78), none, (.q (.lda 1 (.t 77))), []⟩, ⟨8, (some 72), none, (.call 107 [(.t 64), (.t 71)]), [9, 10, 11, 12, 13, 14]⟩, ⟨15, (some 79), none, (.call 125 [(.t 72), (.t 78)]), []⟩, ⟨16, (some 5), none, (.q (.mov (.t 79))), []⟩]
@[simp] def l_RTPut_47 (_ : Unit) : List EOp := ⟨6, (some 70), none, (.q (.ldc (.t 69))), []⟩ :: ⟨7, (some 71), none, (.q (.cnv .u64 (.t 70))), []⟩ :: ⟨9, (some 73), none, (.q (.fad 2 (.t 2))), []⟩ :: ⟨10, (some 74), none, (.q (.ldc (.t 73))), []⟩ :: ⟨11, (some 75), none, (.q (.mov (.t 8))), []⟩ :: ⟨12, (some 76), none, (.q (.isl 2 (.t 74) (.t 75))), []⟩ :: hid l_RTPut_48
@[simp] def l_RTPut_46 (_ : Unit) : List EOp := ⟨0, (some 64), none, (.q (.mov (.t 5))), []⟩ :: ⟨1, (some 65), none, (.q (.fad 2 (.t 2))), []⟩ :: ⟨2, (some 66), none, (.q (.ldc (.t 65))), []⟩ :: ⟨3, (some 67), none, (.q (.mov (.t 8))), []⟩ :: ⟨4, (some 68), none, (.q (.isl 2 (.t 66) (.t 67))), []⟩ :: ⟨5, (some 69), none, (.q (.fad 0 (.t 68))), []⟩ :: hid l_RTPut_47
@[simp] def b_RTPut_49 (_ : Unit) : EB := reg1 (hid l_RTPut_46) 17
@[simp] def b_RTPut_50 (_ : Unit) : EB := .block 3 (hid b_RTPut_49)
@[simp] def l_RTPut_51 (_ : Unit) : List EOp := [⟨0, (some 62), none, (.q (.mov (.t 8))), []⟩, ⟨1, (some 63), none, (.q (.bin .add (.t 62) (.k (.int .i64 1)))), []⟩, ⟨2, (some 8), none, (.q (.mov (.t 63))), []⟩]
@[simp] def b_RTPut_52 (_ : Unit) : EB := reg0 (hid l_RTPut_51) 3
@[simp] def b_RTPut_53 (_ : Unit) : EB := .seq (hid b_RTPut_50) (hid b_RTPut_52)
@[simp] def b_RTPut_54 (_ : Unit) : EB := .seq (hid b_RTPut_45) (hid b_RTPut_53)
@[simp] def b_RTPut_55 (_ : Unit) : EB := .loop (hid b_RTPut_54)
@[simp] def b_RTPut_56 (_ : Unit) : EB := .block 2 (hid b_RTPut_55)
@[simp] def b_RTPut_57 (_ : Unit) : EB := .seq (hid b_RTPut_41) (hid b_RTPut_56)
@[simp] def l_RTPut_58 (_ : Unit) : List EOp := [⟨0, (some 80), none, (.q (.mov (.t 5))), []⟩, ⟨1, (some 4), none, (.q (.mov (.t 80))), []⟩]
@[simp] def b_RTPut_59 (_ : Unit) : EB := reg0 (hid l_RTPut_58) 2
@[simp] def b_RTPut_60 (_ : Unit) : EB := .seq (hid b_RTPut_59) .ret
@[simp] def b_RTPut_61 (_ : Unit) : EB := .seq (hid b_RTPut_57) (hid b_RTPut_60)
@[simp] def b_RTPut_62 (_ : Unit) : EB := .seq (hid b_RTPut_39) (hid b_RTPut_61)
@[simp] def b_RTPut_63 (_ : Unit) : EB := .seq (hid b_RTPut_36) (hid b_RTPut_62)
@[simp] def b_RTPut_64 (_ : Unit) : EB := .seq (hid b_RTPut_5) (hid b_RTPut_63)
@[simp] def b_RTPut_65 (_ : Unit) : EB := .seq (hid b_RTPut_2) (hid b_RTPut_64)
def c_RTPut : EB × List QOp × Nat := ((hid b_RTPut_65), [(.mov (.t 4))], 81)
theorem k_RTPut : cfun Tryz.prog 62 = some c_RTPut := by kernel_rfl

@[simp] def l_RTEncode_1 (_ : Unit) : List EOp := [⟨0, (some 1), none, (.q (.box 77 (.t 0))), []⟩, ⟨1, (some 2), none, (.q (.mov (.k (.slice none 0 0)))), []⟩]
@[simp] def b_RTEncode_2 (_ : Unit) : EB := reg0 (hid l_RTEncode_1) 2
@[simp] def l_RTEncode_3 (_ : Unit) : List EOp := [⟨0, (some 3), none, (.q (.lda 3 (.t 1))), []⟩, ⟨1, (some 4), none, (.call 62 [(.t 3), (.k (.bool true))]), []⟩, ⟨2, (some 2), none, (.q (.mov (.t 4))), []⟩]
@[simp] def b_RTEncode_4 (_ : Unit) : EB := reg0 (hid l_RTEncode_3) 3
@[simp] def b_RTEncode_5 (_ : Unit) : EB := .seq (hid b_RTEncode_4) .ret
@[simp] def b_RTEncode_6 (_ : Unit) : EB := .seq (hid b_RTEncode_2) (hid b_RTEncode_5)
def c_RTEncode : EB × List QOp × Nat := ((hid b_RTEncode_6), [(.mov (.t 2))], 5)
theorem k_RTEncode : cfun Tryz.prog 24 = some c_RTEncode := by kernel_rfl


/-! ### the document's: a condition -/
set_option maxHeartbeats 8000000 in
theorem RCPut_ok (pre : List UInt8) (l : List Bra) (hl : ∀ b ∈ l, b.ok) (hn : l.length ≤ 100000000) (hs : pre.length + (cndB l).length ≤ 400000000) : ECalls Tryz.prog 125 [Bs pre, CNv l] [] fun y H' => H' = [some (RO (pre ++ cndB l))] ∧ y = R 0 (pre ++ cndB l) := by
  have hc0 : (cndB l).length = (uB (l.length : Int)).length + (brsB l).length := by simp [cndB]
  obtain ⟨F, hF⟩ : ∃ F : Nat → List UInt8, F = fun i => pre ++ uB (l.length : Int) ++ brsB (l.take i) := ⟨_, rfl⟩
  have hF0 : pre ++ uB (l.length : Int) = F 0 := by rw [hF]; simp [brsB]
  have hFl : ∀ i, (F i).length ≤ 400000000 := by
    intro i
    have hfl := flat_take braB l i
    rw [hF]; simp only [List.length_append]; unfold brsB at *; omega
  refine ecalls k_RCPut ?_
  simp [c_RCPut, CNv, Bs]
  refine ⟨⟨by omega, by omega⟩, ?_⟩
  simp only [wrap_u64n]
  refine call0 (RUint_ok pre (u64n (l.length : Int)) (u64n_lt _) (by omega)) (by simp [I, Bs, List.take_of_length_le]) ?_
  rintro y H' ⟨rfl, rfl⟩
  refine ⟨.inr ⟨rfl, by simp [RO, bsv, cb]⟩, le_ok rfl, ?_⟩
  simp only [uB_eq, hF0]
  simp [R, RO]
  refine eloop (α := Nat) (fun i => i ≤ l.length) (fun i => l.length - i)
    (fun i => [.any, .any, .any, Ptr 0, .any, R 1 (F i), I .i64 i, .any, .any, .any, .any, .any, .any, .any, .any, .any, .any, .any, .any, .any, .any, .any, .any, .any, .any, .any, .any, .any, .any, .any, .any, .any, .any, .any, .any, .any, .any, .any, .any, .any, .any, .any, .any, .any, .any, .any, .any, .any, .any, .any, .any, .any, .any, .any, .any, .any, .any, .any, .any, .any, .any, .any, .any]) (fun i => [some (.box 152 [.fz (.sl 35 (brav l))]), some (RO (F i))]) 0 [0, 160]
    (Nat.zero_le _) (by simp [Ptr, I, R]) (by simp [RO]) (by simp) (by simp) (by simp) ?_
  intro i hi
  have hX := hFl i
  simp [Ptr, I, R, RO]
  refine alt (fun hlt => ?_) (fun hlt => ?_)
  · have hln : i < l.length := by omega
    obtain ⟨b, hcx⟩ : ∃ b, l[i]? = some b := ⟨l[i], by simp [hln]⟩
    have hge : (brav l)[i]'(by simpa using hln) = braF b := by
      have e := brav_get hcx
      rw [List.getElem?_eq_getElem (by simpa using hln)] at e
      exact Option.some.inj e
    have hb := hl b (List.mem_of_getElem? hcx)
    obtain ⟨b1, b2, b3, b4, b5⟩ := id hb
    have l0 := bc_len b2
    have f0 := bf_len b2
    have tk := bc_take b2
    have lk : List.take 32 (braC b).tail = hc b.lock := by have := bc_lock b2; simpa using this
    have e0 := idx_of (bc_0 b) (by omega)
    have e33 := idx_of (bc_33 b2) (by omega)
    have e34 := idx_of (bc_34 b2) (by omega)
    have w1 : IntKind.i64.wrap ((i : Int) + 1) = ((i + 1 : Nat) : Int) := wrap_i64 (by omega) (by omega)
    have hfs := flat_take_s braB hcx
    have hbl : (braB b).length = (uB (b.keys.length : Int)).length + ((usB b.keys).length + (32 + ((uB b.af).length + (uB b.ol).length))) := by simp [braB, b2]
    have hXb : (F i).length + (braB b).length ≤ 400000000 := by
      rw [hF]; simp only [List.length_append]; unfold brsB at *; omega
    have hFs : F (i + 1) = F i ++ braB b := by rw [hF]; simp [take_s hcx, brsB_snoc]
    simp [hln, hge, braF_fz, l0, f0, tk, lk, e0, e33, e34, wrap_u64n, drop34z, iC, RO, R, Ptr]
    refine call0 (RUint_ok (F i) (u64n (b.keys.length : Int)) (u64n_lt _) (by omega)) (by simp [I, Bs, List.take_of_length_le]) ?_
    rintro y H' ⟨rfl, rfl⟩
    refine ⟨.inr ⟨rfl, by simp [RO, bsv, cb]⟩, le_ok rfl, ?_⟩
    obtain ⟨G, hG⟩ : ∃ G : Nat → List UInt8, G = fun j => F i ++ uB (b.keys.length : Int) ++ usB (b.keys.take j) := ⟨_, rfl⟩
    have hG0 : F i ++ uB (b.keys.length : Int) = G 0 := by rw [hG]; simp [usB]
    have hGl : ∀ j, (G j).length + 32 + (uB b.af).length + (uB b.ol).length ≤ 400000000 := by
      intro j
      have hfk := flat_take uB b.keys j
      rw [hG]; simp only [List.length_append]; unfold usB at *; omega
    simp only [uB_eq, hG0]
    simp [hln, hge, braF_fz, l0, f0, tk, lk, e0, e33, e34, wrap_u64n, drop34z, iC, RO, R, Ptr]
    refine eloop (α := Nat) (fun j => j ≤ b.keys.length) (fun j => b.keys.length - j)
      (fun j => [.any, .any, .any, Ptr 0, .any, R 1 (G j), I .i64 i, Ptr 2, I .i64 j, .any, .any, .any, .any, .any, .any, .any, .any, .any, .any, .any, .any, .any, .any, .any, .any, .any, .any, .any, .any, .any, .any, .any, .any, .any, .any, .any, .any, .any, .any, .any, .any, .any, .any, .any, .any, .any, .any, .any, .any, .any, .any, .any, .any, .any, .any, .any, .any, .any, .any, .any, .any, .any, .any])
      (fun j => [some (.box 152 [.fz (.sl 35 (brav l))]), some (RO (G j)), some (.box 212 (braC b))]) 0 [0, 274, 162]
      (Nat.zero_le _) (by simp [Ptr, I, R]) (by simp [RO]) (by simp) (by simp) (by simp) ?_
    intro j hj
    have hY := hGl j
    simp [Ptr, I, R, RO, l0, e0]
    refine alt (fun hlt2 => ?_) (fun hlt2 => ?_)
    · have hjn : j < b.keys.length := by omega
      obtain ⟨k, hc2⟩ : ∃ k, b.keys[j]? = some k := ⟨b.keys[j], by simp [hjn]⟩
      have hcb2 := intv_get hc2
      have w3 : IntKind.i64.wrap ((j : Int) + 1) = ((j + 1 : Nat) : Int) := wrap_i64 (by omega) (by omega)
      have hGs : G (j + 1) = G j ++ uB k := by rw [hG]; simp [take_s hc2, usB_snoc]
      simp [hcb2, hln, hge, braF_fz, l0, f0, tk, lk, e0, e33, e34, wrap_u64n, drop34z, iC, RO, R, Ptr]
      refine call0 (RUint_ok (G j) (u64n k) (u64n_lt _) (by omega)) (by simp [I, Bs, List.take_of_length_le]) ?_
      rintro y H' ⟨rfl, rfl⟩
      refine ⟨.inr ⟨rfl, by simp [RO, bsv, cb]⟩, le_ok rfl, ?_⟩
      simp only [uB_eq, ← hGs]
      simp [R, RO, w3, -Int.natCast_add]
      exact round (j + 1) [0, 195, 2] (by omega) (by omega) (by simp [Ptr, I, R]) (by simp [RO]) (by simp) (by simp) (by simp)
    have hjl : j = b.keys.length := by omega
    subst hjl
    simp [hln, hge, braF_fz, l0, f0, tk, lk, e0, e33, e34, wrap_u64n, drop34z, iC, RO, R, Ptr]
    refine call0 (RHash_ok (G b.keys.length) b.lock (by omega) b2) (by simp [Ag, Bs, List.take_of_length_le, lk]) ?_
    rintro y H' ⟨rfl, rfl⟩
    refine ⟨.inr ⟨rfl, by simp [RO, bsv, cb]⟩, le_ok rfl, ?_⟩
    simp [hln, hge, braF_fz, l0, f0, tk, lk, e0, e33, e34, wrap_u64n, drop34z, iC, RO, R, Ptr]
    refine call0 (RUint_ok (G b.keys.length ++ b.lock) (u64n b.af) (u64n_lt _) (by simp; omega)) (by simp [I, Bs, List.take_of_length_le]) ?_
    rintro y H' ⟨rfl, rfl⟩
    refine ⟨.inr ⟨rfl, by simp [RO, bsv, cb]⟩, le_ok rfl, ?_⟩
    simp only [uB_eq]
    simp [hln, hge, braF_fz, l0, f0, tk, lk, e0, e33, e34, wrap_u64n, drop34z, iC, RO, R, Ptr]
    refine call0 (RUint_ok (G b.keys.length ++ b.lock ++ uB b.af) (u64n b.ol) (u64n_lt _) (by simp; omega)) (by simp [I, Bs, List.take_of_length_le]) ?_
    rintro y H' ⟨rfl, rfl⟩
    refine ⟨.inr ⟨rfl, by simp [RO, bsv, cb]⟩, le_ok rfl, ?_⟩
    have hGe : G b.keys.length ++ b.lock ++ uB b.af ++ uB b.ol = F (i + 1) := by rw [hFs, hG]; simp [braB]
    simp only [uB_eq, hGe]
    simp [R, RO, Ptr, w1, -Int.natCast_add]
    exact round (i + 1) [0, 259] (by omega) (by omega) (by simp [Ptr, I, R]) (by simp [RO]) (by simp) (by simp) (by simp)
  have hil : i = l.length := by omega
  subst hil
  have hXc : pre ++ cndB l = F l.length := by rw [hF]; simp [cndB]
  simp
  exact fin [1] (by decide) rfl rfl rfl ⟨by simp [hXc, RO], by simp [← hXc, R]⟩

/-! ### the document's: a transaction -/
set_option maxHeartbeats 16000000 in
theorem RTPut_ok (t : Txn) (ht : t.ok) (hsec : ∀ x ∈ t.ins, x.sec.length ≤ 10000000) (hs : (encT t).length ≤ 400000000) : ECalls Tryz.prog 62 [TXv t, .lit (.bool true)] [] fun y H' => H' = [] ∧ y = Bs (encT t) := by
  obtain ⟨t1, t2, t3, t4, t5⟩ := id ht
  have hlen : (encT t).length = (uB t.lk).length + (uB (t.ins.length : Int)).length + (insB t.ins).length + (uB (t.outs.length : Int)).length + (ousB t.outs).length := by simp [encT, mdB, hdB]; try omega
  obtain ⟨F, hF⟩ : ∃ F : Nat → List UInt8, F = fun i => hdB t ++ insB (t.ins.take i) := ⟨_, rfl⟩
  have hF0 : uB t.lk ++ uB (t.ins.length : Int) = F 0 := by rw [hF]; simp [insB, hdB]
  have hFl : ∀ i, (F i).length ≤ 400000000 := by
    intro i
    have hfl := flat_take inpB t.ins i
    rw [hF]; simp only [List.length_append, hdB]; unfold insB at *; omega
  have hFe : F t.ins.length = hdB t ++ insB t.ins := by rw [hF]; simp
  obtain ⟨K, hK⟩ : ∃ K : Nat → List UInt8, K = fun i => mdB t ++ ousB (t.outs.take i) := ⟨_, rfl⟩
  have hK0 : F t.ins.length ++ uB (t.outs.length : Int) = K 0 := by rw [hK, hFe]; simp [ousB, mdB]
  have hKl : ∀ i, (K i).length ≤ 400000000 := by
    intro i
    have hfl := flat_take oupB t.outs i
    rw [hK]; simp only [List.length_append, hdB, mdB]; unfold ousB at *; omega
  refine ecalls k_RTPut ?_
  simp [c_RTPut, TXv, txC, iC, wrap_u64n]
  refine call0 (RUint_nil (u64n t.lk) (u64n_lt _)) (by simp [I]) ?_
  rintro y H' ⟨rfl, rfl⟩
  refine ⟨.inl (by simp), le_ok rfl, ?_⟩
  simp only [uB_eq]
  simp [R, RO, wrap_u64n]
  refine call0 (RUint_ok (uB t.lk) (u64n (t.ins.length : Int)) (u64n_lt _) (by omega)) (by simp [I, Bs, List.take_of_length_le]) ?_
  rintro y H' ⟨rfl, rfl⟩
  refine ⟨.inr ⟨rfl, by simp [RO, bsv, cb]⟩, le_ok rfl, ?_⟩
  simp only [uB_eq, hF0]
  simp [R, RO, wrap_u64n]
  refine eloop (α := Nat) (fun i => i ≤ t.ins.length) (fun i => t.ins.length - i)
    (fun i => [.any, .lit (.bool true), Ptr 0, .any, .any, R 1 (F i), I .i64 i, .any, .any, .any, .any, .any, .any, .any, .any, .any, .any, .any, .any, .any, .any, .any, .any, .any, .any, .any, .any, .any, .any, .any, .any, .any, .any, .any, .any, .any, .any, .any, .any, .any, .any, .any, .any, .any, .any, .any, .any, .any, .any, .any, .any, .any, .any, .any, .any, .any, .any, .any, .any, .any, .any, .any, .any, .any, .any, .any, .any, .any, .any, .any, .any, .any, .any, .any, .any, .any, .any, .any, .any, .any, .any]) (fun i => [some (.box 77 (txC t)), some (RO (F i))]) 0 [0, 160]
    (Nat.zero_le _) (by simp [Ptr, I, R]) (by simp [RO, txC, iC]) (by simp) (by simp) (by simp) ?_
  intro i hi
  have hX := hFl i
  simp [Ptr, I, R, RO, txC, iC]
  refine alt (fun hlt => ?_) (fun hlt => ?_)
  · have hln : i < t.ins.length := by omega
    obtain ⟨x, hcx⟩ : ∃ x, t.ins[i]? = some x := ⟨t.ins[i], by simp [hln]⟩
    have hge : (inpv t.ins)[i]'(by simpa using hln) = inpF x := by
      have e := inpv_get hcx
      rw [List.getElem?_eq_getElem (by simpa using hln)] at e
      exact Option.some.inj e
    have hx := t2 x (List.mem_of_getElem? hcx)
    obtain ⟨x1, x2, x3, x4⟩ := id hx
    have x5 := hsec x (List.mem_of_getElem? hcx)
    have l0 := ic_len x1
    have f0 := if_len x1
    have tk := ic_take x1
    have th := ic_hash x1
    have e32 := idx_of (ic_32 x1) (by omega)
    have e33 := idx_of (ic_33 x1) (by omega)
    have e34 := idx_of (ic_34 x1) (by omega)
    have w1 : IntKind.i64.wrap ((i : Int) + 1) = ((i + 1 : Nat) : Int) := wrap_i64 (by omega) (by omega)
    have hfs := flat_take_s inpB hcx
    have hbl : (inpB x).length = 32 + ((uB x.n).length + ((uB x.br).length + (bytesB x.sec).length)) := by simp [inpB, x1]
    have hXb : (F i).length + (inpB x).length ≤ 400000000 := by
      rw [hF]; simp only [List.length_append, hdB]; unfold insB at *; omega
    have hFs : F (i + 1) = F i ++ inpB x := by rw [hF]; simp [take_s hcx, insB_snoc]
    simp [hln, hge, inpF_fz, l0, f0, tk, th, e32, e33, e34, wrap_u64n, drop35h, iC, RO, R, Ptr]
    refine call0 (RHash_ok (F i) x.tx (by omega) x1) (by simp [Ag, Bs, List.take_of_length_le]) ?_
    rintro y H' ⟨rfl, rfl⟩
    refine ⟨.inr ⟨rfl, by simp [RO, bsv, cb]⟩, le_ok rfl, ?_⟩
    simp [hln, hge, inpF_fz, l0, f0, tk, th, e32, e33, e34, wrap_u64n, drop35h, iC, RO, R, Ptr]
    refine call0 (RUint_ok (F i ++ x.tx) (u64n x.n) (u64n_lt _) (by simp; omega)) (by simp [I, Bs, List.take_of_length_le]) ?_
    rintro y H' ⟨rfl, rfl⟩
    refine ⟨.inr ⟨rfl, by simp [RO, bsv, cb]⟩, le_ok rfl, ?_⟩
    simp only [uB_eq]
    simp [hln, hge, inpF_fz, l0, f0, tk, th, e32, e33, e34, wrap_u64n, drop35h, iC, RO, R, Ptr]
    refine call0 (RUint_ok (F i ++ x.tx ++ uB x.n) (u64n x.br) (u64n_lt _) (by simp; omega)) (by simp [I, Bs, List.take_of_length_le]) ?_
    rintro y H' ⟨rfl, rfl⟩
    refine ⟨.inr ⟨rfl, by simp [RO, bsv, cb]⟩, le_ok rfl, ?_⟩
    simp only [uB_eq]
    simp [hln, hge, inpF_fz, l0, f0, tk, th, e32, e33, e34, wrap_u64n, drop35h, iC, RO, R, Ptr]
    refine call0 (RBytes_ok (F i ++ x.tx ++ uB x.n ++ uB x.br) x.sec (by simp; omega) (by omega)) (by simp [Bs, List.take_of_length_le]) ?_
    rintro y H' ⟨rfl, rfl⟩
    refine ⟨.inr ⟨rfl, by simp [RO, bsv, cb]⟩, le_ok rfl, ?_⟩
    have hGe : F i ++ x.tx ++ uB x.n ++ uB x.br ++ bytesB x.sec = F (i + 1) := by rw [hFs]; simp [inpB]
    simp only [hGe]
    simp [R, RO, Ptr, w1, -Int.natCast_add]
    exact round (i + 1) [0, 498] (by omega) (by omega) (by simp [Ptr, I, R]) (by simp [RO, txC, iC]) (by simp) (by simp) (by simp)
  have hil : i = t.ins.length := by omega
  subst hil
  simp [wrap_u64n]
  refine call0 (RUint_ok (F t.ins.length) (u64n (t.outs.length : Int)) (u64n_lt _) (by omega)) (by simp [I, Bs, List.take_of_length_le]) ?_
  rintro y H' ⟨rfl, rfl⟩
  refine ⟨.inr ⟨rfl, by simp [RO, bsv, cb]⟩, le_ok rfl, ?_⟩
  simp only [uB_eq, hK0]
  simp [R, RO]
  refine eloop (α := Nat) (fun i => i ≤ t.outs.length) (fun i => t.outs.length - i)
    (fun i => [.any, .any, Ptr 0, .any, .any, R 1 (K i), .any, .any, I .i64 i, .any, .any, .any, .any, .any, .any, .any, .any, .any, .any, .any, .any, .any, .any, .any, .any, .any, .any, .any, .any, .any, .any, .any, .any, .any, .any, .any, .any, .any, .any, .any, .any, .any, .any, .any, .any, .any, .any, .any, .any, .any, .any, .any, .any, .any, .any, .any, .any, .any, .any, .any, .any, .any, .any, .any, .any, .any, .any, .any, .any, .any, .any, .any, .any, .any, .any, .any, .any, .any, .any, .any, .any]) (fun i => [some (.box 77 (txC t)), some (RO (K i))]) 0 [0, 162]
    (Nat.zero_le _) (by simp [Ptr, I, R]) (by simp [RO, txC, iC]) (by simp) (by simp) (by simp) ?_
  intro i hi
  have hX := hKl i
  simp [Ptr, I, R, RO, txC, iC]
  refine alt (fun hlt => ?_) (fun hlt => ?_)
  · have hln : i < t.outs.length := by omega
    obtain ⟨x, hcx⟩ : ∃ x, t.outs[i]? = some x := ⟨t.outs[i], by simp [hln]⟩
    have hge : (outv t.outs)[i]'(by simpa using hln) = outF x := by
      have e := outv_get hcx
      rw [List.getElem?_eq_getElem (by simpa using hln)] at e
      exact Option.some.inj e
    obtain ⟨x1, x2, x3⟩ := t3 x (List.mem_of_getElem? hcx)
    have w1 : IntKind.i64.wrap ((i : Int) + 1) = ((i + 1 : Nat) : Int) := wrap_i64 (by omega) (by omega)
    have hfs := flat_take_s oupB hcx
    have hbl : (oupB x).length = (uB x.am).length + (cndB x.cs).length := by simp [oupB]
    have hXb : (K i).length + (oupB x).length ≤ 400000000 := by
      rw [hK]; simp only [List.length_append, hdB, mdB]; unfold ousB at *; omega
    have hKs : K (i + 1) = K i ++ oupB x := by rw [hK]; simp [take_s hcx, ousB_snoc]
    simp [hln, hge, outF, iF, wrap_u64n]
    refine call0 (RUint_ok (K i) (u64n x.am) (u64n_lt _) (by omega)) (by simp [I, Bs, List.take_of_length_le]) ?_
    rintro y H' ⟨rfl, rfl⟩
    refine ⟨.inr ⟨rfl, by simp [RO, bsv, cb]⟩, le_ok rfl, ?_⟩
    simp only [uB_eq]
    simp [hln, hge, outF, iF, R, RO, wrap_u64n]
    refine call0 (RCPut_ok (K i ++ uB x.am) x.cs x2 x3 (by simp; omega)) (by simp [CNv, Bs, List.take_of_length_le]) ?_
    rintro y H' ⟨rfl, rfl⟩
    refine ⟨.inr ⟨rfl, by simp [RO, bsv, cb]⟩, le_ok rfl, ?_⟩
    have hGe : K i ++ uB x.am ++ cndB x.cs = K (i + 1) := by rw [hKs]; simp [oupB]
    simp only [hGe]
    simp [R, RO, w1, -Int.natCast_add]
    exact round (i + 1) [0, 322] (by omega) (by omega) (by simp [R, I, Ptr]) (by simp [RO, txC, iC]) (by simp) (by simp) (by simp)
  have hil : i = t.outs.length := by omega
  subst hil
  have hKe : K t.outs.length = encT t := by rw [hK]; simp [encT]
  simp
  refine finW _ (weak_frz (o := 1) (ty := 5) (es := 1) (xs := bsv (K t.outs.length)) rfl) ?_
  exact fin [] (by decide) rfl rfl rfl ⟨rfl, by simp [Bs, hKe, List.take_of_length_le]⟩

set_option maxHeartbeats 4000000 in
theorem RTEncode_ok (t : Txn) (ht : t.ok) (hsec : ∀ x ∈ t.ins, x.sec.length ≤ 10000000) (hs : (encT t).length ≤ 400000000) : ECalls Tryz.prog 24 [TXv t] [] fun y H' => H' = [] ∧ y = Bs (encT t) := by
  refine ecalls k_RTEncode ?_
  simp [c_RTEncode, TXv, txC, iC]
  refine call0 (RTPut_ok t ht hsec hs) (by simp [TXv, txC, iC]) ?_
  rintro y H' ⟨rfl, rfl⟩
  refine ⟨.inl (by simp [Bs]), le_ok rfl, ?_⟩
  simp [Bs]
  exact fin [] (by decide) rfl rfl rfl ⟨rfl, rfl⟩

end Go.Proofs.YtejjhgdnmknejaaGreatDoor

namespace Go.Proofs.YtejjhgdnmknejaaGreatDoor
open Go Go.EW
set_option linter.unusedSimpArgs false
set_option linter.unusedVariables false

/-! ### insertion sort of some numbers -/
def restN : Nat → Nat → List Int → List Int
  | 0, _, l => l
  | k + 1, i, l => restN k (i + 1) (sinkS i l)
def insN (l : List Int) : List Int := restN (l.length - 1) 1 l
def RisI (l : List Int) : Prop := ∀ i a b, l[i]? = some a → l[i + 1]? = some b → a < b
theorem sink_ris {l : List Int} (h : RisI l) (i : Nat) (hi : i < l.length) : sinkS i l = l := by
  cases i with
  | zero => rfl
  | succ j =>
    unfold sinkS
    obtain ⟨a, ha⟩ : ∃ a, l[j]? = some a := ⟨l[j], by simp [show j < l.length by omega]⟩
    obtain ⟨b, hb⟩ : ∃ b, l[j + 1]? = some b := ⟨l[j + 1], by simp [hi]⟩
    have := h j a b ha hb
    rw [ha, hb, if_neg (by simp; omega)]
theorem rest_ris {l : List Int} (h : RisI l) : ∀ (k i : Nat), i + k ≤ l.length → restN k i l = l
  | 0, _, _ => rfl
  | k + 1, i, hk => by
    unfold restN
    rw [sink_ris h i (by omega)]
    exact rest_ris h k (i + 1) (by omega)
theorem ins_ris {l : List Int} (h : RisI l) : insN l = l := by
  unfold insN
  rcases Nat.eq_zero_or_pos l.length with e | e
  · rw [e]; rfl
  · exact rest_ris h _ _ (by omega)
theorem ins_two (a b : Int) : insN [a, b] = if b < a then [b, a] else [a, b] := by
  show sinkS 1 [a, b] = _
  unfold sinkS
  by_cases h : b < a
  · simp [h, sinkS, swS]
  · simp [h]
theorem restN_len : ∀ (k i : Nat) (l : List Int), (restN k i l).length = l.length
  | 0, _, _ => rfl
  | k + 1, i, l => by unfold restN; rw [restN_len k, sinkS_len]
theorem insN_len (l : List Int) : (insN l).length = l.length := restN_len _ _ _

set_option maxHeartbeats 4000000 in
theorem InsN_ok (l : List Int) (n : Nat) (h3 : l.length = n) (hn1 : 1 ≤ n) (hn2 : n ≤ 1000) : ECalls Tryz.prog 180 [.v (.c (.row 0 n)), I .i64 0, I .i64 n] [.row 3 1 (intv l)] fun y H' => H' = [some (.row 3 1 (intv (insN l)))] ∧ y = .tup [] := by
  obtain ⟨F, hF⟩ : ∃ F, insN l = F := ⟨_, rfl⟩
  rw [hF]
  have w0 : IntKind.i64.wrap 1 = 1 := by decide +kernel
  refine ecalls k_InsI ?_
  simp [c_InsI, I, w0]
  refine eloop (α := Nat × List Int) (fun a => 1 ≤ a.1 ∧ a.1 ≤ n ∧ a.2.length = n ∧ restN (n - a.1) a.1 a.2 = F) (fun a => n - a.1)
    (fun a => [.v (.c (.row 0 n)), I .i64 0, I .i64 n, .any, .any, .any, I .i64 a.1, .any, .any, .any, .any, .any, .any, .any, .any, .any, .any, .any, .any, .any, .any, .any, .any, .any, .any, .any, .any, .any, .any, .any, .any, .any, .any, .any, .any, .any, .any, .any, .any, .any, .any, .any, .any, .any, .any, .any, .any, .any, .any]) (fun a => [some (.row 3 1 (intv a.2))]) (1, l) [0]
    ⟨by simp, by simpa using hn1, h3, by rw [← hF, ← h3]; rfl⟩ (by simp [I]) (by simp) (by simp) (by simp) (by simp) ?_
  rintro ⟨i, m⟩ ⟨hi1, hi3, hm, hr⟩
  dsimp only at hi1 hi3 hm hr
  by_cases hlt : i < n
  · have hli : (i : Int) < n := by omega
    have w1 : IntKind.i64.wrap ((i : Int) + 1) = ((i + 1 : Nat) : Int) := wrap_i64 (by omega) (by omega)
    have hnext : restN (n - (i + 1)) (i + 1) (sinkS i m) = F := by
      rw [← hr, show n - i = (n - (i + 1)) + 1 by omega]
      rfl
    obtain ⟨G, hG⟩ : ∃ G, sinkS i m = G := ⟨_, rfl⟩
    have hGl : G.length = n := by rw [← hG, sinkS_len]; exact hm
    rw [hG] at hnext
    simp [I, hli, hlt]
    refine eloop (α := Nat × List Int) (fun a => a.1 ≤ i ∧ a.2.length = n ∧ sinkS a.1 a.2 = G) (fun a => a.1)
      (fun a => [.v (.c (.row 0 n)), I .i64 0, I .i64 n, .any, .any, .any, I .i64 i, I .i64 a.1, .any, .any, .any, .any, .any, .any, .any, .any, .any, .any, .any, .any, .any, .any, .any, .any, .any, .any, .any, .any, .any, .any, .any, .any, .any, .any, .any, .any, .any, .any, .any, .any, .any, .any, .any, .any, .any, .any, .any, .any, .any]) (fun a => [some (.row 3 1 (intv a.2))]) (i, m) [0]
      ⟨Nat.le_refl _, hm, hG⟩ (by simp [I]) (by simp) (by simp) (by simp) (by simp) ?_
    rintro ⟨j, k⟩ ⟨hj, hk, hs⟩
    dsimp only at hj hk hs
    rcases Nat.eq_zero_or_pos j with hj0 | hj0
    · subst hj0
      have hkG : k = G := hs
      subst hkG
      simp [I, w1, -Int.natCast_add]
      exact round (i + 1, k) [0] ⟨by dsimp only; omega, by dsimp only; omega, hk, hnext⟩ (by dsimp only; omega) (by simp [I]) (by simp) (by simp) (by simp) (by simp)
    · obtain ⟨p, rfl⟩ : ∃ p, j = p + 1 := ⟨j - 1, by omega⟩
      have hjp : (0 : Int) < ((p + 1 : Nat) : Int) := by omega
      have wj : IntKind.i64.wrap (((p + 1 : Nat) : Int) - 1) = (p : Int) := by rw [wrap_i64 (by omega) (by omega)]; omega
      obtain ⟨j, hje⟩ : ∃ j, p + 1 = j := ⟨_, rfl⟩
      have hp3 : p < n := by omega
      have hj3 : j < n := by omega
      obtain ⟨A, hA⟩ : ∃ A, (k[p]?).getD 0 = A := ⟨_, rfl⟩
      obtain ⟨B, hB⟩ : ∃ B, (k[j]?).getD 0 = B := ⟨_, rfl⟩
      have ga : ∀ h2, (intv k)[p]'h2 = [.lit (.int .i64 A)] := fun h2 => by rw [intv_at (by omega), hA]
      have gb : ∀ h2, (intv k)[j]'h2 = [.lit (.int .i64 B)] := fun h2 => by rw [intv_at (by omega), hB]
      have hs' : (if B < A then sinkS p (swS k p) else k) = G := by
        rw [← hs, ← hB, ← hA, ← hje]
        rfl
      rw [hje] at hjp wj
      have ip : (p : Int) < n := by omega
      have ij : (j : Int) < n := by omega
      have n0 : ¬ ((j : Int) < 0) := by omega
      have n1 : ¬ ((p : Int) < 0) := by omega
      rw [hje]
      have hjn : 0 < j := by omega
      simp [I, hjp, hjn, wj, ga, gb, hk, hp3, hj3, ip, ij, n0, n1]
      refine call0 (LessI_ok B A) (by simp [I]) ?_
      rintro y H' ⟨rfl, rfl⟩
      refine ⟨.inl (by simp), le_ok rfl, ?_⟩
      have hsw : (k.set j A).set p B = swS k p := by unfold swS; rw [hje, hA, hB]
      by_cases hBA : B < A
      · rw [if_pos hBA] at hs'
        rw [decide_eq_true hBA]
        have gp : ∀ h2, (intv (k.set j A))[p]'h2 = [.lit (.int .i64 (((k.set j A)[p]?).getD 0))] := fun h2 => intv_at (by simp; omega) h2
        simp [I, wj, ga, gb, gp, hk, hp3, hj3, ip, ij, n0, n1, intv_set, hsw]
        exact round (p, swS k p) [0] ⟨by dsimp only; omega, by rw [swS_len]; exact hk, hs'⟩ (by dsimp only; omega) (by simp [I]) (by simp) (by simp) (by simp) (by simp)
      · rw [if_neg hBA] at hs'
        subst hs'
        rw [decide_eq_false hBA]
        simp [I, w1, -Int.natCast_add]
        exact round (i + 1, k) [0] ⟨by dsimp only; omega, by dsimp only; omega, hk, hnext⟩ (by dsimp only; omega) (by simp [I]) (by simp) (by simp) (by simp) (by simp)
  · have h3' : i = n := by omega
    subst h3'
    have hmF : m = F := by rw [← hr, Nat.sub_self]; rfl
    subst hmF
    simp [I]
    exact fin [] (by decide) rfl rfl (by simp [objsOut, show List.range 1 = [0] from rfl]) ⟨rfl, rfl⟩

end Go.Proofs.YtejjhgdnmknejaaGreatDoor

namespace Go.Proofs.YtejjhgdnmknejaaGreatDoor
open Go Go.EW
set_option linter.unusedSimpArgs false
set_option linter.unusedVariables false

@[simp] def l_Ord2I_1 (_ : Unit) : List EOp := [⟨0, (some 8), none, (.q (.mov (.k (.int .i64 0)))), []⟩, ⟨1, (some 9), none, (.q (.mov (.k (.int .i64 0)))), []⟩]
@[simp] def b_Ord2I_2 (_ : Unit) : EB := reg0 (hid l_Ord2I_1) 2
@[simp] def l_Ord2I_4 (_ : Unit) : List EOp := [⟨6, (some 16), none, (.q (.isl 1 (.t 14) (.t 15))), []⟩, ⟨7, (some 17), none, (.q (.ldc (.t 16))), []⟩, ⟨8, (some 18), none, (.call 144 [(.t 13), (.t 17)]), []⟩]
@[simp] def l_Ord2I_3 (_ : Unit) : List EOp := ⟨0, (some 10), none, (.q (.mov (.t 0))), []⟩ :: ⟨1, (some 11), none, (.q (.mov (.t 2))), []⟩ :: ⟨2, (some 12), none, (.q (.isl 1 (.t 10) (.t 11))), []⟩ :: ⟨3, (some 13), none, (.q (.ldc (.t 12))), []⟩ :: ⟨4, (some 14), none, (.q (.mov (.t 0))), []⟩ :: ⟨5, (some 15), none, (.q (.mov (.t 1))), []⟩ :: hid l_Ord2I_4
@[simp] def b_Ord2I_5 (_ : Unit) : EB := reg0 (hid l_Ord2I_3) 9
@[simp] def l_Ord2I_6 (_ : Unit) : List EOp := [⟨0, (some 19), none, (.q (.mov (.t 3))), []⟩, ⟨1, (some 20), none, (.q (.nilc (.t 19))), []⟩, ⟨2, (some 21), none, (.q (.ldc (.t 20))), []⟩, ⟨3, (some 22), none, (.q (.bin .add (.t 21) (.k (.int .i64 1)))), []⟩, ⟨4, (some 23), none, (.q (.nilc (.t 19))), []⟩, ⟨5, none, none, (.sto 1 (.t 23) (.t 22)), []⟩]
@[simp] def b_Ord2I_7 (_ : Unit) : EB := reg0 (hid l_Ord2I_6) 6
@[simp] def l_Ord2I_8 (_ : Unit) : List EOp := [⟨0, (some 24), none, (.q (.mov (.t 2))), []⟩, ⟨1, (some 25), none, (.q (.mov (.t 1))), []⟩, ⟨2, (some 8), none, (.q (.mov (.t 24))), []⟩, ⟨3, (some 9), none, (.q (.mov (.t 25))), []⟩]
@[simp] def b_Ord2I_9 (_ : Unit) : EB := reg0 (hid l_Ord2I_8) 4
@[simp] def b_Ord2I_10 (_ : Unit) : EB := .seq (hid b_Ord2I_9) .ret
@[simp] def b_Ord2I_11 (_ : Unit) : EB := .seq (hid b_Ord2I_7) (hid b_Ord2I_10)
@[simp] def b_Ord2I_12 (_ : Unit) : EB := .cond (.t 18) (hid b_Ord2I_11) .skip
@[simp] def b_Ord2I_13 (_ : Unit) : EB := .seq (hid b_Ord2I_5) (hid b_Ord2I_12)
@[simp] def l_Ord2I_14 (_ : Unit) : List EOp := [⟨0, (some 26), none, (.q (.mov (.t 1))), []⟩, ⟨1, (some 27), none, (.q (.mov (.t 2))), []⟩, ⟨2, (some 8), none, (.q (.mov (.t 26))), []⟩, ⟨3, (some 9), none, (.q (.mov (.t 27))), []⟩]
@[simp] def b_Ord2I_15 (_ : Unit) : EB := reg0 (hid l_Ord2I_14) 4
@[simp] def b_Ord2I_16 (_ : Unit) : EB := .seq (hid b_Ord2I_15) .ret
@[simp] def b_Ord2I_17 (_ : Unit) : EB := .seq (hid b_Ord2I_13) (hid b_Ord2I_16)
@[simp] def b_Ord2I_18 (_ : Unit) : EB := .seq (hid b_Ord2I_2) (hid b_Ord2I_17)
def c_Ord2I : EB × List QOp × Nat := ((hid b_Ord2I_18), [(.mov (.t 8)), (.mov (.t 9))], 28)
theorem k_Ord2I : cfun Tryz.prog 218 = some c_Ord2I := by kernel_rfl

@[simp] def l_MedI_1 (_ : Unit) : List EOp := [⟨0, (some 10), none, (.q (.mov (.k (.int .i64 0)))), []⟩]
@[simp] def b_MedI_2 (_ : Unit) : EB := reg0 (hid l_MedI_1) 1
@[simp] def l_MedI_4 (_ : Unit) : List EOp := [⟨6, (some 17), none, (.q (.ext 0 (.t 11))), []⟩, ⟨7, (some 18), none, (.q (.ext 1 (.t 11))), []⟩, ⟨8, (some 1), none, (.q (.mov (.t 17))), []⟩, ⟨9, (some 2), none, (.q (.mov (.t 18))), []⟩]
@[simp] def l_MedI_3 (_ : Unit) : List EOp := ⟨0, (some 12), none, (.q (.mov (.t 0))), []⟩ :: ⟨1, (some 13), none, (.q (.mov (.t 1))), []⟩ :: ⟨2, (some 14), none, (.q (.mov (.t 2))), []⟩ :: ⟨3, (some 15), none, (.q (.mov (.t 4))), []⟩ :: ⟨4, (some 16), none, (.call 218 [(.t 12), (.t 13), (.t 14), (.t 15)]), []⟩ :: ⟨5, (some 11), none, (.q (.mov (.t 16))), []⟩ :: hid l_MedI_4
@[simp] def b_MedI_5 (_ : Unit) : EB := reg0 (hid l_MedI_3) 10
@[simp] def l_MedI_7 (_ : Unit) : List EOp := [⟨6, (some 25), none, (.q (.ext 0 (.t 19))), []⟩, ⟨7, (some 26), none, (.q (.ext 1 (.t 19))), []⟩, ⟨8, (some 2), none, (.q (.mov (.t 25))), []⟩, ⟨9, (some 3), none, (.q (.mov (.t 26))), []⟩]
@[simp] def l_MedI_6 (_ : Unit) : List EOp := ⟨0, (some 20), none, (.q (.mov (.t 0))), []⟩ :: ⟨1, (some 21), none, (.q (.mov (.t 2))), []⟩ :: ⟨2, (some 22), none, (.q (.mov (.t 3))), []⟩ :: ⟨3, (some 23), none, (.q (.mov (.t 4))), []⟩ :: ⟨4, (some 24), none, (.call 218 [(.t 20), (.t 21), (.t 22), (.t 23)]), []⟩ :: ⟨5, (some 19), none, (.q (.mov (.t 24))), []⟩ :: hid l_MedI_7
@[simp] def b_MedI_8 (_ : Unit) : EB := reg0 (hid l_MedI_6) 10
@[simp] def l_MedI_10 (_ : Unit) : List EOp := [⟨6, (some 33), none, (.q (.ext 0 (.t 27))), []⟩, ⟨7, (some 34), none, (.q (.ext 1 (.t 27))), []⟩, ⟨8, (some 1), none, (.q (.mov (.t 33))), []⟩, ⟨9, (some 2), none, (.q (.mov (.t 34))), []⟩]
@[simp] def l_MedI_9 (_ : Unit) : List EOp := ⟨0, (some 28), none, (.q (.mov (.t 0))), []⟩ :: ⟨1, (some 29), none, (.q (.mov (.t 1))), []⟩ :: ⟨2, (some 30), none, (.q (.mov (.t 2))), []⟩ :: ⟨3, (some 31), none, (.q (.mov (.t 4))), []⟩ :: ⟨4, (some 32), none, (.call 218 [(.t 28), (.t 29), (.t 30), (.t 31)]), []⟩ :: ⟨5, (some 27), none, (.q (.mov (.t 32))), []⟩ :: hid l_MedI_10
@[simp] def b_MedI_11 (_ : Unit) : EB := reg0 (hid l_MedI_9) 10
@[simp] def l_MedI_12 (_ : Unit) : List EOp := [⟨0, (some 35), none, (.q (.mov (.t 2))), []⟩, ⟨1, (some 10), none, (.q (.mov (.t 35))), []⟩]
@[simp] def b_MedI_13 (_ : Unit) : EB := reg0 (hid l_MedI_12) 2
@[simp] def b_MedI_14 (_ : Unit) : EB := .seq (hid b_MedI_13) .ret
@[simp] def b_MedI_15 (_ : Unit) : EB := .seq (hid b_MedI_11) (hid b_MedI_14)
@[simp] def b_MedI_16 (_ : Unit) : EB := .seq (hid b_MedI_8) (hid b_MedI_15)
@[simp] def b_MedI_17 (_ : Unit) : EB := .seq (hid b_MedI_5) (hid b_MedI_16)
@[simp] def b_MedI_18 (_ : Unit) : EB := .seq (hid b_MedI_2) (hid b_MedI_17)
def c_MedI : EB × List QOp × Nat := ((hid b_MedI_18), [(.mov (.t 10))], 36)
theorem k_MedI : cfun Tryz.prog 208 = some c_MedI := by kernel_rfl

@[simp] def l_ChpI_1 (_ : Unit) : List EOp := [⟨0, (some 6), none, (.q (.mov (.k (.int .i64 0)))), []⟩, ⟨1, (some 7), none, (.q (.mov (.k (.int .i64 0)))), []⟩]
@[simp] def b_ChpI_2 (_ : Unit) : EB := reg0 (hid l_ChpI_1) 2
@[simp] def l_ChpI_3 (_ : Unit) : List EOp := [⟨0, (some 13), none, (.q (.mov (.t 2))), []⟩, ⟨1, (some 14), none, (.q (.mov (.t 1))), []⟩, ⟨2, (some 15), none, (.q (.bin .sub (.t 13) (.t 14))), []⟩, ⟨3, (some 8), none, (.q (.mov (.t 15))), []⟩]
@[simp] def b_ChpI_4 (_ : Unit) : EB := reg0 (hid l_ChpI_3) 4
@[simp] def l_ChpI_5 (_ : Unit) : List EOp := [⟨0, (some 9), none, (.q (.alloc 3 [(.int .i64 0)])), []⟩]
@[simp] def b_ChpI_6 (_ : Unit) : EB := reg0 (hid l_ChpI_5) 1
@[simp] def l_ChpI_7 (_ : Unit) : List EOp := [⟨0, (some 16), none, (.q (.mov (.t 1))), []⟩, ⟨1, (some 17), none, (.q (.mov (.t 8))), []⟩, ⟨2, (some 18), none, (.q (.bin .quo (.t 17) (.k (.int .i64 4)))), []⟩, ⟨3, (some 19), none, (.q (.bin .mul (.t 18) (.k (.int .i64 1)))), []⟩, ⟨4, (some 20), none, (.q (.bin .add (.t 16) (.t 19))), []⟩, ⟨5, (some 10), none, (.q (.mov (.t 20))), []⟩]
@[simp] def b_ChpI_8 (_ : Unit) : EB := reg0 (hid l_ChpI_7) 6
@[simp] def l_ChpI_9 (_ : Unit) : List EOp := [⟨0, (some 21), none, (.q (.mov (.t 1))), []⟩, ⟨1, (some 22), none, (.q (.mov (.t 8))), []⟩, ⟨2, (some 23), none, (.q (.bin .quo (.t 22) (.k (.int .i64 4)))), []⟩, ⟨3, (some 24), none, (.q (.bin .mul (.t 23) (.k (.int .i64 2)))), []⟩, ⟨4, (some 25), none, (.q (.bin .add (.t 21) (.t 24))), []⟩, ⟨5, (some 11), none, (.q (.mov (.t 25))), []⟩]
@[simp] def b_ChpI_10 (_ : Unit) : EB := reg0 (hid l_ChpI_9) 6
@[simp] def l_ChpI_11 (_ : Unit) : List EOp := [⟨0, (some 26), none, (.q (.mov (.t 1))), []⟩, ⟨1, (some 27), none, (.q (.mov (.t 8))), []⟩, ⟨2, (some 28), none, (.q (.bin .quo (.t 27) (.k (.int .i64 4)))), []⟩, ⟨3, (some 29), none, (.q (.bin .mul (.t 28) (.k (.int .i64 3)))), []⟩, ⟨4, (some 30), none, (.q (.bin .add (.t 26) (.t 29))), []⟩, ⟨5, (some 12), none, (.q (.mov (.t 30))), []⟩]
@[simp] def b_ChpI_12 (_ : Unit) : EB := reg0 (hid l_ChpI_11) 6
@[simp] def l_ChpI_13 (_ : Unit) : List EOp := [⟨0, (some 31), none, (.q (.mov (.t 8))), []⟩, ⟨1, (some 32), none, (.q (.bin .geq (.t 31) (.k (.int .i64 8)))), []⟩]
@[simp] def b_ChpI_14 (_ : Unit) : EB := reg0 (hid l_ChpI_13) 2
@[simp] def l_ChpI_15 (_ : Unit) : List EOp := [⟨0, (some 33), none, (.q (.mov (.t 8))), []⟩, ⟨1, (some 34), none, (.q (.bin .geq (.t 33) (.k (.int .i64 50)))), []⟩]
@[simp] def b_ChpI_16 (_ : Unit) : EB := reg0 (hid l_ChpI_15) 2
@[simp] def l_ChpI_17 (_ : Unit) : List EOp := [⟨0, (some 35), none, (.q (.mov (.t 0))), []⟩, ⟨1, (some 36), none, (.q (.mov (.t 10))), []⟩, ⟨2, (some 37), none, (.call 207 [(.t 35), (.t 36), (.t 9)]), []⟩, ⟨3, (some 10), none, (.q (.mov (.t 37))), []⟩]
@[simp] def b_ChpI_18 (_ : Unit) : EB := reg0 (hid l_ChpI_17) 4
@[simp] def l_ChpI_19 (_ : Unit) : List EOp := [⟨0, (some 38), none, (.q (.mov (.t 0))), []⟩, ⟨1, (some 39), none, (.q (.mov (.t 11))), []⟩, ⟨2, (some 40), none, (.call 207 [(.t 38), (.t 39), (.t 9)]), []⟩, ⟨3, (some 11), none, (.q (.mov (.t 40))), []⟩]
@[simp] def b_ChpI_20 (_ : Unit) : EB := reg0 (hid l_ChpI_19) 4
@[simp] def l_ChpI_21 (_ : Unit) : List EOp := [⟨0, (some 41), none, (.q (.mov (.t 0))), []⟩, ⟨1, (some 42), none, (.q (.mov (.t 12))), []⟩, ⟨2, (some 43), none, (.call 207 [(.t 41), (.t 42), (.t 9)]), []⟩, ⟨3, (some 12), none, (.q (.mov (.t 43))), []⟩]
@[simp] def b_ChpI_22 (_ : Unit) : EB := reg0 (hid l_ChpI_21) 4
@[simp] def b_ChpI_23 (_ : Unit) : EB := .seq (hid b_ChpI_20) (hid b_ChpI_22)
@[simp] def b_ChpI_24 (_ : Unit) : EB := .seq (hid b_ChpI_18) (hid b_ChpI_23)
@[simp] def b_ChpI_25 (_ : Unit) : EB := .cond (.t 34) (hid b_ChpI_24) .skip
@[simp] def b_ChpI_26 (_ : Unit) : EB := .seq (hid b_ChpI_16) (hid b_ChpI_25)
@[simp] def l_ChpI_27 (_ : Unit) : List EOp := [⟨0, (some 44), none, (.q (.mov (.t 0))), []⟩, ⟨1, (some 45), none, (.q (.mov (.t 10))), []⟩, ⟨2, (some 46), none, (.q (.mov (.t 11))), []⟩, ⟨3, (some 47), none, (.q (.mov (.t 12))), []⟩, ⟨4, (some 48), none, (.call 208 [(.t 44), (.t 45), (.t 46), (.t 47), (.t 9)]), []⟩, ⟨5, (some 11), none, (.q (.mov (.t 48))), []⟩]
@[simp] def b_ChpI_28 (_ : Unit) : EB := reg0 (hid l_ChpI_27) 6
@[simp] def b_ChpI_29 (_ : Unit) : EB := .seq (hid b_ChpI_26) (hid b_ChpI_28)
@[simp] def b_ChpI_30 (_ : Unit) : EB := .cond (.t 32) (hid b_ChpI_29) .skip
@[simp] def b_ChpI_31 (_ : Unit) : EB := .seq (hid b_ChpI_14) (hid b_ChpI_30)
@[simp] def l_ChpI_32 (_ : Unit) : List EOp := [⟨0, (some 49), none, (.q (.ldc (.t 9))), []⟩]
@[simp] def b_ChpI_33 (_ : Unit) : EB := reg0 (hid l_ChpI_32) 1
@[simp] def l_ChpI_34 (_ : Unit) : List EOp := [⟨0, (some 52), none, (.q (.bin .eql (.t 49) (.k (.int .i64 0)))), []⟩, ⟨1, (some 51), none, (.q (.mov (.t 52))), []⟩]
@[simp] def b_ChpI_35 (_ : Unit) : EB := reg0 (hid l_ChpI_34) 2
@[simp] def l_ChpI_36 (_ : Unit) : List EOp := [⟨0, (some 53), none, (.q (.mov (.t 11))), []⟩, ⟨1, (some 6), none, (.q (.mov (.t 53))), []⟩, ⟨2, (some 7), none, (.q (.mov (.k (.int .i64 1)))), []⟩]
@[simp] def b_ChpI_37 (_ : Unit) : EB := reg0 (hid l_ChpI_36) 3
@[simp] def b_ChpI_38 (_ : Unit) : EB := .seq (hid b_ChpI_37) .ret
@[simp] def l_ChpI_39 (_ : Unit) : List EOp := [⟨0, (some 55), none, (.q (.bin .eql (.t 49) (.k (.int .i64 12)))), []⟩, ⟨1, (some 54), none, (.q (.mov (.t 55))), []⟩]
@[simp] def b_ChpI_40 (_ : Unit) : EB := reg0 (hid l_ChpI_39) 2
@[simp] def l_ChpI_41 (_ : Unit) : List EOp := [⟨0, (some 56), none, (.q (.mov (.t 11))), []⟩, ⟨1, (some 6), none, (.q (.mov (.t 56))), []⟩, ⟨2, (some 7), none, (.q (.mov (.k (.int .i64 2)))), []⟩]
@[simp] def b_ChpI_42 (_ : Unit) : EB := reg0 (hid l_ChpI_41) 3
@[simp] def b_ChpI_43 (_ : Unit) : EB := .seq (hid b_ChpI_42) .ret
@[simp] def l_ChpI_44 (_ : Unit) : List EOp := [⟨0, (some 50), none, (.q (.mov (.t 11))), []⟩, ⟨1, (some 6), none, (.q (.mov (.t 50))), []⟩, ⟨2, (some 7), none, (.q (.mov (.k (.int .i64 0)))), []⟩]
@[simp] def b_ChpI_45 (_ : Unit) : EB := reg0 (hid l_ChpI_44) 3
@[simp] def b_ChpI_46 (_ : Unit) : EB := .seq (hid b_ChpI_45) .ret
@[simp] def b_ChpI_47 (_ : Unit) : EB := .cond (.t 54) (hid b_ChpI_43) (hid b_ChpI_46)
@[simp] def b_ChpI_48 (_ : Unit) : EB := .seq (hid b_ChpI_40) (hid b_ChpI_47)
@[simp] def b_ChpI_49 (_ : Unit) : EB := .cond (.t 51) (hid b_ChpI_38) (hid b_ChpI_48)
@[simp] def b_ChpI_50 (_ : Unit) : EB := .seq (hid b_ChpI_35) (hid b_ChpI_49)
@[simp] def b_ChpI_51 (_ : Unit) : EB := .block 0 (hid b_ChpI_50)
@[simp] def b_ChpI_52 (_ : Unit) : EB := .seq (hid b_ChpI_33) (hid b_ChpI_51)
@[simp] def b_ChpI_53 (_ : Unit) : EB := .seq (hid b_ChpI_31) (hid b_ChpI_52)
@[simp] def b_ChpI_54 (_ : Unit) : EB := .seq (hid b_ChpI_12) (hid b_ChpI_53)
@[simp] def b_ChpI_55 (_ : Unit) : EB := .seq (hid b_ChpI_10) (hid b_ChpI_54)
@[simp] def b_ChpI_56 (_ : Unit) : EB := .seq (hid b_ChpI_8) (hid b_ChpI_55)
@[simp] def b_ChpI_57 (_ : Unit) : EB := .seq (hid b_ChpI_6) (hid b_ChpI_56)
@[simp] def b_ChpI_58 (_ : Unit) : EB := .seq (hid b_ChpI_4) (hid b_ChpI_57)
@[simp] def b_ChpI_59 (_ : Unit) : EB := .seq (hid b_ChpI_2) (hid b_ChpI_58)
def c_ChpI : EB × List QOp × Nat := ((hid b_ChpI_59), [(.mov (.t 6)), (.mov (.t 7))], 57)
theorem k_ChpI : cfun Tryz.prog 183 = some c_ChpI := by kernel_rfl

@[simp] def l_PisI_1 (_ : Unit) : List EOp := [⟨0, (some 6), none, (.q (.mov (.k (.bool false)))), []⟩]
@[simp] def b_PisI_2 (_ : Unit) : EB := reg0 (hid l_PisI_1) 1
@[simp] def l_PisI_3 (_ : Unit) : List EOp := [⟨0, (some 11), none, (.q (.mov (.t 1))), []⟩, ⟨1, (some 12), none, (.q (.bin .add (.t 11) (.k (.int .i64 1)))), []⟩, ⟨2, (some 7), none, (.q (.mov (.t 12))), []⟩]
@[simp] def b_PisI_4 (_ : Unit) : EB := reg0 (hid l_PisI_3) 3
@[simp] def l_PisI_5 (_ : Unit) : List EOp := [⟨0, (some 8), none, (.q (.mov (.k (.int .i64 0)))), []⟩]
@[simp] def b_PisI_6 (_ : Unit) : EB := reg0 (hid l_PisI_5) 1
@[simp] def l_PisI_7 (_ : Unit) : List EOp := [⟨0, (some 13), none, (.q (.mov (.t 8))), []⟩, ⟨1, (some 14), none, (.q (.bin .lss (.t 13) (.k (.int .i64 5)))), []⟩]
@[simp] def b_PisI_8 (_ : Unit) : EB := reg0 (hid l_PisI_7) 2
@[simp] def b_PisI_9 (_ : Unit) : EB := .cond (.t 14) .skip (.exit 0)
@[simp] def b_PisI_10 (_ : Unit) : EB := .seq (hid b_PisI_8) (hid b_PisI_9)
@[simp] def l_PisI_13 (_ : Unit) : List EOp := [⟨12, (some 29), (some (20, true)), (.q (.ldc (.t 28))), []⟩, ⟨13, (some 30), (some (20, true)), (.call 144 [(.t 24), (.t 29)]), []⟩, ⟨14, (some 31), (some (20, true)), (.q (.un .not (.t 30))), []⟩, ⟨15, (some 32), none, (.q (.pick (.t 20) (.t 31) (.k (.bool false)))), []⟩]
@[simp] def l_PisI_12 (_ : Unit) : List EOp := ⟨6, (some 23), (some (20, true)), (.q (.isl 1 (.t 21) (.t 22))), []⟩ :: ⟨7, (some 24), (some (20, true)), (.q (.ldc (.t 23))), []⟩ :: ⟨8, (some 25), (some (20, true)), (.q (.mov (.t 0))), []⟩ :: ⟨9, (some 26), (some (20, true)), (.q (.mov (.t 7))), []⟩ :: ⟨10, (some 27), (some (20, true)), (.q (.bin .sub (.t 26) (.k (.int .i64 1)))), []⟩ :: ⟨11, (some 28), (some (20, true)), (.q (.isl 1 (.t 25) (.t 27))), []⟩ :: hid l_PisI_13
@[simp] def l_PisI_11 (_ : Unit) : List EOp := ⟨0, (some 17), none, (.q (.mov (.t 7))), []⟩ :: ⟨1, (some 18), none, (.q (.mov (.t 2))), []⟩ :: ⟨2, (some 19), none, (.q (.bin .lss (.t 17) (.t 18))), []⟩ :: ⟨3, (some 20), none, (.q (.mov (.t 19))), []⟩ :: ⟨4, (some 21), (some (20, true)), (.q (.mov (.t 0))), []⟩ :: ⟨5, (some 22), (some (20, true)), (.q (.mov (.t 7))), []⟩ :: hid l_PisI_12
@[simp] def b_PisI_14 (_ : Unit) : EB := reg0 (hid l_PisI_11) 16
@[simp] def b_PisI_15 (_ : Unit) : EB := .cond (.t 32) .skip (.exit 2)
@[simp] def b_PisI_16 (_ : Unit) : EB := .seq (hid b_PisI_14) (hid b_PisI_15)
@[simp] def l_PisI_17 (_ : Unit) : List EOp := [⟨0, (some 33), none, (.q (.mov (.t 7))), []⟩, ⟨1, (some 34), none, (.q (.bin .add (.t 33) (.k (.int .i64 1)))), []⟩, ⟨2, (some 7), none, (.q (.mov (.t 34))), []⟩]
@[simp] def b_PisI_18 (_ : Unit) : EB := reg0 (hid l_PisI_17) 3
@[simp] def b_PisI_19 (_ : Unit) : EB := .block 3 (hid b_PisI_18)
@[simp] def b_PisI_20 (_ : Unit) : EB := .seq (hid b_PisI_16) (hid b_PisI_19)
@[simp] def b_PisI_21 (_ : Unit) : EB := .loop (hid b_PisI_20)
@[simp] def b_PisI_22 (_ : Unit) : EB := .block 2 (hid b_PisI_21)
@[simp] def l_PisI_23 (_ : Unit) : List EOp := [⟨0, (some 35), none, (.q (.mov (.t 7))), []⟩, ⟨1, (some 36), none, (.q (.mov (.t 2))), []⟩, ⟨2, (some 37), none, (.q (.bin .eql (.t 35) (.t 36))), []⟩]
@[simp] def b_PisI_24 (_ : Unit) : EB := reg0 (hid l_PisI_23) 3
@[simp] def l_PisI_25 (_ : Unit) : List EOp := [⟨0, (some 6), none, (.q (.mov (.k (.bool true)))), []⟩]
@[simp] def b_PisI_26 (_ : Unit) : EB := reg0 (hid l_PisI_25) 1
@[simp] def b_PisI_27 (_ : Unit) : EB := .seq (hid b_PisI_26) .ret
@[simp] def b_PisI_28 (_ : Unit) : EB := .cond (.t 37) (hid b_PisI_27) .skip
@[simp] def b_PisI_29 (_ : Unit) : EB := .seq (hid b_PisI_24) (hid b_PisI_28)
@[simp] def l_PisI_30 (_ : Unit) : List EOp := [⟨0, (some 38), none, (.q (.mov (.t 2))), []⟩, ⟨1, (some 39), none, (.q (.mov (.t 1))), []⟩, ⟨2, (some 40), none, (.q (.bin .sub (.t 38) (.t 39))), []⟩, ⟨3, (some 41), none, (.q (.bin .lss (.t 40) (.k (.int .i64 50)))), []⟩]
@[simp] def b_PisI_31 (_ : Unit) : EB := reg0 (hid l_PisI_30) 4
@[simp] def l_PisI_32 (_ : Unit) : List EOp := [⟨0, (some 6), none, (.q (.mov (.k (.bool false)))), []⟩]
@[simp] def b_PisI_33 (_ : Unit) : EB := reg0 (hid l_PisI_32) 1
@[simp] def b_PisI_34 (_ : Unit) : EB := .seq (hid b_PisI_33) .ret
@[simp] def b_PisI_35 (_ : Unit) : EB := .cond (.t 41) (hid b_PisI_34) .skip
@[simp] def b_PisI_36 (_ : Unit) : EB := .seq (hid b_PisI_31) (hid b_PisI_35)
@[simp] def l_PisI_39 (_ : Unit) : List EOp := [⟨12, (some 54), none, (.q (.isl 1 (.t 52) (.t 53))), []⟩, ⟨13, (some 55), none, (.q (.ldc (.t 54))), []⟩, ⟨14, (some 56), none, (.q (.isl 1 (.t 42) (.t 43))), []⟩, ⟨15, none, none, (.sto 1 (.t 56) (.t 51)), [2, 3, 4]⟩, ⟨16, (some 57), none, (.q (.isl 1 (.t 44) (.t 46))), []⟩, ⟨17, none, none, (.sto 1 (.t 57) (.t 55)), []⟩]
@[simp] def l_PisI_38 (_ : Unit) : List EOp := ⟨6, (some 48), none, (.q (.mov (.t 7))), []⟩ :: ⟨7, (some 49), none, (.q (.bin .sub (.t 48) (.k (.int .i64 1)))), []⟩ :: ⟨8, (some 50), none, (.q (.isl 1 (.t 47) (.t 49))), []⟩ :: ⟨9, (some 51), none, (.q (.ldc (.t 50))), []⟩ :: ⟨10, (some 52), none, (.q (.mov (.t 0))), []⟩ :: ⟨11, (some 53), none, (.q (.mov (.t 7))), []⟩ :: hid l_PisI_39
@[simp] def l_PisI_37 (_ : Unit) : List EOp := ⟨0, (some 42), none, (.q (.mov (.t 0))), []⟩ :: ⟨1, (some 43), none, (.q (.mov (.t 7))), []⟩ :: ⟨2, (some 44), none, (.q (.mov (.t 0))), []⟩ :: ⟨3, (some 45), none, (.q (.mov (.t 7))), []⟩ :: ⟨4, (some 46), none, (.q (.bin .sub (.t 45) (.k (.int .i64 1)))), []⟩ :: ⟨5, (some 47), none, (.q (.mov (.t 0))), []⟩ :: hid l_PisI_38
@[simp] def b_PisI_40 (_ : Unit) : EB := reg1 (hid l_PisI_37) 18
@[simp] def l_PisI_41 (_ : Unit) : List EOp := [⟨0, (some 58), none, (.q (.mov (.t 7))), []⟩, ⟨1, (some 59), none, (.q (.mov (.t 1))), []⟩, ⟨2, (some 60), none, (.q (.bin .sub (.t 58) (.t 59))), []⟩, ⟨3, (some 61), none, (.q (.bin .geq (.t 60) (.k (.int .i64 2)))), []⟩]
@[simp] def b_PisI_42 (_ : Unit) : EB := reg0 (hid l_PisI_41) 4
@[simp] def l_PisI_43 (_ : Unit) : List EOp := [⟨0, (some 62), none, (.q (.mov (.t 7))), []⟩, ⟨1, (some 63), none, (.q (.bin .sub (.t 62) (.k (.int .i64 1)))), []⟩, ⟨2, (some 9), none, (.q (.mov (.t 63))), []⟩]
@[simp] def b_PisI_44 (_ : Unit) : EB := reg0 (hid l_PisI_43) 3
@[simp] def l_PisI_45 (_ : Unit) : List EOp := [⟨0, (some 64), none, (.q (.mov (.t 9))), []⟩, ⟨1, (some 65), none, (.q (.bin .geq (.t 64) (.k (.int .i64 1)))), []⟩]
@[simp] def b_PisI_46 (_ : Unit) : EB := reg0 (hid l_PisI_45) 2
@[simp] def b_PisI_47 (_ : Unit) : EB := .cond (.t 65) .skip (.exit 4)
@[simp] def b_PisI_48 (_ : Unit) : EB := .seq (hid b_PisI_46) (hid b_PisI_47)
@[simp] def l_PisI_50 (_ : Unit) : List EOp := [⟨6, (some 74), none, (.q (.bin .sub (.t 73) (.k (.int .i64 1)))), []⟩, ⟨7, (some 75), none, (.q (.isl 1 (.t 72) (.t 74))), []⟩, ⟨8, (some 76), none, (.q (.ldc (.t 75))), []⟩, ⟨9, (some 77), none, (.call 144 [(.t 71), (.t 76)]), []⟩, ⟨10, (some 78), none, (.q (.un .not (.t 77))), []⟩]
@[simp] def l_PisI_49 (_ : Unit) : List EOp := ⟨0, (some 68), none, (.q (.mov (.t 0))), []⟩ :: ⟨1, (some 69), none, (.q (.mov (.t 9))), []⟩ :: ⟨2, (some 70), none, (.q (.isl 1 (.t 68) (.t 69))), []⟩ :: ⟨3, (some 71), none, (.q (.ldc (.t 70))), []⟩ :: ⟨4, (some 72), none, (.q (.mov (.t 0))), []⟩ :: ⟨5, (some 73), none, (.q (.mov (.t 9))), []⟩ :: hid l_PisI_50
@[simp] def b_PisI_51 (_ : Unit) : EB := reg0 (hid l_PisI_49) 11
@[simp] def b_PisI_52 (_ : Unit) : EB := .cond (.t 78) (.exit 4) .skip
@[simp] def b_PisI_53 (_ : Unit) : EB := .seq (hid b_PisI_51) (hid b_PisI_52)
@[simp] def l_PisI_56 (_ : Unit) : List EOp := [⟨12, (some 91), none, (.q (.isl 1 (.t 89) (.t 90))), []⟩, ⟨13, (some 92), none, (.q (.ldc (.t 91))), []⟩, ⟨14, (some 93), none, (.q (.isl 1 (.t 79) (.t 80))), []⟩, ⟨15, none, none, (.sto 1 (.t 93) (.t 88)), [2, 3, 4]⟩, ⟨16, (some 94), none, (.q (.isl 1 (.t 81) (.t 83))), []⟩, ⟨17, none, none, (.sto 1 (.t 94) (.t 92)), []⟩]
@[simp] def l_PisI_55 (_ : Unit) : List EOp := ⟨6, (some 85), none, (.q (.mov (.t 9))), []⟩ :: ⟨7, (some 86), none, (.q (.bin .sub (.t 85) (.k (.int .i64 1)))), []⟩ :: ⟨8, (some 87), none, (.q (.isl 1 (.t 84) (.t 86))), []⟩ :: ⟨9, (some 88), none, (.q (.ldc (.t 87))), []⟩ :: ⟨10, (some 89), none, (.q (.mov (.t 0))), []⟩ :: ⟨11, (some 90), none, (.q (.mov (.t 9))), []⟩ :: hid l_PisI_56
@[simp] def l_PisI_54 (_ : Unit) : List EOp := ⟨0, (some 79), none, (.q (.mov (.t 0))), []⟩ :: ⟨1, (some 80), none, (.q (.mov (.t 9))), []⟩ :: ⟨2, (some 81), none, (.q (.mov (.t 0))), []⟩ :: ⟨3, (some 82), none, (.q (.mov (.t 9))), []⟩ :: ⟨4, (some 83), none, (.q (.bin .sub (.t 82) (.k (.int .i64 1)))), []⟩ :: ⟨5, (some 84), none, (.q (.mov (.t 0))), []⟩ :: hid l_PisI_55
@[simp] def b_PisI_57 (_ : Unit) : EB := reg1 (hid l_PisI_54) 18
@[simp] def b_PisI_58 (_ : Unit) : EB := .seq (hid b_PisI_53) (hid b_PisI_57)
@[simp] def b_PisI_59 (_ : Unit) : EB := .block 5 (hid b_PisI_58)
@[simp] def l_PisI_60 (_ : Unit) : List EOp := [⟨0, (some 66), none, (.q (.mov (.t 9))), []⟩, ⟨1, (some 67), none, (.q (.bin .sub (.t 66) (.k (.int .i64 1)))), []⟩, ⟨2, (some 9), none, (.q (.mov (.t 67))), []⟩]
@[simp] def b_PisI_61 (_ : Unit) : EB := reg0 (hid l_PisI_60) 3
@[simp] def b_PisI_62 (_ : Unit) : EB := .seq (hid b_PisI_59) (hid b_PisI_61)
@[simp] def b_PisI_63 (_ : Unit) : EB := .seq (hid b_PisI_48) (hid b_PisI_62)
@[simp] def b_PisI_64 (_ : Unit) : EB := .loop (hid b_PisI_63)
@[simp] def b_PisI_65 (_ : Unit) : EB := .block 4 (hid b_PisI_64)
@[simp] def b_PisI_66 (_ : Unit) : EB := .seq (hid b_PisI_44) (hid b_PisI_65)
@[simp] def b_PisI_67 (_ : Unit) : EB := .cond (.t 61) (hid b_PisI_66) .skip
@[simp] def b_PisI_68 (_ : Unit) : EB := .seq (hid b_PisI_42) (hid b_PisI_67)
@[simp] def l_PisI_69 (_ : Unit) : List EOp := [⟨0, (some 95), none, (.q (.mov (.t 2))), []⟩, ⟨1, (some 96), none, (.q (.mov (.t 7))), []⟩, ⟨2, (some 97), none, (.q (.bin .sub (.t 95) (.t 96))), []⟩, ⟨3, (some 98), none, (.q (.bin .geq (.t 97) (.k (.int .i64 2)))), []⟩]
@[simp] def b_PisI_70 (_ : Unit) : EB := reg0 (hid l_PisI_69) 4
@[simp] def l_PisI_71 (_ : Unit) : List EOp := [⟨0, (some 99), none, (.q (.mov (.t 7))), []⟩, ⟨1, (some 100), none, (.q (.bin .add (.t 99) (.k (.int .i64 1)))), []⟩, ⟨2, (some 10), none, (.q (.mov (.t 100))), []⟩]
@[simp] def b_PisI_72 (_ : Unit) : EB := reg0 (hid l_PisI_71) 3
@[simp] def l_PisI_73 (_ : Unit) : List EOp := [⟨0, (some 101), none, (.q (.mov (.t 10))), []⟩, ⟨1, (some 102), none, (.q (.mov (.t 2))), []⟩, ⟨2, (some 103), none, (.q (.bin .lss (.t 101) (.t 102))), []⟩]
@[simp] def b_PisI_74 (_ : Unit) : EB := reg0 (hid l_PisI_73) 3
@[simp] def b_PisI_75 (_ : Unit) : EB := .cond (.t 103) .skip (.exit 6)
@[simp] def b_PisI_76 (_ : Unit) : EB := .seq (hid b_PisI_74) (hid b_PisI_75)
@[simp] def l_PisI_78 (_ : Unit) : List EOp := [⟨6, (some 112), none, (.q (.bin .sub (.t 111) (.k (.int .i64 1)))), []⟩, ⟨7, (some 113), none, (.q (.isl 1 (.t 110) (.t 112))), []⟩, ⟨8, (some 114), none, (.q (.ldc (.t 113))), []⟩, ⟨9, (some 115), none, (.call 144 [(.t 109), (.t 114)]), []⟩, ⟨10, (some 116), none, (.q (.un .not (.t 115))), []⟩]
@[simp] def l_PisI_77 (_ : Unit) : List EOp := ⟨0, (some 106), none, (.q (.mov (.t 0))), []⟩ :: ⟨1, (some 107), none, (.q (.mov (.t 10))), []⟩ :: ⟨2, (some 108), none, (.q (.isl 1 (.t 106) (.t 107))), []⟩ :: ⟨3, (some 109), none, (.q (.ldc (.t 108))), []⟩ :: ⟨4, (some 110), none, (.q (.mov (.t 0))), []⟩ :: ⟨5, (some 111), none, (.q (.mov (.t 10))), []⟩ :: hid l_PisI_78
@[simp] def b_PisI_79 (_ : Unit) : EB := reg0 (hid l_PisI_77) 11
@[simp] def b_PisI_80 (_ : Unit) : EB := .cond (.t 116) (.exit 6) .skip
@[simp] def b_PisI_81 (_ : Unit) : EB := .seq (hid b_PisI_79) (hid b_PisI_80)
@[simp] def l_PisI_84 (_ : Unit) : List EOp := [⟨12, (some 129), none, (.q (.isl 1 (.t 127) (.t 128))), []⟩, ⟨13, (some 130), none, (.q (.ldc (.t 129))), []⟩, ⟨14, (some 131), none, (.q (.isl 1 (.t 117) (.t 118))), []⟩, ⟨15, none, none, (.sto 1 (.t 131) (.t 126)), [2, 3, 4]⟩, ⟨16, (some 132), none, (.q (.isl 1 (.t 119) (.t 121))), []⟩, ⟨17, none, none, (.sto 1 (.t 132) (.t 130)), []⟩]
@[simp] def l_PisI_83 (_ : Unit) : List EOp := ⟨6, (some 123), none, (.q (.mov (.t 10))), []⟩ :: ⟨7, (some 124), none, (.q (.bin .sub (.t 123) (.k (.int .i64 1)))), []⟩ :: ⟨8, (some 125), none, (.q (.isl 1 (.t 122) (.t 124))), []⟩ :: ⟨9, (some 126), none, (.q (.ldc (.t 125))), []⟩ :: ⟨10, (some 127), none, (.q (.mov (.t 0))), []⟩ :: ⟨11, (some 128), none, (.q (.mov (.t 10))), []⟩ :: hid l_PisI_84
@[simp] def l_PisI_82 (_ : Unit) : List EOp := ⟨0, (some 117), none, (.q (.mov (.t 0))), []⟩ :: ⟨1, (some 118), none, (.q (.mov (.t 10))), []⟩ :: ⟨2, (some 119), none, (.q (.mov (.t 0))), []⟩ :: ⟨3, (some 120), none, (.q (.mov (.t 10))), []⟩ :: ⟨4, (some 121), none, (.q (.bin .sub (.t 120) (.k (.int .i64 1)))), []⟩ :: ⟨5, (some 122), none, (.q (.mov (.t 0))), []⟩ :: hid l_PisI_83
@[simp] def b_PisI_85 (_ : Unit) : EB := reg1 (hid l_PisI_82) 18
@[simp] def b_PisI_86 (_ : Unit) : EB := .seq (hid b_PisI_81) (hid b_PisI_85)
@[simp] def b_PisI_87 (_ : Unit) : EB := .block 7 (hid b_PisI_86)
@[simp] def l_PisI_88 (_ : Unit) : List EOp := [⟨0, (some 104), none, (.q (.mov (.t 10))), []⟩, ⟨1, (some 105), none, (.q (.bin .add (.t 104) (.k (.int .i64 1)))), []⟩, ⟨2, (some 10), none, (.q (.mov (.t 105))), []⟩]
@[simp] def b_PisI_89 (_ : Unit) : EB := reg0 (hid l_PisI_88) 3
@[simp] def b_PisI_90 (_ : Unit) : EB := .seq (hid b_PisI_87) (hid b_PisI_89)
@[simp] def b_PisI_91 (_ : Unit) : EB := .seq (hid b_PisI_76) (hid b_PisI_90)
@[simp] def b_PisI_92 (_ : Unit) : EB := .loop (hid b_PisI_91)
@[simp] def b_PisI_93 (_ : Unit) : EB := .block 6 (hid b_PisI_92)
@[simp] def b_PisI_94 (_ : Unit) : EB := .seq (hid b_PisI_72) (hid b_PisI_93)
@[simp] def b_PisI_95 (_ : Unit) : EB := .cond (.t 98) (hid b_PisI_94) .skip
@[simp] def b_PisI_96 (_ : Unit) : EB := .seq (hid b_PisI_70) (hid b_PisI_95)
@[simp] def b_PisI_97 (_ : Unit) : EB := .seq (hid b_PisI_68) (hid b_PisI_96)
@[simp] def b_PisI_98 (_ : Unit) : EB := .seq (hid b_PisI_40) (hid b_PisI_97)
@[simp] def b_PisI_99 (_ : Unit) : EB := .seq (hid b_PisI_36) (hid b_PisI_98)
@[simp] def b_PisI_100 (_ : Unit) : EB := .seq (hid b_PisI_29) (hid b_PisI_99)
@[simp] def b_PisI_101 (_ : Unit) : EB := .seq (hid b_PisI_22) (hid b_PisI_100)
@[simp] def b_PisI_102 (_ : Unit) : EB := .block 1 (hid b_PisI_101)
@[simp] def l_PisI_103 (_ : Unit) : List EOp := [⟨0, (some 15), none, (.q (.mov (.t 8))), []⟩, ⟨1, (some 16), none, (.q (.bin .add (.t 15) (.k (.int .i64 1)))), []⟩, ⟨2, (some 8), none, (.q (.mov (.t 16))), []⟩]
@[simp] def b_PisI_104 (_ : Unit) : EB := reg0 (hid l_PisI_103) 3
@[simp] def b_PisI_105 (_ : Unit) : EB := .seq (hid b_PisI_102) (hid b_PisI_104)
@[simp] def b_PisI_106 (_ : Unit) : EB := .seq (hid b_PisI_10) (hid b_PisI_105)
@[simp] def b_PisI_107 (_ : Unit) : EB := .loop (hid b_PisI_106)
@[simp] def b_PisI_108 (_ : Unit) : EB := .block 0 (hid b_PisI_107)
@[simp] def b_PisI_109 (_ : Unit) : EB := .seq (hid b_PisI_6) (hid b_PisI_108)
@[simp] def l_PisI_110 (_ : Unit) : List EOp := [⟨0, (some 6), none, (.q (.mov (.k (.bool false)))), []⟩]
@[simp] def b_PisI_111 (_ : Unit) : EB := reg0 (hid l_PisI_110) 1
@[simp] def b_PisI_112 (_ : Unit) : EB := .seq (hid b_PisI_111) .ret
@[simp] def b_PisI_113 (_ : Unit) : EB := .seq (hid b_PisI_109) (hid b_PisI_112)
@[simp] def b_PisI_114 (_ : Unit) : EB := .seq (hid b_PisI_4) (hid b_PisI_113)
@[simp] def b_PisI_115 (_ : Unit) : EB := .seq (hid b_PisI_2) (hid b_PisI_114)
def c_PisI : EB × List QOp × Nat := ((hid b_PisI_115), [(.mov (.t 6))], 133)
theorem k_PisI : cfun Tryz.prog 185 = some c_PisI := by kernel_rfl


theorem LenB64_1 : ECalls Tryz.prog 189 [.lit (.int .u64 1)] [] fun y H' => H' = [] ∧ y = I .i64 1 := by
  refine ecalls k_LenB64 ?_
  have w1 : IntKind.u8.wrap 1 = 1 := by decide +kernel
  have w2 : IntKind.i64.wrap 1 = 1 := by decide +kernel
  have hs : s_LenB64_0.data[1]? = some 1 := by decide +kernel
  simp [c_LenB64, I, w1, hs, w2]
  exact fin [] (by decide) rfl rfl rfl ⟨rfl, rfl⟩
theorem LenB_1 : ECalls Tryz.prog 143 [.lit (.int .u64 1)] [] fun y H' => H' = [] ∧ y = I .i64 1 := by
  refine ecalls k_LenB ?_
  simp [c_LenB, I]
  refine call0 LenB64_1 (by simp) ?_
  rintro y H' ⟨rfl, rfl⟩
  refine ⟨.inl (by simp [I]), le_ok rfl, ?_⟩
  simp [I]
  exact fin [] (by decide) rfl rfl rfl ⟨rfl, rfl⟩
theorem LenB64_2 : ECalls Tryz.prog 189 [.lit (.int .u64 2)] [] fun y H' => H' = [] ∧ y = I .i64 2 := by
  refine ecalls k_LenB64 ?_
  have w1 : IntKind.u8.wrap 2 = 2 := by decide +kernel
  have w2 : IntKind.i64.wrap 2 = 2 := by decide +kernel
  have hs : s_LenB64_0.data[2]? = some 2 := by decide +kernel
  simp [c_LenB64, I, w1, hs, w2]
  exact fin [] (by decide) rfl rfl rfl ⟨rfl, rfl⟩
theorem LenB_2 : ECalls Tryz.prog 143 [.lit (.int .u64 2)] [] fun y H' => H' = [] ∧ y = I .i64 2 := by
  refine ecalls k_LenB ?_
  simp [c_LenB, I]
  refine call0 LenB64_2 (by simp) ?_
  rintro y H' ⟨rfl, rfl⟩
  refine ⟨.inl (by simp [I]), le_ok rfl, ?_⟩
  simp [I]
  exact fin [] (by decide) rfl rfl rfl ⟨rfl, rfl⟩
theorem LenB64_3 : ECalls Tryz.prog 189 [.lit (.int .u64 3)] [] fun y H' => H' = [] ∧ y = I .i64 2 := by
  refine ecalls k_LenB64 ?_
  have w1 : IntKind.u8.wrap 3 = 3 := by decide +kernel
  have w2 : IntKind.i64.wrap 2 = 2 := by decide +kernel
  have hs : s_LenB64_0.data[3]? = some 2 := by decide +kernel
  simp [c_LenB64, I, w1, hs, w2]
  exact fin [] (by decide) rfl rfl rfl ⟨rfl, rfl⟩
theorem LenB_3 : ECalls Tryz.prog 143 [.lit (.int .u64 3)] [] fun y H' => H' = [] ∧ y = I .i64 2 := by
  refine ecalls k_LenB ?_
  simp [c_LenB, I]
  refine call0 LenB64_3 (by simp) ?_
  rintro y H' ⟨rfl, rfl⟩
  refine ⟨.inl (by simp [I]), le_ok rfl, ?_⟩
  simp [I]
  exact fin [] (by decide) rfl rfl rfl ⟨rfl, rfl⟩
theorem LenB64_4 : ECalls Tryz.prog 189 [.lit (.int .u64 4)] [] fun y H' => H' = [] ∧ y = I .i64 3 := by
  refine ecalls k_LenB64 ?_
  have w1 : IntKind.u8.wrap 4 = 4 := by decide +kernel
  have w2 : IntKind.i64.wrap 3 = 3 := by decide +kernel
  have hs : s_LenB64_0.data[4]? = some 3 := by decide +kernel
  simp [c_LenB64, I, w1, hs, w2]
  exact fin [] (by decide) rfl rfl rfl ⟨rfl, rfl⟩
theorem LenB_4 : ECalls Tryz.prog 143 [.lit (.int .u64 4)] [] fun y H' => H' = [] ∧ y = I .i64 3 := by
  refine ecalls k_LenB ?_
  simp [c_LenB, I]
  refine call0 LenB64_4 (by simp) ?_
  rintro y H' ⟨rfl, rfl⟩
  refine ⟨.inl (by simp [I]), le_ok rfl, ?_⟩
  simp [I]
  exact fin [] (by decide) rfl rfl rfl ⟨rfl, rfl⟩
theorem LenB64_5 : ECalls Tryz.prog 189 [.lit (.int .u64 5)] [] fun y H' => H' = [] ∧ y = I .i64 3 := by
  refine ecalls k_LenB64 ?_
  have w1 : IntKind.u8.wrap 5 = 5 := by decide +kernel
  have w2 : IntKind.i64.wrap 3 = 3 := by decide +kernel
  have hs : s_LenB64_0.data[5]? = some 3 := by decide +kernel
  simp [c_LenB64, I, w1, hs, w2]
  exact fin [] (by decide) rfl rfl rfl ⟨rfl, rfl⟩
theorem LenB_5 : ECalls Tryz.prog 143 [.lit (.int .u64 5)] [] fun y H' => H' = [] ∧ y = I .i64 3 := by
  refine ecalls k_LenB ?_
  simp [c_LenB, I]
  refine call0 LenB64_5 (by simp) ?_
  rintro y H' ⟨rfl, rfl⟩
  refine ⟨.inl (by simp [I]), le_ok rfl, ?_⟩
  simp [I]
  exact fin [] (by decide) rfl rfl rfl ⟨rfl, rfl⟩
theorem LenB64_6 : ECalls Tryz.prog 189 [.lit (.int .u64 6)] [] fun y H' => H' = [] ∧ y = I .i64 3 := by
  refine ecalls k_LenB64 ?_
  have w1 : IntKind.u8.wrap 6 = 6 := by decide +kernel
  have w2 : IntKind.i64.wrap 3 = 3 := by decide +kernel
  have hs : s_LenB64_0.data[6]? = some 3 := by decide +kernel
  simp [c_LenB64, I, w1, hs, w2]
  exact fin [] (by decide) rfl rfl rfl ⟨rfl, rfl⟩
theorem LenB_6 : ECalls Tryz.prog 143 [.lit (.int .u64 6)] [] fun y H' => H' = [] ∧ y = I .i64 3 := by
  refine ecalls k_LenB ?_
  simp [c_LenB, I]
  refine call0 LenB64_6 (by simp) ?_
  rintro y H' ⟨rfl, rfl⟩
  refine ⟨.inl (by simp [I]), le_ok rfl, ?_⟩
  simp [I]
  exact fin [] (by decide) rfl rfl rfl ⟨rfl, rfl⟩
theorem LenB64_7 : ECalls Tryz.prog 189 [.lit (.int .u64 7)] [] fun y H' => H' = [] ∧ y = I .i64 3 := by
  refine ecalls k_LenB64 ?_
  have w1 : IntKind.u8.wrap 7 = 7 := by decide +kernel
  have w2 : IntKind.i64.wrap 3 = 3 := by decide +kernel
  have hs : s_LenB64_0.data[7]? = some 3 := by decide +kernel
  simp [c_LenB64, I, w1, hs, w2]
  exact fin [] (by decide) rfl rfl rfl ⟨rfl, rfl⟩
theorem LenB_7 : ECalls Tryz.prog 143 [.lit (.int .u64 7)] [] fun y H' => H' = [] ∧ y = I .i64 3 := by
  refine ecalls k_LenB ?_
  simp [c_LenB, I]
  refine call0 LenB64_7 (by simp) ?_
  rintro y H' ⟨rfl, rfl⟩
  refine ⟨.inl (by simp [I]), le_ok rfl, ?_⟩
  simp [I]
  exact fin [] (by decide) rfl rfl rfl ⟨rfl, rfl⟩
theorem LenB64_8 : ECalls Tryz.prog 189 [.lit (.int .u64 8)] [] fun y H' => H' = [] ∧ y = I .i64 4 := by
  refine ecalls k_LenB64 ?_
  have w1 : IntKind.u8.wrap 8 = 8 := by decide +kernel
  have w2 : IntKind.i64.wrap 4 = 4 := by decide +kernel
  have hs : s_LenB64_0.data[8]? = some 4 := by decide +kernel
  simp [c_LenB64, I, w1, hs, w2]
  exact fin [] (by decide) rfl rfl rfl ⟨rfl, rfl⟩
theorem LenB_8 : ECalls Tryz.prog 143 [.lit (.int .u64 8)] [] fun y H' => H' = [] ∧ y = I .i64 4 := by
  refine ecalls k_LenB ?_
  simp [c_LenB, I]
  refine call0 LenB64_8 (by simp) ?_
  rintro y H' ⟨rfl, rfl⟩
  refine ⟨.inl (by simp [I]), le_ok rfl, ?_⟩
  simp [I]
  exact fin [] (by decide) rfl rfl rfl ⟨rfl, rfl⟩
theorem LenB64_9 : ECalls Tryz.prog 189 [.lit (.int .u64 9)] [] fun y H' => H' = [] ∧ y = I .i64 4 := by
  refine ecalls k_LenB64 ?_
  have w1 : IntKind.u8.wrap 9 = 9 := by decide +kernel
  have w2 : IntKind.i64.wrap 4 = 4 := by decide +kernel
  have hs : s_LenB64_0.data[9]? = some 4 := by decide +kernel
  simp [c_LenB64, I, w1, hs, w2]
  exact fin [] (by decide) rfl rfl rfl ⟨rfl, rfl⟩
theorem LenB_9 : ECalls Tryz.prog 143 [.lit (.int .u64 9)] [] fun y H' => H' = [] ∧ y = I .i64 4 := by
  refine ecalls k_LenB ?_
  simp [c_LenB, I]
  refine call0 LenB64_9 (by simp) ?_
  rintro y H' ⟨rfl, rfl⟩
  refine ⟨.inl (by simp [I]), le_ok rfl, ?_⟩
  simp [I]
  exact fin [] (by decide) rfl rfl rfl ⟨rfl, rfl⟩
theorem LenB64_10 : ECalls Tryz.prog 189 [.lit (.int .u64 10)] [] fun y H' => H' = [] ∧ y = I .i64 4 := by
  refine ecalls k_LenB64 ?_
  have w1 : IntKind.u8.wrap 10 = 10 := by decide +kernel
  have w2 : IntKind.i64.wrap 4 = 4 := by decide +kernel
  have hs : s_LenB64_0.data[10]? = some 4 := by decide +kernel
  simp [c_LenB64, I, w1, hs, w2]
  exact fin [] (by decide) rfl rfl rfl ⟨rfl, rfl⟩
theorem LenB_10 : ECalls Tryz.prog 143 [.lit (.int .u64 10)] [] fun y H' => H' = [] ∧ y = I .i64 4 := by
  refine ecalls k_LenB ?_
  simp [c_LenB, I]
  refine call0 LenB64_10 (by simp) ?_
  rintro y H' ⟨rfl, rfl⟩
  refine ⟨.inl (by simp [I]), le_ok rfl, ?_⟩
  simp [I]
  exact fin [] (by decide) rfl rfl rfl ⟨rfl, rfl⟩
theorem LenB64_11 : ECalls Tryz.prog 189 [.lit (.int .u64 11)] [] fun y H' => H' = [] ∧ y = I .i64 4 := by
  refine ecalls k_LenB64 ?_
  have w1 : IntKind.u8.wrap 11 = 11 := by decide +kernel
  have w2 : IntKind.i64.wrap 4 = 4 := by decide +kernel
  have hs : s_LenB64_0.data[11]? = some 4 := by decide +kernel
  simp [c_LenB64, I, w1, hs, w2]
  exact fin [] (by decide) rfl rfl rfl ⟨rfl, rfl⟩
theorem LenB_11 : ECalls Tryz.prog 143 [.lit (.int .u64 11)] [] fun y H' => H' = [] ∧ y = I .i64 4 := by
  refine ecalls k_LenB ?_
  simp [c_LenB, I]
  refine call0 LenB64_11 (by simp) ?_
  rintro y H' ⟨rfl, rfl⟩
  refine ⟨.inl (by simp [I]), le_ok rfl, ?_⟩
  simp [I]
  exact fin [] (by decide) rfl rfl rfl ⟨rfl, rfl⟩
theorem LenB64_12 : ECalls Tryz.prog 189 [.lit (.int .u64 12)] [] fun y H' => H' = [] ∧ y = I .i64 4 := by
  refine ecalls k_LenB64 ?_
  have w1 : IntKind.u8.wrap 12 = 12 := by decide +kernel
  have w2 : IntKind.i64.wrap 4 = 4 := by decide +kernel
  have hs : s_LenB64_0.data[12]? = some 4 := by decide +kernel
  simp [c_LenB64, I, w1, hs, w2]
  exact fin [] (by decide) rfl rfl rfl ⟨rfl, rfl⟩
theorem LenB_12 : ECalls Tryz.prog 143 [.lit (.int .u64 12)] [] fun y H' => H' = [] ∧ y = I .i64 4 := by
  refine ecalls k_LenB ?_
  simp [c_LenB, I]
  refine call0 LenB64_12 (by simp) ?_
  rintro y H' ⟨rfl, rfl⟩
  refine ⟨.inl (by simp [I]), le_ok rfl, ?_⟩
  simp [I]
  exact fin [] (by decide) rfl rfl rfl ⟨rfl, rfl⟩
theorem LenB64_13 : ECalls Tryz.prog 189 [.lit (.int .u64 13)] [] fun y H' => H' = [] ∧ y = I .i64 4 := by
  refine ecalls k_LenB64 ?_
  have w1 : IntKind.u8.wrap 13 = 13 := by decide +kernel
  have w2 : IntKind.i64.wrap 4 = 4 := by decide +kernel
  have hs : s_LenB64_0.data[13]? = some 4 := by decide +kernel
  simp [c_LenB64, I, w1, hs, w2]
  exact fin [] (by decide) rfl rfl rfl ⟨rfl, rfl⟩
theorem LenB_13 : ECalls Tryz.prog 143 [.lit (.int .u64 13)] [] fun y H' => H' = [] ∧ y = I .i64 4 := by
  refine ecalls k_LenB ?_
  simp [c_LenB, I]
  refine call0 LenB64_13 (by simp) ?_
  rintro y H' ⟨rfl, rfl⟩
  refine ⟨.inl (by simp [I]), le_ok rfl, ?_⟩
  simp [I]
  exact fin [] (by decide) rfl rfl rfl ⟨rfl, rfl⟩
theorem LenB64_14 : ECalls Tryz.prog 189 [.lit (.int .u64 14)] [] fun y H' => H' = [] ∧ y = I .i64 4 := by
  refine ecalls k_LenB64 ?_
  have w1 : IntKind.u8.wrap 14 = 14 := by decide +kernel
  have w2 : IntKind.i64.wrap 4 = 4 := by decide +kernel
  have hs : s_LenB64_0.data[14]? = some 4 := by decide +kernel
  simp [c_LenB64, I, w1, hs, w2]
  exact fin [] (by decide) rfl rfl rfl ⟨rfl, rfl⟩
theorem LenB_14 : ECalls Tryz.prog 143 [.lit (.int .u64 14)] [] fun y H' => H' = [] ∧ y = I .i64 4 := by
  refine ecalls k_LenB ?_
  simp [c_LenB, I]
  refine call0 LenB64_14 (by simp) ?_
  rintro y H' ⟨rfl, rfl⟩
  refine ⟨.inl (by simp [I]), le_ok rfl, ?_⟩
  simp [I]
  exact fin [] (by decide) rfl rfl rfl ⟨rfl, rfl⟩
theorem LenB64_15 : ECalls Tryz.prog 189 [.lit (.int .u64 15)] [] fun y H' => H' = [] ∧ y = I .i64 4 := by
  refine ecalls k_LenB64 ?_
  have w1 : IntKind.u8.wrap 15 = 15 := by decide +kernel
  have w2 : IntKind.i64.wrap 4 = 4 := by decide +kernel
  have hs : s_LenB64_0.data[15]? = some 4 := by decide +kernel
  simp [c_LenB64, I, w1, hs, w2]
  exact fin [] (by decide) rfl rfl rfl ⟨rfl, rfl⟩
theorem LenB_15 : ECalls Tryz.prog 143 [.lit (.int .u64 15)] [] fun y H' => H' = [] ∧ y = I .i64 4 := by
  refine ecalls k_LenB ?_
  simp [c_LenB, I]
  refine call0 LenB64_15 (by simp) ?_
  rintro y H' ⟨rfl, rfl⟩
  refine ⟨.inl (by simp [I]), le_ok rfl, ?_⟩
  simp [I]
  exact fin [] (by decide) rfl rfl rfl ⟨rfl, rfl⟩
theorem LenB64_16 : ECalls Tryz.prog 189 [.lit (.int .u64 16)] [] fun y H' => H' = [] ∧ y = I .i64 5 := by
  refine ecalls k_LenB64 ?_
  have w1 : IntKind.u8.wrap 16 = 16 := by decide +kernel
  have w2 : IntKind.i64.wrap 5 = 5 := by decide +kernel
  have hs : s_LenB64_0.data[16]? = some 5 := by decide +kernel
  simp [c_LenB64, I, w1, hs, w2]
  exact fin [] (by decide) rfl rfl rfl ⟨rfl, rfl⟩
theorem LenB_16 : ECalls Tryz.prog 143 [.lit (.int .u64 16)] [] fun y H' => H' = [] ∧ y = I .i64 5 := by
  refine ecalls k_LenB ?_
  simp [c_LenB, I]
  refine call0 LenB64_16 (by simp) ?_
  rintro y H' ⟨rfl, rfl⟩
  refine ⟨.inl (by simp [I]), le_ok rfl, ?_⟩
  simp [I]
  exact fin [] (by decide) rfl rfl rfl ⟨rfl, rfl⟩
theorem LenB_n (n : Nat) (h1 : 1 ≤ n) (h2 : n ≤ 16) : ∃ m : Int, 0 < m ∧ m ≤ 5 ∧ ECalls Tryz.prog 143 [.lit (.int .u64 (n : Int))] [] fun y H' => H' = [] ∧ y = I .i64 m := by
  rcases (by omega : n = 1 ∨ n = 2 ∨ n = 3 ∨ n = 4 ∨ n = 5 ∨ n = 6 ∨ n = 7 ∨ n = 8 ∨ n = 9 ∨ n = 10 ∨ n = 11 ∨ n = 12 ∨ n = 13 ∨ n = 14 ∨ n = 15 ∨ n = 16) with rfl | rfl | rfl | rfl | rfl | rfl | rfl | rfl | rfl | rfl | rfl | rfl | rfl | rfl | rfl | rfl
  · exact ⟨1, by omega, by omega, LenB_1⟩
  · exact ⟨2, by omega, by omega, LenB_2⟩
  · exact ⟨2, by omega, by omega, LenB_3⟩
  · exact ⟨3, by omega, by omega, LenB_4⟩
  · exact ⟨3, by omega, by omega, LenB_5⟩
  · exact ⟨3, by omega, by omega, LenB_6⟩
  · exact ⟨3, by omega, by omega, LenB_7⟩
  · exact ⟨4, by omega, by omega, LenB_8⟩
  · exact ⟨4, by omega, by omega, LenB_9⟩
  · exact ⟨4, by omega, by omega, LenB_10⟩
  · exact ⟨4, by omega, by omega, LenB_11⟩
  · exact ⟨4, by omega, by omega, LenB_12⟩
  · exact ⟨4, by omega, by omega, LenB_13⟩
  · exact ⟨4, by omega, by omega, LenB_14⟩
  · exact ⟨4, by omega, by omega, LenB_15⟩
  · exact ⟨5, by omega, by omega, LenB_16⟩

theorem ris_lt {l : List Int} (h : RisI l) : ∀ (d i : Nat) (a b : Int), l[i]? = some a → l[i + 1 + d]? = some b → a < b
  | 0, i, a, b, ha, hb => h i a b ha hb
  | d + 1, i, a, b, ha, hb => by
    have hlt : i + 1 + (d + 1) < l.length := lt_of_get hb
    obtain ⟨c, hc⟩ : ∃ c, l[i + 1]? = some c := ⟨l[i + 1], by simp [show i + 1 < l.length by omega]⟩
    have h1 := h i a c ha hc
    have h2 := ris_lt h d (i + 1) c b hc (by rw [← hb]; congr 1; omega)
    omega
def BXn (x : Int) : EO := .box 3 [.fz (.lit (.int .i64 x))]

set_option maxHeartbeats 2000000 in
theorem Ord2I_ok (l : List Int) (h : RisI l) (i j : Nat) (hij : i < j) (hj : j < l.length) (hn : l.length ≤ 1000) : ECalls Tryz.prog 218 [IL l, I .i64 i, I .i64 j, Ptr 0] [BXn 0] fun y H' => H' = [some (BXn 0)] ∧ y = .tup [.c (.fz (.lit (.int .i64 i))), .c (.fz (.lit (.int .i64 j)))] := by
  obtain ⟨a, ha⟩ : ∃ a, l[i]? = some a := ⟨l[i], by simp [show i < l.length by omega]⟩
  obtain ⟨b, hb⟩ : ∃ b, l[j]? = some b := ⟨l[j], by simp [hj]⟩
  have hab : ¬ b < a := by
    have := ris_lt h (j - i - 1) i a b ha (by rw [← hb]; congr 1; omega)
    omega
  have ga : ∀ h2, (intv l)[i]'h2 = [.lit (.int .i64 a)] := fun h2 => by rw [intv_at (by omega), ha]; rfl
  have gb : ∀ h2, (intv l)[j]'h2 = [.lit (.int .i64 b)] := fun h2 => by rw [intv_at (by omega), hb]; rfl
  have hi' : i < l.length := by omega
  refine ecalls k_Ord2I ?_
  simp [c_Ord2I, I, IL, Ptr, BXn, ga, gb, hi', hj]
  refine call0 (LessI_ok b a) (by simp [I]) ?_
  rintro y H' ⟨rfl, rfl⟩
  refine ⟨.inl (by simp), le_ok rfl, ?_⟩
  rw [decide_eq_false hab]
  simp [I, BXn]
  exact fin [] (by decide) rfl rfl (by simp [objsOut, BXn, show List.range 1 = [0] from rfl]) ⟨rfl, rfl⟩
set_option maxHeartbeats 2000000 in
theorem MedI_ok (l : List Int) (h : RisI l) (i j k : Nat) (hij : i < j) (hjk : j < k) (hk : k < l.length) (hn : l.length ≤ 1000) : ECalls Tryz.prog 208 [IL l, I .i64 i, I .i64 j, I .i64 k, Ptr 0] [BXn 0] fun y H' => H' = [some (BXn 0)] ∧ y = I .i64 j := by
  refine ecalls k_MedI ?_
  simp [c_MedI, I, IL, Ptr, BXn]
  refine callH [0] (Ord2I_ok l h i j hij (by omega) hn) (by simp [I, IL, Ptr]) (by simp [BXn]) (by simp) (by simp) (by simp) ?_
  rintro y H' ⟨rfl, rfl⟩
  refine ⟨.inl (by simp [BXn]), by simp, ?_⟩
  simp [I, IL, Ptr, BXn]
  refine callH [0] (Ord2I_ok l h j k hjk hk hn) (by simp [I, IL, Ptr]) (by simp [BXn]) (by simp) (by simp) (by simp) ?_
  rintro y H' ⟨rfl, rfl⟩
  refine ⟨.inl (by simp [BXn]), by simp, ?_⟩
  simp [I, IL, Ptr, BXn]
  refine callH [0] (Ord2I_ok l h i j hij (by omega) hn) (by simp [I, IL, Ptr]) (by simp [BXn]) (by simp) (by simp) (by simp) ?_
  rintro y H' ⟨rfl, rfl⟩
  refine ⟨.inl (by simp [BXn]), by simp, ?_⟩
  simp [I, IL, Ptr, BXn]
  exact fin [] (by decide) rfl rfl (by simp [objsOut, BXn, show List.range 1 = [0] from rfl]) ⟨rfl, rfl⟩
set_option maxHeartbeats 4000000 in
theorem ChpI_ok (l : List Int) (h : RisI l) (n : Nat) (hl : l.length = n) (h1 : 13 ≤ n) (h2 : n ≤ 16) : ∃ p : Int, ECalls Tryz.prog 183 [IL l, I .i64 0, I .i64 n] [] fun y H' => H' = [] ∧ y = .tup [.c (.fz (.lit (.int .i64 p))), .c (.fz (.lit (.int .i64 1)))] := by
  have key : ∀ q : Nat, 1 ≤ q → q ≤ 4 → 4 * q ≤ n → n < 4 * q + 4 → ECalls Tryz.prog 183 [IL l, I .i64 0, I .i64 n] [] fun y H' => H' = [] ∧ y = .tup [.c (.fz (.lit (.int .i64 ((q * 2 : Nat) : Int)))), .c (.fz (.lit (.int .i64 1)))] := by
    intro q q1 q2 q3 q4
    have d0 : IntKind.i64.wrap ((n : Int) - 0) = n := by rw [wrap_i64 (by omega) (by omega)]; omega
    have d0' : IntKind.i64.wrap (n : Int) = n := wrap_i64 (by omega) (by omega)
    have dq : ((n : Int).tdiv 4) = (q : Int) := by rw [Int.tdiv_eq_ediv_of_nonneg (by omega)]; omega
    have d1 : IntKind.i64.wrap ((n : Int).tdiv 4) = (q : Int) := by rw [dq, wrap_i64 (by omega) (by omega)]
    have d1q : IntKind.i64.wrap (q : Int) = (q : Int) := wrap_i64 (by omega) (by omega)
    have d2 : IntKind.i64.wrap ((q : Int) * 2) = ((q * 2 : Nat) : Int) := by rw [wrap_i64 (by omega) (by omega)]; omega
    have d3 : IntKind.i64.wrap ((q : Int) * 3) = ((q * 3 : Nat) : Int) := by rw [wrap_i64 (by omega) (by omega)]; omega
    have d2q : IntKind.i64.wrap ((q * 2 : Nat) : Int) = ((q * 2 : Nat) : Int) := wrap_i64 (by omega) (by omega)
    have d3q : IntKind.i64.wrap ((q * 3 : Nat) : Int) = ((q * 3 : Nat) : Int) := wrap_i64 (by omega) (by omega)
    have g8 : (8 : Int) ≤ n := by omega
    have g50 : ¬ (50 : Int) ≤ n := by omega
    have hM := MedI_ok l h q (q * 2) (q * 3) (by omega) (by omega) (by omega) (by omega)
    generalize hA : q * 2 = A at d2 d2q hM
    generalize hB : q * 3 = B at d3 d3q hM
    refine ecalls k_ChpI ?_
    simp [c_ChpI, I, IL, Ptr, d0, d0', dq, d1, d1q, d2, d3, d2q, d3q, g8, g50]
    refine callH [96] hM (by simp [I, IL, Ptr]) (by simp [BXn]) (by simp) (by simp) (by simp) ?_
    rintro y H' ⟨rfl, rfl⟩
    refine ⟨.inl (by simp [BXn]), by simp, ?_⟩
    simp [I, IL, Ptr, BXn]
    exact fin [] (by decide) rfl rfl rfl ⟨rfl, rfl⟩
  rcases (by omega : n < 16 ∨ n = 16) with e | e
  · exact ⟨_, key 3 (by omega) (by omega) (by omega) (by omega)⟩
  · exact ⟨_, key 4 (by omega) (by omega) (by omega) (by omega)⟩
set_option maxHeartbeats 4000000 in
theorem PisI_ok (l : List Int) (h : RisI l) (n : Nat) (hl : l.length = n) (h1 : 1 ≤ n) (h2 : n ≤ 1000) : ECalls Tryz.prog 185 [IL l, I .i64 0, I .i64 n] [] fun y H' => H' = [] ∧ y = .lit (.bool true) := by
  have w0 : IntKind.i64.wrap 1 = 1 := by decide +kernel
  refine ecalls k_PisI ?_
  simp [c_PisI, I, IL, w0]
  refine eloop (α := Unit) (fun _ => True) (fun _ => 0) (fun _ => [IL l, I .i64 0, I .i64 n, .any, .any, .any, .any, I .i64 1, I .i64 0, .any, .any, .any, .any, .any, .any, .any, .any, .any, .any, .any, .any, .any, .any, .any, .any, .any, .any, .any, .any, .any, .any, .any, .any, .any, .any, .any, .any, .any, .any, .any, .any, .any, .any, .any, .any, .any, .any, .any, .any, .any, .any, .any, .any, .any, .any, .any, .any, .any, .any, .any, .any, .any, .any, .any, .any, .any, .any, .any, .any, .any, .any, .any, .any, .any, .any, .any, .any, .any, .any, .any, .any, .any, .any, .any, .any, .any, .any, .any, .any, .any, .any, .any, .any, .any, .any, .any, .any, .any, .any, .any, .any, .any, .any, .any, .any, .any, .any, .any, .any, .any, .any, .any, .any, .any, .any, .any, .any, .any, .any, .any, .any, .any, .any, .any, .any, .any, .any, .any, .any, .any, .any, .any, .any]) (fun _ => []) () []
    trivial (by simp [I, IL]) (by simp) (by simp) (by simp) (by simp) ?_
  rintro _ _
  simp [I, IL]
  refine eloop (α := Nat) (fun i => 1 ≤ i ∧ i ≤ n) (fun i => n - i) (fun i => [IL l, I .i64 0, I .i64 n, .any, .any, .any, .any, I .i64 i, I .i64 0, .any, .any, .any, .any, .any, .any, .any, .any, .any, .any, .any, .any, .any, .any, .any, .any, .any, .any, .any, .any, .any, .any, .any, .any, .any, .any, .any, .any, .any, .any, .any, .any, .any, .any, .any, .any, .any, .any, .any, .any, .any, .any, .any, .any, .any, .any, .any, .any, .any, .any, .any, .any, .any, .any, .any, .any, .any, .any, .any, .any, .any, .any, .any, .any, .any, .any, .any, .any, .any, .any, .any, .any, .any, .any, .any, .any, .any, .any, .any, .any, .any, .any, .any, .any, .any, .any, .any, .any, .any, .any, .any, .any, .any, .any, .any, .any, .any, .any, .any, .any, .any, .any, .any, .any, .any, .any, .any, .any, .any, .any, .any, .any, .any, .any, .any, .any, .any, .any, .any, .any, .any, .any, .any, .any]) (fun _ => []) 1 []
    ⟨by omega, by omega⟩ (by simp [I, IL]) (by simp) (by simp) (by simp) (by simp) ?_
  rintro i ⟨hi1, hi2⟩
  by_cases hlt : i < n
  · have hli : (i : Int) < n := by omega
    have hll : i < l.length := by omega
    obtain ⟨p, rfl⟩ : ∃ p, i = p + 1 := ⟨i - 1, by omega⟩
    obtain ⟨a, ha⟩ : ∃ a, l[p]? = some a := ⟨l[p], by simp [show p < l.length by omega]⟩
    obtain ⟨b, hb⟩ : ∃ b, l[p + 1]? = some b := ⟨l[p + 1], by simp [hll]⟩
    have hab : ¬ b < a := by have := h p a b ha hb; omega
    have wj : IntKind.i64.wrap (((p + 1 : Nat) : Int) - 1) = (p : Int) := by rw [wrap_i64 (by omega) (by omega)]; omega
    have w1 : IntKind.i64.wrap (((p + 1 : Nat) : Int) + 1) = ((p + 1 + 1 : Nat) : Int) := wrap_i64 (by omega) (by omega)
    have ga : ∀ h2, (intv l)[p]'h2 = [.lit (.int .i64 a)] := fun h2 => by rw [intv_at (by omega), ha]; rfl
    have gb : ∀ h2, (intv l)[p + 1]'h2 = [.lit (.int .i64 b)] := fun h2 => by rw [intv_at (by omega), hb]; rfl
    have hpl : p < l.length := by omega
    generalize hje : p + 1 = j at *
    have n0 : ¬ ((j : Int) < 0) := by omega
    have n1 : ¬ ((p : Int) < 0) := by omega
    simp [I, IL, hli, hlt, wj, ga, gb, hpl, hll, n0, n1]
    refine call0 (LessI_ok b a) (by simp [I]) ?_
    rintro y H' ⟨rfl, rfl⟩
    refine ⟨.inl (by simp), le_ok rfl, ?_⟩
    rw [decide_eq_false hab]
    simp [I, IL, w1, -Int.natCast_add]
    exact round (j + 1) [] ⟨by omega, by omega⟩ (by omega) (by simp [I, IL]) (by simp) (by simp) (by simp) (by simp)
  · have h3' : i = n := by omega
    subst h3'
    simp [I, IL]
    exact fin [] (by decide) rfl rfl rfl ⟨rfl, rfl⟩
set_option maxHeartbeats 4000000 in
theorem PdqN_ok (l : List Int) (n : Nat) (k : Int) (hl : l.length = n) (h1 : 1 ≤ n) (h2 : n ≤ 16) (hk : 0 < k) (hr : n ≤ 12 ∨ RisI l) : ECalls Tryz.prog 142 [.v (.c (.row 0 n)), I .i64 0, I .i64 n, I .i64 k] [.row 3 1 (intv l)] fun y H' => H' = [some (.row 3 1 (intv (insN l)))] ∧ y = .tup [] := by
  have w0 : IntKind.i64.wrap (n : Int) = n := wrap_i64 (by omega) (by omega)
  have w0' : IntKind.i64.wrap ((n : Int) - 0) = n := by rw [wrap_i64 (by omega) (by omega)]; omega
  have hT : List.take n (intv l) = intv l := List.take_of_length_le (by simp [intv, hl])
  refine ecalls k_PdqI ?_
  simp [c_PdqI, I]
  refine eloop (α := Nat) (fun i => i = 0) (fun i => i) (fun i => [.v (.c (.row 0 n)), I .i64 0, I .i64 n, I .i64 k, .any, .any, .any, .any, .lit (.bool true), .lit (.bool true), .any, .any, .any, .any, .any, .any, .any, .any, .any, .any, .any, .any, .any, .any, .any, .any, .any, .any, .any, .any, .any, .any, .any, .any, .any, .any, .any, .any, .any, .any, .any, .any, .any, .any, .any, .any, .any, .any, .any, .any, .any, .any, .any, .any, .any, .any, .any, .any, .any, .any, .any, .any, .any, .any, .any, .any, .any, .any, .any, .any, .any, .any, .any, .any, .any, .any, .any, .any, .any, .any, .any, .any, .any, .any, .any, .any, .any, .any, .any, .any, .any, .any, .any, .any, .any, .any, .any, .any, .any, .any, .any, .any, .any, .any, .any, .any, .any, .any, .any, .any, .any, .any, .any, .any, .any, .any, .any, .any, .any, .any, .any, .any, .any, .any, .any, .any, .any, .any, .any, .any, .any, .any, .any, .any]) (fun _ => [some (.row 3 1 (intv l))]) 0 [0]
    rfl (by simp [I]) (by simp) (by simp) (by simp) (by simp) ?_
  rintro i rfl
  by_cases h12 : n ≤ 12
  · have g12 : (n : Int) ≤ 12 := by omega
    simp [I, w0, w0', h12, g12]
    refine callH [0] (InsN_ok l n hl h1 (by omega)) (by simp [I]) (by simp) (by simp) (by simp) (by simp) ?_
    rintro y H' ⟨rfl, rfl⟩
    refine ⟨.inl (by simp), by simp, ?_⟩
    simp
    exact fin [] (by decide) rfl rfl (by simp [objsOut, show List.range 1 = [0] from rfl]) ⟨rfl, rfl⟩
  · have hR := hr.resolve_left h12
    have g12 : ¬ (n : Int) ≤ 12 := by omega
    have gk : ¬ k = 0 := by omega
    obtain ⟨p, hP⟩ := ChpI_ok l hR n hl (by omega) h2
    rw [ins_ris hR]
    simp [I, w0, w0', h12, g12, gk]
    refine call0 hP (by simp [I, IL, hT]) ?_
    rintro y H' ⟨rfl, rfl⟩
    refine ⟨.inr ⟨rfl, by simp⟩, le_ok rfl, ?_⟩
    simp [I, w0, w0', h12, g12, gk]
    refine call0 (PisI_ok l hR n hl h1 (by omega)) (by simp [I, IL, hT]) ?_
    rintro y H' ⟨rfl, rfl⟩
    refine ⟨.inr ⟨rfl, by simp⟩, le_ok rfl, ?_⟩
    simp
    exact fin [] (by decide) rfl rfl (by simp [objsOut, show List.range 1 = [0] from rfl]) ⟨rfl, rfl⟩
set_option maxHeartbeats 4000000 in
/-- slices.Sort of at most 12 numbers, or of at most 16 rising ones. -/
theorem SortN_ok (l : List Int) (n : Nat) (hl : l.length = n) (h1 : 1 ≤ n) (h2 : n ≤ 16) (hr : n ≤ 12 ∨ RisI l) : ECalls Tryz.prog 77 [.v (.c (.row 0 n))] [.row 3 1 (intv l)] fun y H' => H' = [some (.row 3 1 (intv (insN l)))] ∧ y = .tup [] := by
  have w0 : IntKind.u64.wrap (n : Int) = n := by simp [IntKind.wrap, IntKind.bits, IntKind.signed]; omega
  obtain ⟨m, m1, m2, hm⟩ := LenB_n n h1 h2
  refine ecalls k_SortI ?_
  simp [c_SortI, I, w0]
  refine call0 hm (by simp) ?_
  rintro y H' ⟨rfl, rfl⟩
  refine ⟨.inl (by simp [I]), le_ok rfl, ?_⟩
  simp [I]
  refine callH [0] (PdqN_ok l n m hl h1 h2 m1 hr) (by simp [I]) (by simp) (by simp) (by simp) (by simp) ?_
  rintro y H' ⟨rfl, rfl⟩
  refine ⟨.inl (by simp), by simp, ?_⟩
  simp
  exact fin [] (by decide) rfl rfl (by simp [objsOut, show List.range 1 = [0] from rfl]) ⟨rfl, rfl⟩

end Go.Proofs.YtejjhgdnmknejaaGreatDoor

namespace Go.Proofs.YtejjhgdnmknejaaGreatDoor
open Go Go.EW
set_option linter.unusedSimpArgs false
set_option linter.unusedVariables false

@[simp] def l_chas_1 (_ : Unit) : List EOp := [⟨0, (some 4), none, (.q (.mov (.k (.bool false)))), []⟩]
@[simp] def b_chas_2 (_ : Unit) : EB := reg0 (hid l_chas_1) 1
@[simp] def l_chas_3 (_ : Unit) : List EOp := [⟨0, (some 5), none, (.q (.mov (.k (.int .i64 0)))), []⟩]
@[simp] def b_chas_4 (_ : Unit) : EB := reg0 (hid l_chas_3) 1
@[simp] def l_chas_5 (_ : Unit) : List EOp := [⟨0, (some 6), none, (.q (.mov (.t 5))), []⟩, ⟨1, (some 7), none, (.q (.mov (.t 0))), []⟩, ⟨2, (some 8), none, (.q (.len (.t 7))), []⟩, ⟨3, (some 9), none, (.q (.bin .lss (.t 6) (.t 8))), []⟩]
@[simp] def b_chas_6 (_ : Unit) : EB := reg0 (hid l_chas_5) 4
@[simp] def b_chas_7 (_ : Unit) : EB := .cond (.t 9) .skip (.exit 0)
@[simp] def b_chas_8 (_ : Unit) : EB := .seq (hid b_chas_6) (hid b_chas_7)
@[simp] def l_chas_9 (_ : Unit) : List EOp := [⟨0, (some 12), none, (.q (.mov (.t 0))), []⟩, ⟨1, (some 13), none, (.q (.mov (.t 5))), []⟩, ⟨2, (some 14), none, (.q (.isl 1 (.t 12) (.t 13))), []⟩, ⟨3, (some 15), none, (.q (.ldc (.t 14))), []⟩, ⟨4, (some 16), none, (.q (.mov (.t 1))), []⟩, ⟨5, (some 17), none, (.q (.bin .eql (.t 15) (.t 16))), []⟩]
@[simp] def b_chas_10 (_ : Unit) : EB := reg0 (hid l_chas_9) 6
@[simp] def l_chas_11 (_ : Unit) : List EOp := [⟨0, (some 4), none, (.q (.mov (.k (.bool true)))), []⟩]
@[simp] def b_chas_12 (_ : Unit) : EB := reg0 (hid l_chas_11) 1
@[simp] def b_chas_13 (_ : Unit) : EB := .seq (hid b_chas_12) .ret
@[simp] def b_chas_14 (_ : Unit) : EB := .cond (.t 17) (hid b_chas_13) .skip
@[simp] def b_chas_15 (_ : Unit) : EB := .seq (hid b_chas_10) (hid b_chas_14)
@[simp] def b_chas_16 (_ : Unit) : EB := .block 1 (hid b_chas_15)
@[simp] def l_chas_17 (_ : Unit) : List EOp := [⟨0, (some 10), none, (.q (.mov (.t 5))), []⟩, ⟨1, (some 11), none, (.q (.bin .add (.t 10) (.k (.int .i64 1)))), []⟩, ⟨2, (some 5), none, (.q (.mov (.t 11))), []⟩]
@[simp] def b_chas_18 (_ : Unit) : EB := reg0 (hid l_chas_17) 3
@[simp] def b_chas_19 (_ : Unit) : EB := .seq (hid b_chas_16) (hid b_chas_18)
@[simp] def b_chas_20 (_ : Unit) : EB := .seq (hid b_chas_8) (hid b_chas_19)
@[simp] def b_chas_21 (_ : Unit) : EB := .loop (hid b_chas_20)
@[simp] def b_chas_22 (_ : Unit) : EB := .block 0 (hid b_chas_21)
@[simp] def b_chas_23 (_ : Unit) : EB := .seq (hid b_chas_4) (hid b_chas_22)
@[simp] def l_chas_24 (_ : Unit) : List EOp := [⟨0, (some 4), none, (.q (.mov (.k (.bool false)))), []⟩]
@[simp] def b_chas_25 (_ : Unit) : EB := reg0 (hid l_chas_24) 1
@[simp] def b_chas_26 (_ : Unit) : EB := .seq (hid b_chas_25) .ret
@[simp] def b_chas_27 (_ : Unit) : EB := .seq (hid b_chas_23) (hid b_chas_26)
@[simp] def b_chas_28 (_ : Unit) : EB := .seq (hid b_chas_2) (hid b_chas_27)
def c_chas : EB × List QOp × Nat := ((hid b_chas_28), [(.mov (.t 4))], 18)
theorem k_chas : cfun Tryz.prog 119 = some c_chas := by kernel_rfl

@[simp] def l_cAll_1 (_ : Unit) : List EOp := [⟨0, (some 2), none, (.q (.alloc 152 [(.slice none 0 0)])), []⟩]
@[simp] def b_cAll_2 (_ : Unit) : EB := reg0 (hid l_cAll_1) 1
@[simp] def l_cAll_3 (_ : Unit) : List EOp := [⟨0, (some 3), none, (.q (.mov (.k (.slice none 0 0)))), []⟩]
@[simp] def b_cAll_4 (_ : Unit) : EB := reg0 (hid l_cAll_3) 1
@[simp] def l_cAll_5 (_ : Unit) : List EOp := [⟨0, (some 4), none, (.q (.mov (.k (.int .i64 0)))), []⟩]
@[simp] def b_cAll_6 (_ : Unit) : EB := reg0 (hid l_cAll_5) 1
@[simp] def l_cAll_7 (_ : Unit) : List EOp := [⟨0, (some 7), none, (.q (.mov (.t 4))), []⟩, ⟨1, (some 8), none, (.q (.mov (.t 0))), []⟩, ⟨2, (some 9), none, (.q (.len (.t 8))), []⟩, ⟨3, (some 10), none, (.q (.bin .lss (.t 7) (.t 9))), []⟩]
@[simp] def b_cAll_8 (_ : Unit) : EB := reg0 (hid l_cAll_7) 4
@[simp] def b_cAll_9 (_ : Unit) : EB := .cond (.t 10) .skip (.exit 0)
@[simp] def b_cAll_10 (_ : Unit) : EB := .seq (hid b_cAll_8) (hid b_cAll_9)
@[simp] def l_cAll_11 (_ : Unit) : List EOp := [⟨0, (some 13), none, (.q (.mov (.t 3))), []⟩, ⟨1, (some 14), none, (.q (.mov (.t 0))), []⟩, ⟨2, (some 15), none, (.q (.mov (.t 4))), []⟩, ⟨3, (some 16), none, (.q (.isl 1 (.t 14) (.t 15))), []⟩, ⟨4, (some 17), none, (.q (.ldc (.t 16))), []⟩, ⟨5, (some 18), none, (.call 119 [(.t 13), (.t 17)]), []⟩]
@[simp] def b_cAll_12 (_ : Unit) : EB := reg0 (hid l_cAll_11) 6
@[simp] def b_cAll_13 (_ : Unit) : EB := .cond (.t 18) (.exit 1) .skip
@[simp] def b_cAll_14 (_ : Unit) : EB := .seq (hid b_cAll_12) (hid b_cAll_13)
@[simp] def l_cAll_15 (_ : Unit) : List EOp := [⟨0, (some 5), none, (.q (.mov (.k (.int .i64 0)))), []⟩]
@[simp] def b_cAll_16 (_ : Unit) : EB := reg0 (hid l_cAll_15) 1
@[simp] def l_cAll_19 (_ : Unit) : List EOp := [⟨12, (some 31), (some (23, true)), (.q (.ldc (.t 30))), []⟩, ⟨13, (some 32), (some (23, true)), (.q (.bin .lss (.t 27) (.t 31))), []⟩, ⟨14, (some 33), none, (.q (.pick (.t 23) (.t 32) (.k (.bool false)))), []⟩]
@[simp] def l_cAll_18 (_ : Unit) : List EOp := ⟨6, (some 25), (some (23, true)), (.q (.mov (.t 5))), []⟩ :: ⟨7, (some 26), (some (23, true)), (.q (.isl 1 (.t 24) (.t 25))), []⟩ :: ⟨8, (some 27), (some (23, true)), (.q (.ldc (.t 26))), []⟩ :: ⟨9, (some 28), (some (23, true)), (.q (.mov (.t 0))), []⟩ :: ⟨10, (some 29), (some (23, true)), (.q (.mov (.t 4))), []⟩ :: ⟨11, (some 30), (some (23, true)), (.q (.isl 1 (.t 28) (.t 29))), []⟩ :: hid l_cAll_19
@[simp] def l_cAll_17 (_ : Unit) : List EOp := ⟨0, (some 19), none, (.q (.mov (.t 5))), []⟩ :: ⟨1, (some 20), none, (.q (.mov (.t 3))), []⟩ :: ⟨2, (some 21), none, (.q (.len (.t 20))), []⟩ :: ⟨3, (some 22), none, (.q (.bin .lss (.t 19) (.t 21))), []⟩ :: ⟨4, (some 23), none, (.q (.mov (.t 22))), []⟩ :: ⟨5, (some 24), (some (23, true)), (.q (.mov (.t 3))), []⟩ :: hid l_cAll_18
@[simp] def b_cAll_20 (_ : Unit) : EB := reg0 (hid l_cAll_17) 15
@[simp] def b_cAll_21 (_ : Unit) : EB := .cond (.t 33) .skip (.exit 2)
@[simp] def b_cAll_22 (_ : Unit) : EB := .seq (hid b_cAll_20) (hid b_cAll_21)
@[simp] def l_cAll_23 (_ : Unit) : List EOp := [⟨0, (some 34), none, (.q (.mov (.t 5))), []⟩, ⟨1, (some 35), none, (.q (.bin .add (.t 34) (.k (.int .i64 1)))), []⟩, ⟨2, (some 5), none, (.q (.mov (.t 35))), []⟩]
@[simp] def b_cAll_24 (_ : Unit) : EB := reg0 (hid l_cAll_23) 3
@[simp] def b_cAll_25 (_ : Unit) : EB := .block 3 (hid b_cAll_24)
@[simp] def b_cAll_26 (_ : Unit) : EB := .seq (hid b_cAll_22) (hid b_cAll_25)
@[simp] def b_cAll_27 (_ : Unit) : EB := .loop (hid b_cAll_26)
@[simp] def b_cAll_28 (_ : Unit) : EB := .block 2 (hid b_cAll_27)
@[simp] def l_cAll_29 (_ : Unit) : List EOp := [⟨0, (some 6), none, (.q (.mov (.k (.slice none 0 0)))), []⟩]
@[simp] def b_cAll_30 (_ : Unit) : EB := reg0 (hid l_cAll_29) 1
@[simp] def l_cAll_33 (_ : Unit) : List EOp := [⟨4, (some 40), none, (.app 3 1 8 (.t 36) (.t 39)), [5, 6, 7, 8, 9, 11, 12, 13]⟩, ⟨10, (some 46), none, (.app 3 1 8 (.t 40) (.t 45)), [11, 12, 13]⟩, ⟨14, (some 50), none, (.app 3 1 8 (.t 46) (.t 49)), []⟩, ⟨15, (some 3), none, (.q (.mov (.t 50))), []⟩]
@[simp] def l_cAll_32 (_ : Unit) : List EOp := ⟨7, (some 43), none, (.q (.isl 1 (.t 41) (.t 42))), []⟩ :: ⟨8, (some 44), none, (.q (.ldc (.t 43))), []⟩ :: ⟨9, (some 45), none, (.q (.bsl 1 [(.int .i64 0)] 1 [(0, (.t 44))])), []⟩ :: ⟨11, (some 47), none, (.q (.mov (.t 3))), []⟩ :: ⟨12, (some 48), none, (.q (.mov (.t 5))), []⟩ :: ⟨13, (some 49), none, (.q (.ssl 1 (.t 47) (some (.t 48)) none)), []⟩ :: hid l_cAll_33
@[simp] def l_cAll_31 (_ : Unit) : List EOp := ⟨0, (some 36), none, (.q (.mov (.t 6))), []⟩ :: ⟨1, (some 37), none, (.q (.mov (.t 3))), []⟩ :: ⟨2, (some 38), none, (.q (.mov (.t 5))), []⟩ :: ⟨3, (some 39), none, (.q (.ssl 1 (.t 37) none (some (.t 38)))), []⟩ :: ⟨5, (some 41), none, (.q (.mov (.t 0))), []⟩ :: ⟨6, (some 42), none, (.q (.mov (.t 4))), []⟩ :: hid l_cAll_32
@[simp] def b_cAll_34 (_ : Unit) : EB := reg1 (hid l_cAll_31) 16
@[simp] def b_cAll_35 (_ : Unit) : EB := .seq (hid b_cAll_30) (hid b_cAll_34)
@[simp] def b_cAll_36 (_ : Unit) : EB := .seq (hid b_cAll_28) (hid b_cAll_35)
@[simp] def b_cAll_37 (_ : Unit) : EB := .seq (hid b_cAll_16) (hid b_cAll_36)
@[simp] def b_cAll_38 (_ : Unit) : EB := .seq (hid b_cAll_14) (hid b_cAll_37)
@[simp] def b_cAll_39 (_ : Unit) : EB := .block 1 (hid b_cAll_38)
@[simp] def l_cAll_40 (_ : Unit) : List EOp := [⟨0, (some 11), none, (.q (.mov (.t 4))), []⟩, ⟨1, (some 12), none, (.q (.bin .add (.t 11) (.k (.int .i64 1)))), []⟩, ⟨2, (some 4), none, (.q (.mov (.t 12))), []⟩]
@[simp] def b_cAll_41 (_ : Unit) : EB := reg0 (hid l_cAll_40) 3
@[simp] def b_cAll_42 (_ : Unit) : EB := .seq (hid b_cAll_39) (hid b_cAll_41)
@[simp] def b_cAll_43 (_ : Unit) : EB := .seq (hid b_cAll_10) (hid b_cAll_42)
@[simp] def b_cAll_44 (_ : Unit) : EB := .loop (hid b_cAll_43)
@[simp] def b_cAll_45 (_ : Unit) : EB := .block 0 (hid b_cAll_44)
@[simp] def b_cAll_46 (_ : Unit) : EB := .seq (hid b_cAll_6) (hid b_cAll_45)
@[simp] def l_cAll_47 (_ : Unit) : List EOp := [⟨0, (some 51), none, (.q (.mov (.t 3))), []⟩, ⟨1, (some 52), none, (.q (.build (([(.slice none 0 0)] : List Value) ++ zU8 ++ [(.int .i64 0), (.int .i64 0)]) [(0, 1, (.t 51))])), []⟩, ⟨2, (some 53), none, (.fz (.q (.bsl 35 (([(.slice none 0 0)] : List Value) ++ zU8 ++ [(.int .i64 0), (.int .i64 0)]) 1 [(0, (.t 52))]))), []⟩, ⟨3, (some 54), none, (.q (.build [(.slice none 0 0)] [(0, 1, (.t 53))])), []⟩, ⟨4, none, none, (.fz (.sto 1 (.t 2) (.t 54))), []⟩]
@[simp] def b_cAll_48 (_ : Unit) : EB := reg0 (hid l_cAll_47) 5
@[simp] def b_cAll_49 (_ : Unit) : EB := .seq (hid b_cAll_48) .ret
@[simp] def b_cAll_50 (_ : Unit) : EB := .seq (hid b_cAll_46) (hid b_cAll_49)
@[simp] def b_cAll_51 (_ : Unit) : EB := .seq (hid b_cAll_4) (hid b_cAll_50)
@[simp] def b_cAll_52 (_ : Unit) : EB := .seq (hid b_cAll_2) (hid b_cAll_51)
def c_cAll : EB × List QOp × Nat := ((hid b_cAll_52), [(.lda 1 (.t 2))], 55)
theorem k_cAll : cfun Tryz.prog 58 = some c_cAll := by kernel_rfl


set_option maxHeartbeats 2000000 in
theorem chas_ok (l : List Int) (x : Int) (hx : ∀ y ∈ l, y ≠ x) (hn : l.length ≤ 1000) : ECalls Tryz.prog 119 [IL l, I .i64 x] [] fun y H' => H' = [] ∧ y = .lit (.bool false) := by
  refine ecalls k_chas ?_
  simp [c_chas, I, IL]
  refine eloop (α := Nat) (fun i => i ≤ l.length) (fun i => l.length - i)
    (fun i => [IL l, I .i64 x, .any, .any, EV.lit (.bool false), I .i64 i, .any, .any, .any, .any, .any, .any, .any, .any, .any, .any, .any, .any]) (fun _ => []) 0 []
    (Nat.zero_le _) (by simp [I, IL]) (by simp) (by simp) (by simp) (by simp) ?_
  intro i hi
  simp [I, IL]
  refine alt (fun hlt => ?_) (fun hlt => ?_)
  · have hln : i < l.length := by omega
    obtain ⟨p, hc⟩ : ∃ p, l[i]? = some p := ⟨l[i], by simp [hln]⟩
    have hge : (intv l)[i]'(by simp [intv, hln]) = [.lit (.int .i64 p)] := by
      have e := intv_get hc
      rw [List.getElem?_eq_getElem (by simp [intv, hln])] at e
      exact Option.some.inj e
    have hpo := hx p (List.mem_of_getElem? hc)
    have w4 : IntKind.i64.wrap ((i : Int) + 1) = ((i + 1 : Nat) : Int) := wrap_i64 (by omega) (by omega)
    simp [hln, hge, hpo, w4, -Int.natCast_add]
    exact round (i + 1) [] (by omega) (by omega) (by simp) (by simp) (by simp) (by simp) (by simp)
  · simp
    exact fin [] (by decide) rfl rfl rfl ⟨rfl, rfl⟩

/-- A number laid into its place. -/
def insI (K : List Int) (x : Int) : List Int := K.take (posI K x) ++ x :: K.drop (posI K x)
theorem ins_row {K : List Int} {p : Int} {j : Nat} (h : posI K p = j) : List.take j (intv K) ++ [FV.lit (.int .i64 p)] :: List.drop j (List.take K.length (intv K)) = intv (insI K p) := by
  have e : List.take K.length (intv K) = intv K := List.take_of_length_le (by simp [intv])
  rw [e]
  unfold insI
  rw [h]
  simp [intv]
theorem ins_len (K : List Int) (p : Int) : (insI K p).length = K.length + 1 := by
  have h : posI K p ≤ K.length := posI_le K p
  unfold insI
  simp
  omega
theorem ins_mem (K : List Int) (x y : Int) : y ∈ insI K x ↔ y ∈ K ∨ y = x := by
  unfold insI
  rw [List.mem_append, List.mem_cons]
  conv => rhs; rw [← List.take_append_drop (posI K x) K, List.mem_append]
  constructor
  · rintro (h | h | h)
    · exact .inl (.inl h)
    · exact .inr h
    · exact .inl (.inr h)
  · rintro ((h | h) | h)
    · exact .inl h
    · exact .inr (.inr h)
    · exact .inr (.inl h)
theorem fold_len : ∀ (l K : List Int), (l.foldl insI K).length = K.length + l.length
  | [], K => by simp
  | a :: r, K => by rw [List.foldl_cons, fold_len r, ins_len]; simp; omega
theorem fold_mem : ∀ (l K : List Int) (y : Int), y ∈ l.foldl insI K ↔ y ∈ K ∨ y ∈ l
  | [], K, y => by simp
  | a :: r, K, y => by rw [List.foldl_cons, fold_mem r, ins_mem]; simp [or_assoc]
set_option maxHeartbeats 2000000 in
theorem cAll_ok (ks : List Int) (hd : ks.Pairwise (· ≠ ·)) (hn : ks.length ≤ 100) : ECalls Tryz.prog 58 [IL ks] [] fun y H' => H' = [] ∧ y = .v (.agg [.fz (.sl 35 [.sl 1 (intv (ks.foldl insI [])) :: (hf hz ++ [.lit (.int .i64 0), .lit (.int .i64 0)])])]) := by
  refine ecalls k_cAll ?_
  simp [c_cAll, I, IL]
  refine loopW _ (weak_nilF 3 1 rfl) ?_
  simp
  refine eloop (α := Nat) (fun i => i ≤ ks.length) (fun i => ks.length - i)
    (fun i => [IL ks, .any, Ptr 0, IL ((ks.take i).foldl insI []), I .i64 i, .any, .any, .any, .any, .any, .any, .any, .any, .any, .any, .any, .any, .any, .any, .any, .any, .any, .any, .any, .any, .any, .any, .any, .any, .any, .any, .any, .any, .any, .any, .any, .any, .any, .any, .any, .any, .any, .any, .any, .any, .any, .any, .any, .any, .any, .any, .any, .any, .any, .any]) (fun _ => [some (.box 152 [.fz (.lit (.slice none 0 0))])]) 0 [0]
    (Nat.zero_le _) (by simp [I, IL, Ptr, intv]) (by simp) (by simp) (by simp) (by simp) ?_
  intro i hi
  obtain ⟨K, hK⟩ : ∃ K, (ks.take i).foldl insI [] = K := ⟨_, rfl⟩
  have hKl : K.length = i := by rw [← hK, fold_len]; simp; omega
  have hKm : ∀ y, y ∈ K → y ∈ ks.take i := fun y hy => by rw [← hK, fold_mem] at hy; simpa using hy
  simp [I, IL, Ptr, hK]
  refine alt (fun hlt => ?_) (fun hlt => ?_)
  · have hln : i < ks.length := by omega
    obtain ⟨p, hc⟩ : ∃ p, ks[i]? = some p := ⟨ks[i], by simp [hln]⟩
    have hge : (intv ks)[i]'(by simp [intv, hln]) = [.lit (.int .i64 p)] := by
      have e := intv_get hc
      rw [List.getElem?_eq_getElem (by simp [intv, hln])] at e
      exact Option.some.inj e
    have hno : ∀ y ∈ K, y ≠ p := fun y hy => by
      have hp : (ks.take (i + 1)).Pairwise (· ≠ ·) := hd.sublist (List.take_sublist _ _)
      rw [List.take_add_one, hc] at hp
      exact (List.pairwise_append.1 hp).2.2 y (hKm y hy) p (by simp)
    have w4 : IntKind.i64.wrap ((i : Int) + 1) = ((i + 1 : Nat) : Int) := wrap_i64 (by omega) (by omega)
    have ht1 : (ks.take (i + 1)).foldl insI [] = insI K p := by rw [List.take_add_one, hc]; simp [hK]
    simp [hln, hge]
    refine call0 (chas_ok K p hno (by omega)) (by simp [IL, I]) ?_
    rintro y H' ⟨rfl, rfl⟩
    refine ⟨.inl (by simp), le_ok rfl, ?_⟩
    simp
    refine eloop (α := Nat) (fun j => j ≤ K.length ∧ ∀ (k : Nat) (y : Int), k < j → K[k]? = some y → y < p) (fun j => K.length - j)
      (fun j => [IL ks, .any, Ptr 0, IL K, I .i64 i, I .i64 j, .any, .any, .any, .any, .any, .any, .any, .any, .any, .any, .any, .any, .any, .any, .any, .any, .any, .any, .any, .any, .any, .any, .any, .any, .any, .any, .any, .any, .any, .any, .any, .any, .any, .any, .any, .any, .any, .any, .any, .any, .any, .any, .any, .any, .any, .any, .any, .any, .any]) (fun _ => [some (.box 152 [.fz (.lit (.slice none 0 0))])]) 0 [0]
      ⟨Nat.zero_le _, fun k y hk => absurd hk (Nat.not_lt_zero k)⟩ (by simp [I, IL, Ptr]) (by simp) (by simp) (by simp) (by simp) ?_
    rintro j ⟨hj, hlo⟩
    simp [I, IL, Ptr]
    refine alt (fun hjl => ?_) (fun hjl => ?_)
    · have hjn : j < K.length := by omega
      obtain ⟨q, hq⟩ : ∃ q, K[j]? = some q := ⟨K[j], by simp [hjn]⟩
      have hqe : (intv K)[j]'(by simp [intv, hjn]) = [.lit (.int .i64 q)] := by
        have e := intv_get hq
        rw [List.getElem?_eq_getElem (by simp [intv, hjn])] at e
        exact Option.some.inj e
      have w5 : IntKind.i64.wrap ((j : Int) + 1) = ((j + 1 : Nat) : Int) := wrap_i64 (by omega) (by omega)
      simp [hjn, hqe, hln, hge]
      by_cases hqp : q < p
      · simp [hqp, w5, -Int.natCast_add]
        refine round (j + 1) [0] ⟨by omega, ?_⟩ (by omega) (by simp) (by simp) (by simp) (by simp) (by simp)
        intro k y hk hy
        rcases Nat.lt_or_ge k j with h1 | h1
        · exact hlo k y h1 hy
        · obtain rfl : k = j := by omega
          rw [hq] at hy
          have := Option.some.inj hy
          omega
      · have hqn := hno q (List.mem_of_getElem? hq)
        have hpo : posI K p = j := posI_eq hj hlo (fun y hy => by rw [hq] at hy; have := Option.some.inj hy; omega)
        have hge' := intv_get hc
        simp [hj, hge', hln, hge, hqp, w4, -Int.natCast_add]
        refine ⟨by omega, by omega, by omega, ?_⟩
        rw [ins_row hpo, show j + 1 + (K.length - j) = K.length + 1 by omega]
        refine ⟨i + 1, by omega, by show ks.length - (i + 1) < ks.length - i; omega, (weak_frz (o := 481) (ty := 3) (es := 1) (xs := intv (insI K p)) rfl).trans (weak_norm [0] _ _ ?_ ?_ (by simp) (by simp) (by simp))⟩
        · simp [fzEV, ht1]
          exact List.take_of_length_le (by simp [intv, ins_len])
        · simp
    · have hjl' : ¬ j < K.length := by omega
      have hjl2 : K.length ≤ j := by omega
      simp [hjl', hjl2]
      have hpo : posI K p = j := posI_eq hj hlo (fun y hy => by have := lt_len hy; omega)
      have hge' := intv_get hc
      simp [hj, hjl', hge', hln, hge, w4, -Int.natCast_add]
      refine ⟨by omega, by omega, by omega, ?_⟩
      rw [ins_row hpo, show j + 1 + (K.length - j) = K.length + 1 by omega]
      refine ⟨i + 1, by omega, by show ks.length - (i + 1) < ks.length - i; omega, (weak_frz (o := 481) (ty := 3) (es := 1) (xs := intv (insI K p)) rfl).trans (weak_norm [0] _ _ ?_ ?_ (by simp) (by simp) (by simp))⟩
      · simp [fzEV, ht1]
        exact List.take_of_length_le (by simp [intv, ins_len])
      · simp
  · obtain rfl : i = ks.length := by omega
    rw [List.take_length] at hK
    have hr0 : (hc hz).flatMap rowsE = [] := rfl
    have hfz : frzAll (hc hz ++ [.fz (.lit (.int .i64 0)), .fz (.lit (.int .i64 0))]) = some (hf hz ++ [.lit (.int .i64 0), .lit (.int .i64 0)]) := rfl
    have hfl : (hf hz).length = 32 := rfl
    simp [hr0, hK, hfz, hfl]
    exact fin [] (by decide) rfl rfl rfl ⟨rfl, rfl⟩

end Go.Proofs.YtejjhgdnmknejaaGreatDoor
