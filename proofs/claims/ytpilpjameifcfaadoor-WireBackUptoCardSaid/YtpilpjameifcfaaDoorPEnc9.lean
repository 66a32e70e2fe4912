import Derived.Test.YtpilpjameifcfaaDoorPEnc8
namespace Go.Proofs.YtpilpjameifcfaaDoor
open Go Go.EW
set_option linter.unusedSimpArgs false
set_option linter.unusedVariables false

@[simp] def l_Rfail_1 (_ : Unit) : List EOp := [⟨0, (some 2), none, (.q (.box 92 (.t 0))), []⟩, ⟨1, (some 4), none, (.q (.alloc 92 [(.slice none 0 0), (.int .i64 0)])), []⟩]
@[simp] def b_Rfail_2 (_ : Unit) : EB := reg0 (hid l_Rfail_1) 2
@[simp] def l_Rfail_3 (_ : Unit) : List EOp := [⟨0, (some 5), none, (.q (.fad 1 (.t 2))), []⟩, ⟨1, (some 6), none, (.q (.ldc (.t 5))), []⟩, ⟨2, (some 7), none, (.q (.bin .eql (.t 6) (.k (.int .i64 0)))), []⟩]
@[simp] def b_Rfail_4 (_ : Unit) : EB := reg0 (hid l_Rfail_3) 3
@[simp] def l_Rfail_5 (_ : Unit) : List EOp := [⟨0, (some 8), none, (.q (.mov (.t 1))), []⟩, ⟨1, (some 9), none, (.q (.fad 1 (.t 2))), []⟩, ⟨2, none, none, (.sto 1 (.t 9) (.t 8)), []⟩]
@[simp] def b_Rfail_6 (_ : Unit) : EB := reg0 (hid l_Rfail_5) 3
@[simp] def b_Rfail_7 (_ : Unit) : EB := .cond (.t 7) (hid b_Rfail_6) .skip
@[simp] def b_Rfail_8 (_ : Unit) : EB := .seq (hid b_Rfail_4) (hid b_Rfail_7)
@[simp] def l_Rfail_9 (_ : Unit) : List EOp := [⟨0, (some 10), none, (.q (.lda 2 (.t 2))), []⟩, ⟨1, none, none, (.fz (.sto 2 (.t 4) (.t 10))), []⟩]
@[simp] def b_Rfail_10 (_ : Unit) : EB := reg0 (hid l_Rfail_9) 2
@[simp] def b_Rfail_11 (_ : Unit) : EB := .seq (hid b_Rfail_10) .ret
@[simp] def b_Rfail_12 (_ : Unit) : EB := .seq (hid b_Rfail_8) (hid b_Rfail_11)
@[simp] def b_Rfail_13 (_ : Unit) : EB := .seq (hid b_Rfail_2) (hid b_Rfail_12)
def c_Rfail : EB × List QOp × Nat := ((hid b_Rfail_13), [(.lda 2 (.t 4))], 11)
theorem k_Rfail : cfun Tryd.prog 65 = some c_Rfail := by kernel_rfl

@[simp] def l_Rnumber_1 (_ : Unit) : List EOp := [⟨0, (some 6), none, (.q (.mov (.k (.int .u64 0)))), []⟩, ⟨1, (some 7), none, (.q (.mov (.k (.int .i64 0)))), []⟩]
@[simp] def b_Rnumber_2 (_ : Unit) : EB := reg0 (hid l_Rnumber_1) 2
@[simp] def l_Rnumber_3 (_ : Unit) : List EOp := [⟨0, (some 11), none, (.q (.mov (.t 0))), []⟩, ⟨1, (some 12), none, (.q (.len (.t 11))), []⟩, ⟨2, (some 13), none, (.q (.mov (.t 1))), []⟩, ⟨3, (some 14), none, (.q (.bin .add (.k (.int .i64 1)) (.t 13))), []⟩, ⟨4, (some 15), none, (.q (.bin .lss (.t 12) (.t 14))), []⟩]
@[simp] def b_Rnumber_4 (_ : Unit) : EB := reg0 (hid l_Rnumber_3) 5
@[simp] def l_Rnumber_5 (_ : Unit) : List EOp := [⟨0, (some 6), none, (.q (.mov (.k (.int .u64 0)))), []⟩, ⟨1, (some 7), none, (.q (.mov (.k (.int .i64 12)))), []⟩]
@[simp] def b_Rnumber_6 (_ : Unit) : EB := reg0 (hid l_Rnumber_5) 2
@[simp] def b_Rnumber_7 (_ : Unit) : EB := .seq (hid b_Rnumber_6) .ret
@[simp] def b_Rnumber_8 (_ : Unit) : EB := .cond (.t 15) (hid b_Rnumber_7) .skip
@[simp] def b_Rnumber_9 (_ : Unit) : EB := .seq (hid b_Rnumber_4) (hid b_Rnumber_8)
@[simp] def l_Rnumber_10 (_ : Unit) : List EOp := [⟨0, (some 8), none, (.q (.mov (.k (.int .u64 0)))), []⟩]
@[simp] def b_Rnumber_11 (_ : Unit) : EB := reg0 (hid l_Rnumber_10) 1
@[simp] def l_Rnumber_12 (_ : Unit) : List EOp := [⟨0, (some 9), none, (.q (.mov (.k (.int .i64 1)))), []⟩]
@[simp] def b_Rnumber_13 (_ : Unit) : EB := reg0 (hid l_Rnumber_12) 1
@[simp] def l_Rnumber_14 (_ : Unit) : List EOp := [⟨0, (some 16), none, (.q (.mov (.t 9))), []⟩, ⟨1, (some 17), none, (.q (.mov (.t 1))), []⟩, ⟨2, (some 18), none, (.q (.bin .leq (.t 16) (.t 17))), []⟩]
@[simp] def b_Rnumber_15 (_ : Unit) : EB := reg0 (hid l_Rnumber_14) 3
@[simp] def b_Rnumber_16 (_ : Unit) : EB := .cond (.t 18) .skip (.exit 0)
@[simp] def b_Rnumber_17 (_ : Unit) : EB := .seq (hid b_Rnumber_15) (hid b_Rnumber_16)
@[simp] def l_Rnumber_18 (_ : Unit) : List EOp := [⟨0, (some 21), none, (.q (.mov (.t 0))), []⟩, ⟨1, (some 22), none, (.q (.mov (.t 9))), []⟩, ⟨2, (some 23), none, (.q (.isl 1 (.t 21) (.t 22))), []⟩, ⟨3, (some 24), none, (.q (.ldc (.t 23))), []⟩, ⟨4, (some 10), none, (.q (.mov (.t 24))), []⟩]
@[simp] def b_Rnumber_19 (_ : Unit) : EB := reg0 (hid l_Rnumber_18) 5
@[simp] def l_Rnumber_20 (_ : Unit) : List EOp := [⟨0, (some 25), none, (.q (.mov (.t 2))), []⟩]
@[simp] def b_Rnumber_21 (_ : Unit) : EB := reg0 (hid l_Rnumber_20) 1
@[simp] def l_Rnumber_22 (_ : Unit) : List EOp := [⟨0, (some 26), none, (.q (.mov (.t 10))), []⟩, ⟨1, (some 27), none, (.q (.bin .sub (.k (.int .u8 255)) (.t 26))), []⟩, ⟨2, (some 10), none, (.q (.mov (.t 27))), []⟩]
@[simp] def b_Rnumber_23 (_ : Unit) : EB := reg0 (hid l_Rnumber_22) 3
@[simp] def b_Rnumber_24 (_ : Unit) : EB := .cond (.t 25) (hid b_Rnumber_23) .skip
@[simp] def b_Rnumber_25 (_ : Unit) : EB := .seq (hid b_Rnumber_21) (hid b_Rnumber_24)
@[simp] def l_Rnumber_26 (_ : Unit) : List EOp := [⟨0, (some 28), none, (.q (.mov (.t 9))), []⟩, ⟨1, (some 29), none, (.q (.bin .eql (.t 28) (.k (.int .i64 1)))), []⟩, ⟨2, (some 30), none, (.q (.mov (.t 29))), []⟩, ⟨3, (some 31), (some (30, true)), (.q (.mov (.t 10))), []⟩, ⟨4, (some 32), (some (30, true)), (.q (.bin .eql (.t 31) (.k (.int .u8 0)))), []⟩, ⟨5, (some 33), none, (.q (.pick (.t 30) (.t 32) (.k (.bool false)))), []⟩]
@[simp] def b_Rnumber_27 (_ : Unit) : EB := reg0 (hid l_Rnumber_26) 6
@[simp] def l_Rnumber_28 (_ : Unit) : List EOp := [⟨0, (some 6), none, (.q (.mov (.k (.int .u64 0)))), []⟩, ⟨1, (some 7), none, (.q (.mov (.k (.int .i64 3)))), []⟩]
@[simp] def b_Rnumber_29 (_ : Unit) : EB := reg0 (hid l_Rnumber_28) 2
@[simp] def b_Rnumber_30 (_ : Unit) : EB := .seq (hid b_Rnumber_29) .ret
@[simp] def b_Rnumber_31 (_ : Unit) : EB := .cond (.t 33) (hid b_Rnumber_30) .skip
@[simp] def b_Rnumber_32 (_ : Unit) : EB := .seq (hid b_Rnumber_27) (hid b_Rnumber_31)
@[simp] def l_Rnumber_33 (_ : Unit) : List EOp := [⟨0, (some 34), none, (.q (.mov (.t 8))), []⟩, ⟨1, (some 35), none, (.q (.bin .mul (.k (.int .u64 256)) (.t 34))), []⟩, ⟨2, (some 36), none, (.q (.mov (.t 10))), []⟩, ⟨3, (some 37), none, (.q (.cnv .u64 (.t 36))), []⟩, ⟨4, (some 38), none, (.q (.bin .add (.t 35) (.t 37))), []⟩, ⟨5, (some 8), none, (.q (.mov (.t 38))), []⟩]
@[simp] def b_Rnumber_34 (_ : Unit) : EB := reg0 (hid l_Rnumber_33) 6
@[simp] def b_Rnumber_35 (_ : Unit) : EB := .seq (hid b_Rnumber_32) (hid b_Rnumber_34)
@[simp] def b_Rnumber_36 (_ : Unit) : EB := .seq (hid b_Rnumber_25) (hid b_Rnumber_35)
@[simp] def b_Rnumber_37 (_ : Unit) : EB := .seq (hid b_Rnumber_19) (hid b_Rnumber_36)
@[simp] def b_Rnumber_38 (_ : Unit) : EB := .block 1 (hid b_Rnumber_37)
@[simp] def l_Rnumber_39 (_ : Unit) : List EOp := [⟨0, (some 19), none, (.q (.mov (.t 9))), []⟩, ⟨1, (some 20), none, (.q (.bin .add (.t 19) (.k (.int .i64 1)))), []⟩, ⟨2, (some 9), none, (.q (.mov (.t 20))), []⟩]
@[simp] def b_Rnumber_40 (_ : Unit) : EB := reg0 (hid l_Rnumber_39) 3
@[simp] def b_Rnumber_41 (_ : Unit) : EB := .seq (hid b_Rnumber_38) (hid b_Rnumber_40)
@[simp] def b_Rnumber_42 (_ : Unit) : EB := .seq (hid b_Rnumber_17) (hid b_Rnumber_41)
@[simp] def b_Rnumber_43 (_ : Unit) : EB := .loop (hid b_Rnumber_42)
@[simp] def b_Rnumber_44 (_ : Unit) : EB := .block 0 (hid b_Rnumber_43)
@[simp] def b_Rnumber_45 (_ : Unit) : EB := .seq (hid b_Rnumber_13) (hid b_Rnumber_44)
@[simp] def l_Rnumber_46 (_ : Unit) : List EOp := [⟨0, (some 39), none, (.q (.mov (.t 8))), []⟩, ⟨1, (some 6), none, (.q (.mov (.t 39))), []⟩, ⟨2, (some 7), none, (.q (.mov (.k (.int .i64 0)))), []⟩]
@[simp] def b_Rnumber_47 (_ : Unit) : EB := reg0 (hid l_Rnumber_46) 3
@[simp] def b_Rnumber_48 (_ : Unit) : EB := .seq (hid b_Rnumber_47) .ret
@[simp] def b_Rnumber_49 (_ : Unit) : EB := .seq (hid b_Rnumber_45) (hid b_Rnumber_48)
@[simp] def b_Rnumber_50 (_ : Unit) : EB := .seq (hid b_Rnumber_11) (hid b_Rnumber_49)
@[simp] def b_Rnumber_51 (_ : Unit) : EB := .seq (hid b_Rnumber_9) (hid b_Rnumber_50)
@[simp] def b_Rnumber_52 (_ : Unit) : EB := .seq (hid b_Rnumber_2) (hid b_Rnumber_51)
def c_Rnumber : EB × List QOp × Nat := ((hid b_Rnumber_52), [(.mov (.t 6)), (.mov (.t 7))], 40)
theorem k_Rnumber : cfun Tryd.prog 66 = some c_Rnumber := by kernel_rfl

@[simp] def l_RReadInt_1 (_ : Unit) : List EOp := [⟨0, (some 1), none, (.q (.box 92 (.t 0))), []⟩, ⟨1, (some 2), none, (.q (.alloc 92 [(.slice none 0 0), (.int .i64 0)])), []⟩, ⟨2, (some 3), none, (.q (.mov (.k (.int .i64 0)))), []⟩]
@[simp] def b_RReadInt_2 (_ : Unit) : EB := reg0 (hid l_RReadInt_1) 3
@[simp] def l_RReadInt_3 (_ : Unit) : List EOp := [⟨0, (some 8), none, (.q (.fad 1 (.t 1))), []⟩, ⟨1, (some 9), none, (.q (.ldc (.t 8))), []⟩, ⟨2, (some 10), none, (.q (.bin .neq (.t 9) (.k (.int .i64 0)))), []⟩]
@[simp] def b_RReadInt_4 (_ : Unit) : EB := reg0 (hid l_RReadInt_3) 3
@[simp] def l_RReadInt_5 (_ : Unit) : List EOp := [⟨0, (some 11), none, (.q (.lda 2 (.t 1))), []⟩, ⟨1, none, none, (.fz (.sto 2 (.t 2) (.t 11))), []⟩, ⟨2, (some 3), none, (.q (.mov (.k (.int .i64 0)))), []⟩]
@[simp] def b_RReadInt_6 (_ : Unit) : EB := reg0 (hid l_RReadInt_5) 3
@[simp] def b_RReadInt_7 (_ : Unit) : EB := .seq (hid b_RReadInt_6) .ret
@[simp] def b_RReadInt_8 (_ : Unit) : EB := .cond (.t 10) (hid b_RReadInt_7) .skip
@[simp] def b_RReadInt_9 (_ : Unit) : EB := .seq (hid b_RReadInt_4) (hid b_RReadInt_8)
@[simp] def l_RReadInt_10 (_ : Unit) : List EOp := [⟨0, (some 12), none, (.q (.fad 0 (.t 1))), []⟩, ⟨1, (some 13), none, (.q (.ldc (.t 12))), []⟩, ⟨2, (some 14), none, (.q (.len (.t 13))), []⟩, ⟨3, (some 15), none, (.q (.bin .eql (.t 14) (.k (.int .i64 0)))), []⟩]
@[simp] def b_RReadInt_11 (_ : Unit) : EB := reg0 (hid l_RReadInt_10) 4
@[simp] def l_RReadInt_12 (_ : Unit) : List EOp := [⟨0, (some 16), none, (.q (.lda 2 (.t 1))), []⟩, ⟨1, (some 17), none, (.call 65 [(.t 16), (.k (.int .i64 12))]), []⟩, ⟨2, none, none, (.fz (.sto 2 (.t 2) (.t 17))), []⟩, ⟨3, (some 3), none, (.q (.mov (.k (.int .i64 0)))), []⟩]
@[simp] def b_RReadInt_13 (_ : Unit) : EB := reg0 (hid l_RReadInt_12) 4
@[simp] def b_RReadInt_14 (_ : Unit) : EB := .seq (hid b_RReadInt_13) .ret
@[simp] def b_RReadInt_15 (_ : Unit) : EB := .cond (.t 15) (hid b_RReadInt_14) .skip
@[simp] def b_RReadInt_16 (_ : Unit) : EB := .seq (hid b_RReadInt_11) (hid b_RReadInt_15)
@[simp] def l_RReadInt_17 (_ : Unit) : List EOp := [⟨0, (some 18), none, (.q (.fad 0 (.t 1))), []⟩, ⟨1, (some 19), none, (.q (.ldc (.t 18))), []⟩, ⟨2, (some 20), none, (.q (.isl 1 (.t 19) (.k (.int .i64 0)))), []⟩, ⟨3, (some 21), none, (.q (.ldc (.t 20))), []⟩, ⟨4, (some 22), none, (.q (.cnv .i64 (.t 21))), []⟩, ⟨5, (some 4), none, (.q (.mov (.t 22))), []⟩]
@[simp] def b_RReadInt_18 (_ : Unit) : EB := reg0 (hid l_RReadInt_17) 6
@[simp] def l_RReadInt_19 (_ : Unit) : List EOp := [⟨0, (some 23), none, (.q (.mov (.t 4))), []⟩, ⟨1, (some 24), none, (.q (.bin .lss (.t 23) (.k (.int .i64 119)))), []⟩, ⟨2, (some 25), none, (.q (.mov (.t 24))), []⟩, ⟨3, (some 26), (some (25, false)), (.q (.mov (.t 4))), []⟩, ⟨4, (some 27), (some (25, false)), (.q (.bin .gtr (.t 26) (.k (.int .i64 136)))), []⟩, ⟨5, (some 28), none, (.q (.pick (.t 25) (.k (.bool true)) (.t 27))), []⟩]
@[simp] def b_RReadInt_20 (_ : Unit) : EB := reg0 (hid l_RReadInt_19) 6
@[simp] def l_RReadInt_21 (_ : Unit) : List EOp := [⟨0, (some 29), none, (.q (.lda 2 (.t 1))), []⟩, ⟨1, (some 30), none, (.call 65 [(.t 29), (.k (.int .i64 3))]), []⟩, ⟨2, none, none, (.fz (.sto 2 (.t 2) (.t 30))), []⟩, ⟨3, (some 3), none, (.q (.mov (.k (.int .i64 0)))), []⟩]
@[simp] def b_RReadInt_22 (_ : Unit) : EB := reg0 (hid l_RReadInt_21) 4
@[simp] def b_RReadInt_23 (_ : Unit) : EB := .seq (hid b_RReadInt_22) .ret
@[simp] def b_RReadInt_24 (_ : Unit) : EB := .cond (.t 28) (hid b_RReadInt_23) .skip
@[simp] def b_RReadInt_25 (_ : Unit) : EB := .seq (hid b_RReadInt_20) (hid b_RReadInt_24)
@[simp] def l_RReadInt_26 (_ : Unit) : List EOp := [⟨0, (some 31), none, (.q (.mov (.t 4))), []⟩, ⟨1, (some 32), none, (.q (.bin .sub (.t 31) (.k (.int .i64 128)))), []⟩, ⟨2, (some 5), none, (.q (.mov (.t 32))), []⟩]
@[simp] def b_RReadInt_27 (_ : Unit) : EB := reg0 (hid l_RReadInt_26) 3
@[simp] def l_RReadInt_28 (_ : Unit) : List EOp := [⟨0, (some 33), none, (.q (.mov (.t 4))), []⟩, ⟨1, (some 34), none, (.q (.bin .lss (.t 33) (.k (.int .i64 128)))), []⟩]
@[simp] def b_RReadInt_29 (_ : Unit) : EB := reg0 (hid l_RReadInt_28) 2
@[simp] def l_RReadInt_30 (_ : Unit) : List EOp := [⟨0, (some 35), none, (.q (.mov (.t 4))), []⟩, ⟨1, (some 36), none, (.q (.bin .sub (.k (.int .i64 127)) (.t 35))), []⟩, ⟨2, (some 5), none, (.q (.mov (.t 36))), []⟩]
@[simp] def b_RReadInt_31 (_ : Unit) : EB := reg0 (hid l_RReadInt_30) 3
@[simp] def b_RReadInt_32 (_ : Unit) : EB := .cond (.t 34) (hid b_RReadInt_31) .skip
@[simp] def b_RReadInt_33 (_ : Unit) : EB := .seq (hid b_RReadInt_29) (hid b_RReadInt_32)
@[simp] def l_RReadInt_35 (_ : Unit) : List EOp := [⟨6, (some 37), none, (.q (.mov (.t 43))), []⟩, ⟨7, (some 44), none, (.q (.ext 0 (.t 37))), []⟩, ⟨8, (some 45), none, (.q (.ext 1 (.t 37))), []⟩, ⟨9, (some 6), none, (.q (.mov (.t 44))), []⟩, ⟨10, (some 7), none, (.q (.mov (.t 45))), []⟩]
@[simp] def l_RReadInt_34 (_ : Unit) : List EOp := ⟨0, (some 38), none, (.q (.fad 0 (.t 1))), []⟩ :: ⟨1, (some 39), none, (.q (.ldc (.t 38))), []⟩ :: ⟨2, (some 40), none, (.q (.mov (.t 5))), []⟩ :: ⟨3, (some 41), none, (.q (.mov (.t 4))), []⟩ :: ⟨4, (some 42), none, (.q (.bin .lss (.t 41) (.k (.int .i64 128)))), []⟩ :: ⟨5, (some 43), none, (.call 66 [(.t 39), (.t 40), (.t 42)]), []⟩ :: hid l_RReadInt_35
@[simp] def b_RReadInt_36 (_ : Unit) : EB := reg0 (hid l_RReadInt_34) 11
@[simp] def l_RReadInt_37 (_ : Unit) : List EOp := [⟨0, (some 46), none, (.q (.mov (.t 7))), []⟩, ⟨1, (some 47), none, (.q (.bin .eql (.t 46) (.k (.int .i64 0)))), []⟩, ⟨2, (some 48), none, (.q (.mov (.t 47))), []⟩, ⟨3, (some 49), (some (48, true)), (.q (.mov (.t 6))), []⟩, ⟨4, (some 50), (some (48, true)), (.q (.bin .geq (.t 49) (.k (.int .u64 9223372036854775808)))), []⟩, ⟨5, (some 51), none, (.q (.pick (.t 48) (.t 50) (.k (.bool false)))), []⟩]
@[simp] def b_RReadInt_38 (_ : Unit) : EB := reg0 (hid l_RReadInt_37) 6
@[simp] def l_RReadInt_39 (_ : Unit) : List EOp := [⟨0, (some 7), none, (.q (.mov (.k (.int .i64 4)))), []⟩]
@[simp] def b_RReadInt_40 (_ : Unit) : EB := reg0 (hid l_RReadInt_39) 1
@[simp] def b_RReadInt_41 (_ : Unit) : EB := .cond (.t 51) (hid b_RReadInt_40) .skip
@[simp] def b_RReadInt_42 (_ : Unit) : EB := .seq (hid b_RReadInt_38) (hid b_RReadInt_41)
@[simp] def l_RReadInt_43 (_ : Unit) : List EOp := [⟨0, (some 52), none, (.q (.mov (.t 7))), []⟩, ⟨1, (some 53), none, (.q (.bin .neq (.t 52) (.k (.int .i64 0)))), []⟩]
@[simp] def b_RReadInt_44 (_ : Unit) : EB := reg0 (hid l_RReadInt_43) 2
@[simp] def l_RReadInt_45 (_ : Unit) : List EOp := [⟨0, (some 54), none, (.q (.lda 2 (.t 1))), []⟩, ⟨1, (some 55), none, (.q (.mov (.t 7))), []⟩, ⟨2, (some 56), none, (.call 65 [(.t 54), (.t 55)]), []⟩, ⟨3, none, none, (.fz (.sto 2 (.t 2) (.t 56))), []⟩, ⟨4, (some 3), none, (.q (.mov (.k (.int .i64 0)))), []⟩]
@[simp] def b_RReadInt_46 (_ : Unit) : EB := reg0 (hid l_RReadInt_45) 5
@[simp] def b_RReadInt_47 (_ : Unit) : EB := .seq (hid b_RReadInt_46) .ret
@[simp] def b_RReadInt_48 (_ : Unit) : EB := .cond (.t 53) (hid b_RReadInt_47) .skip
@[simp] def b_RReadInt_49 (_ : Unit) : EB := .seq (hid b_RReadInt_44) (hid b_RReadInt_48)
@[simp] def l_RReadInt_51 (_ : Unit) : List EOp := [⟨6, none, none, (.fz (.sto 1 (.t 62) (.t 61))), []⟩]
@[simp] def l_RReadInt_50 (_ : Unit) : List EOp := ⟨0, (some 57), none, (.q (.fad 0 (.t 1))), []⟩ :: ⟨1, (some 58), none, (.q (.ldc (.t 57))), []⟩ :: ⟨2, (some 59), none, (.q (.mov (.t 5))), []⟩ :: ⟨3, (some 60), none, (.q (.bin .add (.k (.int .i64 1)) (.t 59))), []⟩ :: ⟨4, (some 61), none, (.q (.ssl 1 (.t 58) (some (.t 60)) none)), []⟩ :: ⟨5, (some 62), none, (.q (.fad 0 (.t 1))), []⟩ :: hid l_RReadInt_51
@[simp] def b_RReadInt_52 (_ : Unit) : EB := reg0 (hid l_RReadInt_50) 7
@[simp] def l_RReadInt_53 (_ : Unit) : List EOp := [⟨0, (some 63), none, (.q (.mov (.t 4))), []⟩, ⟨1, (some 64), none, (.q (.bin .lss (.t 63) (.k (.int .i64 128)))), []⟩]
@[simp] def b_RReadInt_54 (_ : Unit) : EB := reg0 (hid l_RReadInt_53) 2
@[simp] def l_RReadInt_56 (_ : Unit) : List EOp := [⟨6, (some 3), none, (.q (.mov (.t 69))), []⟩]
@[simp] def l_RReadInt_55 (_ : Unit) : List EOp := ⟨0, (some 65), none, (.q (.lda 2 (.t 1))), []⟩ :: ⟨1, (some 66), none, (.q (.mov (.t 6))), []⟩ :: ⟨2, (some 67), none, (.q (.cnv .i64 (.t 66))), []⟩ :: ⟨3, (some 68), none, (.q (.un .neg (.t 67))), []⟩ :: ⟨4, (some 69), none, (.q (.bin .sub (.t 68) (.k (.int .i64 1)))), []⟩ :: ⟨5, none, none, (.fz (.sto 2 (.t 2) (.t 65))), []⟩ :: hid l_RReadInt_56
@[simp] def b_RReadInt_57 (_ : Unit) : EB := reg0 (hid l_RReadInt_55) 7
@[simp] def b_RReadInt_58 (_ : Unit) : EB := .seq (hid b_RReadInt_57) .ret
@[simp] def b_RReadInt_59 (_ : Unit) : EB := .cond (.t 64) (hid b_RReadInt_58) .skip
@[simp] def b_RReadInt_60 (_ : Unit) : EB := .seq (hid b_RReadInt_54) (hid b_RReadInt_59)
@[simp] def l_RReadInt_61 (_ : Unit) : List EOp := [⟨0, (some 70), none, (.q (.lda 2 (.t 1))), []⟩, ⟨1, (some 71), none, (.q (.mov (.t 6))), []⟩, ⟨2, (some 72), none, (.q (.cnv .i64 (.t 71))), []⟩, ⟨3, none, none, (.fz (.sto 2 (.t 2) (.t 70))), []⟩, ⟨4, (some 3), none, (.q (.mov (.t 72))), []⟩]
@[simp] def b_RReadInt_62 (_ : Unit) : EB := reg0 (hid l_RReadInt_61) 5
@[simp] def b_RReadInt_63 (_ : Unit) : EB := .seq (hid b_RReadInt_62) .ret
@[simp] def b_RReadInt_64 (_ : Unit) : EB := .seq (hid b_RReadInt_60) (hid b_RReadInt_63)
@[simp] def b_RReadInt_65 (_ : Unit) : EB := .seq (hid b_RReadInt_52) (hid b_RReadInt_64)
@[simp] def b_RReadInt_66 (_ : Unit) : EB := .seq (hid b_RReadInt_49) (hid b_RReadInt_65)
@[simp] def b_RReadInt_67 (_ : Unit) : EB := .seq (hid b_RReadInt_42) (hid b_RReadInt_66)
@[simp] def b_RReadInt_68 (_ : Unit) : EB := .seq (hid b_RReadInt_36) (hid b_RReadInt_67)
@[simp] def b_RReadInt_69 (_ : Unit) : EB := .seq (hid b_RReadInt_33) (hid b_RReadInt_68)
@[simp] def b_RReadInt_70 (_ : Unit) : EB := .seq (hid b_RReadInt_27) (hid b_RReadInt_69)
@[simp] def b_RReadInt_71 (_ : Unit) : EB := .seq (hid b_RReadInt_25) (hid b_RReadInt_70)
@[simp] def b_RReadInt_72 (_ : Unit) : EB := .seq (hid b_RReadInt_18) (hid b_RReadInt_71)
@[simp] def b_RReadInt_73 (_ : Unit) : EB := .seq (hid b_RReadInt_16) (hid b_RReadInt_72)
@[simp] def b_RReadInt_74 (_ : Unit) : EB := .seq (hid b_RReadInt_9) (hid b_RReadInt_73)
@[simp] def b_RReadInt_75 (_ : Unit) : EB := .seq (hid b_RReadInt_2) (hid b_RReadInt_74)
def c_RReadInt : EB × List QOp × Nat := ((hid b_RReadInt_75), [(.lda 2 (.t 2)), (.mov (.t 3))], 73)
theorem k_RReadInt : cfun Tryd.prog 37 = some c_RReadInt := by kernel_rfl

@[simp] def l_RReadBytes_1 (_ : Unit) : List EOp := [⟨0, (some 2), none, (.q (.box 92 (.t 0))), []⟩, ⟨1, (some 4), none, (.q (.alloc 92 [(.slice none 0 0), (.int .i64 0)])), []⟩, ⟨2, (some 5), none, (.q (.mov (.k (.slice none 0 0)))), []⟩]
@[simp] def b_RReadBytes_2 (_ : Unit) : EB := reg0 (hid l_RReadBytes_1) 3
@[simp] def l_RReadBytes_3 (_ : Unit) : List EOp := [⟨0, (some 9), none, (.q (.fad 1 (.t 2))), []⟩, ⟨1, (some 10), none, (.q (.ldc (.t 9))), []⟩, ⟨2, (some 11), none, (.q (.bin .neq (.t 10) (.k (.int .i64 0)))), []⟩]
@[simp] def b_RReadBytes_4 (_ : Unit) : EB := reg0 (hid l_RReadBytes_3) 3
@[simp] def l_RReadBytes_5 (_ : Unit) : List EOp := [⟨0, (some 12), none, (.q (.lda 2 (.t 2))), []⟩, ⟨1, none, none, (.fz (.sto 2 (.t 4) (.t 12))), []⟩, ⟨2, (some 5), none, (.q (.mov (.k (.slice none 0 0)))), []⟩]
@[simp] def b_RReadBytes_6 (_ : Unit) : EB := reg0 (hid l_RReadBytes_5) 3
@[simp] def b_RReadBytes_7 (_ : Unit) : EB := .seq (hid b_RReadBytes_6) .ret
@[simp] def b_RReadBytes_8 (_ : Unit) : EB := .cond (.t 11) (hid b_RReadBytes_7) .skip
@[simp] def b_RReadBytes_9 (_ : Unit) : EB := .seq (hid b_RReadBytes_4) (hid b_RReadBytes_8)
@[simp] def l_RReadBytes_10 (_ : Unit) : List EOp := [⟨0, (some 13), none, (.q (.mov (.t 1))), []⟩, ⟨1, (some 14), none, (.q (.bin .lss (.t 13) (.k (.int .i64 0)))), []⟩]
@[simp] def b_RReadBytes_11 (_ : Unit) : EB := reg0 (hid l_RReadBytes_10) 2
@[simp] def l_RReadBytes_12 (_ : Unit) : List EOp := [⟨0, (some 15), none, (.q (.lda 2 (.t 2))), []⟩, ⟨1, (some 16), none, (.call 65 [(.t 15), (.k (.int .i64 1))]), []⟩, ⟨2, none, none, (.fz (.sto 2 (.t 4) (.t 16))), []⟩, ⟨3, (some 5), none, (.q (.mov (.k (.slice none 0 0)))), []⟩]
@[simp] def b_RReadBytes_13 (_ : Unit) : EB := reg0 (hid l_RReadBytes_12) 4
@[simp] def b_RReadBytes_14 (_ : Unit) : EB := .seq (hid b_RReadBytes_13) .ret
@[simp] def b_RReadBytes_15 (_ : Unit) : EB := .cond (.t 14) (hid b_RReadBytes_14) .skip
@[simp] def b_RReadBytes_16 (_ : Unit) : EB := .seq (hid b_RReadBytes_11) (hid b_RReadBytes_15)
@[simp] def l_RReadBytes_17 (_ : Unit) : List EOp := [⟨0, (some 6), none, (.q (.mov (.k (.slice none 0 0)))), []⟩]
@[simp] def b_RReadBytes_18 (_ : Unit) : EB := reg0 (hid l_RReadBytes_17) 1
@[simp] def l_RReadBytes_19 (_ : Unit) : List EOp := [⟨0, (some 7), none, (.q (.mov (.k (.int .i64 0)))), []⟩]
@[simp] def b_RReadBytes_20 (_ : Unit) : EB := reg0 (hid l_RReadBytes_19) 1
@[simp] def l_RReadBytes_21 (_ : Unit) : List EOp := [⟨0, (some 17), none, (.q (.mov (.t 7))), []⟩, ⟨1, (some 18), none, (.q (.fad 0 (.t 2))), []⟩, ⟨2, (some 19), none, (.q (.ldc (.t 18))), []⟩, ⟨3, (some 20), none, (.q (.len (.t 19))), []⟩, ⟨4, (some 21), none, (.q (.bin .lss (.t 17) (.t 20))), []⟩]
@[simp] def b_RReadBytes_22 (_ : Unit) : EB := reg0 (hid l_RReadBytes_21) 5
@[simp] def b_RReadBytes_23 (_ : Unit) : EB := .cond (.t 21) .skip (.exit 0)
@[simp] def b_RReadBytes_24 (_ : Unit) : EB := .seq (hid b_RReadBytes_22) (hid b_RReadBytes_23)
@[simp] def l_RReadBytes_25 (_ : Unit) : List EOp := [⟨0, (some 8), none, (.q (.mov (.k (.int .i64 1)))), []⟩]
@[simp] def b_RReadBytes_26 (_ : Unit) : EB := reg0 (hid l_RReadBytes_25) 1
@[simp] def l_RReadBytes_27 (_ : Unit) : List EOp := [⟨0, (some 22), none, (.q (.fad 0 (.t 2))), []⟩, ⟨1, (some 23), none, (.q (.ldc (.t 22))), []⟩, ⟨2, (some 24), none, (.q (.mov (.t 7))), []⟩, ⟨3, (some 25), none, (.q (.isl 1 (.t 23) (.t 24))), []⟩, ⟨4, (some 26), none, (.q (.ldc (.t 25))), []⟩, ⟨5, (some 27), none, (.q (.bin .eql (.t 26) (.k (.int .u8 0)))), []⟩]
@[simp] def b_RReadBytes_28 (_ : Unit) : EB := reg0 (hid l_RReadBytes_27) 6
@[simp] def l_RReadBytes_29 (_ : Unit) : List EOp := [⟨0, (some 28), none, (.q (.mov (.t 7))), []⟩, ⟨1, (some 29), none, (.q (.bin .add (.t 28) (.k (.int .i64 1)))), []⟩, ⟨2, (some 30), none, (.q (.fad 0 (.t 2))), []⟩, ⟨3, (some 31), none, (.q (.ldc (.t 30))), []⟩, ⟨4, (some 32), none, (.q (.len (.t 31))), []⟩, ⟨5, (some 33), none, (.q (.bin .eql (.t 29) (.t 32))), []⟩]
@[simp] def b_RReadBytes_30 (_ : Unit) : EB := reg0 (hid l_RReadBytes_29) 6
@[simp] def l_RReadBytes_31 (_ : Unit) : List EOp := [⟨0, (some 34), none, (.q (.lda 2 (.t 2))), []⟩, ⟨1, (some 35), none, (.call 65 [(.t 34), (.k (.int .i64 12))]), []⟩, ⟨2, none, none, (.fz (.sto 2 (.t 4) (.t 35))), []⟩, ⟨3, (some 5), none, (.q (.mov (.k (.slice none 0 0)))), []⟩]
@[simp] def b_RReadBytes_32 (_ : Unit) : EB := reg0 (hid l_RReadBytes_31) 4
@[simp] def b_RReadBytes_33 (_ : Unit) : EB := .seq (hid b_RReadBytes_32) .ret
@[simp] def b_RReadBytes_34 (_ : Unit) : EB := .cond (.t 33) (hid b_RReadBytes_33) .skip
@[simp] def b_RReadBytes_35 (_ : Unit) : EB := .seq (hid b_RReadBytes_30) (hid b_RReadBytes_34)
@[simp] def l_RReadBytes_37 (_ : Unit) : List EOp := [⟨6, (some 42), none, (.q (.bin .eql (.t 41) (.k (.int .u8 0)))), []⟩]
@[simp] def l_RReadBytes_36 (_ : Unit) : List EOp := ⟨0, (some 36), none, (.q (.fad 0 (.t 2))), []⟩ :: ⟨1, (some 37), none, (.q (.ldc (.t 36))), []⟩ :: ⟨2, (some 38), none, (.q (.mov (.t 7))), []⟩ :: ⟨3, (some 39), none, (.q (.bin .add (.t 38) (.k (.int .i64 1)))), []⟩ :: ⟨4, (some 40), none, (.q (.isl 1 (.t 37) (.t 39))), []⟩ :: ⟨5, (some 41), none, (.q (.ldc (.t 40))), []⟩ :: hid l_RReadBytes_37
@[simp] def b_RReadBytes_38 (_ : Unit) : EB := reg0 (hid l_RReadBytes_36) 7
@[simp] def l_RReadBytes_40 (_ : Unit) : List EOp := [⟨6, none, none, (.fz (.sto 1 (.t 48) (.t 47))), []⟩]
@[simp] def l_RReadBytes_39 (_ : Unit) : List EOp := ⟨0, (some 43), none, (.q (.fad 0 (.t 2))), []⟩ :: ⟨1, (some 44), none, (.q (.ldc (.t 43))), []⟩ :: ⟨2, (some 45), none, (.q (.mov (.t 7))), []⟩ :: ⟨3, (some 46), none, (.q (.bin .add (.t 45) (.k (.int .i64 2)))), []⟩ :: ⟨4, (some 47), none, (.q (.ssl 1 (.t 44) (some (.t 46)) none)), []⟩ :: ⟨5, (some 48), none, (.q (.fad 0 (.t 2))), []⟩ :: hid l_RReadBytes_40
@[simp] def b_RReadBytes_41 (_ : Unit) : EB := reg0 (hid l_RReadBytes_39) 7
@[simp] def l_RReadBytes_42 (_ : Unit) : List EOp := [⟨0, (some 49), none, (.q (.lda 2 (.t 2))), []⟩, ⟨1, (some 50), none, (.q (.mov (.t 6))), []⟩, ⟨2, none, none, (.fz (.sto 2 (.t 4) (.t 49))), []⟩, ⟨3, (some 5), none, (.q (.mov (.t 50))), []⟩]
@[simp] def b_RReadBytes_43 (_ : Unit) : EB := reg0 (hid l_RReadBytes_42) 4
@[simp] def b_RReadBytes_44 (_ : Unit) : EB := .seq (hid b_RReadBytes_43) .ret
@[simp] def b_RReadBytes_45 (_ : Unit) : EB := .seq (hid b_RReadBytes_41) (hid b_RReadBytes_44)
@[simp] def b_RReadBytes_46 (_ : Unit) : EB := .cond (.t 42) (hid b_RReadBytes_45) .skip
@[simp] def b_RReadBytes_47 (_ : Unit) : EB := .seq (hid b_RReadBytes_38) (hid b_RReadBytes_46)
@[simp] def l_RReadBytes_49 (_ : Unit) : List EOp := [⟨6, (some 57), none, (.q (.bin .neq (.t 56) (.k (.int .u8 255)))), []⟩]
@[simp] def l_RReadBytes_48 (_ : Unit) : List EOp := ⟨0, (some 51), none, (.q (.fad 0 (.t 2))), []⟩ :: ⟨1, (some 52), none, (.q (.ldc (.t 51))), []⟩ :: ⟨2, (some 53), none, (.q (.mov (.t 7))), []⟩ :: ⟨3, (some 54), none, (.q (.bin .add (.t 53) (.k (.int .i64 1)))), []⟩ :: ⟨4, (some 55), none, (.q (.isl 1 (.t 52) (.t 54))), []⟩ :: ⟨5, (some 56), none, (.q (.ldc (.t 55))), []⟩ :: hid l_RReadBytes_49
@[simp] def b_RReadBytes_50 (_ : Unit) : EB := reg0 (hid l_RReadBytes_48) 7
@[simp] def l_RReadBytes_51 (_ : Unit) : List EOp := [⟨0, (some 58), none, (.q (.lda 2 (.t 2))), []⟩, ⟨1, (some 59), none, (.call 65 [(.t 58), (.k (.int .i64 3))]), []⟩, ⟨2, none, none, (.fz (.sto 2 (.t 4) (.t 59))), []⟩, ⟨3, (some 5), none, (.q (.mov (.k (.slice none 0 0)))), []⟩]
@[simp] def b_RReadBytes_52 (_ : Unit) : EB := reg0 (hid l_RReadBytes_51) 4
@[simp] def b_RReadBytes_53 (_ : Unit) : EB := .seq (hid b_RReadBytes_52) .ret
@[simp] def b_RReadBytes_54 (_ : Unit) : EB := .cond (.t 57) (hid b_RReadBytes_53) .skip
@[simp] def b_RReadBytes_55 (_ : Unit) : EB := .seq (hid b_RReadBytes_50) (hid b_RReadBytes_54)
@[simp] def l_RReadBytes_56 (_ : Unit) : List EOp := [⟨0, (some 8), none, (.q (.mov (.k (.int .i64 2)))), []⟩]
@[simp] def b_RReadBytes_57 (_ : Unit) : EB := reg0 (hid l_RReadBytes_56) 1
@[simp] def b_RReadBytes_58 (_ : Unit) : EB := .seq (hid b_RReadBytes_55) (hid b_RReadBytes_57)
@[simp] def b_RReadBytes_59 (_ : Unit) : EB := .seq (hid b_RReadBytes_47) (hid b_RReadBytes_58)
@[simp] def b_RReadBytes_60 (_ : Unit) : EB := .seq (hid b_RReadBytes_35) (hid b_RReadBytes_59)
@[simp] def b_RReadBytes_61 (_ : Unit) : EB := .cond (.t 27) (hid b_RReadBytes_60) .skip
@[simp] def b_RReadBytes_62 (_ : Unit) : EB := .seq (hid b_RReadBytes_28) (hid b_RReadBytes_61)
@[simp] def l_RReadBytes_63 (_ : Unit) : List EOp := [⟨0, (some 60), none, (.q (.mov (.t 6))), []⟩, ⟨1, (some 61), none, (.q (.len (.t 60))), []⟩, ⟨2, (some 62), none, (.q (.mov (.t 1))), []⟩, ⟨3, (some 63), none, (.q (.bin .geq (.t 61) (.t 62))), []⟩]
@[simp] def b_RReadBytes_64 (_ : Unit) : EB := reg0 (hid l_RReadBytes_63) 4
@[simp] def l_RReadBytes_65 (_ : Unit) : List EOp := [⟨0, (some 64), none, (.q (.lda 2 (.t 2))), []⟩, ⟨1, (some 65), none, (.call 65 [(.t 64), (.k (.int .i64 2))]), []⟩, ⟨2, none, none, (.fz (.sto 2 (.t 4) (.t 65))), []⟩, ⟨3, (some 5), none, (.q (.mov (.k (.slice none 0 0)))), []⟩]
@[simp] def b_RReadBytes_66 (_ : Unit) : EB := reg0 (hid l_RReadBytes_65) 4
@[simp] def b_RReadBytes_67 (_ : Unit) : EB := .seq (hid b_RReadBytes_66) .ret
@[simp] def b_RReadBytes_68 (_ : Unit) : EB := .cond (.t 63) (hid b_RReadBytes_67) .skip
@[simp] def b_RReadBytes_69 (_ : Unit) : EB := .seq (hid b_RReadBytes_64) (hid b_RReadBytes_68)
@[simp] def l_RReadBytes_71 (_ : Unit) : List EOp := [⟨6, (some 72), none, (.q (.bsl 1 [(.int .u8 0)] 1 [(0, (.t 71))])), []⟩, ⟨7, (some 73), none, (.app 5 1 1 (.t 66) (.t 72)), []⟩, ⟨8, (some 6), none, (.q (.mov (.t 73))), []⟩]
@[simp] def l_RReadBytes_70 (_ : Unit) : List EOp := ⟨0, (some 66), none, (.q (.mov (.t 6))), []⟩ :: ⟨1, (some 67), none, (.q (.fad 0 (.t 2))), []⟩ :: ⟨2, (some 68), none, (.q (.ldc (.t 67))), []⟩ :: ⟨3, (some 69), none, (.q (.mov (.t 7))), []⟩ :: ⟨4, (some 70), none, (.q (.isl 1 (.t 68) (.t 69))), []⟩ :: ⟨5, (some 71), none, (.q (.ldc (.t 70))), []⟩ :: hid l_RReadBytes_71
@[simp] def b_RReadBytes_72 (_ : Unit) : EB := reg0 (hid l_RReadBytes_70) 9
@[simp] def l_RReadBytes_73 (_ : Unit) : List EOp := [⟨0, (some 74), none, (.q (.mov (.t 7))), []⟩, ⟨1, (some 75), none, (.q (.mov (.t 8))), []⟩, ⟨2, (some 76), none, (.q (.bin .add (.t 74) (.t 75))), []⟩, ⟨3, (some 7), none, (.q (.mov (.t 76))), []⟩]
@[simp] def b_RReadBytes_74 (_ : Unit) : EB := reg0 (hid l_RReadBytes_73) 4
@[simp] def b_RReadBytes_75 (_ : Unit) : EB := .seq (hid b_RReadBytes_72) (hid b_RReadBytes_74)
@[simp] def b_RReadBytes_76 (_ : Unit) : EB := .seq (hid b_RReadBytes_69) (hid b_RReadBytes_75)
@[simp] def b_RReadBytes_77 (_ : Unit) : EB := .seq (hid b_RReadBytes_62) (hid b_RReadBytes_76)
@[simp] def b_RReadBytes_78 (_ : Unit) : EB := .seq (hid b_RReadBytes_26) (hid b_RReadBytes_77)
@[simp] def b_RReadBytes_79 (_ : Unit) : EB := .block 1 (hid b_RReadBytes_78)
@[simp] def b_RReadBytes_80 (_ : Unit) : EB := .seq (hid b_RReadBytes_24) (hid b_RReadBytes_79)
@[simp] def b_RReadBytes_81 (_ : Unit) : EB := .loop (hid b_RReadBytes_80)
@[simp] def b_RReadBytes_82 (_ : Unit) : EB := .block 0 (hid b_RReadBytes_81)
@[simp] def l_RReadBytes_83 (_ : Unit) : List EOp := [⟨0, (some 77), none, (.q (.lda 2 (.t 2))), []⟩, ⟨1, (some 78), none, (.call 65 [(.t 77), (.k (.int .i64 12))]), []⟩, ⟨2, none, none, (.fz (.sto 2 (.t 4) (.t 78))), []⟩, ⟨3, (some 5), none, (.q (.mov (.k (.slice none 0 0)))), []⟩]
@[simp] def b_RReadBytes_84 (_ : Unit) : EB := reg0 (hid l_RReadBytes_83) 4
@[simp] def b_RReadBytes_85 (_ : Unit) : EB := .seq (hid b_RReadBytes_84) .ret
@[simp] def b_RReadBytes_86 (_ : Unit) : EB := .seq (hid b_RReadBytes_82) (hid b_RReadBytes_85)
@[simp] def b_RReadBytes_87 (_ : Unit) : EB := .seq (hid b_RReadBytes_20) (hid b_RReadBytes_86)
@[simp] def b_RReadBytes_88 (_ : Unit) : EB := .seq (hid b_RReadBytes_18) (hid b_RReadBytes_87)
@[simp] def b_RReadBytes_89 (_ : Unit) : EB := .seq (hid b_RReadBytes_16) (hid b_RReadBytes_88)
@[simp] def b_RReadBytes_90 (_ : Unit) : EB := .seq (hid b_RReadBytes_9) (hid b_RReadBytes_89)
@[simp] def b_RReadBytes_91 (_ : Unit) : EB := .seq (hid b_RReadBytes_2) (hid b_RReadBytes_90)
def c_RReadBytes : EB × List QOp × Nat := ((hid b_RReadBytes_91), [(.lda 2 (.t 4)), (.mov (.t 5))], 79)
theorem k_RReadBytes : cfun Tryd.prog 39 = some c_RReadBytes := by kernel_rfl

@[simp] def l_RReadHash_1 (_ : Unit) : List EOp := [⟨0, (some 1), none, (.q (.box 92 (.t 0))), []⟩, ⟨1, (some 2), none, (.q (.alloc 92 [(.slice none 0 0), (.int .i64 0)])), []⟩, ⟨2, (some 3), none, (.q (.alloc 28 zU8)), []⟩]
@[simp] def b_RReadHash_2 (_ : Unit) : EB := reg0 (hid l_RReadHash_1) 3
@[simp] def l_RReadHash_3 (_ : Unit) : List EOp := [⟨0, (some 4), none, (.q (.alloc 28 zU8)), []⟩]
@[simp] def b_RReadHash_4 (_ : Unit) : EB := reg0 (hid l_RReadHash_3) 1
@[simp] def l_RReadHash_5 (_ : Unit) : List EOp := [⟨0, (some 6), none, (.q (.fad 1 (.t 1))), []⟩, ⟨1, (some 7), none, (.q (.ldc (.t 6))), []⟩, ⟨2, (some 8), none, (.q (.bin .neq (.t 7) (.k (.int .i64 0)))), []⟩]
@[simp] def b_RReadHash_6 (_ : Unit) : EB := reg0 (hid l_RReadHash_5) 3
@[simp] def l_RReadHash_7 (_ : Unit) : List EOp := [⟨0, (some 9), none, (.q (.lda 2 (.t 1))), []⟩, ⟨1, (some 10), none, (.q (.lda 32 (.t 4))), []⟩, ⟨2, none, none, (.fz (.sto 2 (.t 2) (.t 9))), [1]⟩, ⟨3, none, none, (.sto 32 (.t 3) (.t 10)), []⟩]
@[simp] def b_RReadHash_8 (_ : Unit) : EB := reg1 (hid l_RReadHash_7) 4
@[simp] def b_RReadHash_9 (_ : Unit) : EB := .seq (hid b_RReadHash_8) .ret
@[simp] def b_RReadHash_10 (_ : Unit) : EB := .cond (.t 8) (hid b_RReadHash_9) .skip
@[simp] def b_RReadHash_11 (_ : Unit) : EB := .seq (hid b_RReadHash_6) (hid b_RReadHash_10)
@[simp] def l_RReadHash_12 (_ : Unit) : List EOp := [⟨0, (some 11), none, (.q (.fad 0 (.t 1))), []⟩, ⟨1, (some 12), none, (.q (.ldc (.t 11))), []⟩, ⟨2, (some 13), none, (.q (.len (.t 12))), []⟩, ⟨3, (some 14), none, (.q (.bin .lss (.t 13) (.k (.int .i64 32)))), []⟩]
@[simp] def b_RReadHash_13 (_ : Unit) : EB := reg0 (hid l_RReadHash_12) 4
@[simp] def l_RReadHash_14 (_ : Unit) : List EOp := [⟨0, (some 15), none, (.q (.lda 2 (.t 1))), []⟩, ⟨2, (some 17), none, (.q (.lda 32 (.t 4))), []⟩, ⟨1, (some 16), none, (.call 65 [(.t 15), (.k (.int .i64 12))]), [2]⟩, ⟨3, none, none, (.fz (.sto 2 (.t 2) (.t 16))), [2]⟩, ⟨4, none, none, (.sto 32 (.t 3) (.t 17)), []⟩]
@[simp] def b_RReadHash_15 (_ : Unit) : EB := reg1 (hid l_RReadHash_14) 5
@[simp] def b_RReadHash_16 (_ : Unit) : EB := .seq (hid b_RReadHash_15) .ret
@[simp] def b_RReadHash_17 (_ : Unit) : EB := .cond (.t 14) (hid b_RReadHash_16) .skip
@[simp] def b_RReadHash_18 (_ : Unit) : EB := .seq (hid b_RReadHash_13) (hid b_RReadHash_17)
@[simp] def l_RReadHash_19 (_ : Unit) : List EOp := [⟨0, (some 5), none, (.q (.mov (.k (.int .i64 0)))), []⟩]
@[simp] def b_RReadHash_20 (_ : Unit) : EB := reg0 (hid l_RReadHash_19) 1
@[simp] def l_RReadHash_21 (_ : Unit) : List EOp := [⟨0, (some 18), none, (.q (.mov (.t 5))), []⟩, ⟨1, (some 19), none, (.q (.bin .lss (.t 18) (.k (.int .i64 32)))), []⟩]
@[simp] def b_RReadHash_22 (_ : Unit) : EB := reg0 (hid l_RReadHash_21) 2
@[simp] def b_RReadHash_23 (_ : Unit) : EB := .cond (.t 19) .skip (.exit 0)
@[simp] def b_RReadHash_24 (_ : Unit) : EB := .seq (hid b_RReadHash_22) (hid b_RReadHash_23)
@[simp] def l_RReadHash_26 (_ : Unit) : List EOp := [⟨6, (some 28), none, (.q (.iad 32 1 (.t 4) (.t 22))), []⟩, ⟨7, none, none, (.sto 1 (.t 28) (.t 27)), []⟩]
@[simp] def l_RReadHash_25 (_ : Unit) : List EOp := ⟨0, (some 22), none, (.q (.mov (.t 5))), []⟩ :: ⟨1, (some 23), none, (.q (.fad 0 (.t 1))), []⟩ :: ⟨2, (some 24), none, (.q (.ldc (.t 23))), []⟩ :: ⟨3, (some 25), none, (.q (.mov (.t 5))), []⟩ :: ⟨4, (some 26), none, (.q (.isl 1 (.t 24) (.t 25))), []⟩ :: ⟨5, (some 27), none, (.q (.ldc (.t 26))), []⟩ :: hid l_RReadHash_26
@[simp] def b_RReadHash_27 (_ : Unit) : EB := reg0 (hid l_RReadHash_25) 8
@[simp] def b_RReadHash_28 (_ : Unit) : EB := .block 1 (hid b_RReadHash_27)
@[simp] def l_RReadHash_29 (_ : Unit) : List EOp := [⟨0, (some 20), none, (.q (.mov (.t 5))), []⟩, ⟨1, (some 21), none, (.q (.bin .add (.t 20) (.k (.int .i64 1)))), []⟩, ⟨2, (some 5), none, (.q (.mov (.t 21))), []⟩]
@[simp] def b_RReadHash_30 (_ : Unit) : EB := reg0 (hid l_RReadHash_29) 3
@[simp] def b_RReadHash_31 (_ : Unit) : EB := .seq (hid b_RReadHash_28) (hid b_RReadHash_30)
@[simp] def b_RReadHash_32 (_ : Unit) : EB := .seq (hid b_RReadHash_24) (hid b_RReadHash_31)
@[simp] def b_RReadHash_33 (_ : Unit) : EB := .loop (hid b_RReadHash_32)
@[simp] def b_RReadHash_34 (_ : Unit) : EB := .block 0 (hid b_RReadHash_33)
@[simp] def b_RReadHash_35 (_ : Unit) : EB := .seq (hid b_RReadHash_20) (hid b_RReadHash_34)
@[simp] def l_RReadHash_36 (_ : Unit) : List EOp := [⟨0, (some 29), none, (.q (.fad 0 (.t 1))), []⟩, ⟨1, (some 30), none, (.q (.ldc (.t 29))), []⟩, ⟨2, (some 31), none, (.q (.ssl 1 (.t 30) (some (.k (.int .i64 32))) none)), []⟩, ⟨3, (some 32), none, (.q (.fad 0 (.t 1))), []⟩, ⟨4, none, none, (.fz (.sto 1 (.t 32) (.t 31))), []⟩]
@[simp] def b_RReadHash_37 (_ : Unit) : EB := reg0 (hid l_RReadHash_36) 5
@[simp] def l_RReadHash_38 (_ : Unit) : List EOp := [⟨0, (some 33), none, (.q (.lda 2 (.t 1))), []⟩, ⟨1, (some 34), none, (.q (.lda 32 (.t 4))), []⟩, ⟨2, none, none, (.fz (.sto 2 (.t 2) (.t 33))), [1]⟩, ⟨3, none, none, (.sto 32 (.t 3) (.t 34)), []⟩]
@[simp] def b_RReadHash_39 (_ : Unit) : EB := reg1 (hid l_RReadHash_38) 4
@[simp] def b_RReadHash_40 (_ : Unit) : EB := .seq (hid b_RReadHash_39) .ret
@[simp] def b_RReadHash_41 (_ : Unit) : EB := .seq (hid b_RReadHash_37) (hid b_RReadHash_40)
@[simp] def b_RReadHash_42 (_ : Unit) : EB := .seq (hid b_RReadHash_35) (hid b_RReadHash_41)
@[simp] def b_RReadHash_43 (_ : Unit) : EB := .seq (hid b_RReadHash_18) (hid b_RReadHash_42)
@[simp] def b_RReadHash_44 (_ : Unit) : EB := .seq (hid b_RReadHash_11) (hid b_RReadHash_43)
@[simp] def b_RReadHash_45 (_ : Unit) : EB := .seq (hid b_RReadHash_4) (hid b_RReadHash_44)
@[simp] def b_RReadHash_46 (_ : Unit) : EB := .seq (hid b_RReadHash_2) (hid b_RReadHash_45)
def c_RReadHash : EB × List QOp × Nat := ((hid b_RReadHash_46), [(.lda 2 (.t 2)), (.lda 32 (.t 3))], 35)
theorem k_RReadHash : cfun Tryd.prog 38 = some c_RReadHash := by kernel_rfl

@[simp] def l_RDone_1 (_ : Unit) : List EOp := [⟨0, (some 1), none, (.q (.box 92 (.t 0))), []⟩, ⟨1, (some 2), none, (.q (.mov (.k (.int .i64 0)))), []⟩]
@[simp] def b_RDone_2 (_ : Unit) : EB := reg0 (hid l_RDone_1) 2
@[simp] def l_RDone_4 (_ : Unit) : List EOp := [⟨6, (some 9), (some (6, true)), (.q (.len (.t 8))), []⟩, ⟨7, (some 10), (some (6, true)), (.q (.bin .gtr (.t 9) (.k (.int .i64 0)))), []⟩, ⟨8, (some 11), none, (.q (.pick (.t 6) (.t 10) (.k (.bool false)))), []⟩]
@[simp] def l_RDone_3 (_ : Unit) : List EOp := ⟨0, (some 3), none, (.q (.fad 1 (.t 1))), []⟩ :: ⟨1, (some 4), none, (.q (.ldc (.t 3))), []⟩ :: ⟨2, (some 5), none, (.q (.bin .eql (.t 4) (.k (.int .i64 0)))), []⟩ :: ⟨3, (some 6), none, (.q (.mov (.t 5))), []⟩ :: ⟨4, (some 7), (some (6, true)), (.q (.fad 0 (.t 1))), []⟩ :: ⟨5, (some 8), (some (6, true)), (.q (.ldc (.t 7))), []⟩ :: hid l_RDone_4
@[simp] def b_RDone_5 (_ : Unit) : EB := reg0 (hid l_RDone_3) 9
@[simp] def l_RDone_6 (_ : Unit) : List EOp := [⟨0, (some 2), none, (.q (.mov (.k (.int .i64 3)))), []⟩]
@[simp] def b_RDone_7 (_ : Unit) : EB := reg0 (hid l_RDone_6) 1
@[simp] def b_RDone_8 (_ : Unit) : EB := .seq (hid b_RDone_7) .ret
@[simp] def b_RDone_9 (_ : Unit) : EB := .cond (.t 11) (hid b_RDone_8) .skip
@[simp] def b_RDone_10 (_ : Unit) : EB := .seq (hid b_RDone_5) (hid b_RDone_9)
@[simp] def l_RDone_11 (_ : Unit) : List EOp := [⟨0, (some 12), none, (.q (.fad 1 (.t 1))), []⟩, ⟨1, (some 13), none, (.q (.ldc (.t 12))), []⟩, ⟨2, (some 2), none, (.q (.mov (.t 13))), []⟩]
@[simp] def b_RDone_12 (_ : Unit) : EB := reg0 (hid l_RDone_11) 3
@[simp] def b_RDone_13 (_ : Unit) : EB := .seq (hid b_RDone_12) .ret
@[simp] def b_RDone_14 (_ : Unit) : EB := .seq (hid b_RDone_10) (hid b_RDone_13)
@[simp] def b_RDone_15 (_ : Unit) : EB := .seq (hid b_RDone_2) (hid b_RDone_14)
def c_RDone : EB × List QOp × Nat := ((hid b_RDone_15), [(.mov (.t 2))], 14)
theorem k_RDone : cfun Tryd.prog 40 = some c_RDone := by kernel_rfl


/-- The document's reader: what is left, the first error. -/
def rvC (b : List UInt8) (e : Nat) : List EC := [.fz (.sl 1 (bsv b)), .fz (.lit (.int .i64 e))]
def RV (b : List UInt8) (e : Nat) : EV := .v (.agg [.fz (.sl 1 (bsv b)), .fz (.lit (.int .i64 e))])

theorem Rfail_ok (b : List UInt8) (e k : Nat) : ECalls Tryd.prog 65 [RV b e, I .i64 k] [] fun y H' => H' = [] ∧ y = RV b (if e = 0 then k else e) := by
  refine ecalls k_Rfail ?_
  simp [c_Rfail, RV, I]
  refine alt (fun h => ?_) (fun h => ?_)
  · simp
    exact fin [] (by decide) rfl rfl rfl ⟨rfl, by simp [h]⟩
  · simp
    exact fin [] (by decide) rfl rfl rfl ⟨rfl, by simp [h]⟩

theorem RDone_ok (b : List UInt8) (e : Nat) : ECalls Tryd.prog 40 [RV b e] [] fun y H' => H' = [] ∧ y = I .i64 ((if e ≠ 0 then e else if b.length ≠ 0 then 3 else 0 : Nat) : Int) := by
  refine ecalls k_RDone ?_
  by_cases he : e = 0
  · subst he
    rcases b with _ | ⟨c, r⟩
    · simp [c_RDone, RV, I]
      exact fin [] (by decide) rfl rfl rfl ⟨rfl, rfl⟩
    · have hp : (0 : Int) < (r.length : Int) + 1 := by omega
      simp [c_RDone, RV, I, hp]
      exact fin [] (by decide) rfl rfl rfl ⟨rfl, rfl⟩
  · simp [c_RDone, RV, I, he]
    exact fin [] (by decide) rfl rfl rfl ⟨rfl, by simp [I, he]⟩

set_option maxHeartbeats 1000000 in
theorem Rnumber_ok (c0 : UInt8) (r : List UInt8) (many : Nat) (turned : Bool) (hm : many ≤ 8) (hl : r.length ≤ 1000000000) : ECalls Tryd.prog 66 [Bs (c0 :: r), I .i64 many, .lit (.bool turned)] [] fun y H' => H' = [] ∧ y = .tup [.c (.fz (.lit (.int .u64 (lowS r many (if turned then 255 else 0)).1))), .c (.fz (.lit (.int .i64 (lowS r many (if turned then 255 else 0)).2)))] := by
  obtain ⟨mask, hmask⟩ : ∃ mask : UInt8, (if turned then 255 else 0) = mask := ⟨_, rfl⟩
  rw [hmask]
  refine ecalls k_Rnumber ?_
  have w0 : IntKind.i64.wrap (1 + (many : Int)) = ((many + 1 : Nat) : Int) := by rw [wrap_i64 (by omega) (by omega)]; omega
  simp [c_Rnumber, Bs, I, w0, -Int.natCast_add]
  refine alt (fun h1 => ?_) (fun h1 => ?_)
  · have hS : lowS r many mask = (0, 12) := by rw [lowS, if_pos (by omega)]
    rw [hS]
    simp
    exact fin [] (by decide) rfl rfl rfl ⟨rfl, rfl⟩
  obtain ⟨ms, hms⟩ : ∃ ms, (r.take many).map (· ^^^ mask) = ms := ⟨_, rfl⟩
  have hml : ms.length = many := by rw [← hms, List.length_map, List.length_take]; omega
  simp
  refine eloop (α := Nat) (fun j => j ≤ many ∧ (0 < j → lowS r many mask = (valB ms, 0))) (fun j => many - j)
    (fun j => [Bs (c0 :: r), I .i64 many, .lit (.bool turned), .any, .any, .any, .any, .any, I .u64 (valB (ms.take j)), I .i64 ((j : Int) + 1), .any, .any, .any, .any, .any, .any, .any, .any, .any, .any, .any, .any, .any, .any, .any, .any, .any, .any, .any, .any, .any, .any, .any, .any, .any, .any, .any, .any, .any, .any]) (fun j => []) 0 []
    (by simp) (by simp [Bs, I, valB]) (by simp) (by simp) (by simp) (by simp) ?_
  rintro j ⟨hj, hS⟩
  simp [I, Bs]
  refine alt (fun hp => ?_) (fun hp => ?_)
  rotate_left
  · have : j = many := by omega
    subst this
    have hS' : lowS r j mask = (valB ms, 0) := by
      rcases Nat.eq_zero_or_pos j with h | h
      · subst h
        rw [lowS, if_neg (by omega), if_neg (by simp), hms]
      · exact hS h
    rw [hS', show ms.take j = ms from List.take_of_length_le (by omega)]
    simp
    exact fin [] (by decide) rfl rfl rfl ⟨rfl, rfl⟩
  obtain ⟨c, hc⟩ : ∃ c, r[j]? = some c := ⟨r[j]'(by omega), by simp⟩
  have hcb : (bsv (c0 :: r))[j + 1]? = some (cb c) := by rw [bsv_get (c := c)]; simpa using hc
  obtain ⟨x, hx⟩ : ∃ x, c ^^^ mask = x := ⟨_, rfl⟩
  have hmx : ms[j]? = some x := by rw [← hms, List.getElem?_map, List.getElem?_take, if_pos (by omega), hc, ← hx]; rfl
  have hts := take_snoc hmx
  have hv := val_lt (ms.take j)
  have hvl : (ms.take j).length = j := by rw [List.length_take, hml]; omega
  rw [hvl] at hv
  have hv8 : 256 ^ j ≤ 256 ^ 7 := Nat.pow_le_pow_right (by omega) (by omega)
  have hx8 := x.toNat_lt
  simp at hx8
  have w1 : IntKind.i64.wrap ((j : Int) + 1 + 1) = ((j + 1 : Nat) : Int) + 1 := by rw [wrap_i64 (by omega) (by omega)]; omega
  have w2 : IntKind.u64.wrap (x.toNat : Int) = x.toNat := wrap_u64 (by omega) (by omega)
  have w3 : IntKind.u64.wrap (256 * (valB (ms.take j) : Int)) = 256 * (valB (ms.take j) : Int) := wrap_u64 (by omega) (by omega)
  have w4 : IntKind.u64.wrap (256 * (valB (ms.take j) : Int) + (x.toNat : Int)) = ((256 * valB (ms.take j) + x.toNat : Nat) : Int) := by rw [wrap_u64 (by omega) (by omega)]; omega
  have i1 : ((j : Int) + 1).toNat = j + 1 := by omega
  have hz : j = 0 → 0 < many → (x = 0 ↔ r[0]? = some mask) := by
    rintro rfl _
    rw [hc, ← hx]
    constructor
    · intro h; rw [UInt8.xor_eq_zero_iff.1 h]
    · intro h; rw [Option.some.inj h]; simp
  have hfirst : ∀ (h0 : j = 0), x ≠ 0 → lowS r many mask = (valB ms, 0) := by
    intro h0 hx0
    rw [lowS, if_neg (by omega), if_neg, hms]
    rintro ⟨q1, q2⟩
    exact hx0 ((hz h0 q1).2 q2)
  have hbad : ∀ (h0 : j = 0), x = 0 → lowS r many mask = (0, 3) := by
    intro h0 hx0
    rw [lowS, if_neg (by omega), if_pos ⟨by omega, (hz h0 (by omega)).1 hx0⟩]
  have x0 : (x.toNat : Int) = 0 → x = 0 := fun h => by apply UInt8.toNat_inj.1; simpa using h
  simp [hcb, cb, i1]
  refine ⟨by omega, ?_⟩
  cases turned
  · simp at hmask
    subst hmask
    simp at hx
    subst hx
    simp
    refine alt (fun h0 => ?_) (fun h0 => ?_)
    · have h0t : ((j : Int) + 1 = 1) = True := eq_true (by omega)
      simp [h0t]
      refine alt (fun hz0 => ?_) (fun hz0 => ?_)
      · rw [hbad (by omega) (x0 (by omega))]
        simp
        exact fin [] (by decide) rfl rfl rfl ⟨rfl, rfl⟩
      · simp [w1, w2, w3, w4, -Int.natCast_add]
        exact round (j + 1) [] ⟨by omega, fun _ => hfirst (by omega) (fun e => hz0 (by rw [e]; rfl))⟩ (by omega) (by simp [hts, val_snoc]) (by simp) (by simp) (by simp) (by simp)
    · have h0t : ((j : Int) + 1 = 1) = False := eq_false (by omega)
      simp [h0t, w1, w2, w3, w4, -Int.natCast_add]
      exact round (j + 1) [] ⟨by omega, fun _ => hS (by omega)⟩ (by omega) (by simp [hts, val_snoc]) (by simp) (by simp) (by simp) (by simp)
  · simp at hmask
    subst hmask
    have w5 := sub255 c
    rw [hx] at w5
    simp [w5]
    refine alt (fun h0 => ?_) (fun h0 => ?_)
    · have h0t : ((j : Int) + 1 = 1) = True := eq_true (by omega)
      simp [h0t]
      refine alt (fun hz0 => ?_) (fun hz0 => ?_)
      · rw [hbad (by omega) (x0 (by omega))]
        simp
        exact fin [] (by decide) rfl rfl rfl ⟨rfl, rfl⟩
      · simp [w1, w2, w3, w4, -Int.natCast_add]
        exact round (j + 1) [] ⟨by omega, fun _ => hfirst (by omega) (fun e => hz0 (by rw [e]; rfl))⟩ (by omega) (by simp [hts, val_snoc]) (by simp) (by simp) (by simp) (by simp)
    · have h0t : ((j : Int) + 1 = 1) = False := eq_false (by omega)
      simp [h0t, w1, w2, w3, w4, -Int.natCast_add]
      exact round (j + 1) [] ⟨by omega, fun _ => hS (by omega)⟩ (by omega) (by simp [hts, val_snoc]) (by simp) (by simp) (by simp) (by simp)

set_option maxHeartbeats 1000000 in
theorem RReadInt_ok (b : List UInt8) (hl : b.length ≤ 1000000000) : ECalls Tryd.prog 37 [RV b 0] [] fun y H' => H' = [] ∧ y = .tup [.agg (rvC (b.drop (intS b).2.2) (intS b).1), .c (.fz (.lit (.int .i64 (intS b).2.1)))] := by
  refine ecalls k_RReadInt ?_
  simp [c_RReadInt, RV]
  rcases b with _ | ⟨c, r⟩
  · simp
    refine call0 (Rfail_ok [] 0 12) (by simp [Ptr, NP, I, R, RO, WO, RdO, Bs, EV.lit, RV]) ?_
    rintro y H' ⟨rfl, rfl⟩
    refine ⟨.inl (by simp [Ptr, NP, I, R, RO, WO, RdO, Bs, EV.lit, RV]), le_ok rfl, ?_⟩
    simp [Ptr, NP, I, R, RO, WO, RdO, Bs, EV.lit, RV]
    exact fin [] (by decide) rfl rfl rfl ⟨rfl, rfl⟩
  have hcl := c.toNat_lt
  simp at hcl hl
  have w0 : IntKind.i64.wrap (c.toNat : Int) = c.toNat := wrap_i64 (by omega) (by omega)
  simp [bsv_cons, cb, w0]
  have hbad : (c.toNat < 119 ∨ 136 < c.toNat) → intS (c :: r) = (3, 0, 0) := by
    intro h
    simp only [intS]
    rw [if_pos]
    split <;> omega
  by_cases h1 : c.toNat < 119
  · rw [hbad (.inl h1)]
    simp [h1, show ((c.toNat : Int) < 119) from by omega, show ¬ ((119 : Int) ≤ (c.toNat : Int)) from by omega]
    refine call0 (Rfail_ok (c :: r) 0 3) (by simp [RV, I, bsv_cons, cb]) ?_
    rintro y H' ⟨rfl, rfl⟩
    simp [RV]
    exact fin [] (by decide) rfl rfl rfl ⟨rfl, rfl⟩
  by_cases h2 : 136 < c.toNat
  · rw [hbad (.inr h2)]
    simp [h1, h2, show ¬ ((c.toNat : Int) < 119) from by omega, show ((119 : Int) ≤ (c.toNat : Int)) from by omega, show ((136 : Int) < (c.toNat : Int)) from by omega]
    refine call0 (Rfail_ok (c :: r) 0 3) (by simp [RV, I, bsv_cons, cb]) ?_
    rintro y H' ⟨rfl, rfl⟩
    simp [RV]
    exact fin [] (by decide) rfl rfl rfl ⟨rfl, rfl⟩
  have n1 : ¬ ((c.toNat : Int) < 119) := by omega
  have n2 : ¬ ((136 : Int) < (c.toNat : Int)) := by omega
  have w7 : ∀ n : Nat, n ≤ 9223372036854775807 → IntKind.i64.wrap (n : Int) = n := fun n h => wrap_i64 (by omega) (by omega)
  simp [n1, n2, h1, h2, show ((119 : Int) ≤ (c.toNat : Int)) from by omega]
  by_cases h3 : 128 ≤ c.toNat
  · have n3 : ¬ ((c.toNat : Int) < 128) := by omega
    obtain ⟨many, hmy⟩ : ∃ many, c.toNat - 128 = many := ⟨_, rfl⟩
    have w1 : IntKind.i64.wrap ((c.toNat : Int) - 128) = (many : Int) := by rw [wrap_i64 (by omega) (by omega)]; omega
    simp [n3, h3, w1]
    refine call0 (Rnumber_ok c r many false (by omega) (by omega)) (by simp [Bs, I, bsv_cons, cb, EV.lit]) ?_
    rintro y H' ⟨rfl, rfl⟩
    have q1 := low_lt r many 0 (by omega)
    have q2 := low_len r many 0
    obtain ⟨q, hq⟩ : ∃ q, lowS r many 0 = q := ⟨_, rfl⟩
    simp only [Bool.false_eq_true, if_false, hq]
    rw [hq] at q1 q2
    have hi0 : intS (c :: r) = if q.2 ≠ 0 then (q.2, 0, 0) else if 9223372036854775807 < q.1 then (4, 0, 0) else (0, (q.1 : Int), 1 + many) := by
      simp only [intS, if_pos h3, hmy, if_neg (show ¬ 8 < many by omega), hq]
    by_cases hq2 : q.2 = 0
    · by_cases hq1 : 9223372036854775807 < q.1
      · have hi : intS (c :: r) = (4, 0, 0) := by rw [hi0, if_neg (by omega), if_pos hq1]
        rw [hi]
        simp [hq2, show ((9223372036854775808 : Int) ≤ (q.1 : Int)) from by omega]
        refine call0 (Rfail_ok (c :: r) 0 4) (by simp [RV, I, bsv_cons, cb]) ?_
        rintro y H' ⟨rfl, rfl⟩
        simp [RV]
        exact fin [] (by decide) rfl rfl rfl ⟨rfl, rfl⟩
      · have hi : intS (c :: r) = (0, (q.1 : Int), 1 + many) := by rw [hi0, if_neg (by omega), if_neg hq1]
        have q3 := q2 hq2
        rw [hi]
        have w5 : IntKind.i64.wrap (1 + (many : Int)) = ((many + 1 : Nat) : Int) := by rw [wrap_i64 (by omega) (by omega)]; omega
        simp [hq2, show ¬ ((9223372036854775808 : Int) ≤ (q.1 : Int)) from by omega, w5, bsv_cons, cb, n3, h3, w7 q.1 (by omega), -Int.natCast_add]
        refine ⟨by omega, ?_⟩
        simp [Nat.add_comm 1]
        exact fin [] (by decide) rfl rfl rfl ⟨rfl, by simp [rvC]⟩
    · have hi : intS (c :: r) = (q.2, 0, 0) := by rw [hi0, if_pos hq2]
      rw [hi]
      simp [hq2]
      refine call0 (Rfail_ok (c :: r) 0 q.2) (by simp [RV, I, bsv_cons, cb]) ?_
      rintro y H' ⟨rfl, rfl⟩
      simp [RV]
      exact fin [] (by decide) rfl rfl rfl ⟨rfl, rfl⟩
  · have n3 : ((c.toNat : Int) < 128) := by omega
    obtain ⟨many, hmy⟩ : ∃ many, 127 - c.toNat = many := ⟨_, rfl⟩
    have w1 : IntKind.i64.wrap (127 - (c.toNat : Int)) = (many : Int) := by rw [wrap_i64 (by omega) (by omega)]; omega
    simp [n3, h3, w1]
    refine call0 (Rnumber_ok c r many true (by omega) (by omega)) (by simp [Bs, I, bsv_cons, cb, EV.lit]) ?_
    rintro y H' ⟨rfl, rfl⟩
    have q1 := low_lt r many 255 (by omega)
    have q2 := low_len r many 255
    obtain ⟨q, hq⟩ : ∃ q, lowS r many 255 = q := ⟨_, rfl⟩
    simp only [if_true, hq]
    rw [hq] at q1 q2
    have hi0 : intS (c :: r) = if q.2 ≠ 0 then (q.2, 0, 0) else if 9223372036854775807 < q.1 then (4, 0, 0) else (0, -(q.1 : Int) - 1, 1 + many) := by
      simp only [intS, if_neg h3, hmy, if_neg (show ¬ 8 < many by omega), hq]
    by_cases hq2 : q.2 = 0
    · by_cases hq1 : 9223372036854775807 < q.1
      · have hi : intS (c :: r) = (4, 0, 0) := by rw [hi0, if_neg (by omega), if_pos hq1]
        rw [hi]
        simp [hq2, show ((9223372036854775808 : Int) ≤ (q.1 : Int)) from by omega]
        refine call0 (Rfail_ok (c :: r) 0 4) (by simp [RV, I, bsv_cons, cb]) ?_
        rintro y H' ⟨rfl, rfl⟩
        simp [RV]
        exact fin [] (by decide) rfl rfl rfl ⟨rfl, rfl⟩
      · have hi : intS (c :: r) = (0, -(q.1 : Int) - 1, 1 + many) := by rw [hi0, if_neg (by omega), if_neg hq1]
        have q3 := q2 hq2
        rw [hi]
        have w5 : IntKind.i64.wrap (1 + (many : Int)) = ((many + 1 : Nat) : Int) := by rw [wrap_i64 (by omega) (by omega)]; omega
        have w8 : IntKind.i64.wrap (-(q.1 : Int)) = -(q.1 : Int) := wrap_i64 (by omega) (by omega)
        have w9 : IntKind.i64.wrap (-(q.1 : Int) - 1) = -(q.1 : Int) - 1 := wrap_i64 (by omega) (by omega)
        simp [hq2, show ¬ ((9223372036854775808 : Int) ≤ (q.1 : Int)) from by omega, w5, bsv_cons, cb, n3, h3, w7 q.1 (by omega), w8, w9, -Int.natCast_add]
        refine ⟨by omega, ?_⟩
        simp [Nat.add_comm 1]
        exact fin [] (by decide) rfl rfl rfl ⟨rfl, by simp [rvC]⟩
    · have hi : intS (c :: r) = (q.2, 0, 0) := by rw [hi0, if_pos hq2]
      rw [hi]
      simp [hq2]
      refine call0 (Rfail_ok (c :: r) 0 q.2) (by simp [RV, I, bsv_cons, cb]) ?_
      rintro y H' ⟨rfl, rfl⟩
      simp [RV]
      exact fin [] (by decide) rfl rfl rfl ⟨rfl, rfl⟩

set_option maxHeartbeats 2000000 in
theorem RReadBytes_ok (b : List UInt8) (most : Int) (hl : b.length ≤ 1000000000) : ECalls Tryd.prog 39 [RV b 0, I .i64 most] [] fun y H' => H' = [] ∧ y = .tup [.agg (rvC (b.drop (bytZ b most).2.2) (bytZ b most).1), .c (.fz (.sl 1 (bsv (bytZ b most).2.1)))] := by
  refine ecalls k_RReadBytes ?_
  simp [c_RReadBytes, RV, I]
  refine alt (fun hneg => ?_) (fun hneg => ?_)
  · have hi : bytZ b most = (1, [], 0) := by rw [bytZ, if_pos hneg]
    rw [hi]
    simp
    refine call0 (Rfail_ok b 0 1) (by simp [Ptr, NP, I, R, RO, WO, RdO, Bs, EV.lit, RV]) ?_
    rintro y H' ⟨rfl, rfl⟩
    refine ⟨.inl (by simp [Ptr, NP, I, R, RO, WO, RdO, Bs, EV.lit, RV]), le_ok rfl, ?_⟩
    simp [Ptr, NP, I, R, RO, WO, RdO, Bs, EV.lit, RV]
    refine finW _ (weak_nilF 5 1 rfl) ?_
    exact fin [] (by decide) rfl rfl rfl ⟨rfl, rfl⟩
  have hi : bytZ b most = bytS b most.toNat := by rw [bytZ, if_neg hneg]
  rw [hi]
  obtain ⟨k, rfl⟩ : ∃ k : Nat, most = k := ⟨most.toNat, by omega⟩
  simp
  refine loopW _ (weak_nilR 6 5 1 rfl (by omega)) ?_
  refine eloop (α := Nat × List UInt8) (fun a => a.1 ≤ b.length ∧ a.2.length ≤ a.1 ∧ bytS b k = addS a.2 a.1 (bytS (b.drop a.1) (k - a.2.length))) (fun a => b.length - a.1)
    (fun a => [.any, I .i64 k, Ptr 0, .any, Ptr 1, .any, R 2 a.2, I .i64 a.1, .any, .any, .any, .any, .any, .any, .any, .any, .any, .any, .any, .any, .any, .any, .any, .any, .any, .any, .any, .any, .any, .any, .any, .any, .any, .any, .any, .any, .any, .any, .any, .any, .any, .any, .any, .any, .any, .any, .any, .any, .any, .any, .any, .any, .any, .any, .any, .any, .any, .any, .any, .any, .any, .any, .any, .any, .any, .any, .any, .any, .any, .any, .any, .any, .any, .any, .any, .any, .any, .any, .any]) (fun a => [some (.box 92 (rvC b 0)), some (.box 92 [.fz (.lit (.slice none 0 0)), .fz (.lit (.int .i64 0))]), some (RO a.2)]) (0, []) [0, 16, 160]
    ⟨by simp, by simp, by
      have := (bytS_len b k).2.2.2
      simp only [addS, List.drop_zero, List.length_nil, Nat.sub_zero, List.nil_append, Nat.zero_add]
      split
      · rename_i h; rw [← (this h).1, ← (this h).2]
      · rename_i h; simp at h; rw [← h]⟩ (by simp [Ptr, I, R, Bs]) (by simp [RdO, RO, rvC]) (by simp) (by simp) (by simp) ?_
  rintro ⟨i, out⟩ ⟨hi1, hi2, hi4⟩
  simp [Ptr, I, R, Bs, RO, rvC] at hi1 hi2 hi4 ⊢
  refine alt (fun hlt => ?_) (fun hlt => ?_)
  rotate_left
  · have : i = b.length := by omega
    subst this
    have hi : bytS b k = (12, [], 0) := by rw [hi4]; simp [bytS, addS]
    rw [hi]
    simp
    refine call0 (Rfail_ok b 0 12) (by simp [Ptr, NP, I, R, RO, WO, RdO, Bs, EV.lit, RV]) ?_
    rintro y H' ⟨rfl, rfl⟩
    refine ⟨.inl (by simp [Ptr, NP, I, R, RO, WO, RdO, Bs, EV.lit, RV]), le_ok rfl, ?_⟩
    simp [Ptr, NP, I, R, RO, WO, RdO, Bs, EV.lit, RV]
    refine finW _ (weak_nilF 5 1 rfl) ?_
    exact fin [] (by decide) rfl rfl rfl ⟨rfl, rfl⟩
  obtain ⟨c, hc⟩ : ∃ c, b[i]? = some c := ⟨b[i], by simp [hlt]⟩
  have hcb := bsv_get hc
  have hdc := drop_cons hc
  rw [hdc] at hi4
  have w1 : IntKind.i64.wrap ((i : Int) + 1) = ((i + 1 : Nat) : Int) := wrap_i64 (by omega) (by omega)
  have w2 : IntKind.i64.wrap ((i : Int) + 2) = ((i + 2 : Nat) : Int) := wrap_i64 (by omega) (by omega)
  simp [hcb, cb]
  refine alt (fun hz => ?_) (fun hz => ?_)
  · have hc0 : c = 0 := by apply UInt8.toNat_inj.1; simpa using hz
    subst hc0
    simp [w1, -Int.natCast_add]
    refine alt (fun he => ?_) (fun he => ?_)
    · have hd : b.drop (i + 1) = [] := by rw [List.drop_eq_nil_iff]; omega
      have hi : bytS b k = (12, [], 0) := by rw [hi4, hd]; simp [bytS, addS]
      rw [hi]
      simp
      refine call0 (Rfail_ok b 0 12) (by simp [Ptr, NP, I, R, RO, WO, RdO, Bs, EV.lit, RV]) ?_
      rintro y H' ⟨rfl, rfl⟩
      refine ⟨.inl (by simp [Ptr, NP, I, R, RO, WO, RdO, Bs, EV.lit, RV]), le_ok rfl, ?_⟩
      simp [Ptr, NP, I, R, RO, WO, RdO, Bs, EV.lit, RV]
      refine finW _ (weak_nilF 5 1 rfl) ?_
      exact fin [] (by decide) rfl rfl rfl ⟨rfl, rfl⟩
    obtain ⟨x, hx⟩ : ∃ x, b[i + 1]? = some x := ⟨b[i + 1]'(by omega), by simp⟩
    have hxb := bsv_get hx
    have hdx := drop_cons hx
    rw [hdx] at hi4
    simp [hxb, cb, w1, -Int.natCast_add]
    refine alt (fun hz2 => ?_) (fun hz2 => ?_)
    · have hx0 : x = 0 := by apply UInt8.toNat_inj.1; simpa using hz2
      subst hx0
      have hi : bytS b k = (0, out, i + 2) := by rw [hi4]; simp [bytS, addS]
      rw [hi]
      simp [w2, -Int.natCast_add]
      refine ⟨by omega, ?_⟩
      refine finW _ (weak_frz (o := 2) (ty := 5) (es := 1) (xs := bsv out) rfl) ?_
      exact fin [] (by decide) rfl rfl rfl ⟨rfl, by simp [rvC]⟩
    have hx0 : x ≠ 0 := by rintro rfl; exact hz2 rfl
    simp [hxb, cb, w1, -Int.natCast_add]
    refine alt (fun h255 => ?_) (fun h255 => ?_)
    · have hx1 : x ≠ 255 := by rintro rfl; exact h255 rfl
      have hi : bytS b k = (3, [], 0) := by rw [hi4]; simp [bytS, addS, hx0, hx1]
      rw [hi]
      simp
      refine call0 (Rfail_ok b 0 3) (by simp [Ptr, NP, I, R, RO, WO, RdO, Bs, EV.lit, RV]) ?_
      rintro y H' ⟨rfl, rfl⟩
      refine ⟨.inl (by simp [Ptr, NP, I, R, RO, WO, RdO, Bs, EV.lit, RV]), le_ok rfl, ?_⟩
      simp [Ptr, NP, I, R, RO, WO, RdO, Bs, EV.lit, RV]
      refine finW _ (weak_nilF 5 1 rfl) ?_
      exact fin [] (by decide) rfl rfl rfl ⟨rfl, rfl⟩
    have hx1 : x = 255 := by apply UInt8.toNat_inj.1; simp at h255; simp; omega
    subst hx1
    simp [-Int.natCast_add]
    refine alt (fun hk => ?_) (fun hk => ?_)
    · have hi : bytS b k = (2, [], 0) := by rw [hi4]; simp [bytS, addS, show k - out.length = 0 by omega]
      rw [hi]
      simp
      refine call0 (Rfail_ok b 0 2) (by simp [Ptr, NP, I, R, RO, WO, RdO, Bs, EV.lit, RV]) ?_
      rintro y H' ⟨rfl, rfl⟩
      refine ⟨.inl (by simp [Ptr, NP, I, R, RO, WO, RdO, Bs, EV.lit, RV]), le_ok rfl, ?_⟩
      simp [Ptr, NP, I, R, RO, WO, RdO, Bs, EV.lit, RV]
      refine finW _ (weak_nilF 5 1 rfl) ?_
      exact fin [] (by decide) rfl rfl rfl ⟨rfl, rfl⟩
    simp [hcb, cb, w2, -Int.natCast_add]
    refine ⟨by omega, round (i + 2, out ++ [0]) [0, 1, 707] ⟨by simp <;> omega, by simp <;> omega, ?_⟩ (by simp <;> omega) (by simp) (by simp [bsv, cb]) (by simp) (by simp) (by simp)⟩
    rw [hi4, bytS_0 (by omega), addS_addS]
    simp [Nat.sub_sub]
  · have hc0 : c ≠ 0 := by rintro rfl; exact hz rfl
    simp
    refine alt (fun hk => ?_) (fun hk => ?_)
    · have hi : bytS b k = (2, [], 0) := by rw [hi4, show k - out.length = 0 by omega, bytS.eq_def]; simp [hc0, addS]
      rw [hi]
      simp
      refine call0 (Rfail_ok b 0 2) (by simp [Ptr, NP, I, R, RO, WO, RdO, Bs, EV.lit, RV]) ?_
      rintro y H' ⟨rfl, rfl⟩
      refine ⟨.inl (by simp [Ptr, NP, I, R, RO, WO, RdO, Bs, EV.lit, RV]), le_ok rfl, ?_⟩
      simp [Ptr, NP, I, R, RO, WO, RdO, Bs, EV.lit, RV]
      refine finW _ (weak_nilF 5 1 rfl) ?_
      exact fin [] (by decide) rfl rfl rfl ⟨rfl, rfl⟩
    simp [hcb, cb, w1, -Int.natCast_add]
    refine ⟨by omega, round (i + 1, out ++ [c]) [0, 1, 371] ⟨by simp <;> omega, by simp <;> omega, ?_⟩ (by simp <;> omega) (by simp) (by simp [bsv, cb]) (by simp) (by simp) (by simp)⟩
    rw [hi4, bytS_c hc0 (by omega), addS_addS]
    simp [Nat.sub_sub]

end Go.Proofs.YtpilpjameifcfaaDoor
