import Derived.Test.YtpilpjameifcfaaDoorPEnc2
namespace Go.Proofs.YtpilpjameifcfaaDoor
open Go Go.EW
set_option linter.unusedSimpArgs false

@[simp] def l_Read_1 (_ : Unit) : List EOp := [⟨0, (some 2), none, (.q (.mov (.k (.pointer none)))), []⟩]
@[simp] def b_Read_2 (_ : Unit) : EB := reg0 (hid l_Read_1) 1
@[simp] def l_Read_3 (_ : Unit) : List EOp := [⟨0, (some 3), none, (.q (.mov (.t 0))), []⟩, ⟨1, (some 4), none, (.q (.build [(.slice none 0 0), (.int .i64 0), .nilIface] [(0, 1, (.t 3))])), []⟩, ⟨2, (some 5), none, (.q (.box 124 (.t 4))), []⟩, ⟨3, (some 2), none, (.q (.mov (.t 5))), []⟩]
@[simp] def b_Read_4 (_ : Unit) : EB := reg0 (hid l_Read_3) 4
@[simp] def b_Read_5 (_ : Unit) : EB := .seq (hid b_Read_4) .ret
@[simp] def b_Read_6 (_ : Unit) : EB := .seq (hid b_Read_2) (hid b_Read_5)
def c_Read : EB × List QOp × Nat := ((hid b_Read_6), [(.mov (.t 2))], 6)
theorem k_Read : cfun Tryd.prog 32 = some c_Read := by kernel_rfl

@[simp] def l_off_1 (_ : Unit) : List EOp := [⟨0, (some 2), none, (.q (.mov (.k (.bool false)))), []⟩]
@[simp] def b_off_2 (_ : Unit) : EB := reg0 (hid l_off_1) 1
@[simp] def l_off_4 (_ : Unit) : List EOp := [⟨6, (some 9), (some (5, false)), (.q (.ldc (.t 8))), []⟩, ⟨7, (some 10), (some (5, false)), (.q (.eqi true (.t 9))), []⟩, ⟨8, (some 11), none, (.q (.pick (.t 5) (.k (.bool true)) (.t 10))), []⟩, ⟨9, (some 2), none, (.q (.mov (.t 11))), []⟩]
@[simp] def l_off_3 (_ : Unit) : List EOp := ⟨0, (some 3), none, (.q (.mov (.t 0))), []⟩ :: ⟨1, (some 4), none, (.q (.eqp false (.t 3))), []⟩ :: ⟨2, (some 5), none, (.q (.mov (.t 4))), []⟩ :: ⟨3, (some 6), (some (5, false)), (.q (.mov (.t 0))), []⟩ :: ⟨4, (some 7), (some (5, false)), (.q (.nilc (.t 6))), []⟩ :: ⟨5, (some 8), (some (5, false)), (.q (.fad 2 (.t 7))), []⟩ :: hid l_off_4
@[simp] def b_off_5 (_ : Unit) : EB := reg0 (hid l_off_3) 10
@[simp] def b_off_6 (_ : Unit) : EB := .seq (hid b_off_5) .ret
@[simp] def b_off_7 (_ : Unit) : EB := .seq (hid b_off_2) (hid b_off_6)
def c_off : EB × List QOp × Nat := ((hid b_off_7), [(.mov (.t 2))], 12)
theorem k_off : cfun Tryd.prog 61 = some c_off := by kernel_rfl

@[simp] def l_rest_1 (_ : Unit) : List EOp := [⟨0, (some 2), none, (.q (.mov (.k (.slice none 0 0)))), []⟩]
@[simp] def b_rest_2 (_ : Unit) : EB := reg0 (hid l_rest_1) 1
@[simp] def l_rest_4 (_ : Unit) : List EOp := [⟨6, (some 9), none, (.q (.fad 1 (.t 8))), []⟩, ⟨7, (some 10), none, (.q (.ldc (.t 9))), []⟩, ⟨8, (some 11), none, (.q (.ssl 1 (.t 6) (some (.t 10)) none)), []⟩, ⟨9, (some 2), none, (.q (.mov (.t 11))), []⟩]
@[simp] def l_rest_3 (_ : Unit) : List EOp := ⟨0, (some 3), none, (.q (.mov (.t 0))), []⟩ :: ⟨1, (some 4), none, (.q (.nilc (.t 3))), []⟩ :: ⟨2, (some 5), none, (.q (.fad 0 (.t 4))), []⟩ :: ⟨3, (some 6), none, (.q (.ldc (.t 5))), []⟩ :: ⟨4, (some 7), none, (.q (.mov (.t 0))), []⟩ :: ⟨5, (some 8), none, (.q (.nilc (.t 7))), []⟩ :: hid l_rest_4
@[simp] def b_rest_5 (_ : Unit) : EB := reg0 (hid l_rest_3) 10
@[simp] def b_rest_6 (_ : Unit) : EB := .seq (hid b_rest_5) .ret
@[simp] def b_rest_7 (_ : Unit) : EB := .seq (hid b_rest_2) (hid b_rest_6)
def c_rest : EB × List QOp × Nat := ((hid b_rest_7), [(.mov (.t 2))], 12)
theorem k_rest : cfun Tryd.prog 62 = some c_rest := by kernel_rfl

@[simp] def l_fail_1 (_ : Unit) : List EOp := [⟨0, (some 4), none, (.q (.mov (.t 0))), []⟩, ⟨1, (some 5), none, (.q (.nilc (.t 4))), []⟩, ⟨2, (some 6), none, (.q (.fad 2 (.t 5))), []⟩, ⟨3, (some 7), none, (.q (.ldc (.t 6))), []⟩, ⟨4, (some 8), none, (.q (.eqi false (.t 7))), []⟩]
@[simp] def b_fail_2 (_ : Unit) : EB := reg0 (hid l_fail_1) 5
@[simp] def l_fail_3 (_ : Unit) : List EOp := [⟨0, (some 9), none, (.q (.mov (.t 0))), []⟩, ⟨1, (some 10), none, (.q (.mov (.t 1))), []⟩, ⟨2, (some 11), none, (.q (.nilc (.t 9))), []⟩, ⟨3, (some 12), none, (.q (.fad 2 (.t 11))), []⟩, ⟨4, none, none, (.sto 1 (.t 12) (.t 10)), []⟩]
@[simp] def b_fail_4 (_ : Unit) : EB := reg0 (hid l_fail_3) 5
@[simp] def b_fail_5 (_ : Unit) : EB := .cond (.t 8) (hid b_fail_4) .skip
@[simp] def b_fail_6 (_ : Unit) : EB := .seq (hid b_fail_2) (hid b_fail_5)
def c_fail : EB × List QOp × Nat := ((hid b_fail_6), [], 13)
theorem k_fail : cfun Tryd.prog 63 = some c_fail := by kernel_rfl

@[simp] def l_low_1 (_ : Unit) : List EOp := [⟨0, (some 6), none, (.q (.mov (.k (.int .u64 0)))), []⟩, ⟨1, (some 7), none, (.q (.mov (.k .nilIface))), []⟩]
@[simp] def b_low_2 (_ : Unit) : EB := reg0 (hid l_low_1) 2
@[simp] def l_low_3 (_ : Unit) : List EOp := [⟨0, (some 12), none, (.q (.mov (.t 0))), []⟩, ⟨1, (some 13), none, (.call 62 [(.t 12)]), []⟩, ⟨2, (some 14), none, (.q (.ssl 1 (.t 13) (some (.k (.int .i64 1))) none)), []⟩, ⟨3, (some 8), none, (.q (.mov (.t 14))), []⟩]
@[simp] def b_low_4 (_ : Unit) : EB := reg0 (hid l_low_3) 4
@[simp] def l_low_5 (_ : Unit) : List EOp := [⟨0, (some 15), none, (.q (.mov (.t 8))), []⟩, ⟨1, (some 16), none, (.q (.len (.t 15))), []⟩, ⟨2, (some 17), none, (.q (.mov (.t 1))), []⟩, ⟨3, (some 18), none, (.q (.bin .lss (.t 16) (.t 17))), []⟩]
@[simp] def b_low_6 (_ : Unit) : EB := reg0 (hid l_low_5) 4
@[simp] def l_low_7 (_ : Unit) : List EOp := [⟨0, (some 19), none, (.q (.mki 73 (.k (.int .i64 12)))), []⟩, ⟨1, (some 6), none, (.q (.mov (.k (.int .u64 0)))), []⟩, ⟨2, (some 7), none, (.q (.mov (.t 19))), []⟩]
@[simp] def b_low_8 (_ : Unit) : EB := reg0 (hid l_low_7) 3
@[simp] def b_low_9 (_ : Unit) : EB := .seq (hid b_low_8) .ret
@[simp] def b_low_10 (_ : Unit) : EB := .cond (.t 18) (hid b_low_9) .skip
@[simp] def b_low_11 (_ : Unit) : EB := .seq (hid b_low_6) (hid b_low_10)
@[simp] def l_low_13 (_ : Unit) : List EOp := [⟨6, (some 26), (some (22, true)), (.q (.mov (.t 2))), []⟩, ⟨7, (some 27), (some (22, true)), (.q (.bin .eql (.t 25) (.t 26))), []⟩, ⟨8, (some 28), none, (.q (.pick (.t 22) (.t 27) (.k (.bool false)))), []⟩]
@[simp] def l_low_12 (_ : Unit) : List EOp := ⟨0, (some 20), none, (.q (.mov (.t 1))), []⟩ :: ⟨1, (some 21), none, (.q (.bin .gtr (.t 20) (.k (.int .i64 0)))), []⟩ :: ⟨2, (some 22), none, (.q (.mov (.t 21))), []⟩ :: ⟨3, (some 23), (some (22, true)), (.q (.mov (.t 8))), []⟩ :: ⟨4, (some 24), (some (22, true)), (.q (.isl 1 (.t 23) (.k (.int .i64 0)))), []⟩ :: ⟨5, (some 25), (some (22, true)), (.q (.ldc (.t 24))), []⟩ :: hid l_low_13
@[simp] def b_low_14 (_ : Unit) : EB := reg0 (hid l_low_12) 9
@[simp] def l_low_15 (_ : Unit) : List EOp := [⟨0, (some 29), none, (.q (.mki 73 (.k (.int .i64 3)))), []⟩, ⟨1, (some 6), none, (.q (.mov (.k (.int .u64 0)))), []⟩, ⟨2, (some 7), none, (.q (.mov (.t 29))), []⟩]
@[simp] def b_low_16 (_ : Unit) : EB := reg0 (hid l_low_15) 3
@[simp] def b_low_17 (_ : Unit) : EB := .seq (hid b_low_16) .ret
@[simp] def b_low_18 (_ : Unit) : EB := .cond (.t 28) (hid b_low_17) .skip
@[simp] def b_low_19 (_ : Unit) : EB := .seq (hid b_low_14) (hid b_low_18)
@[simp] def l_low_20 (_ : Unit) : List EOp := [⟨0, (some 9), none, (.q (.mov (.k (.int .u64 0)))), []⟩]
@[simp] def b_low_21 (_ : Unit) : EB := reg0 (hid l_low_20) 1
@[simp] def l_low_22 (_ : Unit) : List EOp := [⟨0, (some 30), none, (.q (.mov (.t 8))), []⟩, ⟨1, (some 31), none, (.q (.mov (.t 1))), []⟩, ⟨2, (some 32), none, (.q (.ssl 1 (.t 30) none (some (.t 31)))), []⟩, ⟨3, (some 33), none, (.q (.len (.t 32))), []⟩, ⟨4, (some 34), none, (.q (.mov (.k (.int .i64 0)))), []⟩]
@[simp] def b_low_23 (_ : Unit) : EB := reg0 (hid l_low_22) 5
@[simp] def l_low_24 (_ : Unit) : List EOp := [⟨0, (some 35), none, (.q (.bin .lss (.t 34) (.t 33))), []⟩]
@[simp] def b_low_25 (_ : Unit) : EB := reg0 (hid l_low_24) 1
@[simp] def b_low_26 (_ : Unit) : EB := .cond (.t 35) .skip (.exit 0)
@[simp] def l_low_27 (_ : Unit) : List EOp := [⟨0, (some 36), none, (.q (.isl 1 (.t 32) (.t 34))), []⟩, ⟨1, (some 37), none, (.q (.ldc (.t 36))), []⟩, ⟨2, (some 11), none, (.q (.mov (.t 37))), []⟩]
@[simp] def b_low_28 (_ : Unit) : EB := reg0 (hid l_low_27) 3
@[simp] def l_low_30 (_ : Unit) : List EOp := [⟨6, (some 44), none, (.q (.bin .or (.t 39) (.t 43))), []⟩, ⟨7, (some 9), none, (.q (.mov (.t 44))), []⟩]
@[simp] def l_low_29 (_ : Unit) : List EOp := ⟨0, (some 38), none, (.q (.mov (.t 9))), []⟩ :: ⟨1, (some 39), none, (.q (.bin .shl (.t 38) (.k (.int .u64 8)))), []⟩ :: ⟨2, (some 40), none, (.q (.mov (.t 11))), []⟩ :: ⟨3, (some 41), none, (.q (.mov (.t 2))), []⟩ :: ⟨4, (some 42), none, (.q (.bin .xor (.t 40) (.t 41))), []⟩ :: ⟨5, (some 43), none, (.q (.cnv .u64 (.t 42))), []⟩ :: hid l_low_30
@[simp] def b_low_31 (_ : Unit) : EB := reg0 (hid l_low_29) 8
@[simp] def b_low_32 (_ : Unit) : EB := .seq (hid b_low_28) (hid b_low_31)
@[simp] def b_low_33 (_ : Unit) : EB := .block 1 (hid b_low_32)
@[simp] def l_low_34 (_ : Unit) : List EOp := [⟨0, (some 45), none, (.q (.bin .add (.t 34) (.k (.int .i64 1)))), []⟩, ⟨1, (some 34), none, (.q (.mov (.t 45))), []⟩]
@[simp] def b_low_35 (_ : Unit) : EB := reg0 (hid l_low_34) 2
@[simp] def b_low_36 (_ : Unit) : EB := .seq (hid b_low_33) (hid b_low_35)
@[simp] def b_low_37 (_ : Unit) : EB := .seq (hid b_low_26) (hid b_low_36)
@[simp] def b_low_38 (_ : Unit) : EB := .seq (hid b_low_25) (hid b_low_37)
@[simp] def b_low_39 (_ : Unit) : EB := .loop (hid b_low_38)
@[simp] def b_low_40 (_ : Unit) : EB := .block 0 (hid b_low_39)
@[simp] def b_low_41 (_ : Unit) : EB := .seq (hid b_low_23) (hid b_low_40)
@[simp] def l_low_42 (_ : Unit) : List EOp := [⟨0, (some 46), none, (.q (.mov (.t 9))), []⟩, ⟨1, (some 6), none, (.q (.mov (.t 46))), []⟩, ⟨2, (some 7), none, (.q (.mov (.k .nilIface))), []⟩]
@[simp] def b_low_43 (_ : Unit) : EB := reg0 (hid l_low_42) 3
@[simp] def b_low_44 (_ : Unit) : EB := .seq (hid b_low_43) .ret
@[simp] def b_low_45 (_ : Unit) : EB := .seq (hid b_low_41) (hid b_low_44)
@[simp] def b_low_46 (_ : Unit) : EB := .seq (hid b_low_21) (hid b_low_45)
@[simp] def b_low_47 (_ : Unit) : EB := .seq (hid b_low_19) (hid b_low_46)
@[simp] def b_low_48 (_ : Unit) : EB := .seq (hid b_low_11) (hid b_low_47)
@[simp] def b_low_49 (_ : Unit) : EB := .seq (hid b_low_4) (hid b_low_48)
@[simp] def b_low_50 (_ : Unit) : EB := .seq (hid b_low_2) (hid b_low_49)
def c_low : EB × List QOp × Nat := ((hid b_low_50), [(.mov (.t 6)), (.mov (.t 7))], 47)
theorem k_low : cfun Tryd.prog 64 = some c_low := by kernel_rfl

@[simp] def l_RdInt_1 (_ : Unit) : List EOp := [⟨0, (some 2), none, (.q (.mov (.k (.int .i64 0)))), []⟩]
@[simp] def b_RdInt_2 (_ : Unit) : EB := reg0 (hid l_RdInt_1) 1
@[simp] def l_RdInt_3 (_ : Unit) : List EOp := [⟨0, (some 8), none, (.q (.mov (.t 0))), []⟩, ⟨1, (some 9), none, (.call 61 [(.t 8)]), []⟩]
@[simp] def b_RdInt_4 (_ : Unit) : EB := reg0 (hid l_RdInt_3) 2
@[simp] def l_RdInt_5 (_ : Unit) : List EOp := [⟨0, (some 2), none, (.q (.mov (.k (.int .i64 0)))), []⟩]
@[simp] def b_RdInt_6 (_ : Unit) : EB := reg0 (hid l_RdInt_5) 1
@[simp] def b_RdInt_7 (_ : Unit) : EB := .seq (hid b_RdInt_6) .ret
@[simp] def b_RdInt_8 (_ : Unit) : EB := .cond (.t 9) (hid b_RdInt_7) .skip
@[simp] def b_RdInt_9 (_ : Unit) : EB := .seq (hid b_RdInt_4) (hid b_RdInt_8)
@[simp] def l_RdInt_10 (_ : Unit) : List EOp := [⟨0, (some 10), none, (.q (.mov (.t 0))), []⟩, ⟨1, (some 11), none, (.call 62 [(.t 10)]), []⟩, ⟨2, (some 3), none, (.q (.mov (.t 11))), []⟩]
@[simp] def b_RdInt_11 (_ : Unit) : EB := reg0 (hid l_RdInt_10) 3
@[simp] def l_RdInt_12 (_ : Unit) : List EOp := [⟨0, (some 12), none, (.q (.mov (.t 3))), []⟩, ⟨1, (some 13), none, (.q (.len (.t 12))), []⟩, ⟨2, (some 14), none, (.q (.bin .eql (.t 13) (.k (.int .i64 0)))), []⟩]
@[simp] def b_RdInt_13 (_ : Unit) : EB := reg0 (hid l_RdInt_12) 3
@[simp] def l_RdInt_14 (_ : Unit) : List EOp := [⟨0, (some 15), none, (.q (.mov (.t 0))), []⟩, ⟨1, (some 16), none, (.q (.mki 73 (.k (.int .i64 12)))), []⟩, ⟨2, (some 17), none, (.call 63 [(.t 15), (.t 16)]), []⟩]
@[simp] def b_RdInt_15 (_ : Unit) : EB := reg0 (hid l_RdInt_14) 3
@[simp] def l_RdInt_16 (_ : Unit) : List EOp := [⟨0, (some 2), none, (.q (.mov (.k (.int .i64 0)))), []⟩]
@[simp] def b_RdInt_17 (_ : Unit) : EB := reg0 (hid l_RdInt_16) 1
@[simp] def b_RdInt_18 (_ : Unit) : EB := .seq (hid b_RdInt_17) .ret
@[simp] def b_RdInt_19 (_ : Unit) : EB := .seq (hid b_RdInt_15) (hid b_RdInt_18)
@[simp] def b_RdInt_20 (_ : Unit) : EB := .cond (.t 14) (hid b_RdInt_19) .skip
@[simp] def b_RdInt_21 (_ : Unit) : EB := .seq (hid b_RdInt_13) (hid b_RdInt_20)
@[simp] def l_RdInt_23 (_ : Unit) : List EOp := [⟨6, (some 5), none, (.q (.mov (.k (.int .u8 0)))), []⟩]
@[simp] def l_RdInt_22 (_ : Unit) : List EOp := ⟨0, (some 18), none, (.q (.mov (.t 3))), []⟩ :: ⟨1, (some 19), none, (.q (.isl 1 (.t 18) (.k (.int .i64 0)))), []⟩ :: ⟨2, (some 20), none, (.q (.ldc (.t 19))), []⟩ :: ⟨3, (some 21), none, (.q (.cnv .i64 (.t 20))), []⟩ :: ⟨4, (some 22), none, (.q (.bin .sub (.t 21) (.k (.int .i64 128)))), []⟩ :: ⟨5, (some 4), none, (.q (.mov (.t 22))), []⟩ :: hid l_RdInt_23
@[simp] def b_RdInt_24 (_ : Unit) : EB := reg0 (hid l_RdInt_22) 7
@[simp] def l_RdInt_25 (_ : Unit) : List EOp := [⟨0, (some 23), none, (.q (.mov (.t 4))), []⟩, ⟨1, (some 24), none, (.q (.bin .lss (.t 23) (.k (.int .i64 0)))), []⟩]
@[simp] def b_RdInt_26 (_ : Unit) : EB := reg0 (hid l_RdInt_25) 2
@[simp] def l_RdInt_27 (_ : Unit) : List EOp := [⟨0, (some 25), none, (.q (.mov (.t 4))), []⟩, ⟨1, (some 26), none, (.q (.bin .sub (.k (.int .i64 (-1))) (.t 25))), []⟩, ⟨2, (some 4), none, (.q (.mov (.t 26))), []⟩, ⟨3, (some 5), none, (.q (.mov (.k (.int .u8 255)))), []⟩]
@[simp] def b_RdInt_28 (_ : Unit) : EB := reg0 (hid l_RdInt_27) 4
@[simp] def b_RdInt_29 (_ : Unit) : EB := .cond (.t 24) (hid b_RdInt_28) .skip
@[simp] def b_RdInt_30 (_ : Unit) : EB := .seq (hid b_RdInt_26) (hid b_RdInt_29)
@[simp] def l_RdInt_31 (_ : Unit) : List EOp := [⟨0, (some 27), none, (.q (.mov (.t 4))), []⟩, ⟨1, (some 28), none, (.q (.bin .gtr (.t 27) (.k (.int .i64 8)))), []⟩]
@[simp] def b_RdInt_32 (_ : Unit) : EB := reg0 (hid l_RdInt_31) 2
@[simp] def l_RdInt_33 (_ : Unit) : List EOp := [⟨0, (some 29), none, (.q (.mov (.t 0))), []⟩, ⟨1, (some 30), none, (.q (.mki 73 (.k (.int .i64 3)))), []⟩, ⟨2, (some 31), none, (.call 63 [(.t 29), (.t 30)]), []⟩]
@[simp] def b_RdInt_34 (_ : Unit) : EB := reg0 (hid l_RdInt_33) 3
@[simp] def l_RdInt_35 (_ : Unit) : List EOp := [⟨0, (some 2), none, (.q (.mov (.k (.int .i64 0)))), []⟩]
@[simp] def b_RdInt_36 (_ : Unit) : EB := reg0 (hid l_RdInt_35) 1
@[simp] def b_RdInt_37 (_ : Unit) : EB := .seq (hid b_RdInt_36) .ret
@[simp] def b_RdInt_38 (_ : Unit) : EB := .seq (hid b_RdInt_34) (hid b_RdInt_37)
@[simp] def b_RdInt_39 (_ : Unit) : EB := .cond (.t 28) (hid b_RdInt_38) .skip
@[simp] def b_RdInt_40 (_ : Unit) : EB := .seq (hid b_RdInt_32) (hid b_RdInt_39)
@[simp] def l_RdInt_42 (_ : Unit) : List EOp := [⟨6, (some 38), none, (.q (.ext 1 (.t 32))), []⟩, ⟨7, (some 6), none, (.q (.mov (.t 37))), []⟩, ⟨8, (some 7), none, (.q (.mov (.t 38))), []⟩]
@[simp] def l_RdInt_41 (_ : Unit) : List EOp := ⟨0, (some 33), none, (.q (.mov (.t 0))), []⟩ :: ⟨1, (some 34), none, (.q (.mov (.t 4))), []⟩ :: ⟨2, (some 35), none, (.q (.mov (.t 5))), []⟩ :: ⟨3, (some 36), none, (.call 64 [(.t 33), (.t 34), (.t 35)]), []⟩ :: ⟨4, (some 32), none, (.q (.mov (.t 36))), []⟩ :: ⟨5, (some 37), none, (.q (.ext 0 (.t 32))), []⟩ :: hid l_RdInt_42
@[simp] def b_RdInt_43 (_ : Unit) : EB := reg0 (hid l_RdInt_41) 9
@[simp] def l_RdInt_44 (_ : Unit) : List EOp := [⟨0, (some 39), none, (.q (.mov (.t 7))), []⟩, ⟨1, (some 40), none, (.q (.eqi false (.t 39))), []⟩, ⟨2, (some 41), none, (.q (.mov (.t 40))), []⟩, ⟨3, (some 42), (some (41, true)), (.q (.mov (.t 6))), []⟩, ⟨4, (some 43), (some (41, true)), (.q (.bin .gtr (.t 42) (.k (.int .u64 9223372036854775807)))), []⟩, ⟨5, (some 44), none, (.q (.pick (.t 41) (.t 43) (.k (.bool false)))), []⟩]
@[simp] def b_RdInt_45 (_ : Unit) : EB := reg0 (hid l_RdInt_44) 6
@[simp] def l_RdInt_46 (_ : Unit) : List EOp := [⟨0, (some 45), none, (.q (.mki 73 (.k (.int .i64 4)))), []⟩, ⟨1, (some 7), none, (.q (.mov (.t 45))), []⟩]
@[simp] def b_RdInt_47 (_ : Unit) : EB := reg0 (hid l_RdInt_46) 2
@[simp] def b_RdInt_48 (_ : Unit) : EB := .cond (.t 44) (hid b_RdInt_47) .skip
@[simp] def b_RdInt_49 (_ : Unit) : EB := .seq (hid b_RdInt_45) (hid b_RdInt_48)
@[simp] def l_RdInt_50 (_ : Unit) : List EOp := [⟨0, (some 46), none, (.q (.mov (.t 7))), []⟩, ⟨1, (some 47), none, (.q (.eqi true (.t 46))), []⟩]
@[simp] def b_RdInt_51 (_ : Unit) : EB := reg0 (hid l_RdInt_50) 2
@[simp] def l_RdInt_52 (_ : Unit) : List EOp := [⟨0, (some 48), none, (.q (.mov (.t 0))), []⟩, ⟨1, (some 49), none, (.q (.mov (.t 7))), []⟩, ⟨2, (some 50), none, (.call 63 [(.t 48), (.t 49)]), []⟩]
@[simp] def b_RdInt_53 (_ : Unit) : EB := reg0 (hid l_RdInt_52) 3
@[simp] def l_RdInt_54 (_ : Unit) : List EOp := [⟨0, (some 2), none, (.q (.mov (.k (.int .i64 0)))), []⟩]
@[simp] def b_RdInt_55 (_ : Unit) : EB := reg0 (hid l_RdInt_54) 1
@[simp] def b_RdInt_56 (_ : Unit) : EB := .seq (hid b_RdInt_55) .ret
@[simp] def b_RdInt_57 (_ : Unit) : EB := .seq (hid b_RdInt_53) (hid b_RdInt_56)
@[simp] def b_RdInt_58 (_ : Unit) : EB := .cond (.t 47) (hid b_RdInt_57) .skip
@[simp] def b_RdInt_59 (_ : Unit) : EB := .seq (hid b_RdInt_51) (hid b_RdInt_58)
@[simp] def l_RdInt_61 (_ : Unit) : List EOp := [⟨6, (some 57), none, (.q (.bin .add (.t 54) (.t 56))), []⟩, ⟨7, (some 58), none, (.q (.nilc (.t 51))), []⟩, ⟨8, (some 59), none, (.q (.fad 1 (.t 58))), []⟩, ⟨9, none, none, (.sto 1 (.t 59) (.t 57)), []⟩]
@[simp] def l_RdInt_60 (_ : Unit) : List EOp := ⟨0, (some 51), none, (.q (.mov (.t 0))), []⟩ :: ⟨1, (some 52), none, (.q (.nilc (.t 51))), []⟩ :: ⟨2, (some 53), none, (.q (.fad 1 (.t 52))), []⟩ :: ⟨3, (some 54), none, (.q (.ldc (.t 53))), []⟩ :: ⟨4, (some 55), none, (.q (.mov (.t 4))), []⟩ :: ⟨5, (some 56), none, (.q (.bin .add (.k (.int .i64 1)) (.t 55))), []⟩ :: hid l_RdInt_61
@[simp] def b_RdInt_62 (_ : Unit) : EB := reg0 (hid l_RdInt_60) 10
@[simp] def l_RdInt_63 (_ : Unit) : List EOp := [⟨0, (some 60), none, (.q (.mov (.t 5))), []⟩, ⟨1, (some 61), none, (.q (.bin .eql (.t 60) (.k (.int .u8 0)))), []⟩]
@[simp] def b_RdInt_64 (_ : Unit) : EB := reg0 (hid l_RdInt_63) 2
@[simp] def l_RdInt_65 (_ : Unit) : List EOp := [⟨0, (some 62), none, (.q (.mov (.t 6))), []⟩, ⟨1, (some 63), none, (.q (.cnv .i64 (.t 62))), []⟩, ⟨2, (some 2), none, (.q (.mov (.t 63))), []⟩]
@[simp] def b_RdInt_66 (_ : Unit) : EB := reg0 (hid l_RdInt_65) 3
@[simp] def b_RdInt_67 (_ : Unit) : EB := .seq (hid b_RdInt_66) .ret
@[simp] def b_RdInt_68 (_ : Unit) : EB := .cond (.t 61) (hid b_RdInt_67) .skip
@[simp] def b_RdInt_69 (_ : Unit) : EB := .seq (hid b_RdInt_64) (hid b_RdInt_68)
@[simp] def l_RdInt_70 (_ : Unit) : List EOp := [⟨0, (some 64), none, (.q (.mov (.t 6))), []⟩, ⟨1, (some 65), none, (.q (.cnv .i64 (.t 64))), []⟩, ⟨2, (some 66), none, (.q (.un .xor (.t 65))), []⟩, ⟨3, (some 2), none, (.q (.mov (.t 66))), []⟩]
@[simp] def b_RdInt_71 (_ : Unit) : EB := reg0 (hid l_RdInt_70) 4
@[simp] def b_RdInt_72 (_ : Unit) : EB := .seq (hid b_RdInt_71) .ret
@[simp] def b_RdInt_73 (_ : Unit) : EB := .seq (hid b_RdInt_69) (hid b_RdInt_72)
@[simp] def b_RdInt_74 (_ : Unit) : EB := .seq (hid b_RdInt_62) (hid b_RdInt_73)
@[simp] def b_RdInt_75 (_ : Unit) : EB := .seq (hid b_RdInt_59) (hid b_RdInt_74)
@[simp] def b_RdInt_76 (_ : Unit) : EB := .seq (hid b_RdInt_49) (hid b_RdInt_75)
@[simp] def b_RdInt_77 (_ : Unit) : EB := .seq (hid b_RdInt_43) (hid b_RdInt_76)
@[simp] def b_RdInt_78 (_ : Unit) : EB := .seq (hid b_RdInt_40) (hid b_RdInt_77)
@[simp] def b_RdInt_79 (_ : Unit) : EB := .seq (hid b_RdInt_30) (hid b_RdInt_78)
@[simp] def b_RdInt_80 (_ : Unit) : EB := .seq (hid b_RdInt_24) (hid b_RdInt_79)
@[simp] def b_RdInt_81 (_ : Unit) : EB := .seq (hid b_RdInt_21) (hid b_RdInt_80)
@[simp] def b_RdInt_82 (_ : Unit) : EB := .seq (hid b_RdInt_11) (hid b_RdInt_81)
@[simp] def b_RdInt_83 (_ : Unit) : EB := .seq (hid b_RdInt_9) (hid b_RdInt_82)
@[simp] def b_RdInt_84 (_ : Unit) : EB := .seq (hid b_RdInt_2) (hid b_RdInt_83)
def c_RdInt : EB × List QOp × Nat := ((hid b_RdInt_84), [(.mov (.t 2))], 67)
theorem k_RdInt : cfun Tryd.prog 33 = some c_RdInt := by kernel_rfl


/-- An error, by its number. -/
def errV (e : Nat) : Value := if e = 0 then .nilIface else .iface 73 (.int .i64 e)
@[simp] theorem eqiv_errV (e : Nat) : eqiv (errV e) = some (decide (e = 0)) := by
  unfold errV
  split <;> simp [eqiv, *]
@[simp] theorem cst_errV (e : Nat) : cst (errV e) = .v (.c (.fz (.lit (errV e)))) := by
  unfold errV
  split <;> rfl
@[simp] theorem errV_0 : Value.nilIface = errV 0 := rfl
@[simp] theorem errV_1 : Value.iface 73 (.int .i64 1) = errV 1 := rfl
@[simp] theorem errV_2 : Value.iface 73 (.int .i64 2) = errV 2 := rfl
@[simp] theorem errV_3 : Value.iface 73 (.int .i64 3) = errV 3 := rfl
@[simp] theorem errV_4 : Value.iface 73 (.int .i64 4) = errV 4 := rfl
@[simp] theorem errV_12 : Value.iface 73 (.int .i64 12) = errV 12 := rfl
/-- A reader: its line, its place, its error. -/
def RdO (l : List UInt8) (at' e : Nat) : EO := .box 124 [.fz (.sl 1 (bsv l)), .fz (.lit (.int .i64 at')), .fz (.lit (errV e))]

theorem Read_ok (l : List UInt8) : ECalls Tryd.prog 32 [Bs l] [] fun y H' => H' = [some (RdO l 0 0)] ∧ y = Ptr 0 := by
  refine ecalls k_Read ?_
  simp [c_Read, Bs, litc, -errV_0]
  exact fin [48] (by decide) rfl rfl rfl ⟨rfl, rfl⟩

theorem off_ok (l : List UInt8) (p e : Nat) : ECalls Tryd.prog 61 [Ptr 0] [RdO l p e] fun y H' => H' = [some (RdO l p e)] ∧ y = .lit (.bool (decide (e ≠ 0))) := by
  refine ecalls k_off ?_
  simp [c_off, Ptr, RdO]
  exact fin [] (by decide) rfl rfl rfl ⟨rfl, by simp⟩

theorem off_nil : ECalls Tryd.prog 61 [NP] [] fun y H' => H' = [] ∧ y = .lit (.bool true) := by
  refine ecalls k_off ?_
  simp [c_off, NP]
  exact fin [] (by decide) rfl rfl rfl ⟨rfl, rfl⟩

theorem rest_ok (l : List UInt8) (p e : Nat) (hp : p ≤ l.length) : ECalls Tryd.prog 62 [Ptr 0] [RdO l p e] fun y H' => H' = [some (RdO l p e)] ∧ y = Bs (l.drop p) := by
  refine ecalls k_rest ?_
  simp [c_rest, Ptr, RdO]
  exact ⟨by omega, fin [] (by decide) rfl rfl rfl ⟨rfl, rfl⟩⟩

theorem fail_ok (l : List UInt8) (p e k : Nat) : ECalls Tryd.prog 63 [Ptr 0, .lit (errV k)] [RdO l p e] fun y H' => H' = [some (RdO l p (if e = 0 then k else e))] ∧ y = .tup [] := by
  refine ecalls k_fail ?_
  simp [c_fail, Ptr, RdO]
  refine alt (fun h => ?_) (fun h => ?_)
  · simp
    exact fin [] (by decide) rfl rfl rfl ⟨by simp [h], rfl⟩
  · simp
    exact fin [] (by decide) rfl rfl rfl ⟨by simp [h], rfl⟩

/-- Bytes as a number. -/
def valB (l : List UInt8) : Nat := l.foldl (fun n c => 256 * n + c.toNat) 0
/-- So many bytes, each turned: the number; an error. -/
def lowS (b : List UInt8) (many : Nat) (mask : UInt8) : Nat × Nat :=
  if b.length < many then (0, 12) else if 0 < many ∧ b[0]? = some mask then (0, 3) else (valB ((b.take many).map (· ^^^ mask)), 0)
theorem val_snoc (l : List UInt8) (c : UInt8) : valB (l ++ [c]) = 256 * valB l + c.toNat := by simp [valB]
theorem val_lt (l : List UInt8) : valB l < 256 ^ l.length := by
  have key : ∀ (l : List UInt8) (n k : Nat), n < 256 ^ k → l.foldl (fun n c => 256 * n + c.toNat) n < 256 ^ (k + l.length) := by
    intro l
    induction l with
    | nil => intro n k h; simpa using h
    | cons c r ih =>
      intro n k h
      have hc := c.toNat_lt
      have := ih (256 * n + c.toNat) (k + 1) (by rw [Nat.pow_succ]; simp at hc; omega)
      rw [List.foldl_cons, List.length_cons, show k + (r.length + 1) = k + 1 + r.length by omega]
      exact this
  have := key l 0 0 (by simp)
  simpa [valB] using this
theorem or_byte (n : Nat) (c : UInt8) (h : 256 * n + 256 ≤ 18446744073709551616) : ibit .or .u64 (ishl .u64 (n : Int) 8) (c.toNat : Int) = ((256 * n + c.toNat : Nat) : Int) := by
  have hc := c.toNat_lt
  simp at hc
  have e1 : ishl .u64 (n : Int) 8 = ((256 * n : Nat) : Int) := by
    simp only [ishl]
    rw [show min (8 : Int).toNat IntKind.u64.bits = 8 from rfl, wrap_u64 (by omega) (by omega)]
    omega
  rw [e1]
  simp only [ibit]
  have e2 : (BitVec.ofInt IntKind.u64.bits ((256 * n : Nat) : Int) ||| BitVec.ofInt IntKind.u64.bits (c.toNat : Int)).toNat = 256 * n + c.toNat := by
    rw [BitVec.toNat_or, BitVec.ofInt_natCast, BitVec.ofInt_natCast, BitVec.toNat_ofNat, BitVec.toNat_ofNat, Nat.mod_eq_of_lt (show 256 * n < 2 ^ IntKind.u64.bits by simp [IntKind.bits]; omega), Nat.mod_eq_of_lt (show c.toNat < 2 ^ IntKind.u64.bits by simp [IntKind.bits]; omega)]
    have := Nat.shiftLeft_add_eq_or_of_lt (b := c.toNat) (i := 8) (by omega) n
    rw [Nat.shiftLeft_eq] at this
    rw [show 256 * n = n * 2 ^ 8 by omega]
    exact this.symm
  rw [e2, wrap_u64 (by omega) (by omega)]

theorem low_ok (l : List UInt8) (p e many : Nat) (mask : UInt8) (hp : p < l.length) (hm : many ≤ 8) :
    ECalls Tryd.prog 64 [Ptr 0, I .i64 many, I .u8 mask.toNat] [RdO l p e] fun y H' => H' = [some (RdO l p e)] ∧ y = .tup [.c (.fz (.lit (.int .u64 (lowS (l.drop (p + 1)) many mask).1))), .c (.fz (.lit (errV (lowS (l.drop (p + 1)) many mask).2)))] := by
  refine ecalls k_low ?_
  simp [c_low, Ptr, I]
  refine callH [0] (rest_ok l p e (by omega)) (by simp [Ptr]) (by simp [RdO]) (by simp) (by simp) (by simp) ?_
  rintro y H' ⟨rfl, rfl⟩
  refine ⟨.inl rfl, le_ok rfl, ?_⟩
  obtain ⟨b, hb⟩ : ∃ b, l.drop (p + 1) = b := ⟨_, rfl⟩
  have ht : List.take (l.length - p) (List.drop p l) = List.drop p l := List.take_of_length_le (by rw [List.length_drop]; exact Nat.le_refl _)
  simp [RdO, Bs, ht, hb]
  have hbl : b.length = l.length - p - 1 := by rw [← hb, List.length_drop]; omega
  have hdd : List.drop 1 (List.drop p l) = b := by rw [List.drop_drop]; exact hb
  refine ⟨by omega, alt (fun h1 => ?_) (fun h1 => ?_)⟩
  · simp
    exact fin [] (by decide) rfl rfl rfl ⟨rfl, by simp [lowS, show b.length < many by omega]⟩
  have hm2 : many ≤ l.length - p - 1 := by omega
  have hlm : (b.take many).length = many := by rw [List.length_take]; omega
  by_cases h2 : 0 < many
  · obtain ⟨c0, hc0⟩ : ∃ c, b[0]? = some c := ⟨b[0]'(by omega), by simp⟩
    have hcb0 : (bsv b)[0]? = some (cb c0) := by simp only [bsv, List.getElem?_map, hc0]; rfl
    simp [h2, hb, hcb0, cb]
    refine alt (fun h3 => ?_) (fun h3 => ?_)
    · simp
      have : c0 = mask := UInt8.toNat_inj.1 (by omega)
      subst this
      exact fin [] (by decide) rfl rfl rfl ⟨rfl, by simp [lowS, hc0, h2, show ¬ b.length < many by omega]⟩
    have hS : lowS b many mask = (valB ((b.take many).map (· ^^^ mask)), 0) := by
      rw [lowS, if_neg (by omega), if_neg]
      rintro ⟨_, h⟩
      rw [hc0] at h
      exact h3 (by rw [Option.some.inj h])
    have hmn : min many b.length = many := by omega
    obtain ⟨ms, hms⟩ : ∃ ms, (b.take many).map (· ^^^ mask) = ms := ⟨_, rfl⟩
    have hml : ms.length = many := by rw [← hms, List.length_map, hlm]
    rw [hms] at hS
    rw [hS]
    simp [hm2, hdd]
    refine ⟨by omega, ?_⟩
    refine eloop (α := Nat) (fun i => i ≤ many) (fun i => many - i)
      (fun i => [.any, .any, I .u8 mask.toNat, .any, .any, .any, .any, .any, .any, I .u64 (valB (ms.take i)), .any, .any, .any, .any, .any, .any, .any, .any, .any, .any, .any, .any, .any, .any, .any, .any, .any, .any, .any, .any, .any, .any, Bs (b.take many), I .i64 many, I .i64 i, .any, .any, .any, .any, .any, .any, .any, .any, .any, .any, .any, .any]) (fun i => [some (RdO l p e)]) 0 [0]
      (Nat.zero_le _) (by simp [Bs, I, valB, hmn]) (by simp [RdO]) (by simp) (by decide) (by simp) ?_
    intro i hi
    simp [I, Bs, RdO]
    refine alt (fun hp => ?_) (fun hp => ?_)
    · obtain ⟨c, hc⟩ : ∃ c, (b.take many)[i]? = some c := ⟨(b.take many)[i]'(by omega), by simp [hlm, hp]⟩
      have hcb : (bsv (b.take many))[i]? = some (cb c) := by simp only [bsv, List.getElem?_map, hc]; rfl
      obtain ⟨x, hx⟩ : ∃ x, c ^^^ mask = x := ⟨_, rfl⟩
      have hts := take_snoc (l := ms) (i := i) (c := x) (by rw [← hms, ← hx, List.getElem?_map, hc]; rfl)
      have hv := val_lt (ms.take i)
      have hvl : (ms.take i).length = i := by rw [List.length_take, hml]; omega
      rw [hvl] at hv
      have hv8 : 256 ^ i ≤ 256 ^ 7 := Nat.pow_le_pow_right (by omega) (by omega)
      have hc64 := x.toNat_lt
      have w1 : IntKind.i64.wrap ((i : Int) + 1) = ((i + 1 : Nat) : Int) := wrap_i64 (by omega) (by omega)
      have w4 : ibit .xor .u8 c.toNat mask.toNat = x.toNat := by rw [ibit_xor_u8, hx]
      have w2 : IntKind.u64.wrap (x.toNat : Int) = x.toNat := wrap_u64 (by omega) (by simp at hc64; omega)
      have w3 := or_byte (valB (ms.take i)) x (by omega)
      simp [hcb, cb, w1, w4, w2, w3, -Int.natCast_add]
      exact round (i + 1) [0] (by omega) (by omega) (by simp [hts, val_snoc]) (by simp) (by simp) (by decide) (by simp)
    · have him : i = many := by omega
      subst him
      have ht' : ms.take i = ms := List.take_of_length_le (by omega)
      simp [ht']
      exact fin [] (by decide) rfl rfl rfl ⟨rfl, rfl⟩
  · have h2' : many = 0 := by omega
    subst h2'
    have hS : lowS b 0 mask = (valB ((b.take 0).map (· ^^^ mask)), 0) := by
      rw [lowS, if_neg (by omega), if_neg (by simp)]
    simp [hb]
    refine eloop (α := Unit) (fun _ => True) (fun _ => 0)
      (fun _ => [.any, .any, .any, .any, .any, .any, .any, .any, .any, I .u64 0, .any, .any, .any, .any, .any, .any, .any, .any, .any, .any, .any, .any, .any, .any, .any, .any, .any, .any, .any, .any, .any, .any, .any, I .i64 0, I .i64 0, .any, .any, .any, .any, .any, .any, .any, .any, .any, .any, .any, .any]) (fun _ => [some (RdO l p e)]) () [0]
      trivial (by simp [I]) (by simp [RdO]) (by simp) (by decide) (by simp) ?_
    intro _ _
    simp [I, RdO]
    exact fin [] (by decide) rfl rfl rfl ⟨rfl, by rw [hS]; rfl⟩

/-- The int that bytes begin with: the error, the int, how many bytes it takes. -/
def intS (b : List UInt8) : Nat × Int × Nat :=
  match b with
  | [] => (12, 0, 0)
  | c :: r =>
    let many := if 128 ≤ c.toNat then c.toNat - 128 else 127 - c.toNat
    if 8 < many then (3, 0, 0) else
    let q := lowS r many (if 128 ≤ c.toNat then 0 else 255)
    if q.2 ≠ 0 then (q.2, 0, 0) else if 9223372036854775807 < q.1 then (4, 0, 0) else (0, if 128 ≤ c.toNat then (q.1 : Int) else -(q.1 : Int) - 1, 1 + many)

theorem RdInt_off (l : List UInt8) (p e : Nat) (he : e ≠ 0) : ECalls Tryd.prog 33 [Ptr 0] [RdO l p e] fun y H' => H' = [some (RdO l p e)] ∧ y = I .i64 0 := by
  refine ecalls k_RdInt ?_
  simp [c_RdInt, Ptr]
  refine callH [0] (off_ok l p e) (by simp [Ptr]) (by simp [RdO]) (by simp) (by simp) (by simp) ?_
  rintro y H' ⟨rfl, rfl⟩
  refine ⟨.inl rfl, le_ok rfl, ?_⟩
  simp [he, RdO, I]
  exact fin [] (by decide) rfl rfl rfl ⟨rfl, rfl⟩

theorem RdInt_sure : ECalls Tryd.prog 33 [Ptr 0] [RdO [129, 7] 0 0] fun y H' => H' = [some (RdO [129, 7] 2 0)] ∧ y = I .i64 7 := by
  refine ecalls k_RdInt ?_
  simp [c_RdInt, Ptr]
  refine callH [0] (off_ok [129, 7] 0 0) (by simp [Ptr]) (by simp [RdO]) (by simp) (by simp) (by simp) ?_
  rintro y H' ⟨rfl, rfl⟩
  refine ⟨.inl rfl, le_ok rfl, ?_⟩
  simp [RdO]
  refine callH [0] (rest_ok [129, 7] 0 0 (by simp)) (by simp [Ptr]) (by simp [RdO]) (by simp) (by simp) (by simp) ?_
  rintro y H' ⟨rfl, rfl⟩
  refine ⟨.inl rfl, le_ok rfl, ?_⟩
  simp [RdO, Bs, bsv, cb, IntKind.wrap_i64]
  refine callH [0] (low_ok [129, 7] 0 0 1 0 (by simp) (by omega)) (by simp [Ptr, I]) (by simp [RdO, bsv, cb]) (by simp) (by simp) (by simp) ?_
  rintro y H' ⟨rfl, rfl⟩
  refine ⟨.inl rfl, le_ok rfl, ?_⟩
  have hq : lowS ([129, 7].drop (0 + 1)) 1 0 = (7, 0) := by decide
  rw [hq]
  simp [RdO, bsv, cb, IntKind.wrap_i64]
  exact fin [] (by decide) rfl rfl rfl ⟨rfl, rfl⟩

end Go.Proofs.YtpilpjameifcfaaDoor
