import Derived.Test.YtpilpjameifcfaaDoorPEnc2
namespace Go.Proofs.YtpilpjameifcfaaDoor
open Go Go.EW
set_option linter.unusedSimpArgs false

@[simp] def l_digits_1 (_ : Unit) : List EOp := [⟨0, (some 2), none, (.q (.mov (.k (.slice none 0 0)))), []⟩]
@[simp] def b_digits_2 (_ : Unit) : EB := reg0 (hid l_digits_1) 1
@[simp] def l_digits_3 (_ : Unit) : List EOp := [⟨0, (some 3), none, (.q (.mov (.k (.slice none 0 0)))), []⟩]
@[simp] def b_digits_4 (_ : Unit) : EB := reg0 (hid l_digits_3) 1
@[simp] def l_digits_5 (_ : Unit) : List EOp := [⟨0, (some 5), none, (.q (.mov (.t 0))), []⟩, ⟨1, (some 6), none, (.q (.bin .gtr (.t 5) (.k (.int .u64 0)))), []⟩]
@[simp] def b_digits_6 (_ : Unit) : EB := reg0 (hid l_digits_5) 2
@[simp] def b_digits_7 (_ : Unit) : EB := .cond (.t 6) .skip (.exit 0)
@[simp] def b_digits_8 (_ : Unit) : EB := .seq (hid b_digits_6) (hid b_digits_7)
@[simp] def l_digits_9 (_ : Unit) : List EOp := [⟨0, (some 4), none, (.q (.mov (.k (.slice none 0 0)))), []⟩]
@[simp] def b_digits_10 (_ : Unit) : EB := reg0 (hid l_digits_9) 1
@[simp] def l_digits_12 (_ : Unit) : List EOp := [⟨6, (some 13), none, (.q (.mov (.t 3))), []⟩, ⟨7, (some 14), none, (.app 5 1 1 (.t 12) (.t 13)), []⟩, ⟨8, (some 3), none, (.q (.mov (.t 14))), []⟩]
@[simp] def l_digits_11 (_ : Unit) : List EOp := ⟨0, (some 7), none, (.q (.mov (.t 4))), []⟩ :: ⟨1, (some 8), none, (.q (.mov (.t 0))), []⟩ :: ⟨2, (some 9), none, (.q (.bin .rem (.t 8) (.k (.int .u64 256)))), []⟩ :: ⟨3, (some 10), none, (.q (.cnv .u8 (.t 9))), []⟩ :: ⟨4, (some 11), none, (.q (.bsl 1 [(.int .u8 0)] 1 [(0, (.t 10))])), []⟩ :: ⟨5, (some 12), none, (.app 5 1 1 (.t 7) (.t 11)), []⟩ :: hid l_digits_12
@[simp] def b_digits_13 (_ : Unit) : EB := reg0 (hid l_digits_11) 9
@[simp] def l_digits_14 (_ : Unit) : List EOp := [⟨0, (some 15), none, (.q (.mov (.t 0))), []⟩, ⟨1, (some 16), none, (.q (.bin .quo (.t 15) (.k (.int .u64 256)))), []⟩, ⟨2, (some 0), none, (.q (.mov (.t 16))), []⟩]
@[simp] def b_digits_15 (_ : Unit) : EB := reg0 (hid l_digits_14) 3
@[simp] def b_digits_16 (_ : Unit) : EB := .seq (hid b_digits_13) (hid b_digits_15)
@[simp] def b_digits_17 (_ : Unit) : EB := .seq (hid b_digits_10) (hid b_digits_16)
@[simp] def b_digits_18 (_ : Unit) : EB := .block 1 (hid b_digits_17)
@[simp] def b_digits_19 (_ : Unit) : EB := .seq (hid b_digits_8) (hid b_digits_18)
@[simp] def b_digits_20 (_ : Unit) : EB := .loop (hid b_digits_19)
@[simp] def b_digits_21 (_ : Unit) : EB := .block 0 (hid b_digits_20)
@[simp] def l_digits_22 (_ : Unit) : List EOp := [⟨0, (some 17), none, (.q (.mov (.t 3))), []⟩, ⟨1, (some 2), none, (.q (.mov (.t 17))), []⟩]
@[simp] def b_digits_23 (_ : Unit) : EB := reg0 (hid l_digits_22) 2
@[simp] def b_digits_24 (_ : Unit) : EB := .seq (hid b_digits_23) .ret
@[simp] def b_digits_25 (_ : Unit) : EB := .seq (hid b_digits_21) (hid b_digits_24)
@[simp] def b_digits_26 (_ : Unit) : EB := .seq (hid b_digits_4) (hid b_digits_25)
@[simp] def b_digits_27 (_ : Unit) : EB := .seq (hid b_digits_2) (hid b_digits_26)
def c_digits : EB × List QOp × Nat := ((hid b_digits_27), [(.mov (.t 2))], 18)
theorem k_digits : cfun Tryd.prog 71 = some c_digits := by kernel_rfl

@[simp] def l_own_1 (_ : Unit) : List EOp := [⟨0, (some 2), none, (.q (.mov (.k (.slice none 0 0)))), []⟩]
@[simp] def b_own_2 (_ : Unit) : EB := reg0 (hid l_own_1) 1
@[simp] def l_own_3 (_ : Unit) : List EOp := [⟨0, (some 3), none, (.q (.mov (.k (.slice none 0 0)))), []⟩]
@[simp] def b_own_4 (_ : Unit) : EB := reg0 (hid l_own_3) 1
@[simp] def l_own_5 (_ : Unit) : List EOp := [⟨0, (some 4), none, (.q (.mov (.t 3))), []⟩, ⟨1, (some 5), none, (.q (.mov (.t 0))), []⟩, ⟨2, (some 6), none, (.app 5 1 1 (.t 4) (.t 5)), []⟩, ⟨3, (some 2), none, (.q (.mov (.t 6))), []⟩]
@[simp] def b_own_6 (_ : Unit) : EB := reg0 (hid l_own_5) 4
@[simp] def b_own_7 (_ : Unit) : EB := .seq (hid b_own_6) .ret
@[simp] def b_own_8 (_ : Unit) : EB := .seq (hid b_own_4) (hid b_own_7)
@[simp] def b_own_9 (_ : Unit) : EB := .seq (hid b_own_2) (hid b_own_8)
def c_own : EB × List QOp × Nat := ((hid b_own_9), [(.mov (.t 2))], 7)
theorem k_own : cfun Tryd.prog 72 = some c_own := by kernel_rfl

@[simp] def l_RInt_1 (_ : Unit) : List EOp := [⟨0, (some 4), none, (.q (.mov (.k (.slice none 0 0)))), []⟩]
@[simp] def b_RInt_2 (_ : Unit) : EB := reg0 (hid l_RInt_1) 1
@[simp] def l_RInt_3 (_ : Unit) : List EOp := [⟨0, (some 9), none, (.q (.mov (.t 1))), []⟩, ⟨1, (some 10), none, (.q (.bin .geq (.t 9) (.k (.int .i64 0)))), []⟩]
@[simp] def b_RInt_4 (_ : Unit) : EB := reg0 (hid l_RInt_3) 2
@[simp] def l_RInt_5 (_ : Unit) : List EOp := [⟨0, (some 11), none, (.q (.mov (.t 1))), []⟩, ⟨1, (some 12), none, (.q (.cnv .u64 (.t 11))), []⟩, ⟨2, (some 13), none, (.call 71 [(.t 12)]), []⟩, ⟨3, (some 5), none, (.q (.mov (.t 13))), []⟩]
@[simp] def b_RInt_6 (_ : Unit) : EB := reg0 (hid l_RInt_5) 4
@[simp] def l_RInt_8 (_ : Unit) : List EOp := [⟨6, (some 20), none, (.q (.bsl 1 [(.int .u8 0)] 1 [(0, (.t 19))])), []⟩, ⟨7, (some 21), none, (.app 5 1 1 (.t 15) (.t 20)), []⟩, ⟨8, (some 22), none, (.q (.mov (.t 5))), []⟩, ⟨9, (some 23), none, (.app 5 1 1 (.t 21) (.t 22)), []⟩, ⟨10, (some 4), none, (.q (.mov (.t 23))), []⟩]
@[simp] def l_RInt_7 (_ : Unit) : List EOp := ⟨0, (some 14), none, (.q (.mov (.t 0))), []⟩ :: ⟨1, (some 15), none, (.call 72 [(.t 14)]), []⟩ :: ⟨2, (some 16), none, (.q (.mov (.t 5))), []⟩ :: ⟨3, (some 17), none, (.q (.len (.t 16))), []⟩ :: ⟨4, (some 18), none, (.q (.bin .add (.k (.int .i64 128)) (.t 17))), []⟩ :: ⟨5, (some 19), none, (.q (.cnv .u8 (.t 18))), []⟩ :: hid l_RInt_8
@[simp] def b_RInt_9 (_ : Unit) : EB := reg0 (hid l_RInt_7) 11
@[simp] def b_RInt_10 (_ : Unit) : EB := .seq (hid b_RInt_9) .ret
@[simp] def b_RInt_11 (_ : Unit) : EB := .seq (hid b_RInt_6) (hid b_RInt_10)
@[simp] def b_RInt_12 (_ : Unit) : EB := .cond (.t 10) (hid b_RInt_11) .skip
@[simp] def b_RInt_13 (_ : Unit) : EB := .seq (hid b_RInt_4) (hid b_RInt_12)
@[simp] def l_RInt_14 (_ : Unit) : List EOp := [⟨0, (some 24), none, (.q (.mov (.t 1))), []⟩, ⟨1, (some 25), none, (.q (.bin .add (.t 24) (.k (.int .i64 1)))), []⟩, ⟨2, (some 26), none, (.q (.un .neg (.t 25))), []⟩, ⟨3, (some 27), none, (.q (.cnv .u64 (.t 26))), []⟩, ⟨4, (some 28), none, (.call 71 [(.t 27)]), []⟩, ⟨5, (some 6), none, (.q (.mov (.t 28))), []⟩]
@[simp] def b_RInt_15 (_ : Unit) : EB := reg0 (hid l_RInt_14) 6
@[simp] def l_RInt_17 (_ : Unit) : List EOp := [⟨6, (some 35), none, (.q (.bsl 1 [(.int .u8 0)] 1 [(0, (.t 34))])), []⟩, ⟨7, (some 36), none, (.app 5 1 1 (.t 30) (.t 35)), []⟩, ⟨8, (some 7), none, (.q (.mov (.t 36))), []⟩]
@[simp] def l_RInt_16 (_ : Unit) : List EOp := ⟨0, (some 29), none, (.q (.mov (.t 0))), []⟩ :: ⟨1, (some 30), none, (.call 72 [(.t 29)]), []⟩ :: ⟨2, (some 31), none, (.q (.mov (.t 6))), []⟩ :: ⟨3, (some 32), none, (.q (.len (.t 31))), []⟩ :: ⟨4, (some 33), none, (.q (.bin .sub (.k (.int .i64 127)) (.t 32))), []⟩ :: ⟨5, (some 34), none, (.q (.cnv .u8 (.t 33))), []⟩ :: hid l_RInt_17
@[simp] def b_RInt_18 (_ : Unit) : EB := reg0 (hid l_RInt_16) 9
@[simp] def l_RInt_19 (_ : Unit) : List EOp := [⟨0, (some 8), none, (.q (.mov (.k (.int .i64 0)))), []⟩]
@[simp] def b_RInt_20 (_ : Unit) : EB := reg0 (hid l_RInt_19) 1
@[simp] def l_RInt_21 (_ : Unit) : List EOp := [⟨0, (some 37), none, (.q (.mov (.t 8))), []⟩, ⟨1, (some 38), none, (.q (.mov (.t 6))), []⟩, ⟨2, (some 39), none, (.q (.len (.t 38))), []⟩, ⟨3, (some 40), none, (.q (.bin .lss (.t 37) (.t 39))), []⟩]
@[simp] def b_RInt_22 (_ : Unit) : EB := reg0 (hid l_RInt_21) 4
@[simp] def b_RInt_23 (_ : Unit) : EB := .cond (.t 40) .skip (.exit 0)
@[simp] def b_RInt_24 (_ : Unit) : EB := .seq (hid b_RInt_22) (hid b_RInt_23)
@[simp] def l_RInt_26 (_ : Unit) : List EOp := [⟨6, (some 49), none, (.q (.bsl 1 [(.int .u8 0)] 1 [(0, (.t 48))])), []⟩, ⟨7, (some 50), none, (.app 5 1 1 (.t 43) (.t 49)), []⟩, ⟨8, (some 7), none, (.q (.mov (.t 50))), []⟩]
@[simp] def l_RInt_25 (_ : Unit) : List EOp := ⟨0, (some 43), none, (.q (.mov (.t 7))), []⟩ :: ⟨1, (some 44), none, (.q (.mov (.t 6))), []⟩ :: ⟨2, (some 45), none, (.q (.mov (.t 8))), []⟩ :: ⟨3, (some 46), none, (.q (.isl 1 (.t 44) (.t 45))), []⟩ :: ⟨4, (some 47), none, (.q (.ldc (.t 46))), []⟩ :: ⟨5, (some 48), none, (.q (.bin .sub (.k (.int .u8 255)) (.t 47))), []⟩ :: hid l_RInt_26
@[simp] def b_RInt_27 (_ : Unit) : EB := reg0 (hid l_RInt_25) 9
@[simp] def b_RInt_28 (_ : Unit) : EB := .block 1 (hid b_RInt_27)
@[simp] def l_RInt_29 (_ : Unit) : List EOp := [⟨0, (some 41), none, (.q (.mov (.t 8))), []⟩, ⟨1, (some 42), none, (.q (.bin .add (.t 41) (.k (.int .i64 1)))), []⟩, ⟨2, (some 8), none, (.q (.mov (.t 42))), []⟩]
@[simp] def b_RInt_30 (_ : Unit) : EB := reg0 (hid l_RInt_29) 3
@[simp] def b_RInt_31 (_ : Unit) : EB := .seq (hid b_RInt_28) (hid b_RInt_30)
@[simp] def b_RInt_32 (_ : Unit) : EB := .seq (hid b_RInt_24) (hid b_RInt_31)
@[simp] def b_RInt_33 (_ : Unit) : EB := .loop (hid b_RInt_32)
@[simp] def b_RInt_34 (_ : Unit) : EB := .block 0 (hid b_RInt_33)
@[simp] def b_RInt_35 (_ : Unit) : EB := .seq (hid b_RInt_20) (hid b_RInt_34)
@[simp] def l_RInt_36 (_ : Unit) : List EOp := [⟨0, (some 51), none, (.q (.mov (.t 7))), []⟩, ⟨1, (some 4), none, (.q (.mov (.t 51))), []⟩]
@[simp] def b_RInt_37 (_ : Unit) : EB := reg0 (hid l_RInt_36) 2
@[simp] def b_RInt_38 (_ : Unit) : EB := .seq (hid b_RInt_37) .ret
@[simp] def b_RInt_39 (_ : Unit) : EB := .seq (hid b_RInt_35) (hid b_RInt_38)
@[simp] def b_RInt_40 (_ : Unit) : EB := .seq (hid b_RInt_18) (hid b_RInt_39)
@[simp] def b_RInt_41 (_ : Unit) : EB := .seq (hid b_RInt_15) (hid b_RInt_40)
@[simp] def b_RInt_42 (_ : Unit) : EB := .seq (hid b_RInt_13) (hid b_RInt_41)
@[simp] def b_RInt_43 (_ : Unit) : EB := .seq (hid b_RInt_2) (hid b_RInt_42)
def c_RInt : EB × List QOp × Nat := ((hid b_RInt_43), [(.mov (.t 4))], 52)
theorem k_RInt : cfun Tryd.prog 42 = some c_RInt := by kernel_rfl

@[simp] def l_RBytes_1 (_ : Unit) : List EOp := [⟨0, (some 4), none, (.q (.mov (.k (.slice none 0 0)))), []⟩]
@[simp] def b_RBytes_2 (_ : Unit) : EB := reg0 (hid l_RBytes_1) 1
@[simp] def l_RBytes_3 (_ : Unit) : List EOp := [⟨0, (some 7), none, (.q (.mov (.t 0))), []⟩, ⟨1, (some 8), none, (.call 72 [(.t 7)]), []⟩, ⟨2, (some 5), none, (.q (.mov (.t 8))), []⟩]
@[simp] def b_RBytes_4 (_ : Unit) : EB := reg0 (hid l_RBytes_3) 3
@[simp] def l_RBytes_5 (_ : Unit) : List EOp := [⟨0, (some 6), none, (.q (.mov (.k (.int .i64 0)))), []⟩]
@[simp] def b_RBytes_6 (_ : Unit) : EB := reg0 (hid l_RBytes_5) 1
@[simp] def l_RBytes_7 (_ : Unit) : List EOp := [⟨0, (some 9), none, (.q (.mov (.t 6))), []⟩, ⟨1, (some 10), none, (.q (.mov (.t 1))), []⟩, ⟨2, (some 11), none, (.q (.len (.t 10))), []⟩, ⟨3, (some 12), none, (.q (.bin .lss (.t 9) (.t 11))), []⟩]
@[simp] def b_RBytes_8 (_ : Unit) : EB := reg0 (hid l_RBytes_7) 4
@[simp] def b_RBytes_9 (_ : Unit) : EB := .cond (.t 12) .skip (.exit 0)
@[simp] def b_RBytes_10 (_ : Unit) : EB := .seq (hid b_RBytes_8) (hid b_RBytes_9)
@[simp] def l_RBytes_12 (_ : Unit) : List EOp := [⟨6, (some 21), none, (.app 5 1 1 (.t 15) (.t 20)), []⟩, ⟨7, (some 5), none, (.q (.mov (.t 21))), []⟩]
@[simp] def l_RBytes_11 (_ : Unit) : List EOp := ⟨0, (some 15), none, (.q (.mov (.t 5))), []⟩ :: ⟨1, (some 16), none, (.q (.mov (.t 1))), []⟩ :: ⟨2, (some 17), none, (.q (.mov (.t 6))), []⟩ :: ⟨3, (some 18), none, (.q (.isl 1 (.t 16) (.t 17))), []⟩ :: ⟨4, (some 19), none, (.q (.ldc (.t 18))), []⟩ :: ⟨5, (some 20), none, (.q (.bsl 1 [(.int .u8 0)] 1 [(0, (.t 19))])), []⟩ :: hid l_RBytes_12
@[simp] def b_RBytes_13 (_ : Unit) : EB := reg0 (hid l_RBytes_11) 8
@[simp] def l_RBytes_14 (_ : Unit) : List EOp := [⟨0, (some 22), none, (.q (.mov (.t 1))), []⟩, ⟨1, (some 23), none, (.q (.mov (.t 6))), []⟩, ⟨2, (some 24), none, (.q (.isl 1 (.t 22) (.t 23))), []⟩, ⟨3, (some 25), none, (.q (.ldc (.t 24))), []⟩, ⟨4, (some 26), none, (.q (.bin .eql (.t 25) (.k (.int .u8 0)))), []⟩]
@[simp] def b_RBytes_15 (_ : Unit) : EB := reg0 (hid l_RBytes_14) 5
@[simp] def l_RBytes_16 (_ : Unit) : List EOp := [⟨0, (some 27), none, (.q (.mov (.t 5))), []⟩, ⟨1, (some 28), none, (.q (.bsl 1 [(.int .u8 0)] 1 [(0, (.k (.int .u8 255)))])), []⟩, ⟨2, (some 29), none, (.app 5 1 1 (.t 27) (.t 28)), []⟩, ⟨3, (some 5), none, (.q (.mov (.t 29))), []⟩]
@[simp] def b_RBytes_17 (_ : Unit) : EB := reg0 (hid l_RBytes_16) 4
@[simp] def b_RBytes_18 (_ : Unit) : EB := .cond (.t 26) (hid b_RBytes_17) .skip
@[simp] def b_RBytes_19 (_ : Unit) : EB := .seq (hid b_RBytes_15) (hid b_RBytes_18)
@[simp] def b_RBytes_20 (_ : Unit) : EB := .seq (hid b_RBytes_13) (hid b_RBytes_19)
@[simp] def b_RBytes_21 (_ : Unit) : EB := .block 1 (hid b_RBytes_20)
@[simp] def l_RBytes_22 (_ : Unit) : List EOp := [⟨0, (some 13), none, (.q (.mov (.t 6))), []⟩, ⟨1, (some 14), none, (.q (.bin .add (.t 13) (.k (.int .i64 1)))), []⟩, ⟨2, (some 6), none, (.q (.mov (.t 14))), []⟩]
@[simp] def b_RBytes_23 (_ : Unit) : EB := reg0 (hid l_RBytes_22) 3
@[simp] def b_RBytes_24 (_ : Unit) : EB := .seq (hid b_RBytes_21) (hid b_RBytes_23)
@[simp] def b_RBytes_25 (_ : Unit) : EB := .seq (hid b_RBytes_10) (hid b_RBytes_24)
@[simp] def b_RBytes_26 (_ : Unit) : EB := .loop (hid b_RBytes_25)
@[simp] def b_RBytes_27 (_ : Unit) : EB := .block 0 (hid b_RBytes_26)
@[simp] def b_RBytes_28 (_ : Unit) : EB := .seq (hid b_RBytes_6) (hid b_RBytes_27)
@[simp] def l_RBytes_29 (_ : Unit) : List EOp := [⟨0, (some 30), none, (.q (.mov (.t 5))), []⟩, ⟨1, (some 31), none, (.q (.bsl 1 [(.int .u8 0)] 2 [(0, (.k (.int .u8 0))), (1, (.k (.int .u8 0)))])), []⟩, ⟨2, (some 32), none, (.app 5 1 1 (.t 30) (.t 31)), []⟩, ⟨3, (some 4), none, (.q (.mov (.t 32))), []⟩]
@[simp] def b_RBytes_30 (_ : Unit) : EB := reg0 (hid l_RBytes_29) 4
@[simp] def b_RBytes_31 (_ : Unit) : EB := .seq (hid b_RBytes_30) .ret
@[simp] def b_RBytes_32 (_ : Unit) : EB := .seq (hid b_RBytes_28) (hid b_RBytes_31)
@[simp] def b_RBytes_33 (_ : Unit) : EB := .seq (hid b_RBytes_4) (hid b_RBytes_32)
@[simp] def b_RBytes_34 (_ : Unit) : EB := .seq (hid b_RBytes_2) (hid b_RBytes_33)
def c_RBytes : EB × List QOp × Nat := ((hid b_RBytes_34), [(.mov (.t 4))], 33)
theorem k_RBytes : cfun Tryd.prog 43 = some c_RBytes := by kernel_rfl

@[simp] def l_RHash_1 (_ : Unit) : List EOp := [⟨0, (some 3), none, (.q (.box 28 (.t 1))), []⟩, ⟨1, (some 4), none, (.q (.mov (.k (.slice none 0 0)))), []⟩]
@[simp] def b_RHash_2 (_ : Unit) : EB := reg0 (hid l_RHash_1) 2
@[simp] def l_RHash_3 (_ : Unit) : List EOp := [⟨0, (some 5), none, (.q (.mov (.t 0))), []⟩, ⟨2, (some 7), none, (.q (.sar 32 (.t 3) none none)), []⟩, ⟨1, (some 6), none, (.call 72 [(.t 5)]), [2]⟩, ⟨3, (some 8), none, (.app 5 1 1 (.t 6) (.t 7)), []⟩, ⟨4, (some 4), none, (.q (.mov (.t 8))), []⟩]
@[simp] def b_RHash_4 (_ : Unit) : EB := reg1 (hid l_RHash_3) 5
@[simp] def b_RHash_5 (_ : Unit) : EB := .seq (hid b_RHash_4) .ret
@[simp] def b_RHash_6 (_ : Unit) : EB := .seq (hid b_RHash_2) (hid b_RHash_5)
def c_RHash : EB × List QOp × Nat := ((hid b_RHash_6), [(.mov (.t 4))], 9)
theorem k_RHash : cfun Tryd.prog 44 = some c_RHash := by kernel_rfl


theorem digits_ok (n : Nat) (h : n < 18446744073709551616) : ECalls Tryd.prog 71 [I .u64 n] [] fun y H' => H' = [some (RO (dg n))] ∧ y = R 0 (dg n) := by
  refine ecalls k_digits ?_
  simp [c_digits, I]
  refine loopW _ (weak_nilR 3 5 1 rfl (by omega)) ?_
  refine eloop (α := Nat × List UInt8) (fun a => a.1 < 18446744073709551616 ∧ a.2.length ≤ 8 ∧ dg a.1 ++ a.2 = dg n) (fun a => a.1)
    (fun a => [I .u64 a.1, .any, .any, R 0 a.2, .any, .any, .any, .any, .any, .any, .any, .any, .any, .any, .any, .any, .any, .any]) (fun a => [some (RO a.2)]) (n, []) [32] ⟨h, by simp, by simp⟩ (by simp [R, I]) (by simp [RO]) (by simp) (by simp) (by simp) ?_
  rintro ⟨k, ds⟩ ⟨hk, hdl, hds⟩
  simp [I, R, RO] at hk hdl hds ⊢
  refine alt (fun hp => ?_) (fun hp => ?_)
  · have h8 := nb_8 h
    have hst := dg_step (n := k) (by omega)
    have hl := congrArg List.length hds
    rw [hst] at hds hl
    simp [dg_len] at hl
    have w1 : IntKind.u8.wrap ((k : Int).tmod 256) = ((b8 k).toNat : Int) := by
      rw [Int.tmod_eq_emod_of_nonneg (by omega), IntKind.wrap_u8, b8_nat]; omega
    have w2 : IntKind.u64.wrap ((k : Int) / 256) = ((k / 256 : Nat) : Int) := by
      rw [wrap_u64 (by omega) (by omega)]; rfl
    simp [w1, w2, -Int.natCast_ediv]
    exact ⟨by omega, round (k / 256, b8 k :: ds) [161] ⟨by simp; omega, by simp; omega, by simpa using hds⟩ (by simp; omega) (by simp; omega) (by simp [bsv, cb]) (by simp) (by simp) (by simp)⟩
  · have : k = 0 := by omega
    subst this
    simp [dg_zero] at hds
    subst hds
    simp
    exact fin [0] (by decide) rfl rfl rfl ⟨rfl, rfl⟩

theorem own_ok (b : List UInt8) (hb : b.length ≤ 1000000000) : ECalls Tryd.prog 72 [Bs b] [] fun y H' => H' = [some (RO b)] ∧ y = R 0 b := by
  refine ecalls k_own ?_
  simp [c_own, Bs]
  exact ⟨by omega, fin [64] (by decide) rfl rfl rfl ⟨rfl, rfl⟩⟩

theorem RInt_ok (b : List UInt8) (n : Int) (h0 : -9223372036854775808 ≤ n) (h1 : n ≤ 9223372036854775807) (hb : b.length ≤ 900000000) : ECalls Tryd.prog 42 [Bs b, I .i64 n] [] fun y H' => H' = [some (RO (b ++ intB n))] ∧ y = R 0 (b ++ intB n) := by
  refine ecalls k_RInt ?_
  simp [c_RInt, I, Bs]
  refine alt (fun hn => ?_) (fun hn => ?_)
  · obtain ⟨u, rfl⟩ : ∃ u : Nat, n = u := ⟨n.toNat, by omega⟩
    have h8 := nb_8 (show u < 18446744073709551616 by omega)
    have hi : intB (u : Int) = b8 (128 + nb u) :: dg u := by rw [intB, if_neg (by omega)]; simp
    simp (disch := omega) [wrap_u64]
    refine call0 (digits_ok u (by omega)) rfl ?_
    rintro y H' ⟨rfl, rfl⟩
    refine ⟨.inl rfl, le_ok rfl, ?_⟩
    simp [R, RO]
    refine call0 (own_ok b (by omega)) rfl ?_
    rintro y H' ⟨rfl, rfl⟩
    refine ⟨.inl rfl, le_ok rfl, ?_⟩
    have hk : IntKind.u8.wrap ((128 : Int) + (nb u : Int)) = ((b8 (128 + nb u)).toNat : Int) := by rw [← wrap_u8_nat]; rfl
    have ht : (dg u).take (nb u) = dg u := List.take_of_length_le (by simp [dg_len])
    simp (disch := omega) [R, RO, dg_len, wrap_i64, hk, ht]
    exact ⟨by omega, by omega, fin [256] (by decide) rfl rfl rfl ⟨by simp [hi, dg_len, bsv, cb], by simp [hi, dg_len]; omega⟩⟩
  · obtain ⟨u, hu⟩ : ∃ u : Nat, -1 - n = u := ⟨(-1 - n).toNat, by omega⟩
    have hu' : (-n - 1).toNat = u := by omega
    have h8 := nb_8 (show u < 18446744073709551616 by omega)
    have hi : intB n = b8 (127 - nb u) :: (dg u).map (· ^^^ 255) := by rw [intB, if_pos (by omega), hu']
    have e1 : -(n + 1) = (u : Int) := by omega
    simp (disch := omega) [wrap_i64, wrap_u64, e1]
    refine call0 (digits_ok u (by omega)) rfl ?_
    rintro y H' ⟨rfl, rfl⟩
    refine ⟨.inl rfl, le_ok rfl, ?_⟩
    simp [R, RO]
    refine call0 (own_ok b (by omega)) rfl ?_
    rintro y H' ⟨rfl, rfl⟩
    refine ⟨.inl rfl, le_ok rfl, ?_⟩
    have hdl := dg_len u
    have hk : IntKind.u8.wrap (127 - ((dg u).length : Int)) = ((b8 (127 - nb u)).toNat : Int) := by rw [← wrap_u8_nat]; congr 1; omega
    simp (disch := omega) [R, RO, wrap_i64, hk]
    refine ⟨by omega, ?_⟩
    refine eloop (α := Nat) (fun i => i ≤ (dg u).length) (fun i => (dg u).length - i)
      (fun i => [.any, .any, .any, .any, .any, .any, R 0 (dg u), R 1 (b ++ b8 (127 - nb u) :: ((dg u).map (· ^^^ 255)).take i), I .i64 i, .any, .any, .any, .any, .any, .any, .any, .any, .any, .any, .any, .any, .any, .any, .any, .any, .any, .any, .any, .any, .any, .any, .any, .any, .any, .any, .any, .any, .any, .any, .any, .any, .any, .any, .any, .any, .any, .any, .any, .any, .any, .any, .any]) (fun i => [some (RO (dg u)), some (RO (b ++ b8 (127 - nb u) :: ((dg u).map (· ^^^ 255)).take i))]) 0 [112, 256]
      (by simp) (by simp [R, I]) (by simp [RO, bsv, cb]) (by simp) (by simp) (by simp) ?_
    intro i hi'
    simp [R, RO, I]
    refine alt (fun hp => ?_) (fun hp => ?_)
    · obtain ⟨c, hc⟩ : ∃ c, (dg u)[i]? = some c := ⟨(dg u)[i], by simp [hp]⟩
      have hcb : (bsv (dg u))[i]? = some (cb c) := by simp [bsv, hc]
      have hts := take_snoc (l := (dg u).map (· ^^^ 255)) (i := i) (c := c ^^^ 255) (by simp [hc])
      have w1 : IntKind.i64.wrap ((i : Int) + 1) = ((i + 1 : Nat) : Int) := wrap_i64 (by omega) (by omega)
      simp [hcb, cb, sub255, w1, -Int.natCast_add]
      refine ⟨by omega, by omega, round (i + 1) [0, 178] (by omega) (by omega) ?_ ?_ (by simp) (by simp) (by simp)⟩
      · simp; omega
      · simp [hts, bsv, cb]
    · have : i = (dg u).length := by omega
      subst this
      have ht : ((dg u).map (· ^^^ 255)).take (dg u).length = (dg u).map (· ^^^ 255) := List.take_of_length_le (by simp)
      simp
      exact fin [1] (by decide) rfl rfl rfl ⟨by rw [ht, hi], by simp [hi]⟩

theorem RBytes_ok (b l : List UInt8) (hb : b.length ≤ 900000000) (hl : l.length ≤ 10000000) : ECalls Tryd.prog 43 [Bs b, Bs l] [] fun y H' => H' = [some (RO (b ++ bytesB l))] ∧ y = R 0 (b ++ bytesB l) := by
  refine ecalls k_RBytes ?_
  simp [c_RBytes, Bs]
  refine call0 (own_ok b (by omega)) rfl ?_
  rintro y H' ⟨rfl, rfl⟩
  refine ⟨.inl rfl, le_ok rfl, ?_⟩
  simp [R, RO]
  refine eloop (α := Nat) (fun i => i ≤ l.length) (fun i => l.length - i)
    (fun i => [.any, Bs l, .any, .any, .any, R 0 (b ++ stuffB (l.take i)), I .i64 i, .any, .any, .any, .any, .any, .any, .any, .any, .any, .any, .any, .any, .any, .any, .any, .any, .any, .any, .any, .any, .any, .any, .any, .any, .any, .any]) (fun i => [some (RO (b ++ stuffB (l.take i)))]) 0 [32]
    (Nat.zero_le _) (by simp [Bs, I, R, stuffB]) (by simp [RO, stuffB]) (by simp) (by simp) (by simp) ?_
  intro i hi
  have hle := stuff_len (l.take i)
  have hlt : (l.take i).length = i := by simp; omega
  simp [I, Bs, R, RO]
  refine alt (fun hp => ?_) (fun hp => ?_)
  · obtain ⟨c, hc⟩ : ∃ c, l[i]? = some c := ⟨l[i], by simp [hp]⟩
    have hcb : (bsv l)[i]? = some (cb c) := by simp [bsv, hc]
    have hts := take_snoc hc
    have w1 : IntKind.i64.wrap ((i : Int) + 1) = ((i + 1 : Nat) : Int) := wrap_i64 (by omega) (by omega)
    simp [hcb, cb]
    refine ⟨by omega, alt (fun hz => ?_) (fun hz => ?_)⟩
    · have hc0 : c = 0 := by apply UInt8.toNat_inj.1; simpa using hz
      have hst : stuffB (l.take (i + 1)) = stuffB (l.take i) ++ [0, 255] := by rw [hts, stuff_snoc, if_pos hc0]
      simp [w1, -Int.natCast_add]
      refine ⟨by omega, round (i + 1) [305] (by omega) (by omega) ?_ ?_ (by simp) (by simp) (by simp)⟩
      · simp [hst]; omega
      · subst hc0; simp [hst, bsv, cb]
    · have hc0 : c ≠ 0 := by rintro rfl; exact hz rfl
      have hst : stuffB (l.take (i + 1)) = stuffB (l.take i) ++ [c] := by rw [hts, stuff_snoc, if_neg hc0]
      simp [w1, -Int.natCast_add]
      refine round (i + 1) [161] (by omega) (by omega) ?_ ?_ (by simp) (by simp) (by simp)
      · simp [hst]; omega
      · simp [hst, bsv, cb]
  · have hil : i = l.length := by omega
    subst hil
    simp at hle
    simp
    exact ⟨by omega, fin [97] (by decide) rfl rfl rfl ⟨by simp [bytesB, bsv, cb], by simp [bytesB]; omega⟩⟩

theorem RHash_ok (b h : List UInt8) (hb : b.length ≤ 900000000) (hl : h.length = 32) : ECalls Tryd.prog 44 [Bs b, Ag h] [] fun y H' => H' = [some (RO (b ++ h))] ∧ y = R 0 (b ++ h) := by
  refine ecalls k_RHash ?_
  have ht : h.take 32 = h := List.take_of_length_le (by omega)
  simp [c_RHash, Bs, Ag, ht]
  refine call0 (own_ok b (by omega)) rfl ?_
  rintro y H' ⟨rfl, rfl⟩
  refine ⟨.inl rfl, le_ok rfl, ?_⟩
  simp [R, RO, ht]
  exact ⟨by omega, by omega, fin [80] (by decide) rfl rfl rfl ⟨by simp, by simp⟩⟩

end Go.Proofs.YtpilpjameifcfaaDoor
