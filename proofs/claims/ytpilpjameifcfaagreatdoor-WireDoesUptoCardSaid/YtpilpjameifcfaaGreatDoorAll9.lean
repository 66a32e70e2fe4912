import Derived.Test.YtpilpjameifcfaaGreatDoorAll8
import Derived.Test.YtpilpjameifcfaaGreatDoorProg
import Derived.Test.YtpilpjameifcfaaGreatDoorAll5
namespace Go.Proofs.YtpilpjameifcfaaGreatDoor
open Go Go.EW
set_option linter.unusedSimpArgs false
set_option linter.unusedVariables false

@[simp] def l_CmpI_1 (_ : Unit) : List EOp := [⟨0, (some 4), none, (.q (.mov (.k (.int .i64 0)))), []⟩]
@[simp] def b_CmpI_2 (_ : Unit) : EB := reg0 (hid l_CmpI_1) 1
@[simp] def l_CmpI_3 (_ : Unit) : List EOp := [⟨0, (some 7), none, (.q (.mov (.t 0))), []⟩, ⟨1, (some 8), none, (.call 109 [(.t 7)]), []⟩, ⟨2, (some 5), none, (.q (.mov (.t 8))), []⟩]
@[simp] def b_CmpI_4 (_ : Unit) : EB := reg0 (hid l_CmpI_3) 3
@[simp] def l_CmpI_5 (_ : Unit) : List EOp := [⟨0, (some 9), none, (.q (.mov (.t 1))), []⟩, ⟨1, (some 10), none, (.call 109 [(.t 9)]), []⟩, ⟨2, (some 6), none, (.q (.mov (.t 10))), []⟩]
@[simp] def b_CmpI_6 (_ : Unit) : EB := reg0 (hid l_CmpI_5) 3
@[simp] def l_CmpI_7 (_ : Unit) : List EOp := [⟨0, (some 11), none, (.q (.mov (.t 5))), []⟩]
@[simp] def b_CmpI_8 (_ : Unit) : EB := reg0 (hid l_CmpI_7) 1
@[simp] def l_CmpI_9 (_ : Unit) : List EOp := [⟨0, (some 12), none, (.q (.mov (.t 6))), []⟩]
@[simp] def b_CmpI_10 (_ : Unit) : EB := reg0 (hid l_CmpI_9) 1
@[simp] def l_CmpI_11 (_ : Unit) : List EOp := [⟨0, (some 4), none, (.q (.mov (.k (.int .i64 0)))), []⟩]
@[simp] def b_CmpI_12 (_ : Unit) : EB := reg0 (hid l_CmpI_11) 1
@[simp] def b_CmpI_13 (_ : Unit) : EB := .seq (hid b_CmpI_12) .ret
@[simp] def b_CmpI_14 (_ : Unit) : EB := .cond (.t 12) (hid b_CmpI_13) .skip
@[simp] def b_CmpI_15 (_ : Unit) : EB := .seq (hid b_CmpI_10) (hid b_CmpI_14)
@[simp] def l_CmpI_16 (_ : Unit) : List EOp := [⟨0, (some 4), none, (.q (.mov (.k (.int .i64 (-1))))), []⟩]
@[simp] def b_CmpI_17 (_ : Unit) : EB := reg0 (hid l_CmpI_16) 1
@[simp] def b_CmpI_18 (_ : Unit) : EB := .seq (hid b_CmpI_17) .ret
@[simp] def b_CmpI_19 (_ : Unit) : EB := .seq (hid b_CmpI_15) (hid b_CmpI_18)
@[simp] def b_CmpI_20 (_ : Unit) : EB := .cond (.t 11) (hid b_CmpI_19) .skip
@[simp] def b_CmpI_21 (_ : Unit) : EB := .seq (hid b_CmpI_8) (hid b_CmpI_20)
@[simp] def l_CmpI_22 (_ : Unit) : List EOp := [⟨0, (some 13), none, (.q (.mov (.t 6))), []⟩]
@[simp] def b_CmpI_23 (_ : Unit) : EB := reg0 (hid l_CmpI_22) 1
@[simp] def l_CmpI_24 (_ : Unit) : List EOp := [⟨0, (some 4), none, (.q (.mov (.k (.int .i64 1)))), []⟩]
@[simp] def b_CmpI_25 (_ : Unit) : EB := reg0 (hid l_CmpI_24) 1
@[simp] def b_CmpI_26 (_ : Unit) : EB := .seq (hid b_CmpI_25) .ret
@[simp] def b_CmpI_27 (_ : Unit) : EB := .cond (.t 13) (hid b_CmpI_26) .skip
@[simp] def b_CmpI_28 (_ : Unit) : EB := .seq (hid b_CmpI_23) (hid b_CmpI_27)
@[simp] def l_CmpI_29 (_ : Unit) : List EOp := [⟨0, (some 14), none, (.q (.mov (.t 0))), []⟩, ⟨1, (some 15), none, (.q (.mov (.t 1))), []⟩, ⟨2, (some 16), none, (.q (.bin .lss (.t 14) (.t 15))), []⟩]
@[simp] def b_CmpI_30 (_ : Unit) : EB := reg0 (hid l_CmpI_29) 3
@[simp] def l_CmpI_31 (_ : Unit) : List EOp := [⟨0, (some 4), none, (.q (.mov (.k (.int .i64 (-1))))), []⟩]
@[simp] def b_CmpI_32 (_ : Unit) : EB := reg0 (hid l_CmpI_31) 1
@[simp] def b_CmpI_33 (_ : Unit) : EB := .seq (hid b_CmpI_32) .ret
@[simp] def b_CmpI_34 (_ : Unit) : EB := .cond (.t 16) (hid b_CmpI_33) .skip
@[simp] def b_CmpI_35 (_ : Unit) : EB := .seq (hid b_CmpI_30) (hid b_CmpI_34)
@[simp] def l_CmpI_36 (_ : Unit) : List EOp := [⟨0, (some 17), none, (.q (.mov (.t 0))), []⟩, ⟨1, (some 18), none, (.q (.mov (.t 1))), []⟩, ⟨2, (some 19), none, (.q (.bin .gtr (.t 17) (.t 18))), []⟩]
@[simp] def b_CmpI_37 (_ : Unit) : EB := reg0 (hid l_CmpI_36) 3
@[simp] def l_CmpI_38 (_ : Unit) : List EOp := [⟨0, (some 4), none, (.q (.mov (.k (.int .i64 1)))), []⟩]
@[simp] def b_CmpI_39 (_ : Unit) : EB := reg0 (hid l_CmpI_38) 1
@[simp] def b_CmpI_40 (_ : Unit) : EB := .seq (hid b_CmpI_39) .ret
@[simp] def b_CmpI_41 (_ : Unit) : EB := .cond (.t 19) (hid b_CmpI_40) .skip
@[simp] def b_CmpI_42 (_ : Unit) : EB := .seq (hid b_CmpI_37) (hid b_CmpI_41)
@[simp] def l_CmpI_43 (_ : Unit) : List EOp := [⟨0, (some 4), none, (.q (.mov (.k (.int .i64 0)))), []⟩]
@[simp] def b_CmpI_44 (_ : Unit) : EB := reg0 (hid l_CmpI_43) 1
@[simp] def b_CmpI_45 (_ : Unit) : EB := .seq (hid b_CmpI_44) .ret
@[simp] def b_CmpI_46 (_ : Unit) : EB := .seq (hid b_CmpI_42) (hid b_CmpI_45)
@[simp] def b_CmpI_47 (_ : Unit) : EB := .seq (hid b_CmpI_35) (hid b_CmpI_46)
@[simp] def b_CmpI_48 (_ : Unit) : EB := .seq (hid b_CmpI_28) (hid b_CmpI_47)
@[simp] def b_CmpI_49 (_ : Unit) : EB := .seq (hid b_CmpI_21) (hid b_CmpI_48)
@[simp] def b_CmpI_50 (_ : Unit) : EB := .seq (hid b_CmpI_6) (hid b_CmpI_49)
@[simp] def b_CmpI_51 (_ : Unit) : EB := .seq (hid b_CmpI_4) (hid b_CmpI_50)
@[simp] def b_CmpI_52 (_ : Unit) : EB := .seq (hid b_CmpI_2) (hid b_CmpI_51)
def c_CmpI : EB × List QOp × Nat := ((hid b_CmpI_52), [(.mov (.t 4))], 20)
theorem k_CmpI : cfun Tryz.prog 97 = some c_CmpI := by kernel_rfl

@[simp] def l_NaNI_1 (_ : Unit) : List EOp := [⟨0, (some 2), none, (.q (.mov (.k (.bool false)))), []⟩]
@[simp] def b_NaNI_2 (_ : Unit) : EB := reg0 (hid l_NaNI_1) 1
@[simp] def l_NaNI_3 (_ : Unit) : List EOp := [⟨0, (some 3), none, (.q (.mov (.t 0))), []⟩, ⟨1, (some 4), none, (.q (.mov (.t 0))), []⟩, ⟨2, (some 5), none, (.q (.bin .neq (.t 3) (.t 4))), []⟩, ⟨3, (some 2), none, (.q (.mov (.t 5))), []⟩]
@[simp] def b_NaNI_4 (_ : Unit) : EB := reg0 (hid l_NaNI_3) 4
@[simp] def b_NaNI_5 (_ : Unit) : EB := .seq (hid b_NaNI_4) .ret
@[simp] def b_NaNI_6 (_ : Unit) : EB := .seq (hid b_NaNI_2) (hid b_NaNI_5)
def c_NaNI : EB × List QOp × Nat := ((hid b_NaNI_6), [(.mov (.t 2))], 6)
theorem k_NaNI : cfun Tryz.prog 109 = some c_NaNI := by kernel_rfl

@[simp] def l_byPay_1 (_ : Unit) : List EOp := [⟨0, (some 2), none, (.q (.box 45 (.t 0))), []⟩, ⟨1, (some 4), none, (.q (.mov (.k (.int .i64 0)))), []⟩]
@[simp] def b_byPay_2 (_ : Unit) : EB := reg0 (hid l_byPay_1) 2
@[simp] def l_byPay_3 (_ : Unit) : List EOp := [⟨0, (some 5), none, (.q (.fad 0 (.t 2))), []⟩, ⟨1, (some 6), none, (.q (.ldc (.t 5))), []⟩, ⟨2, (some 7), none, (.q (.mov (.t 1))), []⟩, ⟨3, (some 8), none, (.call 97 [(.t 6), (.t 7)]), []⟩, ⟨4, (some 4), none, (.q (.mov (.t 8))), []⟩]
@[simp] def b_byPay_4 (_ : Unit) : EB := reg0 (hid l_byPay_3) 5
@[simp] def b_byPay_5 (_ : Unit) : EB := .seq (hid b_byPay_4) .ret
@[simp] def b_byPay_6 (_ : Unit) : EB := .seq (hid b_byPay_2) (hid b_byPay_5)
def c_byPay : EB × List QOp × Nat := ((hid b_byPay_6), [(.mov (.t 4))], 9)
theorem k_byPay : cfun Tryz.prog 59 = some c_byPay := by kernel_rfl

@[simp] def l_BinP_1 (_ : Unit) : List EOp := [⟨0, (some 6), none, (.q (.mov (.k (.int .i64 0)))), []⟩, ⟨1, (some 7), none, (.q (.mov (.k (.bool false)))), []⟩]
@[simp] def b_BinP_2 (_ : Unit) : EB := reg0 (hid l_BinP_1) 2
@[simp] def l_BinP_3 (_ : Unit) : List EOp := [⟨0, (some 12), none, (.q (.mov (.t 0))), []⟩, ⟨1, (some 13), none, (.q (.len (.t 12))), []⟩, ⟨2, (some 8), none, (.q (.mov (.t 13))), []⟩]
@[simp] def b_BinP_4 (_ : Unit) : EB := reg0 (hid l_BinP_3) 3
@[simp] def l_BinP_5 (_ : Unit) : List EOp := [⟨0, (some 14), none, (.q (.mov (.t 8))), []⟩, ⟨1, (some 9), none, (.q (.mov (.k (.int .i64 0)))), []⟩, ⟨2, (some 10), none, (.q (.mov (.t 14))), []⟩]
@[simp] def b_BinP_6 (_ : Unit) : EB := reg0 (hid l_BinP_5) 3
@[simp] def l_BinP_7 (_ : Unit) : List EOp := [⟨0, (some 15), none, (.q (.mov (.t 9))), []⟩, ⟨1, (some 16), none, (.q (.mov (.t 10))), []⟩, ⟨2, (some 17), none, (.q (.bin .lss (.t 15) (.t 16))), []⟩]
@[simp] def b_BinP_8 (_ : Unit) : EB := reg0 (hid l_BinP_7) 3
@[simp] def b_BinP_9 (_ : Unit) : EB := .cond (.t 17) .skip (.exit 0)
@[simp] def b_BinP_10 (_ : Unit) : EB := .seq (hid b_BinP_8) (hid b_BinP_9)
@[simp] def l_BinP_12 (_ : Unit) : List EOp := [⟨6, (some 11), none, (.q (.mov (.t 23))), []⟩]
@[simp] def l_BinP_11 (_ : Unit) : List EOp := ⟨0, (some 18), none, (.q (.mov (.t 9))), []⟩ :: ⟨1, (some 19), none, (.q (.mov (.t 10))), []⟩ :: ⟨2, (some 20), none, (.q (.bin .add (.t 18) (.t 19))), []⟩ :: ⟨3, (some 21), none, (.q (.cnv .u64 (.t 20))), []⟩ :: ⟨4, (some 22), none, (.q (.bin .shr (.t 21) (.k (.int .u64 1)))), []⟩ :: ⟨5, (some 23), none, (.q (.cnv .i64 (.t 22))), []⟩ :: hid l_BinP_12
@[simp] def b_BinP_13 (_ : Unit) : EB := reg0 (hid l_BinP_11) 7
@[simp] def l_BinP_15 (_ : Unit) : List EOp := [⟨6, (some 30), none, (.clo (.t 24) [(.t 28), (.t 29)]), []⟩, ⟨7, (some 31), none, (.q (.bin .lss (.t 30) (.k (.int .i64 0)))), []⟩]
@[simp] def l_BinP_14 (_ : Unit) : List EOp := ⟨0, (some 24), none, (.q (.mov (.t 2))), []⟩ :: ⟨1, (some 25), none, (.q (.mov (.t 0))), []⟩ :: ⟨2, (some 26), none, (.q (.mov (.t 11))), []⟩ :: ⟨3, (some 27), none, (.q (.isl 36 (.t 25) (.t 26))), []⟩ :: ⟨4, (some 28), none, (.q (.lda 36 (.t 27))), []⟩ :: ⟨5, (some 29), none, (.q (.mov (.t 1))), []⟩ :: hid l_BinP_15
@[simp] def b_BinP_16 (_ : Unit) : EB := reg0 (hid l_BinP_14) 8
@[simp] def l_BinP_17 (_ : Unit) : List EOp := [⟨0, (some 32), none, (.q (.mov (.t 11))), []⟩, ⟨1, (some 33), none, (.q (.bin .add (.t 32) (.k (.int .i64 1)))), []⟩, ⟨2, (some 9), none, (.q (.mov (.t 33))), []⟩]
@[simp] def b_BinP_18 (_ : Unit) : EB := reg0 (hid l_BinP_17) 3
@[simp] def l_BinP_19 (_ : Unit) : List EOp := [⟨0, (some 34), none, (.q (.mov (.t 11))), []⟩, ⟨1, (some 10), none, (.q (.mov (.t 34))), []⟩]
@[simp] def b_BinP_20 (_ : Unit) : EB := reg0 (hid l_BinP_19) 2
@[simp] def b_BinP_21 (_ : Unit) : EB := .cond (.t 31) (hid b_BinP_18) (hid b_BinP_20)
@[simp] def b_BinP_22 (_ : Unit) : EB := .seq (hid b_BinP_16) (hid b_BinP_21)
@[simp] def b_BinP_23 (_ : Unit) : EB := .seq (hid b_BinP_13) (hid b_BinP_22)
@[simp] def b_BinP_24 (_ : Unit) : EB := .block 1 (hid b_BinP_23)
@[simp] def b_BinP_25 (_ : Unit) : EB := .seq (hid b_BinP_10) (hid b_BinP_24)
@[simp] def b_BinP_26 (_ : Unit) : EB := .loop (hid b_BinP_25)
@[simp] def b_BinP_27 (_ : Unit) : EB := .block 0 (hid b_BinP_26)
@[simp] def l_BinP_30 (_ : Unit) : List EOp := [⟨12, (some 47), (some (39, true)), (.q (.bin .eql (.t 46) (.k (.int .i64 0)))), []⟩, ⟨13, (some 48), none, (.q (.pick (.t 39) (.t 47) (.k (.bool false)))), []⟩, ⟨14, (some 6), none, (.q (.mov (.t 35))), []⟩, ⟨15, (some 7), none, (.q (.mov (.t 48))), []⟩]
@[simp] def l_BinP_29 (_ : Unit) : List EOp := ⟨6, (some 41), (some (39, true)), (.q (.mov (.t 0))), []⟩ :: ⟨7, (some 42), (some (39, true)), (.q (.mov (.t 9))), []⟩ :: ⟨8, (some 43), (some (39, true)), (.q (.isl 36 (.t 41) (.t 42))), []⟩ :: ⟨9, (some 44), (some (39, true)), (.q (.lda 36 (.t 43))), []⟩ :: ⟨10, (some 45), (some (39, true)), (.q (.mov (.t 1))), []⟩ :: ⟨11, (some 46), (some (39, true)), (.clo (.t 40) [(.t 44), (.t 45)]), []⟩ :: hid l_BinP_30
@[simp] def l_BinP_28 (_ : Unit) : List EOp := ⟨0, (some 35), none, (.q (.mov (.t 9))), []⟩ :: ⟨1, (some 36), none, (.q (.mov (.t 9))), []⟩ :: ⟨2, (some 37), none, (.q (.mov (.t 8))), []⟩ :: ⟨3, (some 38), none, (.q (.bin .lss (.t 36) (.t 37))), []⟩ :: ⟨4, (some 39), none, (.q (.mov (.t 38))), []⟩ :: ⟨5, (some 40), (some (39, true)), (.q (.mov (.t 2))), []⟩ :: hid l_BinP_29
@[simp] def b_BinP_31 (_ : Unit) : EB := reg0 (hid l_BinP_28) 16
@[simp] def b_BinP_32 (_ : Unit) : EB := .seq (hid b_BinP_31) .ret
@[simp] def b_BinP_33 (_ : Unit) : EB := .seq (hid b_BinP_27) (hid b_BinP_32)
@[simp] def b_BinP_34 (_ : Unit) : EB := .seq (hid b_BinP_6) (hid b_BinP_33)
@[simp] def b_BinP_35 (_ : Unit) : EB := .seq (hid b_BinP_4) (hid b_BinP_34)
@[simp] def b_BinP_36 (_ : Unit) : EB := .seq (hid b_BinP_2) (hid b_BinP_35)
def c_BinP : EB × List QOp × Nat := ((hid b_BinP_36), [(.mov (.t 6)), (.mov (.t 7))], 49)
theorem k_BinP : cfun Tryz.prog 58 = some c_BinP := by kernel_rfl

@[simp] def l_SAdd_1 (_ : Unit) : List EOp := [⟨0, (some 2), none, (.q (.box 39 (.t 0))), []⟩, ⟨1, (some 3), none, (.q (.box 45 (.t 1))), []⟩, ⟨2, (some 4), none, (.q (.alloc 39 [(.int .i64 0), (.int .i64 0), (.int .i64 0), (.slice none 0 0), (.slice none 0 0)])), []⟩, ⟨3, (some 5), none, (.q (.mov (.k .nilIface))), []⟩]
@[simp] def b_SAdd_2 (_ : Unit) : EB := reg0 (hid l_SAdd_1) 4
@[simp] def l_SAdd_4 (_ : Unit) : List EOp := [⟨6, none, none, (.fz (.sto 5 (.t 6) (.t 13))), []⟩, ⟨7, (some 7), none, (.q (.mov (.t 14))), []⟩]
@[simp] def l_SAdd_3 (_ : Unit) : List EOp := ⟨0, (some 11), none, (.q (.lda 5 (.t 2))), []⟩ :: ⟨1, (some 12), none, (.call 56 [(.t 11)]), []⟩ :: ⟨2, (some 10), none, (.q (.mov (.t 12))), []⟩ :: ⟨3, (some 13), none, (.q (.ext 0 (.t 10))), []⟩ :: ⟨4, (some 14), none, (.q (.ext 1 (.t 10))), []⟩ :: ⟨5, (some 6), none, (.q (.alloc 39 [(.int .i64 0), (.int .i64 0), (.int .i64 0), (.slice none 0 0), (.slice none 0 0)])), []⟩ :: hid l_SAdd_4
@[simp] def b_SAdd_5 (_ : Unit) : EB := reg0 (hid l_SAdd_3) 8
@[simp] def l_SAdd_6 (_ : Unit) : List EOp := [⟨0, (some 15), none, (.q (.mov (.t 7))), []⟩, ⟨1, (some 16), none, (.q (.eqi true (.t 15))), []⟩]
@[simp] def b_SAdd_7 (_ : Unit) : EB := reg0 (hid l_SAdd_6) 2
@[simp] def l_SAdd_8 (_ : Unit) : List EOp := [⟨0, (some 17), none, (.q (.build [(.int .i64 0), (.int .i64 0), (.int .i64 0), (.slice none 0 0), (.slice none 0 0)] [])), []⟩, ⟨1, (some 18), none, (.q (.mov (.t 7))), []⟩, ⟨2, none, none, (.fz (.sto 5 (.t 4) (.t 17))), []⟩, ⟨3, (some 5), none, (.q (.mov (.t 18))), []⟩]
@[simp] def b_SAdd_9 (_ : Unit) : EB := reg0 (hid l_SAdd_8) 4
@[simp] def b_SAdd_10 (_ : Unit) : EB := .seq (hid b_SAdd_9) .ret
@[simp] def b_SAdd_11 (_ : Unit) : EB := .cond (.t 16) (hid b_SAdd_10) .skip
@[simp] def b_SAdd_12 (_ : Unit) : EB := .seq (hid b_SAdd_7) (hid b_SAdd_11)
@[simp] def l_SAdd_14 (_ : Unit) : List EOp := [⟨6, (some 25), none, (.q (.ext 0 (.t 19))), []⟩, ⟨7, (some 26), none, (.q (.ext 1 (.t 19))), []⟩, ⟨8, (some 8), none, (.q (.mov (.t 25))), []⟩, ⟨9, (some 9), none, (.q (.mov (.t 26))), []⟩]
@[simp] def l_SAdd_13 (_ : Unit) : List EOp := ⟨0, (some 20), none, (.q (.fad 3 (.t 6))), []⟩ :: ⟨1, (some 21), none, (.q (.ldc (.t 20))), []⟩ :: ⟨2, (some 22), none, (.q (.fad 0 (.t 3))), []⟩ :: ⟨3, (some 23), none, (.q (.ldc (.t 22))), []⟩ :: ⟨4, (some 24), none, (.call 58 [(.t 21), (.t 23), (.k (.func (.func 59) #[] #[]))]), []⟩ :: ⟨5, (some 19), none, (.q (.mov (.t 24))), []⟩ :: hid l_SAdd_14
@[simp] def b_SAdd_15 (_ : Unit) : EB := reg0 (hid l_SAdd_13) 10
@[simp] def l_SAdd_16 (_ : Unit) : List EOp := [⟨0, (some 28), none, (.q (.fad 1 (.t 3))), []⟩, ⟨1, (some 29), none, (.q (.ldc (.t 28))), []⟩, ⟨2, (some 30), none, (.call 57 [(.t 29)]), []⟩, ⟨3, (some 31), none, (.q (.un .not (.t 30))), []⟩, ⟨4, (some 27), none, (.q (.mov (.t 31))), []⟩]
@[simp] def b_SAdd_17 (_ : Unit) : EB := reg0 (hid l_SAdd_16) 5
@[simp] def l_SAdd_18 (_ : Unit) : List EOp := [⟨0, (some 32), none, (.q (.build [(.int .i64 0), (.int .i64 0), (.int .i64 0), (.slice none 0 0), (.slice none 0 0)] [])), []⟩, ⟨1, (some 33), none, (.q (.mki 77 (.k (.int .i64 33)))), []⟩, ⟨2, none, none, (.fz (.sto 5 (.t 4) (.t 32))), []⟩, ⟨3, (some 5), none, (.q (.mov (.t 33))), []⟩]
@[simp] def b_SAdd_19 (_ : Unit) : EB := reg0 (hid l_SAdd_18) 4
@[simp] def b_SAdd_20 (_ : Unit) : EB := .seq (hid b_SAdd_19) .ret
@[simp] def l_SAdd_21 (_ : Unit) : List EOp := [⟨0, (some 35), none, (.q (.fad 2 (.t 3))), []⟩, ⟨1, (some 36), none, (.q (.ldc (.t 35))), []⟩, ⟨2, (some 37), none, (.q (.bin .lss (.t 36) (.k (.int .i64 10)))), []⟩, ⟨3, (some 34), none, (.q (.mov (.t 37))), []⟩]
@[simp] def b_SAdd_22 (_ : Unit) : EB := reg0 (hid l_SAdd_21) 4
@[simp] def l_SAdd_23 (_ : Unit) : List EOp := [⟨0, (some 38), none, (.q (.build [(.int .i64 0), (.int .i64 0), (.int .i64 0), (.slice none 0 0), (.slice none 0 0)] [])), []⟩, ⟨1, (some 39), none, (.q (.mki 77 (.k (.int .i64 27)))), []⟩, ⟨2, none, none, (.fz (.sto 5 (.t 4) (.t 38))), []⟩, ⟨3, (some 5), none, (.q (.mov (.t 39))), []⟩]
@[simp] def b_SAdd_24 (_ : Unit) : EB := reg0 (hid l_SAdd_23) 4
@[simp] def b_SAdd_25 (_ : Unit) : EB := .seq (hid b_SAdd_24) .ret
@[simp] def l_SAdd_26 (_ : Unit) : List EOp := [⟨0, (some 41), none, (.q (.lda 36 (.t 3))), []⟩, ⟨1, (some 42), none, (.call 60 [(.t 41)]), []⟩, ⟨2, (some 43), none, (.q (.un .not (.t 42))), []⟩, ⟨3, (some 40), none, (.q (.mov (.t 43))), []⟩]
@[simp] def b_SAdd_27 (_ : Unit) : EB := reg0 (hid l_SAdd_26) 4
@[simp] def l_SAdd_28 (_ : Unit) : List EOp := [⟨0, (some 44), none, (.q (.build [(.int .i64 0), (.int .i64 0), (.int .i64 0), (.slice none 0 0), (.slice none 0 0)] [])), []⟩, ⟨1, (some 45), none, (.q (.mki 77 (.k (.int .i64 1)))), []⟩, ⟨2, none, none, (.fz (.sto 5 (.t 4) (.t 44))), []⟩, ⟨3, (some 5), none, (.q (.mov (.t 45))), []⟩]
@[simp] def b_SAdd_29 (_ : Unit) : EB := reg0 (hid l_SAdd_28) 4
@[simp] def b_SAdd_30 (_ : Unit) : EB := .seq (hid b_SAdd_29) .ret
@[simp] def l_SAdd_31 (_ : Unit) : List EOp := [⟨0, (some 47), none, (.q (.mov (.t 9))), []⟩, ⟨1, (some 46), none, (.q (.mov (.t 47))), []⟩]
@[simp] def b_SAdd_32 (_ : Unit) : EB := reg0 (hid l_SAdd_31) 2
@[simp] def l_SAdd_33 (_ : Unit) : List EOp := [⟨0, (some 48), none, (.q (.build [(.int .i64 0), (.int .i64 0), (.int .i64 0), (.slice none 0 0), (.slice none 0 0)] [])), []⟩, ⟨1, (some 49), none, (.q (.mki 77 (.k (.int .i64 9)))), []⟩, ⟨2, none, none, (.fz (.sto 5 (.t 4) (.t 48))), []⟩, ⟨3, (some 5), none, (.q (.mov (.t 49))), []⟩]
@[simp] def b_SAdd_34 (_ : Unit) : EB := reg0 (hid l_SAdd_33) 4
@[simp] def b_SAdd_35 (_ : Unit) : EB := .seq (hid b_SAdd_34) .ret
@[simp] def l_SAdd_36 (_ : Unit) : List EOp := [⟨0, (some 51), none, (.q (.lda 5 (.t 6))), []⟩, ⟨1, (some 52), none, (.call 61 [(.t 51)]), []⟩, ⟨2, (some 53), none, (.q (.bin .geq (.t 52) (.k (.int .i64 8)))), []⟩, ⟨3, (some 50), none, (.q (.mov (.t 53))), []⟩]
@[simp] def b_SAdd_37 (_ : Unit) : EB := reg0 (hid l_SAdd_36) 4
@[simp] def l_SAdd_38 (_ : Unit) : List EOp := [⟨0, (some 54), none, (.q (.build [(.int .i64 0), (.int .i64 0), (.int .i64 0), (.slice none 0 0), (.slice none 0 0)] [])), []⟩, ⟨1, (some 55), none, (.q (.mki 77 (.k (.int .i64 30)))), []⟩, ⟨2, none, none, (.fz (.sto 5 (.t 4) (.t 54))), []⟩, ⟨3, (some 5), none, (.q (.mov (.t 55))), []⟩]
@[simp] def b_SAdd_39 (_ : Unit) : EB := reg0 (hid l_SAdd_38) 4
@[simp] def b_SAdd_40 (_ : Unit) : EB := .seq (hid b_SAdd_39) .ret
@[simp] def l_SAdd_42 (_ : Unit) : List EOp := [⟨6, (some 63), none, (.q (.ldc (.t 62))), []⟩, ⟨7, (some 64), none, (.q (.bin .lss (.t 61) (.t 63))), []⟩, ⟨8, (some 56), none, (.q (.mov (.t 64))), []⟩]
@[simp] def l_SAdd_41 (_ : Unit) : List EOp := ⟨0, (some 57), none, (.q (.fad 1 (.t 3))), []⟩ :: ⟨1, (some 58), none, (.q (.ldc (.t 57))), []⟩ :: ⟨2, (some 59), none, (.q (.fad 1 (.t 6))), []⟩ :: ⟨3, (some 60), none, (.q (.iad 2 1 (.t 59) (.t 58))), []⟩ :: ⟨4, (some 61), none, (.q (.ldc (.t 60))), []⟩ :: ⟨5, (some 62), none, (.q (.fad 2 (.t 3))), []⟩ :: hid l_SAdd_42
@[simp] def b_SAdd_43 (_ : Unit) : EB := reg0 (hid l_SAdd_41) 9
@[simp] def l_SAdd_44 (_ : Unit) : List EOp := [⟨0, (some 65), none, (.q (.build [(.int .i64 0), (.int .i64 0), (.int .i64 0), (.slice none 0 0), (.slice none 0 0)] [])), []⟩, ⟨1, (some 66), none, (.q (.mki 77 (.k (.int .i64 20)))), []⟩, ⟨2, none, none, (.fz (.sto 5 (.t 4) (.t 65))), []⟩, ⟨3, (some 5), none, (.q (.mov (.t 66))), []⟩]
@[simp] def b_SAdd_45 (_ : Unit) : EB := reg0 (hid l_SAdd_44) 4
@[simp] def b_SAdd_46 (_ : Unit) : EB := .seq (hid b_SAdd_45) .ret
@[simp] def b_SAdd_47 (_ : Unit) : EB := .cond (.t 56) (hid b_SAdd_46) .skip
@[simp] def b_SAdd_48 (_ : Unit) : EB := .seq (hid b_SAdd_43) (hid b_SAdd_47)
@[simp] def b_SAdd_49 (_ : Unit) : EB := .cond (.t 50) (hid b_SAdd_40) (hid b_SAdd_48)
@[simp] def b_SAdd_50 (_ : Unit) : EB := .seq (hid b_SAdd_37) (hid b_SAdd_49)
@[simp] def b_SAdd_51 (_ : Unit) : EB := .cond (.t 46) (hid b_SAdd_35) (hid b_SAdd_50)
@[simp] def b_SAdd_52 (_ : Unit) : EB := .seq (hid b_SAdd_32) (hid b_SAdd_51)
@[simp] def b_SAdd_53 (_ : Unit) : EB := .cond (.t 40) (hid b_SAdd_30) (hid b_SAdd_52)
@[simp] def b_SAdd_54 (_ : Unit) : EB := .seq (hid b_SAdd_27) (hid b_SAdd_53)
@[simp] def b_SAdd_55 (_ : Unit) : EB := .cond (.t 34) (hid b_SAdd_25) (hid b_SAdd_54)
@[simp] def b_SAdd_56 (_ : Unit) : EB := .seq (hid b_SAdd_22) (hid b_SAdd_55)
@[simp] def b_SAdd_57 (_ : Unit) : EB := .cond (.t 27) (hid b_SAdd_20) (hid b_SAdd_56)
@[simp] def b_SAdd_58 (_ : Unit) : EB := .seq (hid b_SAdd_17) (hid b_SAdd_57)
@[simp] def b_SAdd_59 (_ : Unit) : EB := .block 0 (hid b_SAdd_58)
@[simp] def l_SAdd_61 (_ : Unit) : List EOp := [⟨6, (some 73), none, (.q (.ldc (.t 72))), []⟩, ⟨7, (some 74), none, (.q (.bin .sub (.t 71) (.t 73))), []⟩, ⟨8, (some 75), none, (.q (.fad 1 (.t 6))), []⟩, ⟨9, (some 76), none, (.q (.iad 2 1 (.t 75) (.t 68))), []⟩, ⟨10, none, none, (.sto 1 (.t 76) (.t 74)), []⟩]
@[simp] def l_SAdd_60 (_ : Unit) : List EOp := ⟨0, (some 67), none, (.q (.fad 1 (.t 3))), []⟩ :: ⟨1, (some 68), none, (.q (.ldc (.t 67))), []⟩ :: ⟨2, (some 69), none, (.q (.fad 1 (.t 6))), []⟩ :: ⟨3, (some 70), none, (.q (.iad 2 1 (.t 69) (.t 68))), []⟩ :: ⟨4, (some 71), none, (.q (.ldc (.t 70))), []⟩ :: ⟨5, (some 72), none, (.q (.fad 2 (.t 3))), []⟩ :: hid l_SAdd_61
@[simp] def b_SAdd_62 (_ : Unit) : EB := reg0 (hid l_SAdd_60) 11
@[simp] def l_SAdd_64 (_ : Unit) : List EOp := [⟨6, (some 83), none, (.q (.fad 3 (.t 6))), []⟩, ⟨7, none, none, (.fz (.sto 1 (.t 83) (.t 82))), []⟩]
@[simp] def l_SAdd_63 (_ : Unit) : List EOp := ⟨0, (some 77), none, (.q (.fad 3 (.t 6))), []⟩ :: ⟨1, (some 78), none, (.q (.ldc (.t 77))), []⟩ :: ⟨2, (some 79), none, (.q (.mov (.t 8))), []⟩ :: ⟨3, (some 80), none, (.q (.lda 36 (.t 3))), []⟩ :: ⟨4, (some 81), none, (.q (.bsr 45 36 (([(.int .i64 0), (.int .i64 0), (.int .i64 0), (.int .i64 0)] : List Value) ++ zU8) 1 [(0, (.t 80))])), []⟩ :: ⟨5, (some 82), none, (.call 62 [(.t 78), (.t 79), (.t 81)]), []⟩ :: hid l_SAdd_64
@[simp] def b_SAdd_65 (_ : Unit) : EB := reg0 (hid l_SAdd_63) 8
@[simp] def l_SAdd_66 (_ : Unit) : List EOp := [⟨0, (some 84), none, (.q (.lda 5 (.t 6))), []⟩, ⟨1, none, none, (.fz (.sto 5 (.t 4) (.t 84))), []⟩, ⟨2, (some 5), none, (.q (.mov (.k .nilIface))), []⟩]
@[simp] def b_SAdd_67 (_ : Unit) : EB := reg0 (hid l_SAdd_66) 3
@[simp] def b_SAdd_68 (_ : Unit) : EB := .seq (hid b_SAdd_67) .ret
@[simp] def b_SAdd_69 (_ : Unit) : EB := .seq (hid b_SAdd_65) (hid b_SAdd_68)
@[simp] def b_SAdd_70 (_ : Unit) : EB := .seq (hid b_SAdd_62) (hid b_SAdd_69)
@[simp] def b_SAdd_71 (_ : Unit) : EB := .seq (hid b_SAdd_59) (hid b_SAdd_70)
@[simp] def b_SAdd_72 (_ : Unit) : EB := .seq (hid b_SAdd_15) (hid b_SAdd_71)
@[simp] def b_SAdd_73 (_ : Unit) : EB := .seq (hid b_SAdd_12) (hid b_SAdd_72)
@[simp] def b_SAdd_74 (_ : Unit) : EB := .seq (hid b_SAdd_5) (hid b_SAdd_73)
@[simp] def b_SAdd_75 (_ : Unit) : EB := .seq (hid b_SAdd_2) (hid b_SAdd_74)
def c_SAdd : EB × List QOp × Nat := ((hid b_SAdd_75), [(.lda 5 (.t 4)), (.mov (.t 5))], 85)
theorem k_SAdd : cfun Tryz.prog 25 = some c_SAdd := by kernel_rfl

@[simp] def l_Sslots_1 (_ : Unit) : List EOp := [⟨0, (some 1), none, (.q (.box 39 (.t 0))), []⟩, ⟨1, (some 2), none, (.q (.mov (.k (.int .i64 0)))), []⟩]
@[simp] def b_Sslots_2 (_ : Unit) : EB := reg0 (hid l_Sslots_1) 2
@[simp] def l_Sslots_4 (_ : Unit) : List EOp := [⟨6, (some 9), none, (.q (.bin .add (.t 5) (.t 8))), []⟩, ⟨7, (some 2), none, (.q (.mov (.t 9))), []⟩]
@[simp] def l_Sslots_3 (_ : Unit) : List EOp := ⟨0, (some 3), none, (.q (.fad 3 (.t 1))), []⟩ :: ⟨1, (some 4), none, (.q (.ldc (.t 3))), []⟩ :: ⟨2, (some 5), none, (.q (.len (.t 4))), []⟩ :: ⟨3, (some 6), none, (.q (.fad 4 (.t 1))), []⟩ :: ⟨4, (some 7), none, (.q (.ldc (.t 6))), []⟩ :: ⟨5, (some 8), none, (.q (.len (.t 7))), []⟩ :: hid l_Sslots_4
@[simp] def b_Sslots_5 (_ : Unit) : EB := reg0 (hid l_Sslots_3) 8
@[simp] def b_Sslots_6 (_ : Unit) : EB := .seq (hid b_Sslots_5) .ret
@[simp] def b_Sslots_7 (_ : Unit) : EB := .seq (hid b_Sslots_2) (hid b_Sslots_6)
def c_Sslots : EB × List QOp × Nat := ((hid b_Sslots_7), [(.mov (.t 2))], 10)
theorem k_Sslots : cfun Tryz.prog 61 = some c_Sslots := by kernel_rfl

@[simp] def l_Stake_1 (_ : Unit) : List EOp := [⟨0, (some 2), none, (.q (.box 39 (.t 0))), []⟩, ⟨1, (some 4), none, (.q (.alloc 39 [(.int .i64 0), (.int .i64 0), (.int .i64 0), (.slice none 0 0), (.slice none 0 0)])), []⟩, ⟨2, (some 5), none, (.q (.alloc 45 (([(.int .i64 0), (.int .i64 0), (.int .i64 0), (.int .i64 0)] : List Value) ++ zU8))), []⟩, ⟨3, (some 6), none, (.q (.mov (.k .nilIface))), []⟩]
@[simp] def b_Stake_2 (_ : Unit) : EB := reg0 (hid l_Stake_1) 4
@[simp] def l_Stake_4 (_ : Unit) : List EOp := [⟨6, none, none, (.fz (.sto 5 (.t 7) (.t 15))), []⟩, ⟨7, (some 8), none, (.q (.mov (.t 16))), []⟩]
@[simp] def l_Stake_3 (_ : Unit) : List EOp := ⟨0, (some 13), none, (.q (.lda 5 (.t 2))), []⟩ :: ⟨1, (some 14), none, (.call 56 [(.t 13)]), []⟩ :: ⟨2, (some 12), none, (.q (.mov (.t 14))), []⟩ :: ⟨3, (some 15), none, (.q (.ext 0 (.t 12))), []⟩ :: ⟨4, (some 16), none, (.q (.ext 1 (.t 12))), []⟩ :: ⟨5, (some 7), none, (.q (.alloc 39 [(.int .i64 0), (.int .i64 0), (.int .i64 0), (.slice none 0 0), (.slice none 0 0)])), []⟩ :: hid l_Stake_4
@[simp] def b_Stake_5 (_ : Unit) : EB := reg0 (hid l_Stake_3) 8
@[simp] def l_Stake_6 (_ : Unit) : List EOp := [⟨0, (some 17), none, (.q (.mov (.t 8))), []⟩, ⟨1, (some 18), none, (.q (.eqi true (.t 17))), []⟩]
@[simp] def b_Stake_7 (_ : Unit) : EB := reg0 (hid l_Stake_6) 2
@[simp] def l_Stake_8 (_ : Unit) : List EOp := [⟨0, (some 19), none, (.q (.build [(.int .i64 0), (.int .i64 0), (.int .i64 0), (.slice none 0 0), (.slice none 0 0)] [])), []⟩, ⟨1, (some 20), none, (.q (.build (([(.int .i64 0), (.int .i64 0), (.int .i64 0), (.int .i64 0)] : List Value) ++ zU8) [])), []⟩, ⟨2, (some 21), none, (.q (.mov (.t 8))), []⟩, ⟨3, none, none, (.fz (.sto 5 (.t 4) (.t 19))), []⟩, ⟨4, none, none, (.sto 36 (.t 5) (.t 20)), []⟩, ⟨5, (some 6), none, (.q (.mov (.t 21))), []⟩]
@[simp] def b_Stake_9 (_ : Unit) : EB := reg0 (hid l_Stake_8) 6
@[simp] def b_Stake_10 (_ : Unit) : EB := .seq (hid b_Stake_9) .ret
@[simp] def b_Stake_11 (_ : Unit) : EB := .cond (.t 18) (hid b_Stake_10) .skip
@[simp] def b_Stake_12 (_ : Unit) : EB := .seq (hid b_Stake_7) (hid b_Stake_11)
@[simp] def l_Stake_14 (_ : Unit) : List EOp := [⟨6, (some 28), none, (.q (.ext 1 (.t 22))), []⟩, ⟨7, (some 9), none, (.q (.mov (.t 27))), []⟩, ⟨8, (some 10), none, (.q (.mov (.t 28))), []⟩]
@[simp] def l_Stake_13 (_ : Unit) : List EOp := ⟨0, (some 23), none, (.q (.fad 3 (.t 7))), []⟩ :: ⟨1, (some 24), none, (.q (.ldc (.t 23))), []⟩ :: ⟨2, (some 25), none, (.q (.mov (.t 1))), []⟩ :: ⟨3, (some 26), none, (.call 58 [(.t 24), (.t 25), (.k (.func (.func 59) #[] #[]))]), []⟩ :: ⟨4, (some 22), none, (.q (.mov (.t 26))), []⟩ :: ⟨5, (some 27), none, (.q (.ext 0 (.t 22))), []⟩ :: hid l_Stake_14
@[simp] def b_Stake_15 (_ : Unit) : EB := reg0 (hid l_Stake_13) 9
@[simp] def l_Stake_16 (_ : Unit) : List EOp := [⟨0, (some 29), none, (.q (.mov (.t 10))), []⟩, ⟨1, (some 30), none, (.q (.un .not (.t 29))), []⟩]
@[simp] def b_Stake_17 (_ : Unit) : EB := reg0 (hid l_Stake_16) 2
@[simp] def l_Stake_18 (_ : Unit) : List EOp := [⟨0, (some 31), none, (.q (.build [(.int .i64 0), (.int .i64 0), (.int .i64 0), (.slice none 0 0), (.slice none 0 0)] [])), []⟩, ⟨1, (some 32), none, (.q (.build (([(.int .i64 0), (.int .i64 0), (.int .i64 0), (.int .i64 0)] : List Value) ++ zU8) [])), []⟩, ⟨2, (some 33), none, (.q (.mki 77 (.k (.int .i64 8)))), []⟩, ⟨3, none, none, (.fz (.sto 5 (.t 4) (.t 31))), []⟩, ⟨4, none, none, (.sto 36 (.t 5) (.t 32)), []⟩, ⟨5, (some 6), none, (.q (.mov (.t 33))), []⟩]
@[simp] def b_Stake_19 (_ : Unit) : EB := reg0 (hid l_Stake_18) 6
@[simp] def b_Stake_20 (_ : Unit) : EB := .seq (hid b_Stake_19) .ret
@[simp] def b_Stake_21 (_ : Unit) : EB := .cond (.t 30) (hid b_Stake_20) .skip
@[simp] def b_Stake_22 (_ : Unit) : EB := .seq (hid b_Stake_17) (hid b_Stake_21)
@[simp] def l_Stake_24 (_ : Unit) : List EOp := [⟨6, none, none, (.sto 36 (.t 11) (.t 38)), []⟩]
@[simp] def l_Stake_23 (_ : Unit) : List EOp := ⟨0, (some 34), none, (.q (.fad 3 (.t 7))), []⟩ :: ⟨1, (some 35), none, (.q (.ldc (.t 34))), []⟩ :: ⟨2, (some 36), none, (.q (.mov (.t 9))), []⟩ :: ⟨3, (some 37), none, (.q (.isl 36 (.t 35) (.t 36))), []⟩ :: ⟨4, (some 38), none, (.q (.lda 36 (.t 37))), []⟩ :: ⟨5, (some 11), none, (.q (.alloc 45 (([(.int .i64 0), (.int .i64 0), (.int .i64 0), (.int .i64 0)] : List Value) ++ zU8))), []⟩ :: hid l_Stake_24
@[simp] def b_Stake_25 (_ : Unit) : EB := reg0 (hid l_Stake_23) 7
@[simp] def l_Stake_27 (_ : Unit) : List EOp := [⟨6, (some 45), none, (.q (.fad 3 (.t 7))), []⟩, ⟨7, none, none, (.fz (.sto 1 (.t 45) (.t 44))), []⟩]
@[simp] def l_Stake_26 (_ : Unit) : List EOp := ⟨0, (some 39), none, (.q (.fad 3 (.t 7))), []⟩ :: ⟨1, (some 40), none, (.q (.ldc (.t 39))), []⟩ :: ⟨2, (some 41), none, (.q (.mov (.t 9))), []⟩ :: ⟨3, (some 42), none, (.q (.mov (.t 9))), []⟩ :: ⟨4, (some 43), none, (.q (.bin .add (.t 42) (.k (.int .i64 1)))), []⟩ :: ⟨5, (some 44), none, (.call 100 [(.t 40), (.t 41), (.t 43)]), []⟩ :: hid l_Stake_27
@[simp] def b_Stake_28 (_ : Unit) : EB := reg0 (hid l_Stake_26) 8
@[simp] def l_Stake_29 (_ : Unit) : List EOp := [⟨0, (some 46), none, (.q (.lda 5 (.t 7))), []⟩, ⟨1, (some 47), none, (.q (.lda 36 (.t 11))), []⟩, ⟨2, none, none, (.fz (.sto 5 (.t 4) (.t 46))), [1]⟩, ⟨3, none, none, (.sto 36 (.t 5) (.t 47)), []⟩, ⟨4, (some 6), none, (.q (.mov (.k .nilIface))), []⟩]
@[simp] def b_Stake_30 (_ : Unit) : EB := reg1 (hid l_Stake_29) 5
@[simp] def b_Stake_31 (_ : Unit) : EB := .seq (hid b_Stake_30) .ret
@[simp] def b_Stake_32 (_ : Unit) : EB := .seq (hid b_Stake_28) (hid b_Stake_31)
@[simp] def b_Stake_33 (_ : Unit) : EB := .seq (hid b_Stake_25) (hid b_Stake_32)
@[simp] def b_Stake_34 (_ : Unit) : EB := .seq (hid b_Stake_22) (hid b_Stake_33)
@[simp] def b_Stake_35 (_ : Unit) : EB := .seq (hid b_Stake_15) (hid b_Stake_34)
@[simp] def b_Stake_36 (_ : Unit) : EB := .seq (hid b_Stake_12) (hid b_Stake_35)
@[simp] def b_Stake_37 (_ : Unit) : EB := .seq (hid b_Stake_5) (hid b_Stake_36)
@[simp] def b_Stake_38 (_ : Unit) : EB := .seq (hid b_Stake_2) (hid b_Stake_37)
def c_Stake : EB × List QOp × Nat := ((hid b_Stake_38), [(.lda 5 (.t 4)), (.lda 36 (.t 5)), (.mov (.t 6))], 48)
theorem k_Stake : cfun Tryz.prog 65 = some c_Stake := by kernel_rfl

@[simp] def l_SFail_1 (_ : Unit) : List EOp := [⟨0, (some 2), none, (.q (.box 39 (.t 0))), []⟩, ⟨1, (some 4), none, (.q (.alloc 39 [(.int .i64 0), (.int .i64 0), (.int .i64 0), (.slice none 0 0), (.slice none 0 0)])), []⟩, ⟨2, (some 5), none, (.q (.mov (.k .nilIface))), []⟩]
@[simp] def b_SFail_2 (_ : Unit) : EB := reg0 (hid l_SFail_1) 3
@[simp] def l_SFail_4 (_ : Unit) : List EOp := [⟨6, (some 15), none, (.q (.ext 2 (.t 9))), []⟩, ⟨7, (some 6), none, (.q (.alloc 39 [(.int .i64 0), (.int .i64 0), (.int .i64 0), (.slice none 0 0), (.slice none 0 0)])), []⟩, ⟨8, (some 7), none, (.q (.alloc 45 (([(.int .i64 0), (.int .i64 0), (.int .i64 0), (.int .i64 0)] : List Value) ++ zU8))), []⟩, ⟨9, none, none, (.fz (.sto 5 (.t 6) (.t 13))), []⟩, ⟨10, none, none, (.sto 36 (.t 7) (.t 14)), []⟩, ⟨11, (some 8), none, (.q (.mov (.t 15))), []⟩]
@[simp] def l_SFail_3 (_ : Unit) : List EOp := ⟨0, (some 10), none, (.q (.lda 5 (.t 2))), []⟩ :: ⟨1, (some 11), none, (.q (.mov (.t 1))), []⟩ :: ⟨2, (some 12), none, (.call 65 [(.t 10), (.t 11)]), []⟩ :: ⟨3, (some 9), none, (.q (.mov (.t 12))), []⟩ :: ⟨4, (some 13), none, (.q (.ext 0 (.t 9))), []⟩ :: ⟨5, (some 14), none, (.q (.ext 1 (.t 9))), []⟩ :: hid l_SFail_4
@[simp] def b_SFail_5 (_ : Unit) : EB := reg0 (hid l_SFail_3) 12
@[simp] def l_SFail_6 (_ : Unit) : List EOp := [⟨0, (some 16), none, (.q (.mov (.t 8))), []⟩, ⟨1, (some 17), none, (.q (.eqi true (.t 16))), []⟩]
@[simp] def b_SFail_7 (_ : Unit) : EB := reg0 (hid l_SFail_6) 2
@[simp] def l_SFail_8 (_ : Unit) : List EOp := [⟨0, (some 18), none, (.q (.build [(.int .i64 0), (.int .i64 0), (.int .i64 0), (.slice none 0 0), (.slice none 0 0)] [])), []⟩, ⟨1, (some 19), none, (.q (.mov (.t 8))), []⟩, ⟨2, none, none, (.fz (.sto 5 (.t 4) (.t 18))), []⟩, ⟨3, (some 5), none, (.q (.mov (.t 19))), []⟩]
@[simp] def b_SFail_9 (_ : Unit) : EB := reg0 (hid l_SFail_8) 4
@[simp] def b_SFail_10 (_ : Unit) : EB := .seq (hid b_SFail_9) .ret
@[simp] def b_SFail_11 (_ : Unit) : EB := .cond (.t 17) (hid b_SFail_10) .skip
@[simp] def b_SFail_12 (_ : Unit) : EB := .seq (hid b_SFail_7) (hid b_SFail_11)
@[simp] def l_SFail_14 (_ : Unit) : List EOp := [⟨6, (some 26), none, (.q (.ldc (.t 25))), []⟩, ⟨7, (some 27), none, (.q (.bin .add (.t 24) (.t 26))), []⟩, ⟨8, (some 28), none, (.q (.fad 1 (.t 6))), []⟩, ⟨9, (some 29), none, (.q (.iad 2 1 (.t 28) (.t 21))), []⟩, ⟨10, none, none, (.sto 1 (.t 29) (.t 27)), []⟩]
@[simp] def l_SFail_13 (_ : Unit) : List EOp := ⟨0, (some 20), none, (.q (.fad 1 (.t 7))), []⟩ :: ⟨1, (some 21), none, (.q (.ldc (.t 20))), []⟩ :: ⟨2, (some 22), none, (.q (.fad 1 (.t 6))), []⟩ :: ⟨3, (some 23), none, (.q (.iad 2 1 (.t 22) (.t 21))), []⟩ :: ⟨4, (some 24), none, (.q (.ldc (.t 23))), []⟩ :: ⟨5, (some 25), none, (.q (.fad 2 (.t 7))), []⟩ :: hid l_SFail_14
@[simp] def b_SFail_15 (_ : Unit) : EB := reg0 (hid l_SFail_13) 11
@[simp] def l_SFail_16 (_ : Unit) : List EOp := [⟨0, (some 30), none, (.q (.lda 5 (.t 6))), []⟩, ⟨1, none, none, (.fz (.sto 5 (.t 4) (.t 30))), []⟩, ⟨2, (some 5), none, (.q (.mov (.k .nilIface))), []⟩]
@[simp] def b_SFail_17 (_ : Unit) : EB := reg0 (hid l_SFail_16) 3
@[simp] def b_SFail_18 (_ : Unit) : EB := .seq (hid b_SFail_17) .ret
@[simp] def b_SFail_19 (_ : Unit) : EB := .seq (hid b_SFail_15) (hid b_SFail_18)
@[simp] def b_SFail_20 (_ : Unit) : EB := .seq (hid b_SFail_12) (hid b_SFail_19)
@[simp] def b_SFail_21 (_ : Unit) : EB := .seq (hid b_SFail_5) (hid b_SFail_20)
@[simp] def b_SFail_22 (_ : Unit) : EB := .seq (hid b_SFail_2) (hid b_SFail_21)
def c_SFail : EB × List QOp × Nat := ((hid b_SFail_22), [(.lda 5 (.t 4)), (.mov (.t 5))], 31)
theorem k_SFail : cfun Tryz.prog 28 = some c_SFail := by kernel_rfl


@[simp] theorem conAll_payC (H : Nat → Option EO) (ids : List Nat) (p : Pay) : conAll H ids (payC p) = some (payC p) := by simp [payC]
@[simp] theorem strAll_payC (ids : List Nat) (p : Pay) : strAll ids (payC p) = some (payC p) := by simp [payC, strAll, strC]
@[simp] theorem frzAll_payC (p : Pay) : frzAll (payC p) = some (payF p) := by simp [payC, payF, frzAll, frz]
@[simp] theorem refs_payC (p : Pay) : (payC p).flatMap refsC = [] := by simp [payC]
@[simp] theorem fz_payC (ids : List Nat) (p : Pay) : (payC p).flatMap (fzC ids) = [] := by simp [payC]
@[simp] theorem ren_payC (g : Nat → Nat) (p : Pay) : (payC p).map (renC g) = payC p := by simp [payC]
theorem pc0 (p : Pay) : (payC p)[0]? = some (.fz (.lit (.int .i64 p.id))) := rfl
theorem pc1 (p : Pay) : (payC p)[1]? = some (.fz (.lit (.int .i64 p.fr))) := rfl
theorem pc2 (p : Pay) : (payC p)[2]? = some (.fz (.lit (.int .i64 p.am))) := rfl
theorem pc3 (p : Pay) : (payC p)[3]? = some (.fz (.lit (.int .i64 p.af))) := rfl
theorem pe0 (p : Pay) (h : 0 < (payC p).length) : (payC p)[0]'h = .fz (.lit (.int .i64 p.id)) := rfl
theorem pe1 (p : Pay) (h : 1 < (payC p).length) : (payC p)[1]'h = .fz (.lit (.int .i64 p.fr)) := rfl
theorem pe2 (p : Pay) (h : 2 < (payC p).length) : (payC p)[2]'h = .fz (.lit (.int .i64 p.am)) := rfl
theorem pd1 (p : Pay) : (payC p).drop 1 = .fz (.lit (.int .i64 p.fr)) :: .fz (.lit (.int .i64 p.am)) :: .fz (.lit (.int .i64 p.af)) :: hc p.lock := rfl
theorem pd2 (p : Pay) : (payC p).drop 2 = .fz (.lit (.int .i64 p.am)) :: .fz (.lit (.int .i64 p.af)) :: hc p.lock := rfl
/-! ### places in a rising row -/
def posI (l : List Int) (x : Int) : Nat := (l.takeWhile fun k => decide (k < x)).length
def fndI (l : List Int) (x : Int) : Bool := decide (l[posI l x]? = some x)
theorem posI_le (l : List Int) (x : Int) : posI l x ≤ l.length := (List.takeWhile_sublist _).length_le
theorem posI_eq : ∀ {l : List Int} {x : Int} {i : Nat}, i ≤ l.length → (∀ k y, k < i → l[k]? = some y → y < x) → (∀ y, l[i]? = some y → x ≤ y) → posI l x = i
  | [], x, i, h, _, _ => by simp at h; subst h; rfl
  | a :: r, x, 0, _, _, h => by
    have := h a rfl
    simp [posI, List.takeWhile_cons, show ¬ a < x by omega]
  | a :: r, x, i + 1, h0, h1, h2 => by
    have := h1 0 a (by omega) rfl
    have ih := posI_eq (l := r) (x := x) (i := i) (by simpa using h0) (fun k y hk hy => h1 (k + 1) y (by omega) (by simpa using hy)) (fun y hy => h2 y (by simpa using hy))
    unfold posI at ih ⊢
    simp [List.takeWhile_cons, this, ih]
theorem pw_get {l : List Int} (h : l.Pairwise (· < ·)) {i j : Nat} {x y : Int} (hij : i < j) (hx : l[i]? = some x) (hy : l[j]? = some y) : x < y := by
  obtain ⟨hi, rfl⟩ := List.getElem?_eq_some_iff.1 hx
  obtain ⟨hj, rfl⟩ := List.getElem?_eq_some_iff.1 hy
  exact List.pairwise_iff_getElem.1 h i j hi hj hij
theorem payL_lo : ∀ {o : Option Int} {l : List Pay}, payL o l = true → ∀ p ∈ l, ∀ q, o = some q → q < p.id
  | o, [], _, p, hp, q, _ => by simp at hp
  | o, a :: r, h, p, hp, q, hq => by
    simp only [payL, Bool.and_eq_true] at h
    have ha : q < a.id := by
      have := h.1.2
      rw [hq] at this
      exact of_decide_eq_true this
    rcases List.mem_cons.1 hp with rfl | hp
    · exact ha
    · have := payL_lo h.2 p hp a.id rfl
      omega
theorem payL_pw : ∀ {o : Option Int} {l : List Pay}, payL o l = true → (l.map (·.id)).Pairwise (· < ·)
  | o, [], _ => by simp
  | o, a :: r, h => by
    simp only [payL, Bool.and_eq_true] at h
    simp only [List.map_cons, List.pairwise_cons]
    refine ⟨?_, payL_pw h.2⟩
    intro y hy
    obtain ⟨p, hp, rfl⟩ := List.mem_map.1 hy
    exact payL_lo h.2 p hp a.id rfl

def cmpI (a b : Int) : Int := if a < b then -1 else if b < a then 1 else 0
theorem NaNI_ok (a : Int) : ECalls Tryz.prog 109 [I .i64 a] [] fun y H' => H' = [] ∧ y = .lit (.bool false) := by
  refine ecalls k_NaNI ?_
  simp [c_NaNI, I]
  exact fin [] (by decide) rfl rfl rfl ⟨rfl, rfl⟩
theorem CmpI_ok (a b : Int) : ECalls Tryz.prog 97 [I .i64 a, I .i64 b] [] fun y H' => H' = [] ∧ y = I .i64 (cmpI a b) := by
  refine ecalls k_CmpI ?_
  simp [c_CmpI, I]
  refine call0 (NaNI_ok a) (by simp [Ptr, I, EV.lit]) ?_
  rintro y H' ⟨rfl, rfl⟩
  refine ⟨.inl (by simp [Ptr, I, EV.lit]), le_ok rfl, ?_⟩
  simp [Ptr, I, EV.lit]
  refine call0 (NaNI_ok b) (by simp [Ptr, I, EV.lit]) ?_
  rintro y H' ⟨rfl, rfl⟩
  refine ⟨.inl (by simp [Ptr, I, EV.lit]), le_ok rfl, ?_⟩
  simp [Ptr, I, EV.lit]
  refine alt (fun h => ?_) (fun h => ?_)
  · have e : cmpI a b = -1 := if_pos h
    rw [e]
    simp
    exact fin [] (by decide) rfl rfl rfl ⟨rfl, rfl⟩
  simp
  refine alt (fun h2 => ?_) (fun h2 => ?_)
  · have e : cmpI a b = 1 := by unfold cmpI; rw [if_neg h, if_pos h2]
    rw [e]
    simp
    exact fin [] (by decide) rfl rfl rfl ⟨rfl, rfl⟩
  · have e : cmpI a b = 0 := by unfold cmpI; rw [if_neg h, if_neg h2]
    rw [e]
    simp
    exact fin [] (by decide) rfl rfl rfl ⟨rfl, rfl⟩
theorem byPay_ok (p : Pay) (x : Int) (hp : p.lock.length = 32) : ECalls Tryz.prog 59 [.v (.agg (payC p)), I .i64 x] [] fun y H' => H' = [] ∧ y = I .i64 (cmpI p.id x) := by
  refine ecalls k_byPay ?_
  simp [c_byPay, I, payC]
  refine call0 (CmpI_ok p.id x) (by simp [Ptr, I, EV.lit]) ?_
  rintro y H' ⟨rfl, rfl⟩
  refine ⟨.inl (by simp [Ptr, I, EV.lit]), le_ok rfl, ?_⟩
  simp [Ptr, I, EV.lit]
  exact fin [] (by decide) rfl rfl rfl ⟨rfl, rfl⟩
theorem byPay_body : bodyOK Tryz.prog 59 = true := by kernel_rfl

set_option maxHeartbeats 4000000 in
theorem BinP_ok (l : List Pay) (x : Int) (hl : ∀ p ∈ l, p.ok) (hn : l.length ≤ 100000000) (hs : (l.map (·.id)).Pairwise (· < ·)) :
    ECalls Tryz.prog 58 [PL l, I .i64 x, .v (.c (.clo 59 []))] [] fun y H' => H' = [] ∧ y = .tup [.c (.fz (.lit (.int .i64 (posI (l.map (·.id)) x)))), .c (.fz (.lit (.bool (fndI (l.map (·.id)) x))))] := by
  obtain ⟨ids, hids⟩ : ∃ ids, l.map (·.id) = ids := ⟨_, rfl⟩
  rw [hids] at hs ⊢
  have idl : ids.length = l.length := by rw [← hids]; simp
  have hget : ∀ (k : Nat) (p : Pay), l[k]? = some p → ids[k]? = some p.id := fun k p h => by rw [← hids, List.getElem?_map, h]; rfl
  refine ecalls k_BinP ?_
  simp [c_BinP, I, PL]
  refine eloop (α := Nat × Nat) (fun a => a.1 ≤ a.2 ∧ a.2 ≤ l.length ∧ (∀ k y, k < a.1 → ids[k]? = some y → y < x) ∧ ∀ k y, a.2 ≤ k → ids[k]? = some y → x ≤ y) (fun a => a.2 - a.1)
    (fun a => [PL l, I .i64 x, .v (.c (.clo 59 [])), .any, .any, .any, .any, .any, I .i64 l.length, I .i64 a.1, I .i64 a.2, .any, .any, .any, .any, .any, .any, .any, .any, .any, .any, .any, .any, .any, .any, .any, .any, .any, .any, .any, .any, .any, .any, .any, .any, .any, .any, .any, .any, .any, .any, .any, .any, .any, .any, .any, .any, .any, .any]) (fun _ => []) (0, l.length) []
    ⟨by simp, Nat.le_refl _, by intro k y h; simp at h, by
      intro k y h hk
      have := lt_len hk
      simp at h; omega⟩ (by simp [I, PL]) (by simp) (by simp) (by simp) (by simp) ?_
  rintro ⟨i, j⟩ ⟨h1, h2, h3, h4⟩
  dsimp only at h1 h2 h3 h4
  simp [I, PL]
  refine alt (fun hlt => ?_) (fun hlt => ?_)
  · have hij : i < j := by omega
    obtain ⟨h, hh⟩ : ∃ h, (i + j) / 2 = h := ⟨_, rfl⟩
    have hl1 : i ≤ h := by omega
    have hl2 : h < j := by omega
    have hln : h < l.length := by omega
    obtain ⟨p, hc⟩ : ∃ p, l[h]? = some p := ⟨l[h], by simp [hln]⟩
    have hpo := hl p (List.mem_of_getElem? hc)
    have hcb := payv_get hc
    have hge : (payv l)[h]'(by simp [hln]) = payF p := by
      have e := hcb
      rw [List.getElem?_eq_getElem (by simp [hln])] at e
      exact Option.some.inj e
    have hpt := payC_take hpo.2.2.2.2
    have hpl := payC_len hpo.2.2.2.2
    have hfl := payF_len hpo.2.2.2.2
    have w0 : IntKind.i64.wrap ((i : Int) + (j : Int)) = ((i + j : Nat) : Int) := by rw [wrap_i64 (by omega) (by omega)]; omega
    have w1 : IntKind.u64.wrap ((i + j : Nat) : Int) = ((i + j : Nat) : Int) := wrap_u64 (by omega) (by omega)
    have w2 : ishr .u64 ((i + j : Nat) : Int) 1 = (h : Int) := by
      have e := ishr_nat .u64 (i + j) 1 (by decide)
      rw [show ((1 : Nat) : Int) = 1 from rfl] at e
      rw [e, ← hh]
    have w3 : IntKind.i64.wrap (h : Int) = (h : Int) := wrap_i64 (by omega) (by omega)
    have w4 : IntKind.i64.wrap ((h : Int) + 1) = ((h + 1 : Nat) : Int) := wrap_i64 (by omega) (by omega)
    simp [w0, w1, w2, w3, hln, hge, payF_fz, hpt, hpl, hfl, -Int.natCast_add]
    refine ⟨byPay_body, ?_⟩
    refine call0 (byPay_ok p x hpo.2.2.2.2) (by simp [I]) ?_
    rintro y H' ⟨rfl, rfl⟩
    refine ⟨.inl (by simp [-List.flatMap_eq_nil_iff, I]), le_ok rfl, ?_⟩
    simp [I]
    have hcm : cmpI p.id x < 0 ↔ p.id < x := by unfold cmpI; split <;> (try split) <;> omega
    refine alt (fun hneg => ?_) (fun hneg => ?_)
    · have hpx := hcm.1 hneg
      simp [w4, -Int.natCast_add]
      refine round (h + 1, j) [] ⟨by dsimp only; omega, h2, ?_, h4⟩ (by dsimp only; omega) (by simp) (by simp) (by simp) (by simp) (by simp)
      intro k y hk hy
      dsimp only at hk
      rcases Nat.lt_or_ge k h with hkh | hkh
      · have := pw_get hs hkh hy (hget h p hc)
        omega
      · obtain rfl : k = h := by omega
        rw [hget k p hc] at hy
        obtain rfl := Option.some.inj hy
        exact hpx
    · have hpx : x ≤ p.id := by
        rcases Int.lt_or_le p.id x with q | q
        · exact absurd (hcm.2 q) hneg
        · exact q
      simp [-Int.natCast_add]
      refine round (i, h) [] ⟨hl1, by dsimp only; omega, h3, ?_⟩ (by dsimp only; omega) (by simp) (by simp) (by simp) (by simp) (by simp)
      intro k y hk hy
      dsimp only at hk
      rcases Nat.lt_or_ge h k with hkh | hkh
      · have := pw_get hs hkh (hget h p hc) hy
        omega
      · obtain rfl : k = h := by omega
        rw [hget k p hc] at hy
        obtain rfl := Option.some.inj hy
        exact hpx
  · obtain rfl : i = j := by omega
    have hpos : posI ids x = i := posI_eq (by omega) h3 fun y hy => h4 i y (Nat.le_refl _) hy
    rw [show fndI ids x = decide (ids[i]? = some x) by unfold fndI; rw [hpos], hpos]
    simp
    refine alt (fun hi => ?_) (fun hi => ?_)
    · have hln : i < l.length := by omega
      obtain ⟨p, hc⟩ : ∃ p, l[i]? = some p := ⟨l[i], by simp [hln]⟩
      have hpo := hl p (List.mem_of_getElem? hc)
      have hcb := payv_get hc
      have hge : (payv l)[i]'(by simp [hln]) = payF p := by
        have e := hcb
        rw [List.getElem?_eq_getElem (by simp [hln])] at e
        exact Option.some.inj e
      have hpt := payC_take hpo.2.2.2.2
      have hpl := payC_len hpo.2.2.2.2
      have hfl := payF_len hpo.2.2.2.2
      simp [hln, hge, payF_fz, hpt, hpl, hfl]
      refine ⟨byPay_body, ?_⟩
      refine call0 (byPay_ok p x hpo.2.2.2.2) (by simp [I]) ?_
      rintro y H' ⟨rfl, rfl⟩
      refine ⟨.inl (by simp [-List.flatMap_eq_nil_iff, I]), le_ok rfl, ?_⟩
      simp [I]
      have hcm : cmpI p.id x = 0 ↔ ids[i]? = some x := by
        rw [hget i p hc]
        unfold cmpI
        simp only [Option.some.injEq]
        split <;> (try split) <;> omega
      rw [show decide (cmpI p.id x = 0) = decide (ids[i]? = some x) from decide_eq_decide.2 hcm]
      exact fin [] (by decide) rfl rfl rfl ⟨rfl, rfl⟩
    · have hnone : ids[i]? = none := List.getElem?_eq_none (by omega)
      simp [hi, hnone]
      exact fin [] (by decide) rfl rfl rfl ⟨rfl, rfl⟩

theorem Sslots_ok (s : Sta) (hs : s.ok) : ECalls Tryz.prog 61 [SV s] [] fun y H' => H' = [] ∧ y = I .i64 ((s.pays.length + s.holds.length : Nat) : Int) := by
  obtain ⟨ok1, ok2, ok3, ok4, ok5, ok6, ok7⟩ := id hs
  have w : IntKind.i64.wrap ((s.pays.length : Int) + (s.holds.length : Int)) = ((s.pays.length + s.holds.length : Nat) : Int) := by rw [wrap_i64 (by omega) (by omega)]; omega
  refine ecalls k_Sslots ?_
  simp [c_Sslots, SV, staC, I, w, -Int.natCast_add]
  exact fin [] (by decide) rfl rfl rfl ⟨rfl, rfl⟩

def sideS (s : Sta) (k : Int) : Int := if k = 0 then s.h0 else s.h1
def insP (l : List Pay) (p : Pay) : List Pay := l.take (posI (l.map (·.id)) p.id) ++ p :: l.drop (posI (l.map (·.id)) p.id)
/-- A payment laid; the error. -/
def addP (s : Sta) (p : Pay) : Sta × Nat :=
  if (nxt s).2 ≠ 0 then (zSta, 1) else if ¬ (p.fr = 0 ∨ p.fr = 1) then (zSta, 33) else if p.am < 10 then (zSta, 27) else if mayP p = false then (zSta, 1)
  else if fndI (s.pays.map (·.id)) p.id = true then (zSta, 9) else if 8 ≤ s.pays.length + s.holds.length then (zSta, 30) else if sideS s p.fr < p.am then (zSta, 20)
  else (⟨s.num + 1, if p.fr = 0 then s.h0 - p.am else s.h0, if p.fr = 0 then s.h1 else s.h1 - p.am, insP s.pays p, s.holds⟩, 0)
theorem payv_ins (l : List Pay) (p : Pay) : payv (insP l p) = (payv l).take (posI (l.map (·.id)) p.id) ++ payF p :: (payv l).drop (posI (l.map (·.id)) p.id) := by simp [payv, insP]
@[simp] theorem errV_9 : Value.iface 77 (.int .i64 9) = errV 9 := rfl
@[simp] theorem errV_30 : Value.iface 77 (.int .i64 30) = errV 30 := rfl
@[simp] theorem errV_8 : Value.iface 77 (.int .i64 8) = errV 8 := rfl

set_option maxHeartbeats 4000000 in
theorem SAdd_ok (s : Sta) (p : Pay) (hs : s.ok) (hp : p.ok) : ECalls Tryz.prog 25 [SV s, .v (.agg (payC p))] [] fun y H' => H' = [] ∧ y = SE (addP s p) := by
  obtain ⟨ok1, ok2, ok3, ok4, ok5, ok6, ok7⟩ := id hs
  obtain ⟨⟨p1, p1'⟩, ⟨p2, p2'⟩, ⟨p3, p3'⟩, ⟨p4, p4'⟩, p5⟩ := id hp
  have hpt := payC_take p5
  have hpl := payC_len p5
  refine ecalls k_SAdd ?_
  simp [c_SAdd, SV, staC, hpt, hpl, -errV_0]
  by_cases h0 : mayS s = true ∧ s.num ≠ 1099511627776
  rotate_left
  · have hx : nxt s = (zSta, 1) := by simp only [nxt, if_neg h0]
    have ha : addP s p = (zSta, 1) := by simp [addP, hx]
    rw [ha]
    refine call0 (next_ok s hs) (by simp [SV, staC]) ?_
    rintro y H' ⟨rfl, rfl⟩
    refine ⟨.inl (by simp), le_ok rfl, ?_⟩
    rw [hx]
    simp [SE, staC, zSta]
    refine finW _ (weak_nlB (o := 32) (k := 3) 36 rfl rfl) (finW _ (weak_nlB (o := 32) (k := 4) 3 rfl rfl) ?_)
    exact fin [] (by decide) rfl rfl rfl ⟨rfl, rfl⟩
  have hx : nxt s = (⟨s.num + 1, s.h0, s.h1, s.pays, s.holds⟩, 0) := by simp only [nxt, if_pos h0]
  obtain ⟨hr, hpl', hh, htot⟩ := mayS_t h0.1
  have hpw := payL_pw hpl'
  have tpv : List.take s.pays.length (payv s.pays) = payv s.pays := List.take_of_length_le (by simp)
  have hadd : addP s p = if ¬ (p.fr = 0 ∨ p.fr = 1) then (zSta, 33) else if p.am < 10 then (zSta, 27) else if mayP p = false then (zSta, 1)
      else if fndI (s.pays.map (·.id)) p.id = true then (zSta, 9) else if 8 ≤ s.pays.length + s.holds.length then (zSta, 30) else if sideS s p.fr < p.am then (zSta, 20)
      else (⟨s.num + 1, if p.fr = 0 then s.h0 - p.am else s.h0, if p.fr = 0 then s.h1 else s.h1 - p.am, insP s.pays p, s.holds⟩, 0) := by
    simp only [addP, hx]
    rw [if_neg (by simp)]
  refine call0 (nextP_ok s hs h0) (by simp [SV, staC]) ?_
  rintro y H' ⟨rfl, rfl⟩
  refine ⟨.inl (by simp), le_ok rfl, ?_⟩
  simp [pc0, pc1, pc2, pd1, pd2, -errV_0]
  refine call0 (BinP_ok s.pays p.id ok4 ok6 hpw) (by simp [PL, I, tpv]) ?_
  rintro y H' ⟨rfl, rfl⟩
  refine ⟨.inr ⟨rfl, by simp⟩, le_ok rfl, ?_⟩
  obtain ⟨pos, hpos⟩ : ∃ pos, posI (s.pays.map (·.id)) p.id = pos := ⟨_, rfl⟩
  have hple : pos ≤ s.pays.length := by have := posI_le (s.pays.map (·.id)) p.id; rw [hpos] at this; simpa using this
  obtain ⟨fnd, hfnd⟩ : ∃ fnd, fndI (s.pays.map (·.id)) p.id = fnd := ⟨_, rfl⟩
  rw [hpos, hfnd]
  simp [pc0, pc1, pc2, pd1, pd2, -errV_0]
  refine call0 (side_ok p.fr) (by simp [I]) ?_
  rintro y H' ⟨rfl, rfl⟩
  refine ⟨.inl (by simp), le_ok rfl, ?_⟩
  cases hb : decide (p.fr = 0 ∨ p.fr = 1)
  · have hb' := of_decide_eq_false hb
    rw [hadd, if_pos hb']
    simp [EV.lit, SE, staC, zSta]
    refine finW _ (weak_nlB (o := 32) (k := 3) 36 rfl rfl) (finW _ (weak_nlB (o := 32) (k := 4) 3 rfl rfl) ?_)
    exact fin [] (by decide) rfl rfl rfl ⟨rfl, rfl⟩
  have hb' := of_decide_eq_true hb
  rw [hadd, if_neg (by simp [hb']), hfnd]
  simp [pc0, pc1, pc2, pd1, pd2, EV.lit, -errV_0]
  refine alt (fun c1 => ?_) (fun c1 => ?_)
  · rw [if_pos c1]
    simp [EV.lit, SE, staC, zSta]
    refine finW _ (weak_nlB (o := 32) (k := 3) 36 rfl rfl) (finW _ (weak_nlB (o := 32) (k := 4) 3 rfl rfl) ?_)
    exact fin [] (by decide) rfl rfl rfl ⟨rfl, rfl⟩
  rw [if_neg c1]
  simp [hpt, hpl, -errV_0]
  refine call0 (Pmay_ok p p5) (by simp) ?_
  rintro y H' ⟨rfl, rfl⟩
  refine ⟨.inl (by simp [-List.flatMap_eq_nil_iff]), le_ok rfl, ?_⟩
  cases hm : mayP p
  · rw [if_pos rfl]
    simp [EV.lit, SE, staC, zSta]
    refine finW _ (weak_nlB (o := 32) (k := 3) 36 rfl rfl) (finW _ (weak_nlB (o := 32) (k := 4) 3 rfl rfl) ?_)
    exact fin [] (by decide) rfl rfl rfl ⟨rfl, rfl⟩
  rw [if_neg (by simp)]
  cases fnd
  rotate_left
  · rw [if_pos rfl]
    simp [EV.lit, SE, staC, zSta]
    refine finW _ (weak_nlB (o := 32) (k := 3) 36 rfl rfl) (finW _ (weak_nlB (o := 32) (k := 4) 3 rfl rfl) ?_)
    exact fin [] (by decide) rfl rfl rfl ⟨rfl, rfl⟩
  rw [if_neg (by simp)]
  simp [EV.lit, -errV_0]
  refine call0 (Sslots_ok ⟨s.num + 1, s.h0, s.h1, s.pays, s.holds⟩ (nxt_ok hs h0.1)) (by simp [SV, staC, tpv]) ?_
  rintro y H' ⟨rfl, rfl⟩
  refine ⟨.inr ⟨rfl, by simp⟩, le_ok rfl, ?_⟩
  simp [I, -errV_0]
  refine alt (fun c2 => ?_) (fun c2 => ?_)
  · rw [if_pos (by omega)]
    simp [EV.lit, SE, staC, zSta]
    refine finW _ (weak_nlB (o := 32) (k := 3) 36 rfl rfl) (finW _ (weak_nlB (o := 32) (k := 4) 3 rfl rfl) ?_)
    exact fin [] (by decide) rfl rfl rfl ⟨rfl, rfl⟩
  rw [if_neg (by omega)]
  have hins := InsP.ins_ok (payv s.pays) (payF p) pos (by simpa using hple) (by simp; omega)
  simp at hins
  have hpv : payv (insP s.pays p) = (payv s.pays).take pos ++ payF p :: (payv s.pays).drop pos := by rw [payv_ins, hpos]
  have hpl1 : (insP s.pays p).length = s.pays.length + 1 := by simp [insP, hpos]; omega
  have hfl := payF_len p5
  have hpt2 : List.take (s.pays.length + 1) (payv (insP s.pays p)) = payv (insP s.pays p) := List.take_of_length_le (by simp [hpl1])
  rcases hb' with hfr | hfr
  · simp [pc0, pc1, pc2, pd1, pd2, EV.lit, hfr, -errV_0]
    refine alt (fun c3 => ?_) (fun c3 => ?_)
    · rw [if_pos (by simpa [sideS, hfr] using c3)]
      simp [EV.lit, SE, staC, zSta]
      refine finW _ (weak_nlB (o := 32) (k := 3) 36 rfl rfl) (finW _ (weak_nlB (o := 32) (k := 4) 3 rfl rfl) ?_)
      exact fin [] (by decide) rfl rfl rfl ⟨rfl, rfl⟩
    rw [if_neg (by simpa [sideS, hfr] using c3)]
    have w1 : IntKind.i64.wrap (s.h0 - p.am) = s.h0 - p.am := wrap_i64 (by omega) (by omega)
    simp [pc0, pc1, pc2, pd1, pd2, pe0, pe1, pe2, EV.lit, hfr, hpt, hpl, hfl, w1, -errV_0]
    refine callH [80, 1072] hins (by simp) (by simp) (by simp) (by simp) (by simp) ?_
    rintro y H' ⟨rfl, rfl⟩
    refine ⟨.inl (by simp), by simp, ?_⟩
    simp [-errV_0]
    refine finW _ (weak_frz (o := 1088) (ty := 45) (es := 36) (xs := payv (insP s.pays p)) (by rw [hpv]; rfl)) ?_
    exact fin [] (by decide) rfl rfl rfl ⟨rfl, by simp [SE, staC, hpl1, hpt2, errV, hfr, -errV_0]⟩
  · simp [pc0, pc1, pc2, pd1, pd2, EV.lit, hfr, -errV_0]
    refine alt (fun c3 => ?_) (fun c3 => ?_)
    · rw [if_pos (by simpa [sideS, hfr] using c3)]
      simp [EV.lit, SE, staC, zSta]
      refine finW _ (weak_nlB (o := 32) (k := 3) 36 rfl rfl) (finW _ (weak_nlB (o := 32) (k := 4) 3 rfl rfl) ?_)
      exact fin [] (by decide) rfl rfl rfl ⟨rfl, rfl⟩
    rw [if_neg (by simpa [sideS, hfr] using c3)]
    have w1 : IntKind.i64.wrap (s.h1 - p.am) = s.h1 - p.am := wrap_i64 (by omega) (by omega)
    simp [pc0, pc1, pc2, pd1, pd2, pe0, pe1, pe2, EV.lit, hfr, hpt, hpl, hfl, w1, -errV_0]
    refine callH [80, 1072] hins (by simp) (by simp) (by simp) (by simp) (by simp) ?_
    rintro y H' ⟨rfl, rfl⟩
    refine ⟨.inl (by simp), by simp, ?_⟩
    simp [-errV_0]
    refine finW _ (weak_frz (o := 1088) (ty := 45) (es := 36) (xs := payv (insP s.pays p)) (by rw [hpv]; rfl)) ?_
    exact fin [] (by decide) rfl rfl rfl ⟨rfl, by simp [SE, staC, hpl1, hpt2, errV, hfr, -errV_0]⟩

end Go.Proofs.YtpilpjameifcfaaGreatDoor

namespace Go.Proofs.YtpilpjameifcfaaGreatDoor
open Go Go.EW
set_option linter.unusedSimpArgs false
set_option linter.unusedVariables false

def zPay : Pay := ⟨0, 0, 0, 0, hz⟩
def delP (l : List Pay) (x : Int) : List Pay := l.take (posI (l.map (·.id)) x) ++ l.drop (posI (l.map (·.id)) x + 1)
/-- A payment taken out; the error. -/
def takS (s : Sta) (x : Int) : Sta × Pay × Nat :=
  if (nxt s).2 ≠ 0 then (zSta, zPay, 1) else if fndI (s.pays.map (·.id)) x = false then (zSta, zPay, 8)
  else (⟨s.num + 1, s.h0, s.h1, delP s.pays x, s.holds⟩, (s.pays[posI (s.pays.map (·.id)) x]?).getD zPay, 0)
def SP (q : Sta × Pay × Nat) : EV := .tup [.agg (staC q.1), .agg (payC q.2.1), .c (.fz (.lit (errV q.2.2)))]
theorem fzE_payC (o es : Nat) (xs : List (List FV)) (p : Pay) : (payC p).map (fzE o es xs) = payC p := by simp [payC, hc]
theorem payv_del (l : List Pay) (x : Int) : payv (delP l x) = (payv l).take (posI (l.map (·.id)) x) ++ (payv l).drop (posI (l.map (·.id)) x + 1) := by simp [payv, delP]

set_option maxHeartbeats 4000000 in
theorem Stake_ok (s : Sta) (x : Int) (hs : s.ok) (hx64 : i64 x) : ECalls Tryz.prog 65 [SV s, I .i64 x] [] fun y H' => H' = [] ∧ y = SP (takS s x) := by
  obtain ⟨ok1, ok2, ok3, ok4, ok5, ok6, ok7⟩ := id hs
  refine ecalls k_Stake ?_
  simp [c_Stake, SV, staC, I, -errV_0]
  by_cases h0 : mayS s = true ∧ s.num ≠ 1099511627776
  rotate_left
  · have hx : nxt s = (zSta, 1) := by simp only [nxt, if_neg h0]
    have ha : takS s x = (zSta, zPay, 1) := by simp [takS, hx]
    rw [ha]
    refine call0 (next_ok s hs) (by simp [SV, staC]) ?_
    rintro y H' ⟨rfl, rfl⟩
    refine ⟨.inl (by simp), le_ok rfl, ?_⟩
    rw [hx]
    simp [SE, SP, staC, zSta, -errV_0]
    refine finW _ (weak_nlB (o := 16) (k := 3) 36 rfl rfl) (finW _ (weak_nlB (o := 16) (k := 4) 3 rfl rfl) ?_)
    exact fin [] (by decide) rfl rfl rfl ⟨rfl, rfl⟩
  have hx : nxt s = (⟨s.num + 1, s.h0, s.h1, s.pays, s.holds⟩, 0) := by simp only [nxt, if_pos h0]
  obtain ⟨hr, hpl', hh, htot⟩ := mayS_t h0.1
  have hpw := payL_pw hpl'
  have tpv : List.take s.pays.length (payv s.pays) = payv s.pays := List.take_of_length_le (by simp)
  have hadd : takS s x = if fndI (s.pays.map (·.id)) x = false then (zSta, zPay, 8)
      else (⟨s.num + 1, s.h0, s.h1, delP s.pays x, s.holds⟩, (s.pays[posI (s.pays.map (·.id)) x]?).getD zPay, 0) := by
    simp only [takS, hx]
    rw [if_neg (by simp)]
  refine call0 (nextP_ok s hs h0) (by simp [SV, staC]) ?_
  rintro y H' ⟨rfl, rfl⟩
  refine ⟨.inl (by simp), le_ok rfl, ?_⟩
  simp [-errV_0]
  refine call0 (BinP_ok s.pays x ok4 ok6 hpw) (by simp [PL, I, tpv]) ?_
  rintro y H' ⟨rfl, rfl⟩
  refine ⟨.inr ⟨rfl, by simp⟩, le_ok rfl, ?_⟩
  obtain ⟨pos, hpos⟩ : ∃ pos, posI (s.pays.map (·.id)) x = pos := ⟨_, rfl⟩
  obtain ⟨fnd, hfnd⟩ : ∃ fnd, fndI (s.pays.map (·.id)) x = fnd := ⟨_, rfl⟩
  rw [hpos, hfnd] at hadd ⊢
  rw [hadd]
  simp [-errV_0]
  cases fnd
  · simp [SP, staC, zSta, -errV_0]
    refine finW _ (weak_nlB (o := 16) (k := 3) 36 rfl rfl) (finW _ (weak_nlB (o := 16) (k := 4) 3 rfl rfl) ?_)
    exact fin [] (by decide) rfl rfl rfl ⟨rfl, rfl⟩
  have hf2 : (s.pays.map (·.id))[pos]? = some x := by
    have := hfnd
    unfold fndI at this
    rw [hpos] at this
    exact of_decide_eq_true this
  have hlt : pos < s.pays.length := by have := lt_len hf2; simpa using this
  obtain ⟨p, hc⟩ : ∃ p, s.pays[pos]? = some p := ⟨s.pays[pos], by simp [hlt]⟩
  have hpo := ok4 p (List.mem_of_getElem? hc)
  have hge : (payv s.pays)[pos]'(by simp [hlt]) = payF p := by
    have e := payv_get hc
    rw [List.getElem?_eq_getElem (by simp [hlt])] at e
    exact Option.some.inj e
  have hpt := payC_take hpo.2.2.2.2
  have hpl := payC_len hpo.2.2.2.2
  have hfl := payF_len hpo.2.2.2.2
  have w1 : IntKind.i64.wrap ((pos : Int) + 1) = (pos : Int) + 1 := wrap_i64 (by omega) (by omega)
  have hpv : payv (delP s.pays x) = (payv s.pays).take pos ++ (payv s.pays).drop (pos + 1) := by rw [payv_del, hpos]
  have hpl1 : (delP s.pays x).length = s.pays.length - 1 := by simp [delP, hpos]; omega
  have hpt2 : List.take (s.pays.length - 1) (payv (delP s.pays x)) = payv (delP s.pays x) := List.take_of_length_le (by simp [hpl1])
  have hdel := InsP.del_ok (payv s.pays) pos (by simpa using hlt)
  simp at hdel
  rw [hc]
  have hcn : Go.EW.hc [] = [] := rfl
  simp [hlt, hge, payF_fz, hpt, hpl, hfl, w1, hcn, -errV_0]
  refine callH [80] hdel (by simp) (by simp) (by simp) (by simp) (by simp) ?_
  rintro y H' ⟨rfl, rfl⟩
  refine ⟨.inl (by simp), by simp, ?_⟩
  simp [hpt, hpl, hcn, -errV_0]
  refine finW _ (weak_frz (o := 592) (ty := 45) (es := 36) (xs := payv (delP s.pays x)) (by rw [hpv]; rfl)) ?_
  have hfz := fzE_payC 592 36 (payv (delP s.pays x)) p
  exact fin (v := SP (⟨s.num + 1, s.h0, s.h1, delP s.pays x, s.holds⟩, p, 0)) (y := SP (⟨s.num + 1, s.h0, s.h1, delP s.pays x, s.holds⟩, p, 0)) [] (by decide) (by simp [resV, resT, evT, asT, SP, staC, hpt, hpl, hpl1, hpt2, hcn, hfz]) (by simp [conR, conT, conTs, SP, staC]) rfl ⟨rfl, rfl⟩

/-- A payment given back; the error. -/
def falS (s : Sta) (x : Int) : Sta × Nat :=
  if (takS s x).2.2 ≠ 0 then (zSta, (takS s x).2.2) else (⟨(takS s x).1.num, if (takS s x).2.1.fr = 0 then s.h0 + (takS s x).2.1.am else s.h0, if (takS s x).2.1.fr = 0 then s.h1 else s.h1 + (takS s x).2.1.am, (takS s x).1.pays, s.holds⟩, 0)
theorem payL_sum : ∀ {o : Option Int} {l : List Pay}, payL o l = true → ∀ p ∈ l, p.am ≤ sumP l
  | o, [], _, p, hp => by simp at hp
  | o, a :: r, h, p, hp => by
    simp only [payL, Bool.and_eq_true] at h
    have h1 := mayP_am h.1.1
    have h2 := sumP_nn h.2
    have e : sumP (a :: r) = a.am + sumP r := by simp [sumP]
    rcases List.mem_cons.1 hp with rfl | hp
    · omega
    · have := payL_sum h.2 p hp
      omega
theorem payL_mem : ∀ {o : Option Int} {l : List Pay}, payL o l = true → ∀ p ∈ l, mayP p = true
  | o, [], _, p, hp => by simp at hp
  | o, q :: r, h, p, hp => by
    simp only [payL, Bool.and_eq_true] at h
    rcases List.mem_cons.1 hp with rfl | hp
    · exact h.1.1
    · exact payL_mem h.2 p hp

set_option maxHeartbeats 4000000 in
theorem SFail_ok (s : Sta) (x : Int) (hs : s.ok) (hx64 : i64 x) : ECalls Tryz.prog 28 [SV s, I .i64 x] [] fun y H' => H' = [] ∧ y = SE (falS s x) := by
  obtain ⟨ok1, ok2, ok3, ok4, ok5, ok6, ok7⟩ := id hs
  refine ecalls k_SFail ?_
  simp [c_SFail, SV, staC, I, -errV_0]
  refine call0 (Stake_ok s x hs hx64) (by simp [SV, staC, I]) ?_
  rintro y H' ⟨rfl, rfl⟩
  refine ⟨.inl (by simp), le_ok rfl, ?_⟩
  by_cases h0 : mayS s = true ∧ s.num ≠ 1099511627776
  rotate_left
  · have hx : nxt s = (zSta, 1) := by simp only [nxt, if_neg h0]
    have ha : takS s x = (zSta, zPay, 1) := by simp [takS, hx]
    have hb : falS s x = (zSta, 1) := by simp [falS, ha]
    rw [ha, hb]
    simp [SE, SP, staC, zSta, zPay, payC, -errV_0]
    refine finW _ (weak_nlB (o := 16) (k := 3) 36 rfl rfl) (finW _ (weak_nlB (o := 16) (k := 4) 3 rfl rfl) ?_)
    exact fin [] (by decide) rfl rfl rfl ⟨rfl, rfl⟩
  have hx : nxt s = (⟨s.num + 1, s.h0, s.h1, s.pays, s.holds⟩, 0) := by simp only [nxt, if_pos h0]
  obtain ⟨hr, hpl', hh, htot⟩ := mayS_t h0.1
  cases hf : fndI (s.pays.map (·.id)) x
  · have ha : takS s x = (zSta, zPay, 8) := by simp [takS, hx, hf]
    have hb : falS s x = (zSta, 8) := by simp [falS, ha]
    rw [ha, hb]
    simp [SE, SP, staC, zSta, zPay, payC, -errV_0]
    refine finW _ (weak_nlB (o := 16) (k := 3) 36 rfl rfl) (finW _ (weak_nlB (o := 16) (k := 4) 3 rfl rfl) ?_)
    exact fin [] (by decide) rfl rfl rfl ⟨rfl, rfl⟩
  have hf2 : (s.pays.map (·.id))[posI (s.pays.map (·.id)) x]? = some x := of_decide_eq_true hf
  have hlt : posI (s.pays.map (·.id)) x < s.pays.length := by have := lt_len hf2; simpa using this
  obtain ⟨p, hc⟩ : ∃ p, s.pays[posI (s.pays.map (·.id)) x]? = some p := ⟨s.pays[posI (s.pays.map (·.id)) x], by simp [hlt]⟩
  have hpm := List.mem_of_getElem? hc
  have hpo := ok4 p hpm
  have hma := of_decide_eq_true (payL_mem hpl' p hpm)
  obtain ⟨m1, m2, m3, m4, m5, m6, m7, m8⟩ := hma
  have hle := payL_sum hpl' p hpm
  have hnn := sumH_nn hh
  have hto : total s = s.h0 + s.h1 + sumP s.pays + sumH s.holds := rfl
  have ha : takS s x = (⟨s.num + 1, s.h0, s.h1, delP s.pays x, s.holds⟩, p, 0) := by simp [takS, hx, hf, hc]
  have hb : falS s x = (⟨s.num + 1, if p.fr = 0 then s.h0 + p.am else s.h0, if p.fr = 0 then s.h1 else s.h1 + p.am, delP s.pays x, s.holds⟩, 0) := by simp [falS, ha]
  rw [ha, hb]
  have hpt := payC_take hpo.2.2.2.2
  have hpl := payC_len hpo.2.2.2.2
  simp [SP, staC, hpl, hpt, pc0, pc1, pc2, pd1, pd2, pe0, pe1, pe2, -errV_0]
  rcases m3 with hfr | hfr
  · have w1 : IntKind.i64.wrap (s.h0 + p.am) = s.h0 + p.am := wrap_i64 (by omega) (by omega)
    simp [hfr, pc0, pc1, pc2, pd1, pd2, pe0, pe1, pe2, hpl, w1, -errV_0]
    exact fin [] (by decide) rfl rfl rfl ⟨rfl, by simp [SE, staC, hfr, errV, -errV_0]⟩
  · have w1 : IntKind.i64.wrap (s.h1 + p.am) = s.h1 + p.am := wrap_i64 (by omega) (by omega)
    simp [hfr, pc0, pc1, pc2, pd1, pd2, pe0, pe1, pe2, hpl, w1, -errV_0]
    exact fin [] (by decide) rfl rfl rfl ⟨rfl, by simp [SE, staC, hfr, errV, -errV_0]⟩

end Go.Proofs.YtpilpjameifcfaaGreatDoor

namespace Go.Proofs.YtpilpjameifcfaaGreatDoor
open Go Go.EW
set_option linter.unusedSimpArgs false
set_option linter.unusedVariables false
/- Rising rows, one thing laid in or taken out: plain. -/

theorem posI_lt : ∀ {l : List Int} {x : Int} {k : Nat} {y : Int}, k < posI l x → l[k]? = some y → y < x
  | [], x, k, y, h, hy => by simp at hy
  | a :: r, x, k, y, h, hy => by
    by_cases ha : a < x
    · cases k with
      | zero => simp at hy; omega
      | succ k =>
        refine posI_lt (l := r) (k := k) ?_ (by simpa using hy)
        simp [posI, List.takeWhile_cons, ha] at h ⊢
        omega
    · simp [posI, List.takeWhile_cons, ha] at h
theorem posI_at : ∀ {l : List Int} {x y : Int}, l[posI l x]? = some y → x ≤ y
  | [], x, y, h => by simp at h
  | a :: r, x, y, h => by
    by_cases ha : a < x
    · refine posI_at (l := r) (x := x) ?_
      have e : posI (a :: r) x = posI r x + 1 := by simp [posI, List.takeWhile_cons, ha]
      rw [e] at h
      simpa using h
    · have e : posI (a :: r) x = 0 := by simp [posI, List.takeWhile_cons, ha]
      rw [e] at h
      simp at h
      omega
theorem posI_ge {l : List Int} {x y : Int} {k : Nat} (hs : l.Pairwise (· < ·)) (h : posI l x ≤ k) (hy : l[k]? = some y) : x ≤ y := by
  rcases Nat.lt_or_ge (posI l x) k with h1 | h1
  · have hk := lt_len hy
    obtain ⟨z, hz⟩ : ∃ z, l[posI l x]? = some z := ⟨l[posI l x]'(by omega), by simp⟩
    have := pw_get hs h1 hz hy
    have := posI_at hz
    omega
  · obtain rfl : posI l x = k := by omega
    exact posI_at hy
theorem pw_ins {l : List Int} {x : Int} (hs : l.Pairwise (· < ·)) (hf : fndI l x = false) : (l.take (posI l x) ++ x :: l.drop (posI l x)).Pairwise (· < ·) := by
  have hne : l[posI l x]? ≠ some x := of_decide_eq_false hf
  have hlo : ∀ a ∈ l.take (posI l x), a < x := by
    intro a ha
    obtain ⟨k, hk⟩ := List.getElem?_of_mem ha
    rw [List.getElem?_take] at hk
    split at hk
    · rename_i h; exact posI_lt h hk
    · simp at hk
  have hhi : ∀ a ∈ l.drop (posI l x), x < a := by
    intro a ha
    obtain ⟨k, hk⟩ := List.getElem?_of_mem ha
    rw [List.getElem?_drop] at hk
    have h1 := posI_ge (x := x) hs (by omega) hk
    rcases Int.lt_or_eq_of_le h1 with h2 | h2
    · exact h2
    · exfalso
      subst h2
      cases k with
      | zero => exact hne hk
      | succ k =>
        obtain ⟨z, hz⟩ : ∃ z, l[posI l x]? = some z := ⟨l[posI l x]'(by have := lt_len hk; omega), by simp⟩
        have := pw_get hs (show posI l x < posI l x + (k + 1) by omega) hz hk
        have := posI_at hz
        omega
  refine List.pairwise_append.2 ⟨hs.sublist (List.take_sublist _ _), List.pairwise_cons.2 ⟨hhi, hs.sublist (List.drop_sublist _ _)⟩, ?_⟩
  intro a ha b hb
  rcases List.mem_cons.1 hb with rfl | hb
  · exact hlo a ha
  · have := hlo a ha; have := hhi b hb; omega
theorem pw_del {l : List Int} (k : Nat) (hs : l.Pairwise (· < ·)) : (l.take k ++ l.drop (k + 1)).Pairwise (· < ·) := by
  rw [← List.eraseIdx_eq_take_drop_succ]
  exact hs.sublist (List.eraseIdx_sublist _ _)
theorem posI_ins {l : List Int} {x : Int} : posI (l.take (posI l x) ++ x :: l.drop (posI l x)) x = posI l x := by
  have hp := posI_le l x
  refine posI_eq (by simp; omega) ?_ ?_
  · intro k y hk hy
    rw [List.getElem?_append_left (by rw [List.length_take]; omega), List.getElem?_take, if_pos hk] at hy
    exact posI_lt hk hy
  · intro y hy
    rw [List.getElem?_append_right (by rw [List.length_take]; omega), List.length_take, show posI l x - min (posI l x) l.length = 0 by omega] at hy
    simp at hy
    omega
theorem fndI_ins {l : List Int} {x : Int} : fndI (l.take (posI l x) ++ x :: l.drop (posI l x)) x = true := by
  have hp := posI_le l x
  unfold fndI
  rw [posI_ins, List.getElem?_append_right (by rw [List.length_take]; omega), List.length_take, show posI l x - min (posI l x) l.length = 0 by omega]
  simp

variable {α : Type}
def insA (f : α → Int) (l : List α) (a : α) : List α := l.take (posI (l.map f) (f a)) ++ a :: l.drop (posI (l.map f) (f a))
def delA (f : α → Int) (l : List α) (x : Int) : List α := l.take (posI (l.map f) x) ++ l.drop (posI (l.map f) x + 1)
theorem insP_eq (l : List Pay) (p : Pay) : insP l p = insA Pay.id l p := rfl
theorem delP_eq (l : List Pay) (x : Int) : delP l x = delA Pay.id l x := rfl
theorem map_ins (f : α → Int) (l : List α) (a : α) : (insA f l a).map f = (l.map f).take (posI (l.map f) (f a)) ++ f a :: (l.map f).drop (posI (l.map f) (f a)) := by simp [insA]
theorem map_del (f : α → Int) (l : List α) (x : Int) : (delA f l x).map f = (l.map f).take (posI (l.map f) x) ++ (l.map f).drop (posI (l.map f) x + 1) := by simp [delA]
theorem mem_ins {f : α → Int} {l : List α} {a b : α} : b ∈ insA f l a → b = a ∨ b ∈ l := by
  intro h
  rcases List.mem_append.1 h with h | h
  · exact .inr (List.mem_of_mem_take h)
  · rcases List.mem_cons.1 h with h | h
    · exact .inl h
    · exact .inr (List.mem_of_mem_drop h)
theorem mem_del {f : α → Int} {l : List α} {x : Int} {b : α} : b ∈ delA f l x → b ∈ l := by
  intro h
  rcases List.mem_append.1 h with h | h
  · exact List.mem_of_mem_take h
  · exact List.mem_of_mem_drop h
theorem posA_le (f : α → Int) (l : List α) (x : Int) : posI (l.map f) x ≤ l.length := by have := posI_le (l.map f) x; simpa using this
theorem len_ins (f : α → Int) (l : List α) (a : α) : (insA f l a).length = l.length + 1 := by
  have := posA_le f l (f a)
  simp [insA]; omega
theorem sum_ins (f g : α → Int) (l : List α) (a : α) : ((insA f l a).map g).sum = (l.map g).sum + g a := by
  have e : (l.map g).sum = ((l.take (posI (l.map f) (f a))).map g).sum + ((l.drop (posI (l.map f) (f a))).map g).sum := by
    rw [← List.sum_append, ← List.map_append, List.take_append_drop]
  rw [e]
  simp [insA]
  omega
theorem get_ins (f : α → Int) (l : List α) (a : α) : (insA f l a)[posI ((insA f l a).map f) (f a)]? = some a := by
  have hp := posA_le f l (f a)
  rw [map_ins, posI_ins]
  unfold insA
  rw [List.getElem?_append_right (by rw [List.length_take]; omega), List.length_take, show posI (l.map f) (f a) - min (posI (l.map f) (f a)) l.length = 0 by omega]
  rfl
theorem del_ins (f : α → Int) (l : List α) (a : α) : delA f (insA f l a) (f a) = l := by
  have hp := posA_le f l (f a)
  unfold delA
  rw [map_ins, posI_ins]
  unfold insA
  have hl : (l.take (posI (l.map f) (f a))).length = posI (l.map f) (f a) := by rw [List.length_take]; omega
  rw [List.take_left' hl, ← List.drop_drop, List.drop_left' hl]
  simp
theorem sum_del {f : α → Int} (g : α → Int) {l : List α} {x : Int} {b : α} (h : l[posI (l.map f) x]? = some b) : ((delA f l x).map g).sum = (l.map g).sum - g b := by
  have hlt := lt_len h
  have e : l = l.take (posI (l.map f) x) ++ b :: l.drop (posI (l.map f) x + 1) := by
    have h2 := List.getElem?_eq_some_iff.1 h
    obtain ⟨h3, h4⟩ := h2
    rw [← h4, List.getElem_cons_drop, List.take_append_drop]
  have e2 : (l.map g).sum = ((l.take (posI (l.map f) x)).map g).sum + (g b + ((l.drop (posI (l.map f) x + 1)).map g).sum) := by
    conv => lhs; rw [e]
    simp
  rw [e2]
  simp [delA]
  omega
theorem len_del {f : α → Int} {l : List α} {x : Int} {b : α} (h : l[posI (l.map f) x]? = some b) : (delA f l x).length = l.length - 1 := by
  have hlt := lt_len h
  simp [delA]; omega
theorem fnd_get {f : α → Int} {l : List α} {x : Int} (h : fndI (l.map f) x = true) : ∃ b, l[posI (l.map f) x]? = some b ∧ f b = x := by
  have h2 : (l.map f)[posI (l.map f) x]? = some x := of_decide_eq_true h
  rw [List.getElem?_map, Option.map_eq_some_iff] at h2
  exact h2

theorem payL_iff : ∀ {o : Option Int} {l : List Pay}, payL o l = true ↔ (∀ p ∈ l, mayP p = true) ∧ (l.map Pay.id).Pairwise (· < ·) ∧ ∀ q, o = some q → ∀ p ∈ l, q < p.id := by
  intro o l
  constructor
  · intro h
    exact ⟨payL_mem h, payL_pw h, fun q hq p hp => payL_lo h p hp q hq⟩
  · revert o
    induction l with
    | nil => intro o _; rfl
    | cons a r ih =>
      rintro o ⟨h1, h2, h3⟩
      simp only [List.map_cons, List.pairwise_cons] at h2
      have ha : aft o a.id = true := by
        cases o with
        | none => rfl
        | some q => exact decide_eq_true (h3 q rfl a (by simp))
      simp only [payL, h1 a (by simp), ha, Bool.true_and]
      exact ih ⟨fun p hp => h1 p (by simp [hp]), h2.2, fun q hq p hp => by
        obtain rfl := Option.some.inj hq
        exact h2.1 p.id (List.mem_map.2 ⟨p, hp, rfl⟩)⟩
theorem mayS_mk {s : Sta} (h1 : 0 ≤ s.num ∧ s.num ≤ 1099511627776 ∧ 0 ≤ s.h0 ∧ s.h0 ≤ 1125899906842624 ∧ 0 ≤ s.h1 ∧ s.h1 ≤ 1125899906842624 ∧ s.pays.length ≤ 8 ∧ s.holds.length + s.pays.length ≤ 8) (h2 : payL none s.pays = true) (h3 : holL none s.holds = true) (h4 : total s ≤ 1125899906842624) : mayS s = true := by
  simp only [mayS, h2, h3, decide_eq_true h1, decide_eq_true h4, Bool.and_self]
theorem mayP_pos {p : Pay} (h : mayP p = true) : (p.fr = 0 ∨ p.fr = 1) ∧ 10 ≤ p.am ∧ p.am ≤ 1125899906842624 := by
  have := of_decide_eq_true h
  omega
/-- A payment that was laid. -/
theorem addP_may {s : Sta} {p : Pay} (h : (addP s p).2 = 0) : mayS s = true ∧ s.num ≠ 1099511627776 ∧ mayP p = true ∧ fndI (s.pays.map Pay.id) p.id = false ∧
    addP s p = (⟨s.num + 1, if p.fr = 0 then s.h0 - p.am else s.h0, if p.fr = 0 then s.h1 else s.h1 - p.am, insP s.pays p, s.holds⟩, 0) ∧ mayS (addP s p).1 = true ∧ total (addP s p).1 = total s := by
  by_cases h0 : mayS s = true ∧ s.num ≠ 1099511627776
  rotate_left
  · have hx : nxt s = (zSta, 1) := by simp only [nxt, if_neg h0]
    simp [addP, hx] at h
  have hx : nxt s = (⟨s.num + 1, s.h0, s.h1, s.pays, s.holds⟩, 0) := by simp only [nxt, if_pos h0]
  obtain ⟨hr, hpl, hh, htot⟩ := mayS_t h0.1
  obtain ⟨q1, q2, q3⟩ := payL_iff.1 hpl
  simp only [addP, hx] at h ⊢
  rw [if_neg (by simp)] at h ⊢
  split at h
  · simp at h
  rename_i c1
  split at h
  · simp at h
  rename_i c2
  split at h
  · simp at h
  rename_i c3
  split at h
  · simp at h
  rename_i c4
  split at h
  · simp at h
  rename_i c5
  split at h
  · simp at h
  rename_i c6
  have hm : mayP p = true := by simpa using c3
  have hf : fndI (s.pays.map Pay.id) p.id = false := by simpa using c4
  have hpp := mayP_pos hm
  have hs1 : sumP (insP s.pays p) = sumP s.pays + p.am := sum_ins Pay.id (·.am) s.pays p
  have hl1 : (insP s.pays p).length = s.pays.length + 1 := len_ins Pay.id s.pays p
  have hto : total s = s.h0 + s.h1 + sumP s.pays + sumH s.holds := rfl
  have hpi : payL none (insP s.pays p) = true := payL_iff.2 ⟨fun b hb => by
      rcases mem_ins (f := Pay.id) hb with rfl | hb
      · exact hm
      · exact q1 b hb, by
      rw [insP_eq, map_ins]
      exact pw_ins q2 hf, fun q hq => by simp at hq⟩
  rw [if_neg c1, if_neg c2, if_neg c3, if_neg c4, if_neg c5, if_neg c6]
  refine ⟨h0.1, h0.2, hm, hf, rfl, ?_, ?_⟩
  · unfold sideS at c6
    refine mayS_mk ?_ hpi hh ?_
    · dsimp only
      rw [hl1]
      rcases hpp.1 with e | e
      · rw [if_pos e] at c6; rw [if_pos e, if_pos e]; omega
      · rw [if_neg (by omega)] at c6; rw [if_neg (by omega), if_neg (by omega)]; omega
    · show (if p.fr = 0 then s.h0 - p.am else s.h0) + (if p.fr = 0 then s.h1 else s.h1 - p.am) + sumP (insP s.pays p) + sumH s.holds ≤ _
      rw [hs1]
      split <;> omega
  · show (if p.fr = 0 then s.h0 - p.am else s.h0) + (if p.fr = 0 then s.h1 else s.h1 - p.am) + sumP (insP s.pays p) + sumH s.holds = _
    rw [hs1, hto]
    split <;> omega

/-- What is laid and given back is as it was. -/
theorem fal_add {s : Sta} {p : Pay} (h : (addP s p).2 = 0) (hn : s.num ≤ 549755813888) : (falS (addP s p).1 p.id).2 = 0 ∧ (falS (addP s p).1 p.id).1.h0 = s.h0 ∧ (falS (addP s p).1 p.id).1.h1 = s.h1 ∧ (falS (addP s p).1 p.id).1.pays.length = s.pays.length := by
  obtain ⟨h1, h2, h3, h4, h5, h6, h7⟩ := addP_may h
  obtain ⟨X, hX⟩ : ∃ X, (addP s p).1 = X := ⟨_, rfl⟩
  have hX2 : X = ⟨s.num + 1, if p.fr = 0 then s.h0 - p.am else s.h0, if p.fr = 0 then s.h1 else s.h1 - p.am, insP s.pays p, s.holds⟩ := by rw [← hX, h5]
  rw [hX] at h6 h7 ⊢
  have hXn : X.num = s.num + 1 := by rw [hX2]
  have hXp : X.pays = insP s.pays p := by rw [hX2]
  have hx : nxt X = (⟨X.num + 1, X.h0, X.h1, X.pays, X.holds⟩, 0) := by simp only [nxt]; rw [if_pos ⟨h6, by omega⟩]
  have hf : fndI (X.pays.map Pay.id) p.id = true := by rw [hXp, insP_eq, map_ins]; exact fndI_ins
  have hg : X.pays[posI (X.pays.map Pay.id) p.id]? = some p := by rw [hXp, insP_eq]; exact get_ins Pay.id s.pays p
  have hd : delP X.pays p.id = s.pays := by rw [hXp, insP_eq, delP_eq]; exact del_ins Pay.id s.pays p
  have ht : takS X p.id = (⟨X.num + 1, X.h0, X.h1, s.pays, X.holds⟩, p, 0) := by
    simp only [takS, hx]
    rw [if_neg (by simp), if_neg (by rw [hf]; simp), hg, hd]
    rfl
  simp only [falS, ht]
  rw [if_neg (by simp)]
  refine ⟨rfl, ?_, ?_, rfl⟩
  · rw [hX2]; dsimp only; split <;> omega
  · rw [hX2]; dsimp only; split <;> omega
theorem moveS_back {s : Sta} {a n : Int} (h : (moveS s a n).2 = 0) (hn : s.num ≤ 549755813888) (hs : s.ok) : (a = 0 ∨ a = 1) ∧ (moveS (moveS s a n).1 (1 - a) n).2 = 0 ∧ (moveS (moveS s a n).1 (1 - a) n).1.h0 = s.h0 ∧ (moveS (moveS s a n).1 (1 - a) n).1.h1 = s.h1 := by
  by_cases h0 : mayS s = true ∧ s.num ≠ 1099511627776
  rotate_left
  · have hx : nxt s = (zSta, 1) := by simp only [nxt, if_neg h0]
    simp [moveS, hx] at h
  have hx : nxt s = (⟨s.num + 1, s.h0, s.h1, s.pays, s.holds⟩, 0) := by simp only [nxt, if_pos h0]
  obtain ⟨hr, hpl, hh, htot⟩ := mayS_t h0.1
  have hsp := sumP_nn hpl
  have hsh := sumH_nn hh
  have hto : total s = s.h0 + s.h1 + sumP s.pays + sumH s.holds := rfl
  have may2 : ∀ u v : Int, 0 ≤ u → 0 ≤ v → u + v = s.h0 + s.h1 → nxt ⟨s.num + 1, u, v, s.pays, s.holds⟩ = (⟨s.num + 1 + 1, u, v, s.pays, s.holds⟩, 0) := by
    intro u v hu hv huv
    have hm : mayS ⟨s.num + 1, u, v, s.pays, s.holds⟩ = true := by
      refine mayS_mk ?_ hpl hh ?_
      · dsimp only; omega
      · show u + v + sumP s.pays + sumH s.holds ≤ _; omega
    have hn2 : s.num + 1 ≠ 1099511627776 := by omega
    simp only [nxt, hm]
    rw [if_pos ⟨trivial, hn2⟩]
  have key : (a = 0 ∨ a = 1) ∧ ¬ n < 1 ∧ ¬ (if a = 0 then s.h0 else s.h1) < n ∧ moveS s a n = (if a = 0 then (⟨s.num + 1, s.h0 - n, s.h1 + n, s.pays, s.holds⟩, 0) else (⟨s.num + 1, s.h0 + n, s.h1 - n, s.pays, s.holds⟩, 0)) := by
    simp only [moveS, hx] at h ⊢
    rw [if_neg (by simp)] at h
    by_cases c1 : ¬ (a = 0 ∨ a = 1)
    · rw [if_pos c1] at h; simp at h
    rw [if_neg c1] at h
    by_cases c2 : n < 1
    · rw [if_pos c2] at h; simp at h
    rw [if_neg c2] at h
    by_cases c3 : (if a = 0 then s.h0 else s.h1) < n
    · rw [if_pos c3] at h; simp at h
    have c1' : a = 0 ∨ a = 1 := Classical.not_not.1 c1
    refine ⟨c1', c2, c3, ?_⟩
    rw [if_neg (by simp), if_neg c1, if_neg c2, if_neg c3]
  obtain ⟨c1, c2, c3, hmv⟩ := key
  rw [hmv]
  refine ⟨c1, ?_⟩
  rcases c1 with rfl | rfl
  · simp only [if_true] at c3 ⊢
    have hx2 := may2 (s.h0 - n) (s.h1 + n) (by omega) (by omega) (by omega)
    have hm2 : moveS ⟨s.num + 1, s.h0 - n, s.h1 + n, s.pays, s.holds⟩ (1 - 0) n = (⟨s.num + 1 + 1, s.h0 - n + n, s.h1 + n - n, s.pays, s.holds⟩, 0) := by
      simp only [moveS, hx2]
      rw [if_neg (by simp), if_neg (by omega), if_neg c2, if_neg (by rw [if_neg (by omega)]; omega), if_neg (by omega)]
    rw [hm2]
    refine ⟨rfl, ?_, ?_⟩
    · dsimp only; omega
    · dsimp only; omega
  · simp only [show ¬ (1 : Int) = 0 by omega, if_false] at c3 ⊢
    have hx2 := may2 (s.h0 + n) (s.h1 - n) (by omega) (by omega) (by omega)
    have hm2 : moveS ⟨s.num + 1, s.h0 + n, s.h1 - n, s.pays, s.holds⟩ (1 - 1) n = (⟨s.num + 1 + 1, s.h0 + n - n, s.h1 - n + n, s.pays, s.holds⟩, 0) := by
      simp only [moveS, hx2]
      rw [if_neg (by simp), if_neg (by omega), if_neg c2, if_neg (by rw [if_pos (by omega)]; omega), if_pos (by omega)]
    rw [hm2]
    refine ⟨rfl, ?_, ?_⟩
    · dsimp only; omega
    · dsimp only; omega

theorem may_ok {s : Sta} (h : mayS s = true) (hp : ∀ p ∈ s.pays, p.ok) (hh : ∀ h ∈ s.holds, h.ok) : s.ok := by
  obtain ⟨hr, _⟩ := mayS_t h
  exact ⟨⟨by omega, by omega⟩, ⟨by omega, by omega⟩, ⟨by omega, by omega⟩, hp, hh, by omega, by omega⟩
theorem addP_ok {s : Sta} {p : Pay} (hs : s.ok) (hp : p.ok) (h : (addP s p).2 = 0) : (addP s p).1.ok := by
  obtain ⟨h1, h2, h3, h4, h5, h6, h7⟩ := addP_may h
  refine may_ok h6 ?_ ?_
  · rw [h5]
    intro q hq
    rcases mem_ins (f := Pay.id) hq with rfl | hq
    · exact hp
    · exact hs.2.2.2.1 q hq
  · rw [h5]; exact hs.2.2.2.2.1

end Go.Proofs.YtpilpjameifcfaaGreatDoor

namespace Go.Proofs.YtpilpjameifcfaaGreatDoor
open Go Go.EW
set_option linter.unusedSimpArgs false
set_option linter.unusedVariables false

/-- A row that is made and handed back may be handed back as one that is only looked at. -/
theorem ecalls_frz {P : Program} {f : FuncId} {args : List EV} {ty es : Nat} {xs : List (List FV)} (h : ECalls P f args [] fun y H' => H' = [some (.row ty es xs)] ∧ y = .v (.c (.row 0 xs.length))) : ECalls P f args [] fun y H' => H' = [] ∧ y = .v (.c (.fz (.sl es xs))) := by
  intro ρ Φ w vals r ha
  refine (h ρ Φ w vals r ha).mono ?_
  rintro e w' ⟨y, H', v, ρ', Φ', he, ⟨rfl, rfl⟩, hlen, hv, hr⟩
  have hw := weak_frz (m := 0) (n := 1) (T := [.v (.c (.row 0 xs.length))]) (H := ofO [some (.row ty es xs)]) (o := 0) (ty := ty) (es := es) (xs := xs) rfl
  obtain ⟨⟨X, hX, r1, a1, _, _⟩, _⟩ := hw w ρ Φ { tmps := #[v], defers := [] } w' ⟨⟨⟨fun o => o < 1, ρ', Φ', w'⟩, rfl, hr, All2.cons hv All2.nil, rfl, fun i hi => hi⟩, Nat.zero_le _⟩
  obtain ⟨XU, Xρ, XΦ, Xw⟩ := X
  obtain rfl : Xw = w' := hX
  refine ⟨_, [], v, Xρ, XΦ, he, ⟨rfl, rfl⟩, Nat.zero_le _, ?_, ?_⟩
  · have := a1.head
    simp at this
    exact this
  · refine ⟨r1.os, r1.tape, r1.output, r1.size, r1.block, fun o ho => absurd ho (Nat.not_lt_zero _), ?_, ?_, ?_, ?_, r1.fro, r1.phi, r1.glob⟩
    · intro o x hx; simp [ofO] at hx
    · intro o o' x x' b hx; simp [ofO] at hx
    · intro o x b hx; simp [ofO] at hx
    · intro o x b hx; simp [ofO] at hx

end Go.Proofs.YtpilpjameifcfaaGreatDoor

namespace Go.Proofs.YtpilpjameifcfaaGreatDoor
open Go Go.EW
set_option linter.unusedSimpArgs false
set_option linter.unusedVariables false

@[simp] theorem conAll_holC (H : Nat → Option EO) (ids : List Nat) (p : Hol) : conAll H ids (holC p) = some (holC p) := by simp [holC]
@[simp] theorem strAll_holC (ids : List Nat) (p : Hol) : strAll ids (holC p) = some (holC p) := by simp [holC, strAll, strC]
@[simp] theorem frzAll_holC (p : Hol) : frzAll (holC p) = some (holF p) := by simp [holC, holF, frzAll, frz]
@[simp] theorem refs_holC (p : Hol) : (holC p).flatMap refsC = [] := by simp [holC]
@[simp] theorem fz_holC (ids : List Nat) (p : Hol) : (holC p).flatMap (fzC ids) = [] := by simp [holC]
@[simp] theorem ren_holC (g : Nat → Nat) (p : Hol) : (holC p).map (renC g) = holC p := by simp [holC]
theorem holL_lo : ∀ {o : Option Int} {l : List Hol}, holL o l = true → ∀ p ∈ l, ∀ q, o = some q → q < p.id
  | o, [], _, p, hp, q, _ => by simp at hp
  | o, a :: r, h, p, hp, q, hq => by
    simp only [holL, Bool.and_eq_true] at h
    have ha : q < a.id := by
      have := h.1.2
      rw [hq] at this
      exact of_decide_eq_true this
    rcases List.mem_cons.1 hp with rfl | hp
    · exact ha
    · have := holL_lo h.2 p hp a.id rfl
      omega
theorem holL_pw : ∀ {o : Option Int} {l : List Hol}, holL o l = true → (l.map (·.id)).Pairwise (· < ·)
  | o, [], _ => by simp
  | o, a :: r, h => by
    simp only [holL, Bool.and_eq_true] at h
    simp only [List.map_cons, List.pairwise_cons]
    refine ⟨?_, holL_pw h.2⟩
    intro y hy
    obtain ⟨p, hp, rfl⟩ := List.mem_map.1 hy
    exact holL_lo h.2 p hp a.id rfl
theorem holL_mem : ∀ {o : Option Int} {l : List Hol}, holL o l = true → ∀ p ∈ l, mayH p = true
  | o, [], _, p, hp => by simp at hp
  | o, q :: r, h, p, hp => by
    simp only [holL, Bool.and_eq_true] at h
    rcases List.mem_cons.1 hp with rfl | hp
    · exact h.1.1
    · exact holL_mem h.2 p hp
theorem holL_iff : ∀ {o : Option Int} {l : List Hol}, holL o l = true ↔ (∀ p ∈ l, mayH p = true) ∧ (l.map Hol.id).Pairwise (· < ·) ∧ ∀ q, o = some q → ∀ p ∈ l, q < p.id := by
  intro o l
  constructor
  · intro h
    exact ⟨holL_mem h, holL_pw h, fun q hq p hp => holL_lo h p hp q hq⟩
  · revert o
    induction l with
    | nil => intro o _; rfl
    | cons a r ih =>
      rintro o ⟨h1, h2, h3⟩
      simp only [List.map_cons, List.pairwise_cons] at h2
      have ha : aft o a.id = true := by
        cases o with
        | none => rfl
        | some q => exact decide_eq_true (h3 q rfl a (by simp))
      simp only [holL, h1 a (by simp), ha, Bool.true_and]
      exact ih ⟨fun p hp => h1 p (by simp [hp]), h2.2, fun q hq p hp => by
        obtain rfl := Option.some.inj hq
        exact h2.1 p.id (List.mem_map.2 ⟨p, hp, rfl⟩)⟩
/-- A hold kept; the error. -/
def keeS (s : Sta) (who : Int) (h : Hol) : Sta × Nat :=
  if (nxt s).2 ≠ 0 then (zSta, 1) else if ¬ (who = 0 ∨ who = 1) then (zSta, 33) else if h.am < 10 then (zSta, 27) else if mayH h = false then (zSta, 1)
  else if fndI (s.holds.map (·.id)) h.id = true then (zSta, 9) else if 8 ≤ s.pays.length + s.holds.length then (zSta, 30) else if sideS s who < h.am then (zSta, 20)
  else (⟨s.num + 1, if who = 0 then s.h0 - h.am else s.h0, if who = 0 then s.h1 else s.h1 - h.am, s.pays, insA Hol.id s.holds h⟩, 0)
theorem holv_ins (l : List Hol) (h : Hol) : holv (insA Hol.id l h) = (holv l).take (posI (l.map (·.id)) h.id) ++ holF h :: (holv l).drop (posI (l.map (·.id)) h.id) := by simp [holv, insA]
theorem holv_del (l : List Hol) (x : Int) : holv (delA Hol.id l x) = (holv l).take (posI (l.map (·.id)) x) ++ (holv l).drop (posI (l.map (·.id)) x + 1) := by simp [holv, delA]
theorem hc0' (h : Hol) : holC h = [.fz (.lit (.int .i64 h.id)), .fz (.lit (.int .i64 h.am)), .fz (.sl 1 (intv h.keys))] := rfl

/-- A hold freed; the error. -/
def freS (s : Sta) (x a : Int) : Sta × Nat :=
  if (nxt s).2 ≠ 0 then (zSta, 1) else match s.holds[posI (s.holds.map (·.id)) x]? with
  | none => (zSta, 8)
  | some h => if h.id ≠ x then (zSta, 8) else if a < 0 ∨ h.am < a then (zSta, 20) else (⟨s.num + 1, s.h0 + a, s.h1 + (h.am - a), s.pays, delA Hol.id s.holds x⟩, 0)
theorem holL_sum : ∀ {o : Option Int} {l : List Hol}, holL o l = true → ∀ p ∈ l, p.am ≤ sumH l
  | o, [], _, p, hp => by simp at hp
  | o, a :: r, h, p, hp => by
    simp only [holL, Bool.and_eq_true] at h
    have h1 := mayH_am h.1.1
    have h2 := sumH_nn h.2
    have e : sumH (a :: r) = a.am + sumH r := by simp [sumH]
    rcases List.mem_cons.1 hp with rfl | hp
    · omega
    · have := holL_sum h.2 p hp
      omega

end Go.Proofs.YtpilpjameifcfaaGreatDoor

namespace Go.Proofs.YtpilpjameifcfaaGreatDoor
open Go Go.EW
set_option linter.unusedSimpArgs false
set_option linter.unusedVariables false

@[simp] def l_Rot_1 (_ : Unit) : List EOp := [⟨0, (some 4), none, (.q (.mov (.k (.int .u32 0)))), []⟩]
@[simp] def b_Rot_2 (_ : Unit) : EB := reg0 (hid l_Rot_1) 1
@[simp] def l_Rot_3 (_ : Unit) : List EOp := [⟨0, (some 6), none, (.q (.mov (.t 1))), []⟩, ⟨1, (some 7), none, (.q (.cnv .u64 (.t 6))), []⟩, ⟨2, (some 8), none, (.q (.bin .and (.t 7) (.k (.int .u64 31)))), []⟩, ⟨3, (some 5), none, (.q (.mov (.t 8))), []⟩]
@[simp] def b_Rot_4 (_ : Unit) : EB := reg0 (hid l_Rot_3) 4
@[simp] def l_Rot_6 (_ : Unit) : List EOp := [⟨6, (some 15), none, (.q (.bin .shr (.t 12) (.t 14))), []⟩, ⟨7, (some 16), none, (.q (.bin .or (.t 11) (.t 15))), []⟩, ⟨8, (some 4), none, (.q (.mov (.t 16))), []⟩]
@[simp] def l_Rot_5 (_ : Unit) : List EOp := ⟨0, (some 9), none, (.q (.mov (.t 0))), []⟩ :: ⟨1, (some 10), none, (.q (.mov (.t 5))), []⟩ :: ⟨2, (some 11), none, (.q (.bin .shl (.t 9) (.t 10))), []⟩ :: ⟨3, (some 12), none, (.q (.mov (.t 0))), []⟩ :: ⟨4, (some 13), none, (.q (.mov (.t 5))), []⟩ :: ⟨5, (some 14), none, (.q (.bin .sub (.k (.int .u64 32)) (.t 13))), []⟩ :: hid l_Rot_6
@[simp] def b_Rot_7 (_ : Unit) : EB := reg0 (hid l_Rot_5) 9
@[simp] def b_Rot_8 (_ : Unit) : EB := .seq (hid b_Rot_7) .ret
@[simp] def b_Rot_9 (_ : Unit) : EB := .seq (hid b_Rot_4) (hid b_Rot_8)
@[simp] def b_Rot_10 (_ : Unit) : EB := .seq (hid b_Rot_2) (hid b_Rot_9)
def c_Rot : EB × List QOp × Nat := ((hid b_Rot_10), [(.mov (.t 4))], 17)
theorem k_Rot : cfun Tryz.prog 119 = some c_Rot := by kernel_rfl

@[simp] def l_mix_3 (_ : Unit) : List EOp := [⟨12, (some 26), none, (.q (.bin .add (.t 18) (.t 25))), []⟩, ⟨13, (some 27), none, (.q (.nilc (.t 14))), []⟩, ⟨14, (some 28), none, (.q (.iad 16 1 (.t 27) (.t 15))), []⟩, ⟨15, none, none, (.sto 1 (.t 28) (.t 26)), []⟩]
@[simp] def l_mix_2 (_ : Unit) : List EOp := ⟨6, (some 20), none, (.q (.mov (.t 2))), []⟩ :: ⟨7, (some 21), none, (.q (.nilc (.t 19))), []⟩ :: ⟨8, (some 22), none, (.q (.iad 16 1 (.t 21) (.t 20))), []⟩ :: ⟨9, (some 23), none, (.q (.ldc (.t 22))), []⟩ :: ⟨10, (some 24), none, (.q (.mov (.t 5))), []⟩ :: ⟨11, (some 25), none, (.q (.bin .add (.t 23) (.t 24))), []⟩ :: hid l_mix_3
@[simp] def l_mix_1 (_ : Unit) : List EOp := ⟨0, (some 14), none, (.q (.mov (.t 0))), []⟩ :: ⟨1, (some 15), none, (.q (.mov (.t 1))), []⟩ :: ⟨2, (some 16), none, (.q (.nilc (.t 14))), []⟩ :: ⟨3, (some 17), none, (.q (.iad 16 1 (.t 16) (.t 15))), []⟩ :: ⟨4, (some 18), none, (.q (.ldc (.t 17))), []⟩ :: ⟨5, (some 19), none, (.q (.mov (.t 0))), []⟩ :: hid l_mix_2
@[simp] def b_mix_4 (_ : Unit) : EB := reg0 (hid l_mix_1) 16
@[simp] def l_mix_7 (_ : Unit) : List EOp := [⟨12, (some 41), none, (.q (.bin .xor (.t 35) (.t 40))), []⟩, ⟨14, (some 43), none, (.q (.nilc (.t 29))), []⟩, ⟨13, (some 42), none, (.call 119 [(.t 41), (.k (.int .i64 (-16)))]), [0, 1, 14]⟩, ⟨15, (some 44), none, (.q (.iad 16 1 (.t 43) (.t 30))), []⟩, ⟨16, none, none, (.sto 1 (.t 44) (.t 42)), []⟩]
@[simp] def l_mix_6 (_ : Unit) : List EOp := ⟨6, (some 35), none, (.q (.ldc (.t 34))), []⟩ :: ⟨7, (some 36), none, (.q (.mov (.t 0))), []⟩ :: ⟨8, (some 37), none, (.q (.mov (.t 1))), []⟩ :: ⟨9, (some 38), none, (.q (.nilc (.t 36))), []⟩ :: ⟨10, (some 39), none, (.q (.iad 16 1 (.t 38) (.t 37))), []⟩ :: ⟨11, (some 40), none, (.q (.ldc (.t 39))), []⟩ :: hid l_mix_7
@[simp] def l_mix_5 (_ : Unit) : List EOp := ⟨0, (some 29), none, (.q (.mov (.t 0))), []⟩ :: ⟨1, (some 30), none, (.q (.mov (.t 4))), []⟩ :: ⟨2, (some 31), none, (.q (.mov (.t 0))), []⟩ :: ⟨3, (some 32), none, (.q (.mov (.t 4))), []⟩ :: ⟨4, (some 33), none, (.q (.nilc (.t 31))), []⟩ :: ⟨5, (some 34), none, (.q (.iad 16 1 (.t 33) (.t 32))), []⟩ :: hid l_mix_6
@[simp] def b_mix_8 (_ : Unit) : EB := reg1 (hid l_mix_5) 17
@[simp] def l_mix_11 (_ : Unit) : List EOp := [⟨12, (some 57), none, (.q (.iad 16 1 (.t 56) (.t 46))), []⟩, ⟨13, none, none, (.sto 1 (.t 57) (.t 55)), []⟩]
@[simp] def l_mix_10 (_ : Unit) : List EOp := ⟨6, (some 51), none, (.q (.mov (.t 4))), []⟩ :: ⟨7, (some 52), none, (.q (.nilc (.t 50))), []⟩ :: ⟨8, (some 53), none, (.q (.iad 16 1 (.t 52) (.t 51))), []⟩ :: ⟨9, (some 54), none, (.q (.ldc (.t 53))), []⟩ :: ⟨10, (some 55), none, (.q (.bin .add (.t 49) (.t 54))), []⟩ :: ⟨11, (some 56), none, (.q (.nilc (.t 45))), []⟩ :: hid l_mix_11
@[simp] def l_mix_9 (_ : Unit) : List EOp := ⟨0, (some 45), none, (.q (.mov (.t 0))), []⟩ :: ⟨1, (some 46), none, (.q (.mov (.t 3))), []⟩ :: ⟨2, (some 47), none, (.q (.nilc (.t 45))), []⟩ :: ⟨3, (some 48), none, (.q (.iad 16 1 (.t 47) (.t 46))), []⟩ :: ⟨4, (some 49), none, (.q (.ldc (.t 48))), []⟩ :: ⟨5, (some 50), none, (.q (.mov (.t 0))), []⟩ :: hid l_mix_10
@[simp] def b_mix_12 (_ : Unit) : EB := reg0 (hid l_mix_9) 14
@[simp] def l_mix_15 (_ : Unit) : List EOp := [⟨12, (some 70), none, (.q (.bin .xor (.t 64) (.t 69))), []⟩, ⟨14, (some 72), none, (.q (.nilc (.t 58))), []⟩, ⟨13, (some 71), none, (.call 119 [(.t 70), (.k (.int .i64 (-12)))]), [0, 1, 14]⟩, ⟨15, (some 73), none, (.q (.iad 16 1 (.t 72) (.t 59))), []⟩, ⟨16, none, none, (.sto 1 (.t 73) (.t 71)), []⟩]
@[simp] def l_mix_14 (_ : Unit) : List EOp := ⟨6, (some 64), none, (.q (.ldc (.t 63))), []⟩ :: ⟨7, (some 65), none, (.q (.mov (.t 0))), []⟩ :: ⟨8, (some 66), none, (.q (.mov (.t 3))), []⟩ :: ⟨9, (some 67), none, (.q (.nilc (.t 65))), []⟩ :: ⟨10, (some 68), none, (.q (.iad 16 1 (.t 67) (.t 66))), []⟩ :: ⟨11, (some 69), none, (.q (.ldc (.t 68))), []⟩ :: hid l_mix_15
@[simp] def l_mix_13 (_ : Unit) : List EOp := ⟨0, (some 58), none, (.q (.mov (.t 0))), []⟩ :: ⟨1, (some 59), none, (.q (.mov (.t 2))), []⟩ :: ⟨2, (some 60), none, (.q (.mov (.t 0))), []⟩ :: ⟨3, (some 61), none, (.q (.mov (.t 2))), []⟩ :: ⟨4, (some 62), none, (.q (.nilc (.t 60))), []⟩ :: ⟨5, (some 63), none, (.q (.iad 16 1 (.t 62) (.t 61))), []⟩ :: hid l_mix_14
@[simp] def b_mix_16 (_ : Unit) : EB := reg1 (hid l_mix_13) 17
@[simp] def l_mix_19 (_ : Unit) : List EOp := [⟨12, (some 86), none, (.q (.bin .add (.t 78) (.t 85))), []⟩, ⟨13, (some 87), none, (.q (.nilc (.t 74))), []⟩, ⟨14, (some 88), none, (.q (.iad 16 1 (.t 87) (.t 75))), []⟩, ⟨15, none, none, (.sto 1 (.t 88) (.t 86)), []⟩]
@[simp] def l_mix_18 (_ : Unit) : List EOp := ⟨6, (some 80), none, (.q (.mov (.t 2))), []⟩ :: ⟨7, (some 81), none, (.q (.nilc (.t 79))), []⟩ :: ⟨8, (some 82), none, (.q (.iad 16 1 (.t 81) (.t 80))), []⟩ :: ⟨9, (some 83), none, (.q (.ldc (.t 82))), []⟩ :: ⟨10, (some 84), none, (.q (.mov (.t 6))), []⟩ :: ⟨11, (some 85), none, (.q (.bin .add (.t 83) (.t 84))), []⟩ :: hid l_mix_19
@[simp] def l_mix_17 (_ : Unit) : List EOp := ⟨0, (some 74), none, (.q (.mov (.t 0))), []⟩ :: ⟨1, (some 75), none, (.q (.mov (.t 1))), []⟩ :: ⟨2, (some 76), none, (.q (.nilc (.t 74))), []⟩ :: ⟨3, (some 77), none, (.q (.iad 16 1 (.t 76) (.t 75))), []⟩ :: ⟨4, (some 78), none, (.q (.ldc (.t 77))), []⟩ :: ⟨5, (some 79), none, (.q (.mov (.t 0))), []⟩ :: hid l_mix_18
@[simp] def b_mix_20 (_ : Unit) : EB := reg0 (hid l_mix_17) 16
@[simp] def l_mix_23 (_ : Unit) : List EOp := [⟨12, (some 101), none, (.q (.bin .xor (.t 95) (.t 100))), []⟩, ⟨14, (some 103), none, (.q (.nilc (.t 89))), []⟩, ⟨13, (some 102), none, (.call 119 [(.t 101), (.k (.int .i64 (-8)))]), [0, 1, 14]⟩, ⟨15, (some 104), none, (.q (.iad 16 1 (.t 103) (.t 90))), []⟩, ⟨16, none, none, (.sto 1 (.t 104) (.t 102)), []⟩]
@[simp] def l_mix_22 (_ : Unit) : List EOp := ⟨6, (some 95), none, (.q (.ldc (.t 94))), []⟩ :: ⟨7, (some 96), none, (.q (.mov (.t 0))), []⟩ :: ⟨8, (some 97), none, (.q (.mov (.t 1))), []⟩ :: ⟨9, (some 98), none, (.q (.nilc (.t 96))), []⟩ :: ⟨10, (some 99), none, (.q (.iad 16 1 (.t 98) (.t 97))), []⟩ :: ⟨11, (some 100), none, (.q (.ldc (.t 99))), []⟩ :: hid l_mix_23
@[simp] def l_mix_21 (_ : Unit) : List EOp := ⟨0, (some 89), none, (.q (.mov (.t 0))), []⟩ :: ⟨1, (some 90), none, (.q (.mov (.t 4))), []⟩ :: ⟨2, (some 91), none, (.q (.mov (.t 0))), []⟩ :: ⟨3, (some 92), none, (.q (.mov (.t 4))), []⟩ :: ⟨4, (some 93), none, (.q (.nilc (.t 91))), []⟩ :: ⟨5, (some 94), none, (.q (.iad 16 1 (.t 93) (.t 92))), []⟩ :: hid l_mix_22
@[simp] def b_mix_24 (_ : Unit) : EB := reg1 (hid l_mix_21) 17
@[simp] def l_mix_27 (_ : Unit) : List EOp := [⟨12, (some 117), none, (.q (.iad 16 1 (.t 116) (.t 106))), []⟩, ⟨13, none, none, (.sto 1 (.t 117) (.t 115)), []⟩]
@[simp] def l_mix_26 (_ : Unit) : List EOp := ⟨6, (some 111), none, (.q (.mov (.t 4))), []⟩ :: ⟨7, (some 112), none, (.q (.nilc (.t 110))), []⟩ :: ⟨8, (some 113), none, (.q (.iad 16 1 (.t 112) (.t 111))), []⟩ :: ⟨9, (some 114), none, (.q (.ldc (.t 113))), []⟩ :: ⟨10, (some 115), none, (.q (.bin .add (.t 109) (.t 114))), []⟩ :: ⟨11, (some 116), none, (.q (.nilc (.t 105))), []⟩ :: hid l_mix_27
@[simp] def l_mix_25 (_ : Unit) : List EOp := ⟨0, (some 105), none, (.q (.mov (.t 0))), []⟩ :: ⟨1, (some 106), none, (.q (.mov (.t 3))), []⟩ :: ⟨2, (some 107), none, (.q (.nilc (.t 105))), []⟩ :: ⟨3, (some 108), none, (.q (.iad 16 1 (.t 107) (.t 106))), []⟩ :: ⟨4, (some 109), none, (.q (.ldc (.t 108))), []⟩ :: ⟨5, (some 110), none, (.q (.mov (.t 0))), []⟩ :: hid l_mix_26
@[simp] def b_mix_28 (_ : Unit) : EB := reg0 (hid l_mix_25) 14
@[simp] def l_mix_31 (_ : Unit) : List EOp := [⟨12, (some 130), none, (.q (.bin .xor (.t 124) (.t 129))), []⟩, ⟨14, (some 132), none, (.q (.nilc (.t 118))), []⟩, ⟨13, (some 131), none, (.call 119 [(.t 130), (.k (.int .i64 (-7)))]), [0, 1, 14]⟩, ⟨15, (some 133), none, (.q (.iad 16 1 (.t 132) (.t 119))), []⟩, ⟨16, none, none, (.sto 1 (.t 133) (.t 131)), []⟩]
@[simp] def l_mix_30 (_ : Unit) : List EOp := ⟨6, (some 124), none, (.q (.ldc (.t 123))), []⟩ :: ⟨7, (some 125), none, (.q (.mov (.t 0))), []⟩ :: ⟨8, (some 126), none, (.q (.mov (.t 3))), []⟩ :: ⟨9, (some 127), none, (.q (.nilc (.t 125))), []⟩ :: ⟨10, (some 128), none, (.q (.iad 16 1 (.t 127) (.t 126))), []⟩ :: ⟨11, (some 129), none, (.q (.ldc (.t 128))), []⟩ :: hid l_mix_31
@[simp] def l_mix_29 (_ : Unit) : List EOp := ⟨0, (some 118), none, (.q (.mov (.t 0))), []⟩ :: ⟨1, (some 119), none, (.q (.mov (.t 2))), []⟩ :: ⟨2, (some 120), none, (.q (.mov (.t 0))), []⟩ :: ⟨3, (some 121), none, (.q (.mov (.t 2))), []⟩ :: ⟨4, (some 122), none, (.q (.nilc (.t 120))), []⟩ :: ⟨5, (some 123), none, (.q (.iad 16 1 (.t 122) (.t 121))), []⟩ :: hid l_mix_30
@[simp] def b_mix_32 (_ : Unit) : EB := reg1 (hid l_mix_29) 17
@[simp] def b_mix_33 (_ : Unit) : EB := .seq (hid b_mix_28) (hid b_mix_32)
@[simp] def b_mix_34 (_ : Unit) : EB := .seq (hid b_mix_24) (hid b_mix_33)
@[simp] def b_mix_35 (_ : Unit) : EB := .seq (hid b_mix_20) (hid b_mix_34)
@[simp] def b_mix_36 (_ : Unit) : EB := .seq (hid b_mix_16) (hid b_mix_35)
@[simp] def b_mix_37 (_ : Unit) : EB := .seq (hid b_mix_12) (hid b_mix_36)
@[simp] def b_mix_38 (_ : Unit) : EB := .seq (hid b_mix_8) (hid b_mix_37)
@[simp] def b_mix_39 (_ : Unit) : EB := .seq (hid b_mix_4) (hid b_mix_38)
def c_mix : EB × List QOp × Nat := ((hid b_mix_39), [], 134)
theorem k_mix : cfun Tryz.prog 115 = some c_mix := by kernel_rfl

@[simp] def l_first_1 (_ : Unit) : List EOp := [⟨0, (some 0), none, (.q (.alloc 176 [(.int .u32 0), (.int .u32 0), (.int .u32 0), (.int .u32 0), (.int .u32 0), (.int .u32 0), (.int .u32 0), (.int .u32 0)])), []⟩]
@[simp] def b_first_2 (_ : Unit) : EB := reg0 (hid l_first_1) 1
@[simp] def l_first_3 (_ : Unit) : List EOp := [⟨0, (some 1), none, (.q (.build [(.int .u32 0), (.int .u32 0), (.int .u32 0), (.int .u32 0), (.int .u32 0), (.int .u32 0), (.int .u32 0), (.int .u32 0)] [(0, 1, (.k (.int .u32 1779033703))), (1, 1, (.k (.int .u32 3144134277))), (2, 1, (.k (.int .u32 1013904242))), (3, 1, (.k (.int .u32 2773480762))), (4, 1, (.k (.int .u32 1359893119))), (5, 1, (.k (.int .u32 2600822924))), (6, 1, (.k (.int .u32 528734635))), (7, 1, (.k (.int .u32 1541459225)))])), []⟩, ⟨1, none, none, (.sto 8 (.t 0) (.t 1)), []⟩]
@[simp] def b_first_4 (_ : Unit) : EB := reg0 (hid l_first_3) 2
@[simp] def b_first_5 (_ : Unit) : EB := .seq (hid b_first_4) .ret
@[simp] def b_first_6 (_ : Unit) : EB := .seq (hid b_first_2) (hid b_first_5)
def c_first : EB × List QOp × Nat := ((hid b_first_6), [(.lda 8 (.t 0))], 2)
theorem k_first : cfun Tryz.prog 101 = some c_first := by kernel_rfl


/-! ### words -/
/-- A word as the program has it. -/
def wi (x : UInt32) : Int := (x.toNat : Int)
def wc (x : UInt32) : EC := .fz (.lit (.int .u32 (wi x)))
def wl (l : List UInt32) : List EC := l.map wc
def WV (x : UInt32) : EV := .lit (.int .u32 (wi x))
def NV (n : Int) : EV := .lit (.int .i64 n)
@[simp] theorem wl_len (l : List UInt32) : (wl l).length = l.length := by simp [wl]
theorem wl_get {l : List UInt32} {i : Nat} {x : UInt32} (h : l[i]? = some x) : (wl l)[i]? = some (wc x) := by simp [wl, h]
theorem wl_set (l : List UInt32) (i : Nat) (x : UInt32) : (wl l).set i (.fz (.lit (.int .u32 (wi x)))) = wl (l.set i x) := by simp [wl, List.map_set, wc]
@[simp] theorem conAll_wl (H : Nat → Option EO) (ids : List Nat) (l : List UInt32) : conAll H ids (wl l) = some (wl l) := by
  induction l with
  | nil => rfl
  | cons b t ih =>
    have e : wl (b :: t) = .fz (.lit (.int .u32 (wi b))) :: wl t := rfl
    rw [e]
    simp only [conAll, ih]
    simp
@[simp] theorem strAll_wl (ids : List Nat) (l : List UInt32) : strAll ids (wl l) = some (wl l) := by
  induction l with
  | nil => rfl
  | cons b r ih => simp only [wl, List.map_cons, strAll] at *; rw [ih]; rfl
@[simp] theorem refs_wl (l : List UInt32) : (wl l).flatMap refsC = [] := by
  induction l with
  | nil => rfl
  | cons b r ih => simp only [wl, List.map_cons, List.flatMap_cons] at *; rw [ih]; rfl
@[simp] theorem fz_wl (ids : List Nat) (l : List UInt32) : (wl l).flatMap (fzC ids) = [] := by
  induction l with
  | nil => rfl
  | cons b r ih => simp only [wl, List.map_cons, List.flatMap_cons] at *; rw [ih]; rfl
@[simp] theorem ren_wl (g : Nat → Nat) (l : List UInt32) : (wl l).map (renC g) = wl l := by
  induction l with
  | nil => rfl
  | cons b r ih => simp only [wl, List.map_cons] at *; rw [ih]; rfl
def shl (x : UInt32) (k : Nat) : UInt32 := UInt32.ofNat (x.toNat * 2 ^ k)
def shr (x : UInt32) (k : Nat) : UInt32 := UInt32.ofNat (x.toNat / 2 ^ k)
def rotr (x : UInt32) (k : Nat) : UInt32 := shl x (32 - k) ||| shr x k
theorem u32_mod (n : Int) : IntKind.u32.wrap n = n % 4294967296 := by simp [IntKind.wrap, IntKind.bits, IntKind.signed]
theorem wi_ofNat (n : Nat) : wi (UInt32.ofNat n) = (n : Int) % 4294967296 := by
  unfold wi
  rw [UInt32.toNat_ofNat']
  omega
theorem wi_b (x : UInt32) : 0 ≤ wi x ∧ wi x < 4294967296 := by
  unfold wi
  have := x.toNat_lt
  simp at *
  omega
theorem wi_add (x y : UInt32) : IntKind.u32.wrap (wi x + wi y) = wi (x + y) := by
  rw [u32_mod]
  unfold wi
  rw [UInt32.toNat_add]
  omega
theorem wi_of (x : UInt32) : BitVec.ofInt IntKind.u32.bits (wi x) = x.toBitVec := by
  unfold wi
  simp [IntKind.bits]
theorem wrap_wi (x : UInt32) : IntKind.u32.wrap (wi x) = wi x := by
  have := wi_b x
  rw [u32_mod]; omega
theorem wi_xor (x y : UInt32) : ibit .xor .u32 (wi x) (wi y) = wi (x ^^^ y) := by
  have h3 : (BitVec.ofInt IntKind.u32.bits (wi x) ^^^ BitVec.ofInt IntKind.u32.bits (wi y)).toNat = (x ^^^ y).toNat := by
    rw [wi_of, wi_of]; rfl
  refine (congrArg (fun n : Nat => IntKind.u32.wrap (n : Int)) h3).trans ?_
  exact wrap_wi (x ^^^ y)
theorem wi_or (x y : UInt32) : ibit .or .u32 (wi x) (wi y) = wi (x ||| y) := by
  have h3 : (BitVec.ofInt IntKind.u32.bits (wi x) ||| BitVec.ofInt IntKind.u32.bits (wi y)).toNat = (x ||| y).toNat := by
    rw [wi_of, wi_of]; rfl
  refine (congrArg (fun n : Nat => IntKind.u32.wrap (n : Int)) h3).trans ?_
  exact wrap_wi (x ||| y)
theorem wi_shl (x : UInt32) (k : Nat) (h : k ≤ 32) : ishl .u32 (wi x) (k : Int) = wi (shl x k) := by
  unfold ishl shl
  rw [wi_ofNat, u32_mod, show min (k : Int).toNat IntKind.u32.bits = k by simp [IntKind.bits]; omega]
  unfold wi
  simp
theorem wi_shr (x : UInt32) (k : Nat) (h : k ≤ 32) : ishr .u32 (wi x) (k : Int) = wi (shr x k) := by
  have e : ishr .u32 (wi x) (k : Int) = ((x.toNat / 2 ^ k : Nat) : Int) := ishr_nat .u32 x.toNat k h
  rw [e]
  unfold shr
  rw [wi_ofNat]
  have h1 : x.toNat / 2 ^ k ≤ x.toNat := Nat.div_le_self _ _
  have h2 := x.toNat_lt
  generalize x.toNat / 2 ^ k = q at *
  omega

theorem Rot16_ok (x : UInt32) : ECalls Tryz.prog 119 [WV x, NV (-16)] [] fun y H' => H' = [] ∧ y = WV (rotr x 16) := by
  have s1 : ishl .u32 (wi x) 16 = wi (shl x 16) := wi_shl x 16 (by omega)
  have r1 : ishr .u32 (wi x) 16 = wi (shr x 16) := wi_shr x 16 (by omega)
  have a1 : IntKind.u64.wrap (-16) = 18446744073709551600 := by decide +kernel
  have a2 : ibit .and .u64 18446744073709551600 31 = 16 := by decide +kernel
  have a3 : IntKind.u64.wrap 16 = 16 := by decide +kernel
  refine ecalls k_Rot ?_
  simp [c_Rot, WV, NV, a1, a2, a3, s1, r1, wi_or]
  exact fin [] (by decide) rfl rfl rfl ⟨rfl, rfl⟩

theorem Rot12_ok (x : UInt32) : ECalls Tryz.prog 119 [WV x, NV (-12)] [] fun y H' => H' = [] ∧ y = WV (rotr x 12) := by
  have s1 : ishl .u32 (wi x) 20 = wi (shl x 20) := wi_shl x 20 (by omega)
  have r1 : ishr .u32 (wi x) 12 = wi (shr x 12) := wi_shr x 12 (by omega)
  have a1 : IntKind.u64.wrap (-12) = 18446744073709551604 := by decide +kernel
  have a2 : ibit .and .u64 18446744073709551604 31 = 20 := by decide +kernel
  have a3 : IntKind.u64.wrap 12 = 12 := by decide +kernel
  refine ecalls k_Rot ?_
  simp [c_Rot, WV, NV, a1, a2, a3, s1, r1, wi_or]
  exact fin [] (by decide) rfl rfl rfl ⟨rfl, rfl⟩

theorem Rot8_ok (x : UInt32) : ECalls Tryz.prog 119 [WV x, NV (-8)] [] fun y H' => H' = [] ∧ y = WV (rotr x 8) := by
  have s1 : ishl .u32 (wi x) 24 = wi (shl x 24) := wi_shl x 24 (by omega)
  have r1 : ishr .u32 (wi x) 8 = wi (shr x 8) := wi_shr x 8 (by omega)
  have a1 : IntKind.u64.wrap (-8) = 18446744073709551608 := by decide +kernel
  have a2 : ibit .and .u64 18446744073709551608 31 = 24 := by decide +kernel
  have a3 : IntKind.u64.wrap 8 = 8 := by decide +kernel
  refine ecalls k_Rot ?_
  simp [c_Rot, WV, NV, a1, a2, a3, s1, r1, wi_or]
  exact fin [] (by decide) rfl rfl rfl ⟨rfl, rfl⟩

theorem Rot7_ok (x : UInt32) : ECalls Tryz.prog 119 [WV x, NV (-7)] [] fun y H' => H' = [] ∧ y = WV (rotr x 7) := by
  have s1 : ishl .u32 (wi x) 25 = wi (shl x 25) := wi_shl x 25 (by omega)
  have r1 : ishr .u32 (wi x) 7 = wi (shr x 7) := wi_shr x 7 (by omega)
  have a1 : IntKind.u64.wrap (-7) = 18446744073709551609 := by decide +kernel
  have a2 : ibit .and .u64 18446744073709551609 31 = 25 := by decide +kernel
  have a3 : IntKind.u64.wrap 7 = 7 := by decide +kernel
  refine ecalls k_Rot ?_
  simp [c_Rot, WV, NV, a1, a2, a3, s1, r1, wi_or]
  exact fin [] (by decide) rfl rfl rfl ⟨rfl, rfl⟩

def firstW : List UInt32 := [0x6a09e667, 0xbb67ae85, 0x3c6ef372, 0xa54ff53a, 0x510e527f, 0x9b05688c, 0x1f83d9ab, 0x5be0cd19]
theorem first_ok : ECalls Tryz.prog 101 [] [] fun y H' => H' = [] ∧ y = .v (.agg (wl firstW)) := by
  refine ecalls k_first ?_
  simp [c_first]
  exact fin [] (by decide) rfl rfl rfl ⟨rfl, rfl⟩

theorem pun_x32 (x : UInt32) : pun .xor (.int .u32 (wi x)) = some (.int .u32 (wi (~~~x))) := by
  have h3 : (BitVec.ofInt IntKind.u32.bits (-1) ^^^ BitVec.ofInt IntKind.u32.bits (wi x)).toNat = (~~~x).toNat := by
    rw [wi_of]
    have k : BitVec.allOnes 32 ^^^ x.toBitVec = ~~~ x.toBitVec := BitVec.allOnes_xor
    exact congrArg BitVec.toNat k
  simp only [pun, Option.some.injEq, Value.int.injEq, true_and]
  refine (congrArg (fun n : Nat => IntKind.u32.wrap (n : Int)) h3).trans ?_
  exact wrap_wi (~~~x)

/-! ### a step on four words -/
def g (v : List UInt32) (i : Nat) : UInt32 := (v[i]?).getD 0
def mixS (v : List UInt32) (a b c d : Nat) (x y : UInt32) : List UInt32 :=
  let v := v.set a (g v a + (g v b + x))
  let v := v.set d (rotr (g v d ^^^ g v a) 16)
  let v := v.set c (g v c + g v d)
  let v := v.set b (rotr (g v b ^^^ g v c) 12)
  let v := v.set a (g v a + (g v b + y))
  let v := v.set d (rotr (g v d ^^^ g v a) 8)
  let v := v.set c (g v c + g v d)
  v.set b (rotr (g v b ^^^ g v c) 7)
def VO (v : List UInt32) : EO := .box 203 (wl v)
theorem wl_put {v : List UInt32} {i : Nat} {x : UInt32} (h : i < v.length) : List.take i (wl v) ++ .fz (.lit (.int .u32 (wi x))) :: List.drop (i + 1) (wl v) = wl (v.set i x) := by
  rw [← wl_set, List.set_eq_take_append_cons_drop, if_pos (by simpa using h)]
theorem wl_g {v : List UInt32} {i : Nat} (h : i < v.length) : (wl v)[i]? = some (.fz (.lit (.int .u32 (wi (g v i))))) := by
  refine wl_get (x := g v i) ?_
  unfold g
  rw [List.getElem?_eq_getElem h]
  rfl
theorem wl_gE {v : List UInt32} {i : Nat} (h : i < v.length) (h2 : i < (wl v).length) : (wl v)[i]'h2 = .fz (.lit (.int .u32 (wi (g v i)))) := by
  have := wl_g h
  rw [List.getElem?_eq_getElem h2] at this
  exact Option.some.inj this

set_option maxRecDepth 8000 in
set_option maxHeartbeats 8000000 in
theorem mix_ok (v : List UInt32) (a b c d : Nat) (x y : UInt32) (hv : v.length = 16) (ha : a < 16) (hb : b < 16) (hc : c < 16) (hd : d < 16) : ECalls Tryz.prog 115 [.v (.c (.ptr 0 0)), NV a, NV b, NV c, NV d, WV x, WV y] [VO v] fun y' H' => H' = [some (VO (mixS v a b c d x y))] ∧ y' = .tup [] := by
  have la : a < v.length := by omega
  have lb : b < v.length := by omega
  have lc : c < v.length := by omega
  have ld : d < v.length := by omega
  have xa : a ≤ 15 := by omega
  have xb : b ≤ 15 := by omega
  have xc : c ≤ 15 := by omega
  have xd : d ≤ 15 := by omega
  have ia : (a : Int) < 16 := by omega
  have ib : (b : Int) < 16 := by omega
  have ic : (c : Int) < 16 := by omega
  have id' : (d : Int) < 16 := by omega
  obtain ⟨v1, h1⟩ : ∃ w, v.set a (g v a + (g v b + x)) = w := ⟨_, rfl⟩
  have e1 : v1.length = 16 := by rw [← h1, List.length_set]; exact hv
  obtain ⟨v2, h2⟩ : ∃ w, v1.set d (rotr (g v1 d ^^^ g v1 a) 16) = w := ⟨_, rfl⟩
  have e2 : v2.length = 16 := by rw [← h2, List.length_set]; exact e1
  obtain ⟨v3, h3⟩ : ∃ w, v2.set c (g v2 c + g v2 d) = w := ⟨_, rfl⟩
  have e3 : v3.length = 16 := by rw [← h3, List.length_set]; exact e2
  obtain ⟨v4, h4⟩ : ∃ w, v3.set b (rotr (g v3 b ^^^ g v3 c) 12) = w := ⟨_, rfl⟩
  have e4 : v4.length = 16 := by rw [← h4, List.length_set]; exact e3
  obtain ⟨v5, h5⟩ : ∃ w, v4.set a (g v4 a + (g v4 b + y)) = w := ⟨_, rfl⟩
  have e5 : v5.length = 16 := by rw [← h5, List.length_set]; exact e4
  obtain ⟨v6, h6⟩ : ∃ w, v5.set d (rotr (g v5 d ^^^ g v5 a) 8) = w := ⟨_, rfl⟩
  have e6 : v6.length = 16 := by rw [← h6, List.length_set]; exact e5
  obtain ⟨v7, h7⟩ : ∃ w, v6.set c (g v6 c + g v6 d) = w := ⟨_, rfl⟩
  have e7 : v7.length = 16 := by rw [← h7, List.length_set]; exact e6
  obtain ⟨v8, h8⟩ : ∃ w, v7.set b (rotr (g v7 b ^^^ g v7 c) 7) = w := ⟨_, rfl⟩
  have e8 : v8.length = 16 := by rw [← h8, List.length_set]; exact e7
  have hm : mixS v a b c d x y = v8 := by unfold mixS; simp only [h1, h2, h3, h4, h5, h6, h7, h8]
  rw [hm]
  refine ecalls k_mix ?_
  simp [c_mix, NV, WV, VO, hv, e1, e2, e3, e4, e5, e6, e7, e8, ha, hb, hc, hd, ia, ib, ic, id', xa, xb, xc, xd, wl_gE, wl_put, la, lb, lc, ld, wi_add, wi_xor, h1, h2, h3, h4, h5, h6, h7, h8]
  refine call0 (Rot16_ok (g v1 d ^^^ g v1 a)) (by simp [WV, NV]) ?_
  rintro y' H' ⟨rfl, rfl⟩
  refine ⟨.inl (by simp), le_ok rfl, ?_⟩
  simp [NV, WV, VO, hv, e1, e2, e3, e4, e5, e6, e7, e8, ha, hb, hc, hd, ia, ib, ic, id', xa, xb, xc, xd, wl_gE, wl_put, la, lb, lc, ld, wi_add, wi_xor, h1, h2, h3, h4, h5, h6, h7, h8]
  refine call0 (Rot12_ok (g v3 b ^^^ g v3 c)) (by simp [WV, NV]) ?_
  rintro y' H' ⟨rfl, rfl⟩
  refine ⟨.inl (by simp), le_ok rfl, ?_⟩
  simp [NV, WV, VO, hv, e1, e2, e3, e4, e5, e6, e7, e8, ha, hb, hc, hd, ia, ib, ic, id', xa, xb, xc, xd, wl_gE, wl_put, la, lb, lc, ld, wi_add, wi_xor, h1, h2, h3, h4, h5, h6, h7, h8]
  refine call0 (Rot8_ok (g v5 d ^^^ g v5 a)) (by simp [WV, NV]) ?_
  rintro y' H' ⟨rfl, rfl⟩
  refine ⟨.inl (by simp), le_ok rfl, ?_⟩
  simp [NV, WV, VO, hv, e1, e2, e3, e4, e5, e6, e7, e8, ha, hb, hc, hd, ia, ib, ic, id', xa, xb, xc, xd, wl_gE, wl_put, la, lb, lc, ld, wi_add, wi_xor, h1, h2, h3, h4, h5, h6, h7, h8]
  refine call0 (Rot7_ok (g v7 b ^^^ g v7 c)) (by simp [WV, NV]) ?_
  rintro y' H' ⟨rfl, rfl⟩
  refine ⟨.inl (by simp), le_ok rfl, ?_⟩
  simp [NV, WV, VO, hv, e1, e2, e3, e4, e5, e6, e7, e8, ha, hb, hc, hd, ia, ib, ic, id', xa, xb, xc, xd, wl_gE, wl_put, la, lb, lc, ld, wi_add, wi_xor, h1, h2, h3, h4, h5, h6, h7, h8]
  exact fin [] (by decide) rfl rfl (by simp [objsOut]) ⟨rfl, rfl⟩

end Go.Proofs.YtpilpjameifcfaaGreatDoor
