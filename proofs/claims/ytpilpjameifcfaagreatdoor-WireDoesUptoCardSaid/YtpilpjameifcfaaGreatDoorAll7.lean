import Derived.Test.YtpilpjameifcfaaGreatDoorAll6
import Derived.Test.YtpilpjameifcfaaGreatDoorAll5
namespace Go.Proofs.YtpilpjameifcfaaGreatDoor
open Go Go.EW
set_option linter.unusedSimpArgs false
set_option linter.unusedVariables false

@[simp] def l_RdHash_1 (_ : Unit) : List EOp := [⟨0, (some 2), none, (.q (.alloc 28 zU8)), []⟩]
@[simp] def b_RdHash_2 (_ : Unit) : EB := reg0 (hid l_RdHash_1) 1
@[simp] def l_RdHash_3 (_ : Unit) : List EOp := [⟨0, (some 3), none, (.q (.alloc 28 zU8)), []⟩]
@[simp] def b_RdHash_4 (_ : Unit) : EB := reg0 (hid l_RdHash_3) 1
@[simp] def l_RdHash_5 (_ : Unit) : List EOp := [⟨0, (some 16), none, (.q (.mov (.t 0))), []⟩, ⟨1, (some 17), none, (.call 86 [(.t 16)]), []⟩, ⟨2, (some 15), none, (.q (.mov (.t 17))), []⟩]
@[simp] def b_RdHash_6 (_ : Unit) : EB := reg0 (hid l_RdHash_5) 3
@[simp] def l_RdHash_7 (_ : Unit) : List EOp := [⟨0, (some 19), none, (.q (.mov (.t 0))), []⟩, ⟨1, (some 20), none, (.call 87 [(.t 19)]), []⟩, ⟨2, (some 21), none, (.q (.len (.t 20))), []⟩, ⟨3, (some 22), none, (.q (.bin .lss (.t 21) (.k (.int .i64 32)))), []⟩, ⟨4, (some 18), none, (.q (.mov (.t 22))), []⟩]
@[simp] def b_RdHash_8 (_ : Unit) : EB := reg0 (hid l_RdHash_7) 5
@[simp] def l_RdHash_9 (_ : Unit) : List EOp := [⟨0, (some 23), none, (.q (.mov (.t 0))), []⟩, ⟨1, (some 24), none, (.q (.mki 77 (.k (.int .i64 12)))), []⟩, ⟨2, (some 25), none, (.call 88 [(.t 23), (.t 24)]), []⟩]
@[simp] def b_RdHash_10 (_ : Unit) : EB := reg0 (hid l_RdHash_9) 3
@[simp] def l_RdHash_12 (_ : Unit) : List EOp := [⟨6, (some 10), none, (.call 87 [(.t 9)]), [0, 1, 2, 3, 4]⟩, ⟨7, (some 11), none, (.cpy 1 (.t 8) (.t 10)), [0, 1, 2, 3]⟩, ⟨8, (some 12), none, (.q (.bin .add (.t 7) (.t 11))), []⟩, ⟨9, (some 13), none, (.q (.nilc (.t 4))), []⟩, ⟨10, (some 14), none, (.q (.fad 1 (.t 13))), []⟩, ⟨11, none, none, (.sto 1 (.t 14) (.t 12)), []⟩]
@[simp] def l_RdHash_11 (_ : Unit) : List EOp := ⟨0, (some 4), none, (.q (.mov (.t 0))), []⟩ :: ⟨1, (some 5), none, (.q (.nilc (.t 4))), []⟩ :: ⟨2, (some 6), none, (.q (.fad 1 (.t 5))), []⟩ :: ⟨3, (some 7), none, (.q (.ldc (.t 6))), []⟩ :: ⟨4, (some 8), none, (.q (.sar 32 (.t 3) none none)), []⟩ :: ⟨5, (some 9), none, (.q (.mov (.t 0))), []⟩ :: hid l_RdHash_12
@[simp] def b_RdHash_13 (_ : Unit) : EB := reg1 (hid l_RdHash_11) 12
@[simp] def b_RdHash_14 (_ : Unit) : EB := .cond (.t 18) (hid b_RdHash_10) (hid b_RdHash_13)
@[simp] def b_RdHash_15 (_ : Unit) : EB := .seq (hid b_RdHash_8) (hid b_RdHash_14)
@[simp] def b_RdHash_16 (_ : Unit) : EB := .cond (.t 15) .skip (hid b_RdHash_15)
@[simp] def b_RdHash_17 (_ : Unit) : EB := .seq (hid b_RdHash_6) (hid b_RdHash_16)
@[simp] def b_RdHash_18 (_ : Unit) : EB := .block 0 (hid b_RdHash_17)
@[simp] def l_RdHash_19 (_ : Unit) : List EOp := [⟨0, (some 26), none, (.q (.lda 32 (.t 3))), []⟩, ⟨1, none, none, (.sto 32 (.t 2) (.t 26)), []⟩]
@[simp] def b_RdHash_20 (_ : Unit) : EB := reg0 (hid l_RdHash_19) 2
@[simp] def b_RdHash_21 (_ : Unit) : EB := .seq (hid b_RdHash_20) .ret
@[simp] def b_RdHash_22 (_ : Unit) : EB := .seq (hid b_RdHash_18) (hid b_RdHash_21)
@[simp] def b_RdHash_23 (_ : Unit) : EB := .seq (hid b_RdHash_4) (hid b_RdHash_22)
@[simp] def b_RdHash_24 (_ : Unit) : EB := .seq (hid b_RdHash_2) (hid b_RdHash_23)
def c_RdHash : EB × List QOp × Nat := ((hid b_RdHash_24), [(.lda 32 (.t 2))], 27)
theorem k_RdHash : cfun Tryz.prog 45 = some c_RdHash := by kernel_rfl

@[simp] def l_RdDone_1 (_ : Unit) : List EOp := [⟨0, (some 2), none, (.q (.mov (.k .nilIface))), []⟩]
@[simp] def b_RdDone_2 (_ : Unit) : EB := reg0 (hid l_RdDone_1) 1
@[simp] def l_RdDone_3 (_ : Unit) : List EOp := [⟨0, (some 4), none, (.q (.mov (.t 0))), []⟩, ⟨1, (some 5), none, (.q (.eqp false (.t 4))), []⟩, ⟨2, (some 3), none, (.q (.mov (.t 5))), []⟩]
@[simp] def b_RdDone_4 (_ : Unit) : EB := reg0 (hid l_RdDone_3) 3
@[simp] def l_RdDone_5 (_ : Unit) : List EOp := [⟨0, (some 6), none, (.q (.mki 77 (.k (.int .i64 1)))), []⟩, ⟨1, (some 2), none, (.q (.mov (.t 6))), []⟩]
@[simp] def b_RdDone_6 (_ : Unit) : EB := reg0 (hid l_RdDone_5) 2
@[simp] def b_RdDone_7 (_ : Unit) : EB := .seq (hid b_RdDone_6) .ret
@[simp] def l_RdDone_8 (_ : Unit) : List EOp := [⟨0, (some 8), none, (.q (.mov (.t 0))), []⟩, ⟨1, (some 9), none, (.q (.nilc (.t 8))), []⟩, ⟨2, (some 10), none, (.q (.fad 2 (.t 9))), []⟩, ⟨3, (some 11), none, (.q (.ldc (.t 10))), []⟩, ⟨4, (some 12), none, (.q (.eqi true (.t 11))), []⟩, ⟨5, (some 7), none, (.q (.mov (.t 12))), []⟩]
@[simp] def b_RdDone_9 (_ : Unit) : EB := reg0 (hid l_RdDone_8) 6
@[simp] def l_RdDone_10 (_ : Unit) : List EOp := [⟨0, (some 13), none, (.q (.mov (.t 0))), []⟩, ⟨1, (some 14), none, (.q (.nilc (.t 13))), []⟩, ⟨2, (some 15), none, (.q (.fad 2 (.t 14))), []⟩, ⟨3, (some 16), none, (.q (.ldc (.t 15))), []⟩, ⟨4, (some 2), none, (.q (.mov (.t 16))), []⟩]
@[simp] def b_RdDone_11 (_ : Unit) : EB := reg0 (hid l_RdDone_10) 5
@[simp] def b_RdDone_12 (_ : Unit) : EB := .seq (hid b_RdDone_11) .ret
@[simp] def l_RdDone_14 (_ : Unit) : List EOp := [⟨6, (some 24), none, (.q (.fad 0 (.t 23))), []⟩, ⟨7, (some 25), none, (.q (.ldc (.t 24))), []⟩, ⟨8, (some 26), none, (.q (.len (.t 25))), []⟩, ⟨9, (some 27), none, (.q (.bin .lss (.t 21) (.t 26))), []⟩, ⟨10, (some 17), none, (.q (.mov (.t 27))), []⟩]
@[simp] def l_RdDone_13 (_ : Unit) : List EOp := ⟨0, (some 18), none, (.q (.mov (.t 0))), []⟩ :: ⟨1, (some 19), none, (.q (.nilc (.t 18))), []⟩ :: ⟨2, (some 20), none, (.q (.fad 1 (.t 19))), []⟩ :: ⟨3, (some 21), none, (.q (.ldc (.t 20))), []⟩ :: ⟨4, (some 22), none, (.q (.mov (.t 0))), []⟩ :: ⟨5, (some 23), none, (.q (.nilc (.t 22))), []⟩ :: hid l_RdDone_14
@[simp] def b_RdDone_15 (_ : Unit) : EB := reg0 (hid l_RdDone_13) 11
@[simp] def l_RdDone_16 (_ : Unit) : List EOp := [⟨0, (some 28), none, (.q (.mki 77 (.k (.int .i64 3)))), []⟩, ⟨1, (some 2), none, (.q (.mov (.t 28))), []⟩]
@[simp] def b_RdDone_17 (_ : Unit) : EB := reg0 (hid l_RdDone_16) 2
@[simp] def b_RdDone_18 (_ : Unit) : EB := .seq (hid b_RdDone_17) .ret
@[simp] def b_RdDone_19 (_ : Unit) : EB := .cond (.t 17) (hid b_RdDone_18) .skip
@[simp] def b_RdDone_20 (_ : Unit) : EB := .seq (hid b_RdDone_15) (hid b_RdDone_19)
@[simp] def b_RdDone_21 (_ : Unit) : EB := .cond (.t 7) (hid b_RdDone_12) (hid b_RdDone_20)
@[simp] def b_RdDone_22 (_ : Unit) : EB := .seq (hid b_RdDone_9) (hid b_RdDone_21)
@[simp] def b_RdDone_23 (_ : Unit) : EB := .cond (.t 3) (hid b_RdDone_7) (hid b_RdDone_22)
@[simp] def b_RdDone_24 (_ : Unit) : EB := .seq (hid b_RdDone_4) (hid b_RdDone_23)
@[simp] def b_RdDone_25 (_ : Unit) : EB := .block 0 (hid b_RdDone_24)
@[simp] def l_RdDone_26 (_ : Unit) : List EOp := [⟨0, (some 2), none, (.q (.mov (.k .nilIface))), []⟩]
@[simp] def b_RdDone_27 (_ : Unit) : EB := reg0 (hid l_RdDone_26) 1
@[simp] def b_RdDone_28 (_ : Unit) : EB := .seq (hid b_RdDone_27) .ret
@[simp] def b_RdDone_29 (_ : Unit) : EB := .seq (hid b_RdDone_25) (hid b_RdDone_28)
@[simp] def b_RdDone_30 (_ : Unit) : EB := .seq (hid b_RdDone_2) (hid b_RdDone_29)
def c_RdDone : EB × List QOp × Nat := ((hid b_RdDone_30), [(.mov (.t 2))], 29)
theorem k_RdDone : cfun Tryz.prog 46 = some c_RdDone := by kernel_rfl

@[simp] def l_RdBytes_1 (_ : Unit) : List EOp := [⟨0, (some 4), none, (.q (.mov (.k (.slice none 0 0)))), []⟩]
@[simp] def b_RdBytes_2 (_ : Unit) : EB := reg0 (hid l_RdBytes_1) 1
@[simp] def l_RdBytes_3 (_ : Unit) : List EOp := [⟨0, (some 9), none, (.q (.mov (.t 0))), []⟩, ⟨1, (some 10), none, (.call 86 [(.t 9)]), []⟩]
@[simp] def b_RdBytes_4 (_ : Unit) : EB := reg0 (hid l_RdBytes_3) 2
@[simp] def l_RdBytes_5 (_ : Unit) : List EOp := [⟨0, (some 4), none, (.q (.mov (.k (.slice none 0 0)))), []⟩]
@[simp] def b_RdBytes_6 (_ : Unit) : EB := reg0 (hid l_RdBytes_5) 1
@[simp] def b_RdBytes_7 (_ : Unit) : EB := .seq (hid b_RdBytes_6) .ret
@[simp] def b_RdBytes_8 (_ : Unit) : EB := .cond (.t 10) (hid b_RdBytes_7) .skip
@[simp] def b_RdBytes_9 (_ : Unit) : EB := .seq (hid b_RdBytes_4) (hid b_RdBytes_8)
@[simp] def l_RdBytes_10 (_ : Unit) : List EOp := [⟨0, (some 11), none, (.q (.mov (.t 1))), []⟩, ⟨1, (some 12), none, (.q (.bin .lss (.t 11) (.k (.int .i64 0)))), []⟩]
@[simp] def b_RdBytes_11 (_ : Unit) : EB := reg0 (hid l_RdBytes_10) 2
@[simp] def l_RdBytes_12 (_ : Unit) : List EOp := [⟨0, (some 13), none, (.q (.mov (.t 0))), []⟩, ⟨1, (some 14), none, (.q (.mki 77 (.k (.int .i64 1)))), []⟩, ⟨2, (some 15), none, (.call 88 [(.t 13), (.t 14)]), []⟩]
@[simp] def b_RdBytes_13 (_ : Unit) : EB := reg0 (hid l_RdBytes_12) 3
@[simp] def l_RdBytes_14 (_ : Unit) : List EOp := [⟨0, (some 4), none, (.q (.mov (.k (.slice none 0 0)))), []⟩]
@[simp] def b_RdBytes_15 (_ : Unit) : EB := reg0 (hid l_RdBytes_14) 1
@[simp] def b_RdBytes_16 (_ : Unit) : EB := .seq (hid b_RdBytes_15) .ret
@[simp] def b_RdBytes_17 (_ : Unit) : EB := .seq (hid b_RdBytes_13) (hid b_RdBytes_16)
@[simp] def b_RdBytes_18 (_ : Unit) : EB := .cond (.t 12) (hid b_RdBytes_17) .skip
@[simp] def b_RdBytes_19 (_ : Unit) : EB := .seq (hid b_RdBytes_11) (hid b_RdBytes_18)
@[simp] def l_RdBytes_20 (_ : Unit) : List EOp := [⟨0, (some 5), none, (.q (.mov (.k (.slice none 0 0)))), []⟩]
@[simp] def b_RdBytes_21 (_ : Unit) : EB := reg0 (hid l_RdBytes_20) 1
@[simp] def l_RdBytes_22 (_ : Unit) : List EOp := [⟨0, (some 16), none, (.q (.mov (.t 0))), []⟩, ⟨1, (some 17), none, (.call 87 [(.t 16)]), []⟩, ⟨2, (some 6), none, (.q (.mov (.t 17))), []⟩]
@[simp] def b_RdBytes_23 (_ : Unit) : EB := reg0 (hid l_RdBytes_22) 3
@[simp] def l_RdBytes_24 (_ : Unit) : List EOp := [⟨0, (some 7), none, (.q (.mov (.k (.int .i64 0)))), []⟩]
@[simp] def b_RdBytes_25 (_ : Unit) : EB := reg0 (hid l_RdBytes_24) 1
@[simp] def l_RdBytes_26 (_ : Unit) : List EOp := [⟨0, (some 18), none, (.q (.mov (.t 7))), []⟩, ⟨1, (some 19), none, (.q (.mov (.t 6))), []⟩, ⟨2, (some 20), none, (.q (.len (.t 19))), []⟩, ⟨3, (some 21), none, (.q (.bin .lss (.t 18) (.t 20))), []⟩]
@[simp] def b_RdBytes_27 (_ : Unit) : EB := reg0 (hid l_RdBytes_26) 4
@[simp] def b_RdBytes_28 (_ : Unit) : EB := .cond (.t 21) .skip (.exit 0)
@[simp] def b_RdBytes_29 (_ : Unit) : EB := .seq (hid b_RdBytes_27) (hid b_RdBytes_28)
@[simp] def l_RdBytes_30 (_ : Unit) : List EOp := [⟨0, (some 24), none, (.q (.mov (.t 6))), []⟩, ⟨1, (some 25), none, (.q (.mov (.t 7))), []⟩, ⟨2, (some 26), none, (.q (.isl 1 (.t 24) (.t 25))), []⟩, ⟨3, (some 27), none, (.q (.ldc (.t 26))), []⟩, ⟨4, (some 8), none, (.q (.mov (.t 27))), []⟩]
@[simp] def b_RdBytes_31 (_ : Unit) : EB := reg0 (hid l_RdBytes_30) 5
@[simp] def l_RdBytes_32 (_ : Unit) : List EOp := [⟨0, (some 28), none, (.q (.mov (.t 8))), []⟩, ⟨1, (some 29), none, (.q (.bin .eql (.t 28) (.k (.int .u8 0)))), []⟩]
@[simp] def b_RdBytes_33 (_ : Unit) : EB := reg0 (hid l_RdBytes_32) 2
@[simp] def l_RdBytes_34 (_ : Unit) : List EOp := [⟨0, (some 30), none, (.q (.mov (.t 7))), []⟩, ⟨1, (some 31), none, (.q (.bin .add (.t 30) (.k (.int .i64 1)))), []⟩, ⟨2, (some 7), none, (.q (.mov (.t 31))), []⟩]
@[simp] def b_RdBytes_35 (_ : Unit) : EB := reg0 (hid l_RdBytes_34) 3
@[simp] def l_RdBytes_36 (_ : Unit) : List EOp := [⟨0, (some 33), none, (.q (.mov (.t 7))), []⟩, ⟨1, (some 34), none, (.q (.mov (.t 6))), []⟩, ⟨2, (some 35), none, (.q (.len (.t 34))), []⟩, ⟨3, (some 36), none, (.q (.bin .eql (.t 33) (.t 35))), []⟩, ⟨4, (some 32), none, (.q (.mov (.t 36))), []⟩]
@[simp] def b_RdBytes_37 (_ : Unit) : EB := reg0 (hid l_RdBytes_36) 5
@[simp] def l_RdBytes_38 (_ : Unit) : List EOp := [⟨0, (some 37), none, (.q (.mov (.t 0))), []⟩, ⟨1, (some 38), none, (.q (.mki 77 (.k (.int .i64 12)))), []⟩, ⟨2, (some 39), none, (.call 88 [(.t 37), (.t 38)]), []⟩]
@[simp] def b_RdBytes_39 (_ : Unit) : EB := reg0 (hid l_RdBytes_38) 3
@[simp] def l_RdBytes_40 (_ : Unit) : List EOp := [⟨0, (some 4), none, (.q (.mov (.k (.slice none 0 0)))), []⟩]
@[simp] def b_RdBytes_41 (_ : Unit) : EB := reg0 (hid l_RdBytes_40) 1
@[simp] def b_RdBytes_42 (_ : Unit) : EB := .seq (hid b_RdBytes_41) .ret
@[simp] def b_RdBytes_43 (_ : Unit) : EB := .seq (hid b_RdBytes_39) (hid b_RdBytes_42)
@[simp] def l_RdBytes_44 (_ : Unit) : List EOp := [⟨0, (some 41), none, (.q (.mov (.t 6))), []⟩, ⟨1, (some 42), none, (.q (.mov (.t 7))), []⟩, ⟨2, (some 43), none, (.q (.isl 1 (.t 41) (.t 42))), []⟩, ⟨3, (some 44), none, (.q (.ldc (.t 43))), []⟩, ⟨4, (some 45), none, (.q (.bin .eql (.t 44) (.k (.int .u8 0)))), []⟩, ⟨5, (some 40), none, (.q (.mov (.t 45))), []⟩]
@[simp] def b_RdBytes_45 (_ : Unit) : EB := reg0 (hid l_RdBytes_44) 6
@[simp] def l_RdBytes_47 (_ : Unit) : List EOp := [⟨6, (some 52), none, (.q (.bin .add (.t 49) (.t 51))), []⟩, ⟨7, (some 53), none, (.q (.nilc (.t 46))), []⟩, ⟨8, (some 54), none, (.q (.fad 1 (.t 53))), []⟩, ⟨9, none, none, (.sto 1 (.t 54) (.t 52)), []⟩]
@[simp] def l_RdBytes_46 (_ : Unit) : List EOp := ⟨0, (some 46), none, (.q (.mov (.t 0))), []⟩ :: ⟨1, (some 47), none, (.q (.nilc (.t 46))), []⟩ :: ⟨2, (some 48), none, (.q (.fad 1 (.t 47))), []⟩ :: ⟨3, (some 49), none, (.q (.ldc (.t 48))), []⟩ :: ⟨4, (some 50), none, (.q (.mov (.t 7))), []⟩ :: ⟨5, (some 51), none, (.q (.bin .add (.t 50) (.k (.int .i64 1)))), []⟩ :: hid l_RdBytes_47
@[simp] def b_RdBytes_48 (_ : Unit) : EB := reg0 (hid l_RdBytes_46) 10
@[simp] def l_RdBytes_49 (_ : Unit) : List EOp := [⟨0, (some 55), none, (.q (.mov (.t 5))), []⟩, ⟨1, (some 4), none, (.q (.mov (.t 55))), []⟩]
@[simp] def b_RdBytes_50 (_ : Unit) : EB := reg0 (hid l_RdBytes_49) 2
@[simp] def b_RdBytes_51 (_ : Unit) : EB := .seq (hid b_RdBytes_50) .ret
@[simp] def b_RdBytes_52 (_ : Unit) : EB := .seq (hid b_RdBytes_48) (hid b_RdBytes_51)
@[simp] def l_RdBytes_53 (_ : Unit) : List EOp := [⟨0, (some 57), none, (.q (.mov (.t 6))), []⟩, ⟨1, (some 58), none, (.q (.mov (.t 7))), []⟩, ⟨2, (some 59), none, (.q (.isl 1 (.t 57) (.t 58))), []⟩, ⟨3, (some 60), none, (.q (.ldc (.t 59))), []⟩, ⟨4, (some 61), none, (.q (.bin .neq (.t 60) (.k (.int .u8 255)))), []⟩, ⟨5, (some 56), none, (.q (.mov (.t 61))), []⟩]
@[simp] def b_RdBytes_54 (_ : Unit) : EB := reg0 (hid l_RdBytes_53) 6
@[simp] def l_RdBytes_55 (_ : Unit) : List EOp := [⟨0, (some 62), none, (.q (.mov (.t 0))), []⟩, ⟨1, (some 63), none, (.q (.mki 77 (.k (.int .i64 3)))), []⟩, ⟨2, (some 64), none, (.call 88 [(.t 62), (.t 63)]), []⟩]
@[simp] def b_RdBytes_56 (_ : Unit) : EB := reg0 (hid l_RdBytes_55) 3
@[simp] def l_RdBytes_57 (_ : Unit) : List EOp := [⟨0, (some 4), none, (.q (.mov (.k (.slice none 0 0)))), []⟩]
@[simp] def b_RdBytes_58 (_ : Unit) : EB := reg0 (hid l_RdBytes_57) 1
@[simp] def b_RdBytes_59 (_ : Unit) : EB := .seq (hid b_RdBytes_58) .ret
@[simp] def b_RdBytes_60 (_ : Unit) : EB := .seq (hid b_RdBytes_56) (hid b_RdBytes_59)
@[simp] def b_RdBytes_61 (_ : Unit) : EB := .cond (.t 56) (hid b_RdBytes_60) .skip
@[simp] def b_RdBytes_62 (_ : Unit) : EB := .seq (hid b_RdBytes_54) (hid b_RdBytes_61)
@[simp] def b_RdBytes_63 (_ : Unit) : EB := .cond (.t 40) (hid b_RdBytes_52) (hid b_RdBytes_62)
@[simp] def b_RdBytes_64 (_ : Unit) : EB := .seq (hid b_RdBytes_45) (hid b_RdBytes_63)
@[simp] def b_RdBytes_65 (_ : Unit) : EB := .cond (.t 32) (hid b_RdBytes_43) (hid b_RdBytes_64)
@[simp] def b_RdBytes_66 (_ : Unit) : EB := .seq (hid b_RdBytes_37) (hid b_RdBytes_65)
@[simp] def b_RdBytes_67 (_ : Unit) : EB := .block 2 (hid b_RdBytes_66)
@[simp] def b_RdBytes_68 (_ : Unit) : EB := .seq (hid b_RdBytes_35) (hid b_RdBytes_67)
@[simp] def b_RdBytes_69 (_ : Unit) : EB := .cond (.t 29) (hid b_RdBytes_68) .skip
@[simp] def b_RdBytes_70 (_ : Unit) : EB := .seq (hid b_RdBytes_33) (hid b_RdBytes_69)
@[simp] def l_RdBytes_71 (_ : Unit) : List EOp := [⟨0, (some 65), none, (.q (.mov (.t 5))), []⟩, ⟨1, (some 66), none, (.q (.len (.t 65))), []⟩, ⟨2, (some 67), none, (.q (.mov (.t 1))), []⟩, ⟨3, (some 68), none, (.q (.bin .eql (.t 66) (.t 67))), []⟩]
@[simp] def b_RdBytes_72 (_ : Unit) : EB := reg0 (hid l_RdBytes_71) 4
@[simp] def l_RdBytes_73 (_ : Unit) : List EOp := [⟨0, (some 69), none, (.q (.mov (.t 0))), []⟩, ⟨1, (some 70), none, (.q (.mki 77 (.k (.int .i64 2)))), []⟩, ⟨2, (some 71), none, (.call 88 [(.t 69), (.t 70)]), []⟩]
@[simp] def b_RdBytes_74 (_ : Unit) : EB := reg0 (hid l_RdBytes_73) 3
@[simp] def l_RdBytes_75 (_ : Unit) : List EOp := [⟨0, (some 4), none, (.q (.mov (.k (.slice none 0 0)))), []⟩]
@[simp] def b_RdBytes_76 (_ : Unit) : EB := reg0 (hid l_RdBytes_75) 1
@[simp] def b_RdBytes_77 (_ : Unit) : EB := .seq (hid b_RdBytes_76) .ret
@[simp] def b_RdBytes_78 (_ : Unit) : EB := .seq (hid b_RdBytes_74) (hid b_RdBytes_77)
@[simp] def b_RdBytes_79 (_ : Unit) : EB := .cond (.t 68) (hid b_RdBytes_78) .skip
@[simp] def b_RdBytes_80 (_ : Unit) : EB := .seq (hid b_RdBytes_72) (hid b_RdBytes_79)
@[simp] def l_RdBytes_81 (_ : Unit) : List EOp := [⟨0, (some 72), none, (.q (.mov (.t 5))), []⟩, ⟨1, (some 73), none, (.q (.mov (.t 8))), []⟩, ⟨2, (some 74), none, (.q (.bsl 1 [(.int .u8 0)] 1 [(0, (.t 73))])), []⟩, ⟨3, (some 75), none, (.app 5 1 1 (.t 72) (.t 74)), []⟩, ⟨4, (some 5), none, (.q (.mov (.t 75))), []⟩]
@[simp] def b_RdBytes_82 (_ : Unit) : EB := reg0 (hid l_RdBytes_81) 5
@[simp] def b_RdBytes_83 (_ : Unit) : EB := .seq (hid b_RdBytes_80) (hid b_RdBytes_82)
@[simp] def b_RdBytes_84 (_ : Unit) : EB := .seq (hid b_RdBytes_70) (hid b_RdBytes_83)
@[simp] def b_RdBytes_85 (_ : Unit) : EB := .seq (hid b_RdBytes_31) (hid b_RdBytes_84)
@[simp] def b_RdBytes_86 (_ : Unit) : EB := .block 1 (hid b_RdBytes_85)
@[simp] def l_RdBytes_87 (_ : Unit) : List EOp := [⟨0, (some 22), none, (.q (.mov (.t 7))), []⟩, ⟨1, (some 23), none, (.q (.bin .add (.t 22) (.k (.int .i64 1)))), []⟩, ⟨2, (some 7), none, (.q (.mov (.t 23))), []⟩]
@[simp] def b_RdBytes_88 (_ : Unit) : EB := reg0 (hid l_RdBytes_87) 3
@[simp] def b_RdBytes_89 (_ : Unit) : EB := .seq (hid b_RdBytes_86) (hid b_RdBytes_88)
@[simp] def b_RdBytes_90 (_ : Unit) : EB := .seq (hid b_RdBytes_29) (hid b_RdBytes_89)
@[simp] def b_RdBytes_91 (_ : Unit) : EB := .loop (hid b_RdBytes_90)
@[simp] def b_RdBytes_92 (_ : Unit) : EB := .block 0 (hid b_RdBytes_91)
@[simp] def b_RdBytes_93 (_ : Unit) : EB := .seq (hid b_RdBytes_25) (hid b_RdBytes_92)
@[simp] def l_RdBytes_94 (_ : Unit) : List EOp := [⟨0, (some 76), none, (.q (.mov (.t 0))), []⟩, ⟨1, (some 77), none, (.q (.mki 77 (.k (.int .i64 12)))), []⟩, ⟨2, (some 78), none, (.call 88 [(.t 76), (.t 77)]), []⟩]
@[simp] def b_RdBytes_95 (_ : Unit) : EB := reg0 (hid l_RdBytes_94) 3
@[simp] def l_RdBytes_96 (_ : Unit) : List EOp := [⟨0, (some 4), none, (.q (.mov (.k (.slice none 0 0)))), []⟩]
@[simp] def b_RdBytes_97 (_ : Unit) : EB := reg0 (hid l_RdBytes_96) 1
@[simp] def b_RdBytes_98 (_ : Unit) : EB := .seq (hid b_RdBytes_97) .ret
@[simp] def b_RdBytes_99 (_ : Unit) : EB := .seq (hid b_RdBytes_95) (hid b_RdBytes_98)
@[simp] def b_RdBytes_100 (_ : Unit) : EB := .seq (hid b_RdBytes_93) (hid b_RdBytes_99)
@[simp] def b_RdBytes_101 (_ : Unit) : EB := .seq (hid b_RdBytes_23) (hid b_RdBytes_100)
@[simp] def b_RdBytes_102 (_ : Unit) : EB := .seq (hid b_RdBytes_21) (hid b_RdBytes_101)
@[simp] def b_RdBytes_103 (_ : Unit) : EB := .seq (hid b_RdBytes_19) (hid b_RdBytes_102)
@[simp] def b_RdBytes_104 (_ : Unit) : EB := .seq (hid b_RdBytes_9) (hid b_RdBytes_103)
@[simp] def b_RdBytes_105 (_ : Unit) : EB := .seq (hid b_RdBytes_2) (hid b_RdBytes_104)
def c_RdBytes : EB × List QOp × Nat := ((hid b_RdBytes_105), [(.mov (.t 4))], 79)
theorem k_RdBytes : cfun Tryz.prog 44 = some c_RdBytes := by kernel_rfl


/-- The number that bytes begin with, up to a bound: the error, the number, how many bytes it takes. -/
def numS (b : List UInt8) (most : Nat) : Nat × Nat × Nat :=
  match b with
  | [] => (12, 0, 0)
  | c :: r => if 8 < c.toNat then (3, 0, 0) else
    let q := lowS r c.toNat 0
    if q.2 ≠ 0 then (q.2, 0, 0) else if most < q.1 then (4, 0, 0) else (0, q.1, 1 + c.toNat)

theorem low_lt (r : List UInt8) (many : Nat) (mask : UInt8) (hm : many ≤ 8) : (lowS r many mask).1 < 18446744073709551616 := by
  unfold lowS
  split
  · simp
  split
  · simp
  have h1 := val_lt ((r.take many).map (· ^^^ mask))
  have h2 : ((r.take many).map (· ^^^ mask)).length ≤ 8 := by simp <;> omega
  have h3 := Nat.pow_le_pow_right (show 0 < 256 by omega) h2
  have h4 : (256 : Nat) ^ 8 = 18446744073709551616 := by decide
  show valB _ < _
  omega
theorem low_len (r : List UInt8) (many : Nat) (mask : UInt8) (h : (lowS r many mask).2 = 0) : many ≤ r.length := by
  unfold lowS at h
  split at h
  · simp at h
  · omega
theorem numS_ok (b : List UInt8) (most : Nat) : (numS b most).2.1 < 18446744073709551616 ∧ (numS b most).2.1 ≤ most ∧ (numS b most).2.2 ≤ b.length ∧ ((numS b most).1 ≠ 0 → (numS b most).2.1 = 0 ∧ (numS b most).2.2 = 0) := by
  unfold numS
  split
  · simp
  rename_i c r
  split
  · simp
  rename_i h8
  have h1 := low_lt r c.toNat 0 (by omega)
  have h2 := low_len r c.toNat 0
  obtain ⟨q, hq⟩ : ∃ q, lowS r c.toNat 0 = q := ⟨_, rfl⟩
  rw [hq] at h1 h2
  simp only [hq]
  split
  · simp
  rename_i hq2
  have := h2 (by omega)
  split
  · simp
  · simp; omega

theorem RdDone_ok (l : List UInt8) (p e : Nat) (hp : p ≤ l.length) : ECalls Tryz.prog 46 [Ptr 0] [RdO l p e] fun y H' => H' = [some (RdO l p e)] ∧ y = .lit (errV (if e ≠ 0 then e else if p < l.length then 3 else 0)) := by
  refine ecalls k_RdDone ?_
  by_cases he : e = 0
  · subst he
    simp [c_RdDone, Ptr, RdO]
    refine alt (fun h => ?_) (fun h => ?_)
    · simp
      exact fin [] (by decide) rfl rfl rfl ⟨rfl, by simp [h]⟩
    · simp
      exact fin [] (by decide) rfl rfl rfl ⟨rfl, by simp [h]⟩
  · simp [c_RdDone, Ptr, RdO, he]
    exact fin [] (by decide) rfl rfl rfl ⟨rfl, by simp⟩

theorem RdDone_nil : ECalls Tryz.prog 46 [NP] [] fun y H' => H' = [] ∧ y = .lit (errV 1) := by
  refine ecalls k_RdDone ?_
  simp [c_RdDone, NP]
  exact fin [] (by decide) rfl rfl rfl ⟨rfl, rfl⟩

/-- The sum that bytes begin with. -/
def hashS (b : List UInt8) : Nat × List UInt8 × Nat := if b.length < 32 then (12, hz, 0) else (0, b.take 32, 32)
theorem RdHash_ok (l : List UInt8) (p : Nat) (hp : p ≤ l.length) (hl : l.length ≤ 1000000000) : ECalls Tryz.prog 45 [Ptr 0] [RdO l p 0] fun y H' => H' = [some (RdO l (p + (hashS (l.drop p)).2.2) (hashS (l.drop p)).1)] ∧ y = Ag (hashS (l.drop p)).2.1 := by
  refine ecalls k_RdHash ?_
  simp [c_RdHash, Ptr]
  refine callH [0] (off_ok l p 0) (by simp [Ptr, NP, I, R, RO, WO, RdO, Bs, EV.lit]) (by simp [Ptr, NP, I, R, RO, WO, RdO, Bs, EV.lit]) (by simp) (by simp [Ptr, NP, I, R, RO, WO, RdO, Bs, EV.lit]) (by simp [Wok]) ?_
  rintro y H' ⟨rfl, rfl⟩
  refine ⟨.inl (by simp [Ptr, NP, I, R, RO, WO, RdO, Bs, EV.lit]), le_ok rfl, ?_⟩
  simp [Ptr, NP, I, R, RO, WO, RdO, Bs, EV.lit]
  refine callH [0] (rest_ok l p 0 hp) (by simp [Ptr, NP, I, R, RO, WO, RdO, Bs, EV.lit]) (by simp [Ptr, NP, I, R, RO, WO, RdO, Bs, EV.lit]) (by simp) (by simp [Ptr, NP, I, R, RO, WO, RdO, Bs, EV.lit]) (by simp [Wok]) ?_
  rintro y H' ⟨rfl, rfl⟩
  refine ⟨.inl (by simp [Ptr, NP, I, R, RO, WO, RdO, Bs, EV.lit]), le_ok rfl, ?_⟩
  simp [Ptr, NP, I, R, RO, WO, RdO, Bs, EV.lit]
  refine alt (fun h => ?_) (fun h => ?_)
  · have hi : hashS (l.drop p) = (12, hz, 0) := by unfold hashS; rw [if_pos (by rw [List.length_drop]; omega)]
    rw [hi]
    simp
    refine callH [0] (fail_ok l p 0 12) (by simp [Ptr, NP, I, R, RO, WO, RdO, Bs, EV.lit]) (by simp [Ptr, NP, I, R, RO, WO, RdO, Bs, EV.lit]) (by simp) (by simp [Ptr, NP, I, R, RO, WO, RdO, Bs, EV.lit]) (by simp [Wok]) ?_
    rintro y H' ⟨rfl, rfl⟩
    refine ⟨.inl (by simp [Ptr, NP, I, R, RO, WO, RdO, Bs, EV.lit]), le_ok rfl, ?_⟩
    simp [Ptr, NP, I, R, RO, WO, RdO, Bs, EV.lit]
    exact fin [] (by decide) rfl rfl rfl ⟨rfl, rfl⟩
  · have hi : hashS (l.drop p) = (0, (l.drop p).take 32, 32) := by unfold hashS; rw [if_neg (by rw [List.length_drop]; omega)]
    rw [hi]
    simp
    have m1 : min (l.length - p) 32 = 32 := by omega
    have m2 : min 32 (l.length - p) = 32 := by omega
    have w6 : IntKind.i64.wrap ((p : Int) + 32) = (p : Int) + 32 := wrap_i64 (by omega) (by omega)
    refine callS [0] (rest_ok l p 0 hp) (by simp [Ptr, NP, I, R, RO, WO, RdO, Bs, EV.lit]) (by simp [Ptr, NP, I, R, RO, WO, RdO, Bs, EV.lit]) (by simp) (by simp [Ptr, NP, I, R, RO, WO, RdO, Bs, EV.lit]) (by intro i hi y H' h; obtain ⟨rfl, rfl⟩ := h; simp at hi; subst hi; simp [Ptr, NP, I, R, RO, WO, RdO, Bs, EV.lit]) ?_
    rintro y H' ⟨rfl, rfl⟩
    refine ⟨.inl (by simp [Ptr, NP, I, R, RO, WO, RdO, Bs, EV.lit]), le_ok rfl, ?_⟩
    simp [RdO, Bs, m1, m2, w6]
    exact fin [] (by decide) (v := Ag ((l.drop p).take 32)) (by simp [resV, evT, Ag, m1, m2, List.take_take]) (by simp [conR, conT, Ag]) rfl ⟨rfl, rfl⟩

theorem RdHash_off (l : List UInt8) (p e : Nat) (he : e ≠ 0) : ECalls Tryz.prog 45 [Ptr 0] [RdO l p e] fun y H' => H' = [some (RdO l p e)] ∧ y = Ag (hz) := by
  refine ecalls k_RdHash ?_
  simp [c_RdHash, Ptr]
  refine callH [0] (off_ok l p e) (by simp [Ptr, NP, I, R, RO, WO, RdO, Bs, EV.lit]) (by simp [Ptr, NP, I, R, RO, WO, RdO, Bs, EV.lit]) (by simp) (by simp [Ptr, NP, I, R, RO, WO, RdO, Bs, EV.lit]) (by simp [Wok]) ?_
  rintro y H' ⟨rfl, rfl⟩
  refine ⟨.inl (by simp [Ptr, NP, I, R, RO, WO, RdO, Bs, EV.lit]), le_ok rfl, ?_⟩
  simp [he, RdO]
  exact fin [] (by decide) rfl rfl rfl ⟨rfl, rfl⟩

theorem RdHash_nil : ECalls Tryz.prog 45 [NP] [] fun y H' => H' = [] ∧ y = Ag (hz) := by
  refine ecalls k_RdHash ?_
  simp [c_RdHash, NP]
  refine call0 off_nil (by simp [NP]) ?_
  rintro y H' ⟨rfl, rfl⟩
  simp
  exact fin [] (by decide) rfl rfl rfl ⟨rfl, rfl⟩

/-- What was taken off ahead, and what comes behind it. -/
def addS (out : List UInt8) (i : Nat) (q : Nat × List UInt8 × Nat) : Nat × List UInt8 × Nat := if q.1 ≠ 0 then (q.1, [], 0) else (0, out ++ q.2.1, i + q.2.2)
theorem addS_addS (o1 o2 : List UInt8) (i j : Nat) (q : Nat × List UInt8 × Nat) : addS o1 i (addS o2 j q) = addS (o1 ++ o2) (i + j) q := by
  by_cases h : q.1 = 0 <;> simp [addS, h, Nat.add_assoc]
/-- The bytes that bytes begin with, at most so many: the error, the bytes, how many it takes. -/
def bytS : List UInt8 → Nat → Nat × List UInt8 × Nat
  | [], _ => (12, [], 0)
  | c :: r, m => if c = 0 then (match r with
      | [] => (12, [], 0)
      | x :: r' => if x = 0 then (0, [], 2) else if x ≠ 255 then (3, [], 0) else if m = 0 then (2, [], 0) else addS [0] 2 (bytS r' (m - 1)))
    else if m = 0 then (2, [], 0) else addS [c] 1 (bytS r (m - 1))
theorem bytS_c {c : UInt8} {r : List UInt8} {m : Nat} (h : c ≠ 0) (hm : m ≠ 0) : bytS (c :: r) m = addS [c] 1 (bytS r (m - 1)) := by rw [bytS.eq_def]; simp [h, hm]
theorem bytS_0 {r : List UInt8} {m : Nat} (hm : m ≠ 0) : bytS (0 :: 255 :: r) m = addS [0] 2 (bytS r (m - 1)) := by rw [bytS.eq_def]; simp [hm]
theorem bytS_len : ∀ (b : List UInt8) (m : Nat), (bytS b m).2.2 ≤ b.length ∧ (bytS b m).2.1.length ≤ m ∧ (bytS b m).2.1.length ≤ b.length ∧ ((bytS b m).1 ≠ 0 → (bytS b m).2.1 = [] ∧ (bytS b m).2.2 = 0)
  | [], m => by simp [bytS]
  | [c], m => by
    by_cases h : c = 0
    · subst h; simp [bytS]
    · by_cases hm : m = 0
      · subst hm; simp [bytS, h]
      · rw [bytS_c h hm]; simp [bytS, addS]
  | c :: x :: r, m => by
    by_cases h : c = 0
    · subst h
      by_cases h1 : x = 0
      · subst h1; simp [bytS]
      · by_cases h2 : x = 255
        · subst h2
          by_cases hm : m = 0
          · subst hm; simp [bytS]
          · rw [bytS_0 hm]
            have := bytS_len r (m - 1)
            unfold addS
            split
            · simp
            · simp; omega
        · have : bytS (0 :: x :: r) m = (3, [], 0) := by rw [bytS.eq_def]; simp [h1, h2]
          rw [this]; simp
    · by_cases hm : m = 0
      · subst hm; simp [bytS, h]
      · rw [bytS_c h hm]
        have := bytS_len (x :: r) (m - 1)
        unfold addS
        split
        · simp
        · simp at this ⊢; omega

theorem drop_cons {α : Type} {b : List α} {i : Nat} {c : α} (h : b[i]? = some c) : b.drop i = c :: b.drop (i + 1) := by
  have hi : i < b.length := lt_len h
  rw [List.drop_eq_getElem_cons hi]
  congr 1
  rw [List.getElem?_eq_getElem hi] at h
  exact Option.some.inj h
theorem bsv_get {b : List UInt8} {i : Nat} {c : UInt8} (h : b[i]? = some c) : (bsv b)[i]? = some (cb c) := by simp [bsv, h]

theorem RdBytes_off (l : List UInt8) (p e : Nat) (most : Int) (he : e ≠ 0) : ECalls Tryz.prog 44 [Ptr 0, I .i64 most] [RdO l p e] fun y H' => H' = [some (RdO l p e)] ∧ y = Bs [] := by
  refine ecalls k_RdBytes ?_
  simp [c_RdBytes, Ptr, I]
  refine callH [0] (off_ok l p e) (by simp [Ptr, NP, I, R, RO, WO, RdO, Bs, EV.lit]) (by simp [Ptr, NP, I, R, RO, WO, RdO, Bs, EV.lit]) (by simp) (by simp [Ptr, NP, I, R, RO, WO, RdO, Bs, EV.lit]) (by simp [Wok]) ?_
  rintro y H' ⟨rfl, rfl⟩
  refine ⟨.inl (by simp [Ptr, NP, I, R, RO, WO, RdO, Bs, EV.lit]), le_ok rfl, ?_⟩
  simp [he, RdO]
  refine finW _ (weak_nilF 4 1 rfl) ?_
  exact fin [] (by decide) rfl rfl rfl ⟨rfl, rfl⟩

theorem RdBytes_nil (most : Int) : ECalls Tryz.prog 44 [NP, I .i64 most] [] fun y H' => H' = [] ∧ y = Bs [] := by
  refine ecalls k_RdBytes ?_
  simp [c_RdBytes, NP, I]
  refine call0 off_nil (by simp [NP]) ?_
  rintro y H' ⟨rfl, rfl⟩
  simp
  refine finW _ (weak_nilF 4 1 rfl) ?_
  exact fin [] (by decide) rfl rfl rfl ⟨rfl, rfl⟩

/-- The same, for any bound. -/
def bytZ (b : List UInt8) (most : Int) : Nat × List UInt8 × Nat := if most < 0 then (1, [], 0) else bytS b most.toNat

set_option maxHeartbeats 2000000 in
theorem RdBytes_ok (l : List UInt8) (p : Nat) (most : Int) (hp : p ≤ l.length) (hl : l.length ≤ 1000000000) : ECalls Tryz.prog 44 [Ptr 0, I .i64 most] [RdO l p 0] fun y H' => H' = [some (RdO l (p + (bytZ (l.drop p) most).2.2) (bytZ (l.drop p) most).1)] ∧ y = Bs (bytZ (l.drop p) most).2.1 := by
  refine ecalls k_RdBytes ?_
  simp [c_RdBytes, Ptr, I]
  refine callH [0] (off_ok l p 0) (by simp [Ptr, NP, I, R, RO, WO, RdO, Bs, EV.lit]) (by simp [Ptr, NP, I, R, RO, WO, RdO, Bs, EV.lit]) (by simp) (by simp [Ptr, NP, I, R, RO, WO, RdO, Bs, EV.lit]) (by simp [Wok]) ?_
  rintro y H' ⟨rfl, rfl⟩
  refine ⟨.inl (by simp [Ptr, NP, I, R, RO, WO, RdO, Bs, EV.lit]), le_ok rfl, ?_⟩
  simp [Ptr, NP, I, R, RO, WO, RdO, Bs, EV.lit]
  refine alt (fun hneg => ?_) (fun hneg => ?_)
  · have hi : bytZ (l.drop p) most = (1, [], 0) := by rw [bytZ, if_pos hneg]
    rw [hi]
    simp
    refine callH [0] (fail_ok l p 0 1) (by simp [Ptr, NP, I, R, RO, WO, RdO, Bs, EV.lit]) (by simp [Ptr, NP, I, R, RO, WO, RdO, Bs, EV.lit]) (by simp) (by simp [Ptr, NP, I, R, RO, WO, RdO, Bs, EV.lit]) (by simp [Wok]) ?_
    rintro y H' ⟨rfl, rfl⟩
    refine ⟨.inl (by simp [Ptr, NP, I, R, RO, WO, RdO, Bs, EV.lit]), le_ok rfl, ?_⟩
    simp [Ptr, NP, I, R, RO, WO, RdO, Bs, EV.lit]
    refine finW _ (weak_nilF 4 1 rfl) ?_
    exact fin [] (by decide) rfl rfl rfl ⟨rfl, rfl⟩
  have hi : bytZ (l.drop p) most = bytS (l.drop p) most.toNat := by rw [bytZ, if_neg hneg]
  rw [hi]
  obtain ⟨k, rfl⟩ : ∃ k : Nat, most = k := ⟨most.toNat, by omega⟩
  simp
  refine callH [0] (rest_ok l p 0 hp) (by simp [Ptr, NP, I, R, RO, WO, RdO, Bs, EV.lit]) (by simp [Ptr, NP, I, R, RO, WO, RdO, Bs, EV.lit]) (by simp) (by simp [Ptr, NP, I, R, RO, WO, RdO, Bs, EV.lit]) (by simp [Wok]) ?_
  rintro y H' ⟨rfl, rfl⟩
  refine ⟨.inl (by simp [Ptr, NP, I, R, RO, WO, RdO, Bs, EV.lit]), le_ok rfl, ?_⟩
  obtain ⟨b, hb⟩ : ∃ b, l.drop p = b := ⟨_, rfl⟩
  have hbl : b.length = l.length - p := by rw [← hb, List.length_drop]
  simp only [hb]
  simp [RdO, Bs]
  refine loopW _ (weak_nilR 5 5 1 rfl (by omega)) ?_
  refine eloop (α := Nat × List UInt8) (fun a => a.1 ≤ b.length ∧ a.2.length ≤ a.1 ∧ a.2.length ≤ k ∧ bytS b k = addS a.2 a.1 (bytS (b.drop a.1) (k - a.2.length))) (fun a => b.length - a.1)
    (fun a => [Ptr 0, I .i64 k, .any, .any, .any, R 1 a.2, Bs b, I .i64 a.1, .any, .any, .any, .any, .any, .any, .any, .any, .any, .any, .any, .any, .any, .any, .any, .any, .any, .any, .any, .any, .any, .any, .any, .any, .any, .any, .any, .any, .any, .any, .any, .any, .any, .any, .any, .any, .any, .any, .any, .any, .any, .any, .any, .any, .any, .any, .any, .any, .any, .any, .any, .any, .any, .any, .any, .any, .any, .any, .any, .any, .any, .any, .any, .any, .any, .any, .any, .any, .any, .any, .any]) (fun a => [some (RdO l p 0), some (RO a.2)]) (0, []) [0, 161]
    ⟨by simp, by simp, by simp, by
      have := (bytS_len b k).2.2.2
      simp only [addS, List.drop_zero, List.length_nil, Nat.sub_zero, List.nil_append, Nat.zero_add]
      split
      · rename_i h; rw [← (this h).1, ← (this h).2]
      · rename_i h; simp at h; rw [← h]⟩ (by simp [Ptr, I, R, Bs]) (by simp [RdO, RO]) (by simp) (by simp) (by simp) ?_
  rintro ⟨i, out⟩ ⟨hi1, hi2, hi3, hi4⟩
  simp [Ptr, I, R, Bs, RdO, RO] at hi1 hi2 hi3 hi4 ⊢
  refine alt (fun hlt => ?_) (fun hlt => ?_)
  rotate_left
  · have : i = b.length := by omega
    subst this
    have hi : bytS b k = (12, [], 0) := by rw [hi4]; simp [bytS, addS]
    rw [hi]
    simp
    refine callH [0] (fail_ok l p 0 12) (by simp [Ptr, NP, I, R, RO, WO, RdO, Bs, EV.lit]) (by simp [Ptr, NP, I, R, RO, WO, RdO, Bs, EV.lit]) (by simp) (by simp [Ptr, NP, I, R, RO, WO, RdO, Bs, EV.lit]) (by simp [Wok]) ?_
    rintro y H' ⟨rfl, rfl⟩
    refine ⟨.inl (by simp [Ptr, NP, I, R, RO, WO, RdO, Bs, EV.lit]), le_ok rfl, ?_⟩
    simp [Ptr, NP, I, R, RO, WO, RdO, Bs, EV.lit]
    refine finW _ (weak_nilF 4 1 rfl) ?_
    exact fin [] (by decide) rfl rfl rfl ⟨rfl, rfl⟩
  obtain ⟨c, hc⟩ : ∃ c, b[i]? = some c := ⟨b[i], by simp [hlt]⟩
  have hcb := bsv_get hc
  have hdc := drop_cons hc
  rw [hdc] at hi4
  have w1 : IntKind.i64.wrap ((i : Int) + 1) = ((i + 1 : Nat) : Int) := wrap_i64 (by omega) (by omega)
  simp [hcb, cb]
  refine alt (fun hz => ?_) (fun hz => ?_)
  · have hc0 : c = 0 := by apply UInt8.toNat_inj.1; simpa using hz
    subst hc0
    simp [w1, -Int.natCast_add]
    refine alt (fun he => ?_) (fun he => ?_)
    · have hd : b.drop (i + 1) = [] := by rw [List.drop_eq_nil_iff]; omega
      have hi : bytS b k = (12, [], 0) := by rw [hi4, hd]; simp [bytS, addS]
      rw [hi]
      simp
      refine callH [0] (fail_ok l p 0 12) (by simp [Ptr, NP, I, R, RO, WO, RdO, Bs, EV.lit]) (by simp [Ptr, NP, I, R, RO, WO, RdO, Bs, EV.lit]) (by simp) (by simp [Ptr, NP, I, R, RO, WO, RdO, Bs, EV.lit]) (by simp [Wok]) ?_
      rintro y H' ⟨rfl, rfl⟩
      refine ⟨.inl (by simp [Ptr, NP, I, R, RO, WO, RdO, Bs, EV.lit]), le_ok rfl, ?_⟩
      simp [Ptr, NP, I, R, RO, WO, RdO, Bs, EV.lit]
      refine finW _ (weak_nilF 4 1 rfl) ?_
      exact fin [] (by decide) rfl rfl rfl ⟨rfl, rfl⟩
    obtain ⟨x, hx⟩ : ∃ x, b[i + 1]? = some x := ⟨b[i + 1]'(by omega), by simp <;> omega⟩
    have hxb := bsv_get hx
    have hdx := drop_cons hx
    rw [hdx] at hi4
    simp [hxb, cb, -Int.natCast_add]
    refine alt (fun hz2 => ?_) (fun hz2 => ?_)
    · have hx0 : x = 0 := by apply UInt8.toNat_inj.1; simpa using hz2
      subst hx0
      have hi : bytS b k = (0, out, i + 2) := by rw [hi4]; simp [bytS, addS]
      rw [hi]
      have w2 : IntKind.i64.wrap (((i + 1 : Nat) : Int) + 1) = ((i + 2 : Nat) : Int) := wrap_i64 (by omega) (by omega)
      have w3 : IntKind.i64.wrap ((p : Int) + ((i + 2 : Nat) : Int)) = ((p + (i + 2) : Nat) : Int) := by rw [wrap_i64 (by omega) (by omega)]; omega
      simp [w2, w3, -Int.natCast_add]
      refine finW _ (weak_frz (o := 1) (ty := 5) (es := 1) (xs := bsv out) rfl) ?_
      exact fin [] (by decide) rfl rfl rfl ⟨rfl, by simp [Bs]⟩
    have hx0 : x ≠ 0 := by rintro rfl; exact hz2 rfl
    simp [hxb, cb, -Int.natCast_add]
    refine alt (fun h255 => ?_) (fun h255 => ?_)
    · have hx1 : x ≠ 255 := by rintro rfl; exact h255 rfl
      have hi : bytS b k = (3, [], 0) := by rw [hi4]; simp [bytS, addS, hx0, hx1]
      rw [hi]
      simp
      refine callH [0] (fail_ok l p 0 3) (by simp [Ptr, NP, I, R, RO, WO, RdO, Bs, EV.lit]) (by simp [Ptr, NP, I, R, RO, WO, RdO, Bs, EV.lit]) (by simp) (by simp [Ptr, NP, I, R, RO, WO, RdO, Bs, EV.lit]) (by simp [Wok]) ?_
      rintro y H' ⟨rfl, rfl⟩
      refine ⟨.inl (by simp [Ptr, NP, I, R, RO, WO, RdO, Bs, EV.lit]), le_ok rfl, ?_⟩
      simp [Ptr, NP, I, R, RO, WO, RdO, Bs, EV.lit]
      refine finW _ (weak_nilF 4 1 rfl) ?_
      exact fin [] (by decide) rfl rfl rfl ⟨rfl, rfl⟩
    have hx1 : x = 255 := by apply UInt8.toNat_inj.1; simp at h255; simp; omega
    subst hx1
    simp [-Int.natCast_add]
    refine alt (fun hk => ?_) (fun hk => ?_)
    · have hi : bytS b k = (2, [], 0) := by rw [hi4]; simp [bytS, addS, show k - out.length = 0 by omega]
      rw [hi]
      simp
      refine callH [0] (fail_ok l p 0 2) (by simp [Ptr, NP, I, R, RO, WO, RdO, Bs, EV.lit]) (by simp [Ptr, NP, I, R, RO, WO, RdO, Bs, EV.lit]) (by simp) (by simp [Ptr, NP, I, R, RO, WO, RdO, Bs, EV.lit]) (by simp [Wok]) ?_
      rintro y H' ⟨rfl, rfl⟩
      refine ⟨.inl (by simp [Ptr, NP, I, R, RO, WO, RdO, Bs, EV.lit]), le_ok rfl, ?_⟩
      simp [Ptr, NP, I, R, RO, WO, RdO, Bs, EV.lit]
      refine finW _ (weak_nilF 4 1 rfl) ?_
      exact fin [] (by decide) rfl rfl rfl ⟨rfl, rfl⟩
    have w2 : IntKind.i64.wrap (((i + 1 : Nat) : Int) + 1) = ((i + 2 : Nat) : Int) := wrap_i64 (by omega) (by omega)
    simp [w2, -Int.natCast_add]
    refine ⟨by omega, round (i + 2, out ++ [0]) [0, 610] ⟨by simp <;> omega, by simp <;> omega, by simp <;> omega, ?_⟩ (by simp <;> omega) (by simp) (by simp [bsv, cb]) (by simp) (by simp) (by simp)⟩
    rw [hi4, bytS_0 (by omega), addS_addS]
    simp [Nat.sub_sub]
  · have hc0 : c ≠ 0 := by rintro rfl; exact hz rfl
    simp
    refine alt (fun hk => ?_) (fun hk => ?_)
    · have hi : bytS b k = (2, [], 0) := by rw [hi4, show k - out.length = 0 by omega, bytS.eq_def]; simp [hc0, addS]
      rw [hi]
      simp
      refine callH [0] (fail_ok l p 0 2) (by simp [Ptr, NP, I, R, RO, WO, RdO, Bs, EV.lit]) (by simp [Ptr, NP, I, R, RO, WO, RdO, Bs, EV.lit]) (by simp) (by simp [Ptr, NP, I, R, RO, WO, RdO, Bs, EV.lit]) (by simp [Wok]) ?_
      rintro y H' ⟨rfl, rfl⟩
      refine ⟨.inl (by simp [Ptr, NP, I, R, RO, WO, RdO, Bs, EV.lit]), le_ok rfl, ?_⟩
      simp [Ptr, NP, I, R, RO, WO, RdO, Bs, EV.lit]
      refine finW _ (weak_nilF 4 1 rfl) ?_
      exact fin [] (by decide) rfl rfl rfl ⟨rfl, rfl⟩
    simp [w1, -Int.natCast_add]
    refine ⟨by omega, round (i + 1, out ++ [c]) [0, 290] ⟨by simp <;> omega, by simp <;> omega, by simp <;> omega, ?_⟩ (by simp <;> omega) (by simp) (by simp [bsv, cb]) (by simp) (by simp) (by simp)⟩
    rw [hi4, bytS_c hc0 (by omega), addS_addS]
    simp [Nat.sub_sub]

end Go.Proofs.YtpilpjameifcfaaGreatDoor

namespace Go.Proofs.YtpilpjameifcfaaGreatDoor
open Go Go.EW
set_option linter.unusedSimpArgs false
set_option linter.unusedVariables false

@[simp] def l_side_1 (_ : Unit) : List EOp := [⟨0, (some 2), none, (.q (.mov (.k (.bool false)))), []⟩]
@[simp] def b_side_2 (_ : Unit) : EB := reg0 (hid l_side_1) 1
@[simp] def l_side_4 (_ : Unit) : List EOp := [⟨6, (some 2), none, (.q (.mov (.t 8))), []⟩]
@[simp] def l_side_3 (_ : Unit) : List EOp := ⟨0, (some 3), none, (.q (.mov (.t 0))), []⟩ :: ⟨1, (some 4), none, (.q (.bin .eql (.t 3) (.k (.int .i64 0)))), []⟩ :: ⟨2, (some 5), none, (.q (.mov (.t 4))), []⟩ :: ⟨3, (some 6), (some (5, false)), (.q (.mov (.t 0))), []⟩ :: ⟨4, (some 7), (some (5, false)), (.q (.bin .eql (.t 6) (.k (.int .i64 1)))), []⟩ :: ⟨5, (some 8), none, (.q (.pick (.t 5) (.k (.bool true)) (.t 7))), []⟩ :: hid l_side_4
@[simp] def b_side_5 (_ : Unit) : EB := reg0 (hid l_side_3) 7
@[simp] def b_side_6 (_ : Unit) : EB := .seq (hid b_side_5) .ret
@[simp] def b_side_7 (_ : Unit) : EB := .seq (hid b_side_2) (hid b_side_6)
def c_side : EB × List QOp × Nat := ((hid b_side_7), [(.mov (.t 2))], 9)
theorem k_side : cfun Tryz.prog 57 = some c_side := by kernel_rfl

@[simp] def l_amount_1 (_ : Unit) : List EOp := [⟨0, (some 4), none, (.q (.mov (.k (.bool false)))), []⟩]
@[simp] def b_amount_2 (_ : Unit) : EB := reg0 (hid l_amount_1) 1
@[simp] def l_amount_4 (_ : Unit) : List EOp := [⟨6, (some 11), none, (.q (.pick (.t 8) (.t 10) (.k (.bool false)))), []⟩, ⟨7, (some 4), none, (.q (.mov (.t 11))), []⟩]
@[simp] def l_amount_3 (_ : Unit) : List EOp := ⟨0, (some 5), none, (.q (.mov (.t 0))), []⟩ :: ⟨1, (some 6), none, (.q (.mov (.t 1))), []⟩ :: ⟨2, (some 7), none, (.q (.bin .geq (.t 5) (.t 6))), []⟩ :: ⟨3, (some 8), none, (.q (.mov (.t 7))), []⟩ :: ⟨4, (some 9), (some (8, true)), (.q (.mov (.t 0))), []⟩ :: ⟨5, (some 10), (some (8, true)), (.q (.bin .leq (.t 9) (.k (.int .i64 1125899906842624)))), []⟩ :: hid l_amount_4
@[simp] def b_amount_5 (_ : Unit) : EB := reg0 (hid l_amount_3) 8
@[simp] def b_amount_6 (_ : Unit) : EB := .seq (hid b_amount_5) .ret
@[simp] def b_amount_7 (_ : Unit) : EB := .seq (hid b_amount_2) (hid b_amount_6)
def c_amount : EB × List QOp × Nat := ((hid b_amount_7), [(.mov (.t 4))], 12)
theorem k_amount : cfun Tryz.prog 92 = some c_amount := by kernel_rfl

@[simp] def l_Pmay_1 (_ : Unit) : List EOp := [⟨0, (some 1), none, (.q (.box 45 (.t 0))), []⟩, ⟨1, (some 2), none, (.q (.mov (.k (.bool false)))), []⟩]
@[simp] def b_Pmay_2 (_ : Unit) : EB := reg0 (hid l_Pmay_1) 2
@[simp] def l_Pmay_8 (_ : Unit) : List EOp := [⟨30, (some 33), (some (31, true)), (.q (.lda 32 (.t 32))), []⟩, ⟨31, (some 34), (some (31, true)), (.q (.build zU8 [])), []⟩, ⟨32, (some 35), (some (31, true)), (.q (.eqa true 32 .u8 (.t 33) (.t 34))), []⟩, ⟨33, (some 36), none, (.q (.pick (.t 31) (.t 35) (.k (.bool false)))), []⟩, ⟨34, (some 2), none, (.q (.mov (.t 36))), []⟩]
@[simp] def l_Pmay_7 (_ : Unit) : List EOp := ⟨24, (some 27), (some (26, true)), (.q (.fad 3 (.t 1))), []⟩ :: ⟨25, (some 28), (some (26, true)), (.q (.ldc (.t 27))), []⟩ :: ⟨26, (some 29), (some (26, true)), (.q (.bin .leq (.t 28) (.k (.int .i64 1099511627776)))), []⟩ :: ⟨27, (some 30), none, (.q (.pick (.t 26) (.t 29) (.k (.bool false)))), []⟩ :: ⟨28, (some 31), none, (.q (.mov (.t 30))), []⟩ :: ⟨29, (some 32), (some (31, true)), (.q (.fad 4 (.t 1))), []⟩ :: hid l_Pmay_8
@[simp] def l_Pmay_6 (_ : Unit) : List EOp := ⟨18, (some 21), none, (.q (.mov (.t 20))), []⟩ :: ⟨19, (some 22), (some (21, true)), (.q (.fad 3 (.t 1))), []⟩ :: ⟨20, (some 23), (some (21, true)), (.q (.ldc (.t 22))), []⟩ :: ⟨21, (some 24), (some (21, true)), (.q (.bin .geq (.t 23) (.k (.int .i64 0)))), []⟩ :: ⟨22, (some 25), none, (.q (.pick (.t 21) (.t 24) (.k (.bool false)))), []⟩ :: ⟨23, (some 26), none, (.q (.mov (.t 25))), []⟩ :: hid l_Pmay_7
@[simp] def l_Pmay_5 (_ : Unit) : List EOp := ⟨12, (some 15), none, (.q (.pick (.t 11) (.t 14) (.k (.bool false)))), []⟩ :: ⟨13, (some 16), none, (.q (.mov (.t 15))), []⟩ :: ⟨14, (some 17), (some (16, true)), (.q (.fad 2 (.t 1))), []⟩ :: ⟨15, (some 18), (some (16, true)), (.q (.ldc (.t 17))), []⟩ :: ⟨16, (some 19), (some (16, true)), (.call 92 [(.t 18), (.k (.int .i64 10))]), []⟩ :: ⟨17, (some 20), none, (.q (.pick (.t 16) (.t 19) (.k (.bool false)))), []⟩ :: hid l_Pmay_6
@[simp] def l_Pmay_4 (_ : Unit) : List EOp := ⟨6, (some 9), (some (6, true)), (.q (.bin .leq (.t 8) (.k (.int .i64 4294967296)))), []⟩ :: ⟨7, (some 10), none, (.q (.pick (.t 6) (.t 9) (.k (.bool false)))), []⟩ :: ⟨8, (some 11), none, (.q (.mov (.t 10))), []⟩ :: ⟨9, (some 12), (some (11, true)), (.q (.fad 1 (.t 1))), []⟩ :: ⟨10, (some 13), (some (11, true)), (.q (.ldc (.t 12))), []⟩ :: ⟨11, (some 14), (some (11, true)), (.call 57 [(.t 13)]), []⟩ :: hid l_Pmay_5
@[simp] def l_Pmay_3 (_ : Unit) : List EOp := ⟨0, (some 3), none, (.q (.fad 0 (.t 1))), []⟩ :: ⟨1, (some 4), none, (.q (.ldc (.t 3))), []⟩ :: ⟨2, (some 5), none, (.q (.bin .geq (.t 4) (.k (.int .i64 0)))), []⟩ :: ⟨3, (some 6), none, (.q (.mov (.t 5))), []⟩ :: ⟨4, (some 7), (some (6, true)), (.q (.fad 0 (.t 1))), []⟩ :: ⟨5, (some 8), (some (6, true)), (.q (.ldc (.t 7))), []⟩ :: hid l_Pmay_4
@[simp] def b_Pmay_9 (_ : Unit) : EB := reg0 (hid l_Pmay_3) 35
@[simp] def b_Pmay_10 (_ : Unit) : EB := .seq (hid b_Pmay_9) .ret
@[simp] def b_Pmay_11 (_ : Unit) : EB := .seq (hid b_Pmay_2) (hid b_Pmay_10)
def c_Pmay : EB × List QOp × Nat := ((hid b_Pmay_11), [(.mov (.t 2))], 37)
theorem k_Pmay : cfun Tryz.prog 60 = some c_Pmay := by kernel_rfl

@[simp] def l_Hmay_1 (_ : Unit) : List EOp := [⟨0, (some 1), none, (.q (.box 83 (.t 0))), []⟩, ⟨1, (some 2), none, (.q (.mov (.k (.bool false)))), []⟩]
@[simp] def b_Hmay_2 (_ : Unit) : EB := reg0 (hid l_Hmay_1) 2
@[simp] def l_Hmay_3 (_ : Unit) : List EOp := [⟨0, (some 3), none, (.q (.mov (.k (.int .i64 (-1))))), []⟩]
@[simp] def b_Hmay_4 (_ : Unit) : EB := reg0 (hid l_Hmay_3) 1
@[simp] def l_Hmay_5 (_ : Unit) : List EOp := [⟨0, (some 6), none, (.q (.fad 2 (.t 1))), []⟩, ⟨1, (some 7), none, (.q (.ldc (.t 6))), []⟩, ⟨2, (some 8), none, (.q (.len (.t 7))), []⟩, ⟨3, (some 9), none, (.q (.mov (.k (.int .i64 0)))), []⟩]
@[simp] def b_Hmay_6 (_ : Unit) : EB := reg0 (hid l_Hmay_5) 4
@[simp] def l_Hmay_7 (_ : Unit) : List EOp := [⟨0, (some 10), none, (.q (.bin .lss (.t 9) (.t 8))), []⟩]
@[simp] def b_Hmay_8 (_ : Unit) : EB := reg0 (hid l_Hmay_7) 1
@[simp] def b_Hmay_9 (_ : Unit) : EB := .cond (.t 10) .skip (.exit 0)
@[simp] def l_Hmay_10 (_ : Unit) : List EOp := [⟨0, (some 11), none, (.q (.isl 1 (.t 7) (.t 9))), []⟩, ⟨1, (some 12), none, (.q (.ldc (.t 11))), []⟩, ⟨2, (some 5), none, (.q (.mov (.t 12))), []⟩]
@[simp] def b_Hmay_11 (_ : Unit) : EB := reg0 (hid l_Hmay_10) 3
@[simp] def l_Hmay_13 (_ : Unit) : List EOp := [⟨6, (some 19), none, (.q (.pick (.t 16) (.k (.bool true)) (.t 18))), []⟩]
@[simp] def l_Hmay_12 (_ : Unit) : List EOp := ⟨0, (some 13), none, (.q (.mov (.t 5))), []⟩ :: ⟨1, (some 14), none, (.q (.mov (.t 3))), []⟩ :: ⟨2, (some 15), none, (.q (.bin .leq (.t 13) (.t 14))), []⟩ :: ⟨3, (some 16), none, (.q (.mov (.t 15))), []⟩ :: ⟨4, (some 17), (some (16, false)), (.q (.mov (.t 5))), []⟩ :: ⟨5, (some 18), (some (16, false)), (.q (.bin .geq (.t 17) (.k (.int .i64 16)))), []⟩ :: hid l_Hmay_13
@[simp] def b_Hmay_14 (_ : Unit) : EB := reg0 (hid l_Hmay_12) 7
@[simp] def l_Hmay_15 (_ : Unit) : List EOp := [⟨0, (some 2), none, (.q (.mov (.k (.bool false)))), []⟩]
@[simp] def b_Hmay_16 (_ : Unit) : EB := reg0 (hid l_Hmay_15) 1
@[simp] def b_Hmay_17 (_ : Unit) : EB := .seq (hid b_Hmay_16) .ret
@[simp] def b_Hmay_18 (_ : Unit) : EB := .cond (.t 19) (hid b_Hmay_17) .skip
@[simp] def b_Hmay_19 (_ : Unit) : EB := .seq (hid b_Hmay_14) (hid b_Hmay_18)
@[simp] def l_Hmay_20 (_ : Unit) : List EOp := [⟨0, (some 20), none, (.q (.mov (.t 5))), []⟩, ⟨1, (some 3), none, (.q (.mov (.t 20))), []⟩]
@[simp] def b_Hmay_21 (_ : Unit) : EB := reg0 (hid l_Hmay_20) 2
@[simp] def b_Hmay_22 (_ : Unit) : EB := .seq (hid b_Hmay_19) (hid b_Hmay_21)
@[simp] def b_Hmay_23 (_ : Unit) : EB := .seq (hid b_Hmay_11) (hid b_Hmay_22)
@[simp] def b_Hmay_24 (_ : Unit) : EB := .block 1 (hid b_Hmay_23)
@[simp] def l_Hmay_25 (_ : Unit) : List EOp := [⟨0, (some 21), none, (.q (.bin .add (.t 9) (.k (.int .i64 1)))), []⟩, ⟨1, (some 9), none, (.q (.mov (.t 21))), []⟩]
@[simp] def b_Hmay_26 (_ : Unit) : EB := reg0 (hid l_Hmay_25) 2
@[simp] def b_Hmay_27 (_ : Unit) : EB := .seq (hid b_Hmay_24) (hid b_Hmay_26)
@[simp] def b_Hmay_28 (_ : Unit) : EB := .seq (hid b_Hmay_9) (hid b_Hmay_27)
@[simp] def b_Hmay_29 (_ : Unit) : EB := .seq (hid b_Hmay_8) (hid b_Hmay_28)
@[simp] def b_Hmay_30 (_ : Unit) : EB := .loop (hid b_Hmay_29)
@[simp] def b_Hmay_31 (_ : Unit) : EB := .block 0 (hid b_Hmay_30)
@[simp] def b_Hmay_32 (_ : Unit) : EB := .seq (hid b_Hmay_6) (hid b_Hmay_31)
@[simp] def l_Hmay_36 (_ : Unit) : List EOp := [⟨18, (some 40), none, (.q (.pick (.t 35) (.t 39) (.k (.bool false)))), []⟩, ⟨19, (some 2), none, (.q (.mov (.t 40))), []⟩]
@[simp] def l_Hmay_35 (_ : Unit) : List EOp := ⟨12, (some 34), none, (.q (.pick (.t 30) (.t 33) (.k (.bool false)))), []⟩ :: ⟨13, (some 35), none, (.q (.mov (.t 34))), []⟩ :: ⟨14, (some 36), (some (35, true)), (.q (.fad 2 (.t 1))), []⟩ :: ⟨15, (some 37), (some (35, true)), (.q (.ldc (.t 36))), []⟩ :: ⟨16, (some 38), (some (35, true)), (.q (.len (.t 37))), []⟩ :: ⟨17, (some 39), (some (35, true)), (.q (.bin .geq (.t 38) (.k (.int .i64 1)))), []⟩ :: hid l_Hmay_36
@[simp] def l_Hmay_34 (_ : Unit) : List EOp := ⟨6, (some 28), (some (25, true)), (.q (.bin .leq (.t 27) (.k (.int .i64 4294967296)))), []⟩ :: ⟨7, (some 29), none, (.q (.pick (.t 25) (.t 28) (.k (.bool false)))), []⟩ :: ⟨8, (some 30), none, (.q (.mov (.t 29))), []⟩ :: ⟨9, (some 31), (some (30, true)), (.q (.fad 1 (.t 1))), []⟩ :: ⟨10, (some 32), (some (30, true)), (.q (.ldc (.t 31))), []⟩ :: ⟨11, (some 33), (some (30, true)), (.call 92 [(.t 32), (.k (.int .i64 10))]), []⟩ :: hid l_Hmay_35
@[simp] def l_Hmay_33 (_ : Unit) : List EOp := ⟨0, (some 22), none, (.q (.fad 0 (.t 1))), []⟩ :: ⟨1, (some 23), none, (.q (.ldc (.t 22))), []⟩ :: ⟨2, (some 24), none, (.q (.bin .geq (.t 23) (.k (.int .i64 0)))), []⟩ :: ⟨3, (some 25), none, (.q (.mov (.t 24))), []⟩ :: ⟨4, (some 26), (some (25, true)), (.q (.fad 0 (.t 1))), []⟩ :: ⟨5, (some 27), (some (25, true)), (.q (.ldc (.t 26))), []⟩ :: hid l_Hmay_34
@[simp] def b_Hmay_37 (_ : Unit) : EB := reg0 (hid l_Hmay_33) 20
@[simp] def b_Hmay_38 (_ : Unit) : EB := .seq (hid b_Hmay_37) .ret
@[simp] def b_Hmay_39 (_ : Unit) : EB := .seq (hid b_Hmay_32) (hid b_Hmay_38)
@[simp] def b_Hmay_40 (_ : Unit) : EB := .seq (hid b_Hmay_4) (hid b_Hmay_39)
@[simp] def b_Hmay_41 (_ : Unit) : EB := .seq (hid b_Hmay_2) (hid b_Hmay_40)
def c_Hmay : EB × List QOp × Nat := ((hid b_Hmay_41), [(.mov (.t 2))], 41)
theorem k_Hmay : cfun Tryz.prog 93 = some c_Hmay := by kernel_rfl


/-! ### payments, holds, states: plain -/
structure Pay where
  id : Int
  fr : Int
  am : Int
  af : Int
  lock : List UInt8
structure Hol where
  id : Int
  am : Int
  keys : List Int
structure Sta where
  num : Int
  h0 : Int
  h1 : Int
  pays : List Pay
  holds : List Hol
def i64 (n : Int) : Prop := -9223372036854775808 ≤ n ∧ n ≤ 9223372036854775807
def Pay.ok (p : Pay) : Prop := i64 p.id ∧ i64 p.fr ∧ i64 p.am ∧ i64 p.af ∧ p.lock.length = 32
def Hol.ok (h : Hol) : Prop := i64 h.id ∧ i64 h.am ∧ (∀ k ∈ h.keys, i64 k) ∧ h.keys.length ≤ 100000000
def Sta.ok (s : Sta) : Prop := i64 s.num ∧ i64 s.h0 ∧ i64 s.h1 ∧ (∀ p ∈ s.pays, p.ok) ∧ (∀ h ∈ s.holds, h.ok) ∧ s.pays.length ≤ 100000000 ∧ s.holds.length ≤ 100000000
def payF (p : Pay) : List FV := .lit (.int .i64 p.id) :: .lit (.int .i64 p.fr) :: .lit (.int .i64 p.am) :: .lit (.int .i64 p.af) :: hf p.lock
def intv (l : List Int) : List (List FV) := l.map fun k => [.lit (.int .i64 k)]
def holF (h : Hol) : List FV := [.lit (.int .i64 h.id), .lit (.int .i64 h.am), .sl 1 (intv h.keys)]
def payv (l : List Pay) : List (List FV) := l.map payF
def holv (l : List Hol) : List (List FV) := l.map holF
@[simp] theorem payv_len (l : List Pay) : (payv l).length = l.length := by simp [payv]
@[simp] theorem holv_len (l : List Hol) : (holv l).length = l.length := by simp [holv]
theorem payv_get {l : List Pay} {i : Nat} {p : Pay} (h : l[i]? = some p) : (payv l)[i]? = some (payF p) := by simp [payv, h]
theorem holv_get {l : List Hol} {i : Nat} {p : Hol} (h : l[i]? = some p) : (holv l)[i]? = some (holF p) := by simp [holv, h]
def payC (p : Pay) : List EC := .fz (.lit (.int .i64 p.id)) :: .fz (.lit (.int .i64 p.fr)) :: .fz (.lit (.int .i64 p.am)) :: .fz (.lit (.int .i64 p.af)) :: hc p.lock
def holC (h : Hol) : List EC := [.fz (.lit (.int .i64 h.id)), .fz (.lit (.int .i64 h.am)), .fz (.sl 1 (intv h.keys))]
def staC (s : Sta) : List EC := [.fz (.lit (.int .i64 s.num)), .fz (.lit (.int .i64 s.h0)), .fz (.lit (.int .i64 s.h1)), .fz (.sl 36 (payv s.pays)), .fz (.sl 3 (holv s.holds))]
def SV (s : Sta) : EV := .v (.agg (staC s))
theorem payF_len {p : Pay} (h : p.lock.length = 32) : (payF p).length = 36 := by simp [payF, h]
theorem payF_fz (p : Pay) : (payF p).map EC.fz = payC p := by simp [payF, payC]
theorem payC_len {p : Pay} (h : p.lock.length = 32) : (payC p).length = 36 := by simp [payC, h]
theorem payC_take {p : Pay} (h : p.lock.length = 32) : (payC p).take 36 = payC p := List.take_of_length_le (by rw [payC_len h]; omega)
theorem hc_t32 {l : List UInt8} (h : l.length = 32) : (hc l).take 32 = hc l := List.take_of_length_le (by rw [hc_len, h]; omega)
@[simp] theorem intv_len (l : List Int) : (intv l).length = l.length := by simp [intv]

/-! ### what may be -/
def mayP (p : Pay) : Bool := decide (0 ≤ p.id ∧ p.id ≤ 4294967296 ∧ (p.fr = 0 ∨ p.fr = 1) ∧ 10 ≤ p.am ∧ p.am ≤ 1125899906842624 ∧ 0 ≤ p.af ∧ p.af ≤ 1099511627776 ∧ p.lock ≠ hz)
def keysS : Int → List Int → Bool
  | _, [] => true
  | last, k :: r => decide (last < k ∧ k < 16) && keysS k r
def mayH (h : Hol) : Bool := keysS (-1) h.keys && decide (0 ≤ h.id ∧ h.id ≤ 4294967296 ∧ 10 ≤ h.am ∧ h.am ≤ 1125899906842624 ∧ 1 ≤ h.keys.length)
def aft (o : Option Int) (n : Int) : Bool := match o with
  | none => true
  | some q => decide (q < n)
def payL : Option Int → List Pay → Bool
  | _, [] => true
  | o, p :: r => mayP p && aft o p.id && payL (some p.id) r
def holL : Option Int → List Hol → Bool
  | _, [] => true
  | o, h :: r => mayH h && aft o h.id && holL (some h.id) r
def sumP (l : List Pay) : Int := (l.map (·.am)).sum
def sumH (l : List Hol) : Int := (l.map (·.am)).sum
def total (s : Sta) : Int := s.h0 + s.h1 + sumP s.pays + sumH s.holds
def mayS (s : Sta) : Bool := decide (0 ≤ s.num ∧ s.num ≤ 1099511627776 ∧ 0 ≤ s.h0 ∧ s.h0 ≤ 1125899906842624 ∧ 0 ≤ s.h1 ∧ s.h1 ≤ 1125899906842624 ∧ s.pays.length ≤ 8 ∧ s.holds.length + s.pays.length ≤ 8) && payL none s.pays && holL none s.holds && decide (total s ≤ 1125899906842624)

theorem side_ok (n : Int) : ECalls Tryz.prog 57 [I .i64 n] [] fun y H' => H' = [] ∧ y = .lit (.bool (decide (n = 0 ∨ n = 1))) := by
  refine ecalls k_side ?_
  simp [c_side, I]
  by_cases h : n = 0
  · simp [h]
    exact fin [] (by decide) rfl rfl rfl ⟨rfl, rfl⟩
  · simp [h]
    exact fin [] (by decide) rfl rfl rfl ⟨rfl, rfl⟩

theorem amount_ok (n least : Int) : ECalls Tryz.prog 92 [I .i64 n, I .i64 least] [] fun y H' => H' = [] ∧ y = .lit (.bool (decide (least ≤ n ∧ n ≤ 1125899906842624))) := by
  refine ecalls k_amount ?_
  simp [c_amount, I]
  by_cases h : least ≤ n
  · simp [h]
    exact fin [] (by decide) rfl rfl rfl ⟨rfl, rfl⟩
  · simp [h]
    exact fin [] (by decide) rfl rfl rfl ⟨rfl, rfl⟩

set_option maxHeartbeats 1000000 in
theorem Pmay_ok (p : Pay) (hp : p.lock.length = 32) : ECalls Tryz.prog 60 [.v (.agg (payC p))] [] fun y H' => H' = [] ∧ y = .lit (.bool (mayP p)) := by
  have ht : p.lock.take 32 = p.lock := List.take_of_length_le (by omega)
  refine ecalls k_Pmay ?_
  simp [c_Pmay, payC, I, ht]
  refine alt (fun h1 => ?_) (fun h1 => ?_)
  rotate_left
  · (first | simp [I, EV.lit, h1, Int.not_le.2 h1] | simp [I, EV.lit, h1, Int.not_lt.2 h1] | simp [I, EV.lit, h1, Int.not_lt.1 h1] | simp [I, EV.lit, h1, Int.not_le.1 h1] | simp [I, EV.lit, h1])
    exact fin [] (by decide) rfl rfl rfl ⟨rfl, by rw [show mayP p = false from decide_eq_false (by omega)]⟩
  (first | simp [I, EV.lit, h1, Int.not_le.2 h1] | simp [I, EV.lit, h1, Int.not_lt.2 h1] | simp [I, EV.lit, h1, Int.not_lt.1 h1] | simp [I, EV.lit, h1, Int.not_le.1 h1] | simp [I, EV.lit, h1])
  refine alt (fun h2 => ?_) (fun h2 => ?_)
  rotate_left
  · (first | simp [I, EV.lit, h2, Int.not_le.2 h2] | simp [I, EV.lit, h2, Int.not_lt.2 h2] | simp [I, EV.lit, h2, Int.not_lt.1 h2] | simp [I, EV.lit, h2, Int.not_le.1 h2] | simp [I, EV.lit, h2])
    exact fin [] (by decide) rfl rfl rfl ⟨rfl, by rw [show mayP p = false from decide_eq_false (by omega)]⟩
  (first | simp [I, EV.lit, h2, Int.not_le.2 h2] | simp [I, EV.lit, h2, Int.not_lt.2 h2] | simp [I, EV.lit, h2, Int.not_lt.1 h2] | simp [I, EV.lit, h2, Int.not_le.1 h2] | simp [I, EV.lit, h2])
  refine call0 (side_ok p.fr) (by simp [I, EV.lit]) ?_
  rintro y H' ⟨rfl, rfl⟩
  refine ⟨.inl (by simp [I, EV.lit]), le_ok rfl, ?_⟩
  simp [EV.lit]
  refine alt (fun h3 => ?_) (fun h3 => ?_)
  rotate_left
  · (first | simp [I, EV.lit, h3, Int.not_le.2 h3] | simp [I, EV.lit, h3, Int.not_lt.2 h3] | simp [I, EV.lit, h3, Int.not_lt.1 h3] | simp [I, EV.lit, h3, Int.not_le.1 h3] | simp [I, EV.lit, h3])
    exact fin [] (by decide) rfl rfl rfl ⟨rfl, by rw [show mayP p = false from decide_eq_false (by omega)]⟩
  (first | simp [I, EV.lit, h3, Int.not_le.2 h3] | simp [I, EV.lit, h3, Int.not_lt.2 h3] | simp [I, EV.lit, h3, Int.not_lt.1 h3] | simp [I, EV.lit, h3, Int.not_le.1 h3] | simp [I, EV.lit, h3])
  refine call0 (amount_ok p.am 10) (by simp [I, EV.lit]) ?_
  rintro y H' ⟨rfl, rfl⟩
  refine ⟨.inl (by simp [I, EV.lit]), le_ok rfl, ?_⟩
  simp [EV.lit]
  refine alt (fun h4 => ?_) (fun h4 => ?_)
  rotate_left
  · (first | simp [I, EV.lit, h4, Int.not_le.2 h4] | simp [I, EV.lit, h4, Int.not_lt.2 h4] | simp [I, EV.lit, h4, Int.not_lt.1 h4] | simp [I, EV.lit, h4, Int.not_le.1 h4] | simp [I, EV.lit, h4])
    exact fin [] (by decide) rfl rfl rfl ⟨rfl, by rw [show mayP p = false from decide_eq_false (by omega)]⟩
  (first | simp [I, EV.lit, h4, Int.not_le.2 h4] | simp [I, EV.lit, h4, Int.not_lt.2 h4] | simp [I, EV.lit, h4, Int.not_lt.1 h4] | simp [I, EV.lit, h4, Int.not_le.1 h4] | simp [I, EV.lit, h4])
  refine alt (fun h5 => ?_) (fun h5 => ?_)
  rotate_left
  · (first | simp [I, EV.lit, h5, Int.not_le.2 h5] | simp [I, EV.lit, h5, Int.not_lt.2 h5] | simp [I, EV.lit, h5, Int.not_lt.1 h5] | simp [I, EV.lit, h5, Int.not_le.1 h5] | simp [I, EV.lit, h5])
    exact fin [] (by decide) rfl rfl rfl ⟨rfl, by rw [show mayP p = false from decide_eq_false (by omega)]⟩
  (first | simp [I, EV.lit, h5, Int.not_le.2 h5] | simp [I, EV.lit, h5, Int.not_lt.2 h5] | simp [I, EV.lit, h5, Int.not_lt.1 h5] | simp [I, EV.lit, h5, Int.not_le.1 h5] | simp [I, EV.lit, h5])
  refine alt (fun h6 => ?_) (fun h6 => ?_)
  rotate_left
  · (first | simp [I, EV.lit, h6, Int.not_le.2 h6] | simp [I, EV.lit, h6, Int.not_lt.2 h6] | simp [I, EV.lit, h6, Int.not_lt.1 h6] | simp [I, EV.lit, h6, Int.not_le.1 h6] | simp [I, EV.lit, h6])
    exact fin [] (by decide) rfl rfl rfl ⟨rfl, by rw [show mayP p = false from decide_eq_false (by omega)]⟩
  (first | simp [I, EV.lit, h6, Int.not_le.2 h6] | simp [I, EV.lit, h6, Int.not_lt.2 h6] | simp [I, EV.lit, h6, Int.not_lt.1 h6] | simp [I, EV.lit, h6, Int.not_le.1 h6] | simp [I, EV.lit, h6])
  refine alt (fun h7 => ?_) (fun h7 => ?_)
  rotate_left
  · simp [h7]
    exact fin [] (by decide) rfl rfl rfl ⟨rfl, by rw [show mayP p = false from decide_eq_false (by omega)]⟩
  simp [h7, hp, ht]
  have hm : mayP p = !decide (p.lock = hz) := by
    by_cases e : p.lock = hz
    · rw [show mayP p = false from decide_eq_false (fun h => h.2.2.2.2.2.2.2 e)]; simp [e]
    · rw [show mayP p = true from decide_eq_true ⟨by omega, by omega, by omega, by omega, by omega, by omega, by omega, e⟩]; simp [e]
  exact fin [] (by decide) rfl rfl rfl ⟨rfl, by rw [hm]⟩

theorem mayH_f {h : Hol} (q : ¬ (0 ≤ h.id ∧ h.id ≤ 4294967296 ∧ 10 ≤ h.am ∧ h.am ≤ 1125899906842624 ∧ 1 ≤ h.keys.length)) : mayH h = false := by simp only [mayH, decide_eq_false q, Bool.and_false]
theorem intv_get {l : List Int} {i : Nat} {k : Int} (h : l[i]? = some k) : (intv l)[i]? = some [.lit (.int .i64 k)] := by simp [intv, h]
def IL (l : List Int) : EV := .v (.c (.fz (.sl 1 (intv l))))

set_option maxHeartbeats 1000000 in
theorem Hmay_ok (h : Hol) (hk : h.keys.length ≤ 100000000) : ECalls Tryz.prog 93 [.v (.agg (holC h))] [] fun y H' => H' = [] ∧ y = .lit (.bool (mayH h)) := by
  refine ecalls k_Hmay ?_
  simp [c_Hmay, holC]
  refine eloop (α := Nat × Int) (fun a => a.1 ≤ h.keys.length ∧ keysS (-1) h.keys = keysS a.2 (h.keys.drop a.1)) (fun a => h.keys.length - a.1)
    (fun a => [.any, Ptr 0, .any, I .i64 a.2, .any, .any, .any, IL h.keys, I .i64 h.keys.length, I .i64 a.1, .any, .any, .any, .any, .any, .any, .any, .any, .any, .any, .any, .any, .any, .any, .any, .any, .any, .any, .any, .any, .any, .any, .any, .any, .any, .any, .any, .any, .any, .any, .any]) (fun a => [some (.box 83 (holC h))]) (0, -1) [0]
    ⟨by simp, by simp⟩ (by simp [Ptr, I, IL]) (by simp [holC]) (by simp) (by simp) (by simp) ?_
  rintro ⟨i, last⟩ ⟨hi1, hi2⟩
  simp [Ptr, I, IL, holC] at hi1 hi2 ⊢
  refine alt (fun hlt => ?_) (fun hlt => ?_)
  · obtain ⟨k, hc⟩ : ∃ k, h.keys[i]? = some k := ⟨h.keys[i], by simp [hlt]⟩
    have hcb := intv_get hc
    rw [drop_cons hc] at hi2
    have w1 : IntKind.i64.wrap ((i : Int) + 1) = ((i + 1 : Nat) : Int) := wrap_i64 (by omega) (by omega)
    have hbad : ¬ (last < k ∧ k < 16) → mayH h = false := fun q => by simp only [mayH, hi2, keysS, decide_eq_false q, Bool.false_and]
    have hgood : last < k → k < 16 → keysS (-1) h.keys = keysS k (h.keys.drop (i + 1)) := fun q1 q2 => by rw [hi2, keysS, decide_eq_true ⟨q1, q2⟩, Bool.true_and]
    simp [hcb]
    refine alt (fun c1 => ?_) (fun c1 => ?_)
    rotate_left
    · (first | simp [I, EV.lit, c1, Int.not_le.2 c1] | simp [I, EV.lit, c1, Int.not_lt.2 c1] | simp [I, EV.lit, c1, Int.not_lt.1 c1] | simp [I, EV.lit, c1, Int.not_le.1 c1] | simp [I, EV.lit, c1])
      exact fin [] (by decide) rfl rfl rfl ⟨rfl, by rw [hbad (by omega)]⟩
    (first | simp [I, EV.lit, c1, Int.not_le.2 c1] | simp [I, EV.lit, c1, Int.not_lt.2 c1] | simp [I, EV.lit, c1, Int.not_lt.1 c1] | simp [I, EV.lit, c1, Int.not_le.1 c1] | simp [I, EV.lit, c1])
    refine alt (fun c2 => ?_) (fun c2 => ?_)
    · (first | simp [I, EV.lit, c2, Int.not_le.2 c2] | simp [I, EV.lit, c2, Int.not_lt.2 c2] | simp [I, EV.lit, c2, Int.not_lt.1 c2] | simp [I, EV.lit, c2, Int.not_le.1 c2] | simp [I, EV.lit, c2])
      exact fin [] (by decide) rfl rfl rfl ⟨rfl, by rw [hbad (by omega)]⟩
    (first | simp [I, EV.lit, c2, Int.not_le.2 c2, w1, -Int.natCast_add] | simp [I, EV.lit, c2, Int.not_lt.2 c2, w1, -Int.natCast_add] | simp [I, EV.lit, c2, Int.not_lt.1 c2, w1, -Int.natCast_add] | simp [I, EV.lit, c2, Int.not_le.1 c2, w1, -Int.natCast_add] | simp [I, EV.lit, c2, w1, -Int.natCast_add])
    exact round (i + 1, k) [0] ⟨by omega, hgood (by omega) (by omega)⟩ (by simp; omega) (by simp) (by simp) (by simp) (by simp) (by simp)
  · have hd : h.keys.drop i = [] := by rw [List.drop_eq_nil_iff]; omega
    have hks : keysS (-1) h.keys = true := by rw [hi2, hd]; rfl
    simp
    refine alt (fun c1 => ?_) (fun c1 => ?_)
    rotate_left
    · (first | simp [I, EV.lit, c1, Int.not_le.2 c1] | simp [I, EV.lit, c1, Int.not_lt.2 c1] | simp [I, EV.lit, c1, Int.not_lt.1 c1] | simp [I, EV.lit, c1, Int.not_le.1 c1] | simp [I, EV.lit, c1])
      exact fin [] (by decide) rfl rfl rfl ⟨rfl, by rw [mayH_f (by omega)]⟩
    (first | simp [I, EV.lit, c1, Int.not_le.2 c1] | simp [I, EV.lit, c1, Int.not_lt.2 c1] | simp [I, EV.lit, c1, Int.not_lt.1 c1] | simp [I, EV.lit, c1, Int.not_le.1 c1] | simp [I, EV.lit, c1])
    refine alt (fun c2 => ?_) (fun c2 => ?_)
    rotate_left
    · (first | simp [I, EV.lit, c2, Int.not_le.2 c2] | simp [I, EV.lit, c2, Int.not_lt.2 c2] | simp [I, EV.lit, c2, Int.not_lt.1 c2] | simp [I, EV.lit, c2, Int.not_le.1 c2] | simp [I, EV.lit, c2])
      exact fin [] (by decide) rfl rfl rfl ⟨rfl, by rw [mayH_f (by omega)]⟩
    (first | simp [I, EV.lit, c2, Int.not_le.2 c2] | simp [I, EV.lit, c2, Int.not_lt.2 c2] | simp [I, EV.lit, c2, Int.not_lt.1 c2] | simp [I, EV.lit, c2, Int.not_le.1 c2] | simp [I, EV.lit, c2])
    refine call0 (amount_ok h.am 10) (by simp [I, EV.lit]) ?_
    rintro y H' ⟨rfl, rfl⟩
    refine ⟨.inl (by simp [I, EV.lit]), le_ok rfl, ?_⟩
    simp [EV.lit]
    refine alt (fun c3 => ?_) (fun c3 => ?_)
    rotate_left
    · (first | simp [I, EV.lit, c3, Int.not_le.2 c3] | simp [I, EV.lit, c3, Int.not_lt.2 c3] | simp [I, EV.lit, c3, Int.not_lt.1 c3] | simp [I, EV.lit, c3, Int.not_le.1 c3] | simp [I, EV.lit, c3])
      exact fin [] (by decide) rfl rfl rfl ⟨rfl, by rw [mayH_f (by omega)]⟩
    (first | simp [I, EV.lit, c3, Int.not_le.2 c3] | simp [I, EV.lit, c3, Int.not_lt.2 c3] | simp [I, EV.lit, c3, Int.not_lt.1 c3] | simp [I, EV.lit, c3, Int.not_le.1 c3] | simp [I, EV.lit, c3])
    by_cases q : 1 ≤ h.keys.length
    · have hm : mayH h = true := by
        simp only [mayH, hks, Bool.true_and]
        exact decide_eq_true ⟨by omega, by omega, by omega, by omega, q⟩
      exact fin [] (by decide) rfl rfl rfl ⟨rfl, litB (by rw [hm]; exact decide_eq_true (by omega))⟩
    · exact fin [] (by decide) rfl rfl rfl ⟨rfl, litB (by rw [mayH_f (by omega)]; exact decide_eq_false (by omega))⟩

end Go.Proofs.YtpilpjameifcfaaGreatDoor

namespace Go.Proofs.YtpilpjameifcfaaGreatDoor
open Go Go.EW
set_option linter.unusedSimpArgs false
set_option linter.unusedVariables false

@[simp] def l_Smay_1 (_ : Unit) : List EOp := [⟨0, (some 1), none, (.q (.box 39 (.t 0))), []⟩, ⟨1, (some 2), none, (.q (.mov (.k (.bool false)))), []⟩]
@[simp] def b_Smay_2 (_ : Unit) : EB := reg0 (hid l_Smay_1) 2
@[simp] def l_Smay_9 (_ : Unit) : List EOp := [⟨36, (some 44), (some (36, false)), (.q (.bin .gtr (.t 39) (.t 43))), []⟩, ⟨37, (some 45), none, (.q (.pick (.t 36) (.k (.bool true)) (.t 44))), []⟩]
@[simp] def l_Smay_8 (_ : Unit) : List EOp := ⟨30, (some 38), (some (36, false)), (.q (.ldc (.t 37))), []⟩ :: ⟨31, (some 39), (some (36, false)), (.q (.len (.t 38))), []⟩ :: ⟨32, (some 40), (some (36, false)), (.q (.fad 3 (.t 1))), []⟩ :: ⟨33, (some 41), (some (36, false)), (.q (.ldc (.t 40))), []⟩ :: ⟨34, (some 42), (some (36, false)), (.q (.len (.t 41))), []⟩ :: ⟨35, (some 43), (some (36, false)), (.q (.bin .sub (.k (.int .i64 8)) (.t 42))), []⟩ :: hid l_Smay_9
@[simp] def l_Smay_7 (_ : Unit) : List EOp := ⟨24, (some 32), (some (30, false)), (.q (.ldc (.t 31))), []⟩ :: ⟨25, (some 33), (some (30, false)), (.q (.len (.t 32))), []⟩ :: ⟨26, (some 34), (some (30, false)), (.q (.bin .gtr (.t 33) (.k (.int .i64 8)))), []⟩ :: ⟨27, (some 35), none, (.q (.pick (.t 30) (.k (.bool true)) (.t 34))), []⟩ :: ⟨28, (some 36), none, (.q (.mov (.t 35))), []⟩ :: ⟨29, (some 37), (some (36, false)), (.q (.fad 4 (.t 1))), []⟩ :: hid l_Smay_8
@[simp] def l_Smay_6 (_ : Unit) : List EOp := ⟨18, (some 26), (some (23, false)), (.q (.ldc (.t 25))), []⟩ :: ⟨19, (some 27), (some (23, false)), (.call 92 [(.t 26), (.k (.int .i64 0))]), []⟩ :: ⟨20, (some 28), (some (23, false)), (.q (.un .not (.t 27))), []⟩ :: ⟨21, (some 29), none, (.q (.pick (.t 23) (.k (.bool true)) (.t 28))), []⟩ :: ⟨22, (some 30), none, (.q (.mov (.t 29))), []⟩ :: ⟨23, (some 31), (some (30, false)), (.q (.fad 3 (.t 1))), []⟩ :: hid l_Smay_7
@[simp] def l_Smay_5 (_ : Unit) : List EOp := ⟨12, (some 20), (some (16, false)), (.call 92 [(.t 19), (.k (.int .i64 0))]), []⟩ :: ⟨13, (some 21), (some (16, false)), (.q (.un .not (.t 20))), []⟩ :: ⟨14, (some 22), none, (.q (.pick (.t 16) (.k (.bool true)) (.t 21))), []⟩ :: ⟨15, (some 23), none, (.q (.mov (.t 22))), []⟩ :: ⟨16, (some 24), (some (23, false)), (.q (.fad 1 (.t 1))), []⟩ :: ⟨17, (some 25), (some (23, false)), (.q (.iad 2 1 (.t 24) (.k (.int .i64 1)))), []⟩ :: hid l_Smay_6
@[simp] def l_Smay_4 (_ : Unit) : List EOp := ⟨6, (some 14), (some (11, false)), (.q (.bin .gtr (.t 13) (.k (.int .i64 1099511627776)))), []⟩ :: ⟨7, (some 15), none, (.q (.pick (.t 11) (.k (.bool true)) (.t 14))), []⟩ :: ⟨8, (some 16), none, (.q (.mov (.t 15))), []⟩ :: ⟨9, (some 17), (some (16, false)), (.q (.fad 1 (.t 1))), []⟩ :: ⟨10, (some 18), (some (16, false)), (.q (.iad 2 1 (.t 17) (.k (.int .i64 0)))), []⟩ :: ⟨11, (some 19), (some (16, false)), (.q (.ldc (.t 18))), []⟩ :: hid l_Smay_5
@[simp] def l_Smay_3 (_ : Unit) : List EOp := ⟨0, (some 8), none, (.q (.fad 0 (.t 1))), []⟩ :: ⟨1, (some 9), none, (.q (.ldc (.t 8))), []⟩ :: ⟨2, (some 10), none, (.q (.bin .lss (.t 9) (.k (.int .i64 0)))), []⟩ :: ⟨3, (some 11), none, (.q (.mov (.t 10))), []⟩ :: ⟨4, (some 12), (some (11, false)), (.q (.fad 0 (.t 1))), []⟩ :: ⟨5, (some 13), (some (11, false)), (.q (.ldc (.t 12))), []⟩ :: hid l_Smay_4
@[simp] def b_Smay_10 (_ : Unit) : EB := reg0 (hid l_Smay_3) 38
@[simp] def l_Smay_11 (_ : Unit) : List EOp := [⟨0, (some 2), none, (.q (.mov (.k (.bool false)))), []⟩]
@[simp] def b_Smay_12 (_ : Unit) : EB := reg0 (hid l_Smay_11) 1
@[simp] def b_Smay_13 (_ : Unit) : EB := .seq (hid b_Smay_12) .ret
@[simp] def b_Smay_14 (_ : Unit) : EB := .cond (.t 45) (hid b_Smay_13) .skip
@[simp] def b_Smay_15 (_ : Unit) : EB := .seq (hid b_Smay_10) (hid b_Smay_14)
@[simp] def l_Smay_17 (_ : Unit) : List EOp := [⟨6, (some 52), none, (.q (.bin .add (.t 48) (.t 51))), []⟩, ⟨7, (some 3), none, (.q (.mov (.t 52))), []⟩]
@[simp] def l_Smay_16 (_ : Unit) : List EOp := ⟨0, (some 46), none, (.q (.fad 1 (.t 1))), []⟩ :: ⟨1, (some 47), none, (.q (.iad 2 1 (.t 46) (.k (.int .i64 0)))), []⟩ :: ⟨2, (some 48), none, (.q (.ldc (.t 47))), []⟩ :: ⟨3, (some 49), none, (.q (.fad 1 (.t 1))), []⟩ :: ⟨4, (some 50), none, (.q (.iad 2 1 (.t 49) (.k (.int .i64 1)))), []⟩ :: ⟨5, (some 51), none, (.q (.ldc (.t 50))), []⟩ :: hid l_Smay_17
@[simp] def b_Smay_18 (_ : Unit) : EB := reg0 (hid l_Smay_16) 8
@[simp] def l_Smay_19 (_ : Unit) : List EOp := [⟨0, (some 53), none, (.q (.fad 3 (.t 1))), []⟩, ⟨1, (some 54), none, (.q (.ldc (.t 53))), []⟩, ⟨2, (some 55), none, (.q (.len (.t 54))), []⟩, ⟨3, (some 56), none, (.q (.mov (.k (.int .i64 0)))), []⟩]
@[simp] def b_Smay_20 (_ : Unit) : EB := reg0 (hid l_Smay_19) 4
@[simp] def l_Smay_21 (_ : Unit) : List EOp := [⟨0, (some 57), none, (.q (.bin .lss (.t 56) (.t 55))), []⟩]
@[simp] def b_Smay_22 (_ : Unit) : EB := reg0 (hid l_Smay_21) 1
@[simp] def b_Smay_23 (_ : Unit) : EB := .cond (.t 57) .skip (.exit 0)
@[simp] def l_Smay_24 (_ : Unit) : List EOp := [⟨0, (some 58), none, (.q (.mov (.t 56))), []⟩, ⟨1, (some 59), none, (.q (.isl 36 (.t 54) (.t 56))), []⟩, ⟨2, (some 60), none, (.q (.lda 36 (.t 59))), []⟩, ⟨3, (some 5), none, (.q (.alloc 45 (([(.int .i64 0), (.int .i64 0), (.int .i64 0), (.int .i64 0)] : List Value) ++ zU8))), []⟩, ⟨4, (some 4), none, (.q (.mov (.t 58))), []⟩, ⟨5, none, none, (.sto 36 (.t 5) (.t 60)), []⟩]
@[simp] def b_Smay_25 (_ : Unit) : EB := reg0 (hid l_Smay_24) 6
@[simp] def l_Smay_29 (_ : Unit) : List EOp := [⟨18, (some 79), none, (.q (.pick (.t 64) (.k (.bool true)) (.t 78))), []⟩]
@[simp] def l_Smay_28 (_ : Unit) : List EOp := ⟨12, (some 73), (some (67, true)), (.q (.fad 0 (.t 72))), []⟩ :: ⟨13, (some 74), (some (67, true)), (.q (.ldc (.t 73))), []⟩ :: ⟨14, (some 75), (some (67, true)), (.q (.fad 0 (.t 5))), []⟩ :: ⟨15, (some 76), (some (67, true)), (.q (.ldc (.t 75))), []⟩ :: ⟨16, (some 77), (some (67, true)), (.q (.bin .geq (.t 74) (.t 76))), []⟩ :: ⟨17, (some 78), (some (64, false)), (.q (.pick (.t 67) (.t 77) (.k (.bool false)))), []⟩ :: hid l_Smay_29
@[simp] def l_Smay_27 (_ : Unit) : List EOp := ⟨6, (some 67), (some (64, false)), (.q (.mov (.t 66))), []⟩ :: ⟨7, (some 68), (some (67, true)), (.q (.fad 3 (.t 1))), []⟩ :: ⟨8, (some 69), (some (67, true)), (.q (.ldc (.t 68))), []⟩ :: ⟨9, (some 70), (some (67, true)), (.q (.mov (.t 4))), []⟩ :: ⟨10, (some 71), (some (67, true)), (.q (.bin .sub (.t 70) (.k (.int .i64 1)))), []⟩ :: ⟨11, (some 72), (some (67, true)), (.q (.isl 36 (.t 69) (.t 71))), []⟩ :: hid l_Smay_28
@[simp] def l_Smay_26 (_ : Unit) : List EOp := ⟨0, (some 61), none, (.q (.lda 36 (.t 5))), []⟩ :: ⟨1, (some 62), none, (.call 60 [(.t 61)]), []⟩ :: ⟨2, (some 63), none, (.q (.un .not (.t 62))), []⟩ :: ⟨3, (some 64), none, (.q (.mov (.t 63))), []⟩ :: ⟨4, (some 65), (some (64, false)), (.q (.mov (.t 4))), []⟩ :: ⟨5, (some 66), (some (64, false)), (.q (.bin .gtr (.t 65) (.k (.int .i64 0)))), []⟩ :: hid l_Smay_27
@[simp] def b_Smay_30 (_ : Unit) : EB := reg0 (hid l_Smay_26) 19
@[simp] def l_Smay_31 (_ : Unit) : List EOp := [⟨0, (some 2), none, (.q (.mov (.k (.bool false)))), []⟩]
@[simp] def b_Smay_32 (_ : Unit) : EB := reg0 (hid l_Smay_31) 1
@[simp] def b_Smay_33 (_ : Unit) : EB := .seq (hid b_Smay_32) .ret
@[simp] def b_Smay_34 (_ : Unit) : EB := .cond (.t 79) (hid b_Smay_33) .skip
@[simp] def b_Smay_35 (_ : Unit) : EB := .seq (hid b_Smay_30) (hid b_Smay_34)
@[simp] def l_Smay_36 (_ : Unit) : List EOp := [⟨0, (some 80), none, (.q (.mov (.t 3))), []⟩, ⟨1, (some 81), none, (.q (.fad 2 (.t 5))), []⟩, ⟨2, (some 82), none, (.q (.ldc (.t 81))), []⟩, ⟨3, (some 83), none, (.q (.bin .add (.t 80) (.t 82))), []⟩, ⟨4, (some 3), none, (.q (.mov (.t 83))), []⟩]
@[simp] def b_Smay_37 (_ : Unit) : EB := reg0 (hid l_Smay_36) 5
@[simp] def b_Smay_38 (_ : Unit) : EB := .seq (hid b_Smay_35) (hid b_Smay_37)
@[simp] def b_Smay_39 (_ : Unit) : EB := .seq (hid b_Smay_25) (hid b_Smay_38)
@[simp] def b_Smay_40 (_ : Unit) : EB := .block 1 (hid b_Smay_39)
@[simp] def l_Smay_41 (_ : Unit) : List EOp := [⟨0, (some 84), none, (.q (.bin .add (.t 56) (.k (.int .i64 1)))), []⟩, ⟨1, (some 56), none, (.q (.mov (.t 84))), []⟩]
@[simp] def b_Smay_42 (_ : Unit) : EB := reg0 (hid l_Smay_41) 2
@[simp] def b_Smay_43 (_ : Unit) : EB := .seq (hid b_Smay_40) (hid b_Smay_42)
@[simp] def b_Smay_44 (_ : Unit) : EB := .seq (hid b_Smay_23) (hid b_Smay_43)
@[simp] def b_Smay_45 (_ : Unit) : EB := .seq (hid b_Smay_22) (hid b_Smay_44)
@[simp] def b_Smay_46 (_ : Unit) : EB := .loop (hid b_Smay_45)
@[simp] def b_Smay_47 (_ : Unit) : EB := .block 0 (hid b_Smay_46)
@[simp] def b_Smay_48 (_ : Unit) : EB := .seq (hid b_Smay_20) (hid b_Smay_47)
@[simp] def l_Smay_49 (_ : Unit) : List EOp := [⟨0, (some 85), none, (.q (.fad 4 (.t 1))), []⟩, ⟨1, (some 86), none, (.q (.ldc (.t 85))), []⟩, ⟨2, (some 87), none, (.q (.len (.t 86))), []⟩, ⟨3, (some 88), none, (.q (.mov (.k (.int .i64 0)))), []⟩]
@[simp] def b_Smay_50 (_ : Unit) : EB := reg0 (hid l_Smay_49) 4
@[simp] def l_Smay_51 (_ : Unit) : List EOp := [⟨0, (some 89), none, (.q (.bin .lss (.t 88) (.t 87))), []⟩]
@[simp] def b_Smay_52 (_ : Unit) : EB := reg0 (hid l_Smay_51) 1
@[simp] def b_Smay_53 (_ : Unit) : EB := .cond (.t 89) .skip (.exit 2)
@[simp] def l_Smay_54 (_ : Unit) : List EOp := [⟨0, (some 90), none, (.q (.mov (.t 88))), []⟩, ⟨1, (some 91), none, (.q (.isl 3 (.t 86) (.t 88))), []⟩, ⟨2, (some 92), none, (.q (.lda 3 (.t 91))), []⟩, ⟨3, (some 7), none, (.q (.alloc 83 [(.int .i64 0), (.int .i64 0), (.slice none 0 0)])), []⟩, ⟨4, (some 6), none, (.q (.mov (.t 90))), []⟩, ⟨5, none, none, (.fz (.sto 3 (.t 7) (.t 92))), []⟩]
@[simp] def b_Smay_55 (_ : Unit) : EB := reg0 (hid l_Smay_54) 6
@[simp] def l_Smay_59 (_ : Unit) : List EOp := [⟨18, (some 111), none, (.q (.pick (.t 96) (.k (.bool true)) (.t 110))), []⟩]
@[simp] def l_Smay_58 (_ : Unit) : List EOp := ⟨12, (some 105), (some (99, true)), (.q (.fad 0 (.t 104))), []⟩ :: ⟨13, (some 106), (some (99, true)), (.q (.ldc (.t 105))), []⟩ :: ⟨14, (some 107), (some (99, true)), (.q (.fad 0 (.t 7))), []⟩ :: ⟨15, (some 108), (some (99, true)), (.q (.ldc (.t 107))), []⟩ :: ⟨16, (some 109), (some (99, true)), (.q (.bin .geq (.t 106) (.t 108))), []⟩ :: ⟨17, (some 110), (some (96, false)), (.q (.pick (.t 99) (.t 109) (.k (.bool false)))), []⟩ :: hid l_Smay_59
@[simp] def l_Smay_57 (_ : Unit) : List EOp := ⟨6, (some 99), (some (96, false)), (.q (.mov (.t 98))), []⟩ :: ⟨7, (some 100), (some (99, true)), (.q (.fad 4 (.t 1))), []⟩ :: ⟨8, (some 101), (some (99, true)), (.q (.ldc (.t 100))), []⟩ :: ⟨9, (some 102), (some (99, true)), (.q (.mov (.t 6))), []⟩ :: ⟨10, (some 103), (some (99, true)), (.q (.bin .sub (.t 102) (.k (.int .i64 1)))), []⟩ :: ⟨11, (some 104), (some (99, true)), (.q (.isl 3 (.t 101) (.t 103))), []⟩ :: hid l_Smay_58
@[simp] def l_Smay_56 (_ : Unit) : List EOp := ⟨0, (some 93), none, (.q (.lda 3 (.t 7))), []⟩ :: ⟨1, (some 94), none, (.call 93 [(.t 93)]), []⟩ :: ⟨2, (some 95), none, (.q (.un .not (.t 94))), []⟩ :: ⟨3, (some 96), none, (.q (.mov (.t 95))), []⟩ :: ⟨4, (some 97), (some (96, false)), (.q (.mov (.t 6))), []⟩ :: ⟨5, (some 98), (some (96, false)), (.q (.bin .gtr (.t 97) (.k (.int .i64 0)))), []⟩ :: hid l_Smay_57
@[simp] def b_Smay_60 (_ : Unit) : EB := reg0 (hid l_Smay_56) 19
@[simp] def l_Smay_61 (_ : Unit) : List EOp := [⟨0, (some 2), none, (.q (.mov (.k (.bool false)))), []⟩]
@[simp] def b_Smay_62 (_ : Unit) : EB := reg0 (hid l_Smay_61) 1
@[simp] def b_Smay_63 (_ : Unit) : EB := .seq (hid b_Smay_62) .ret
@[simp] def b_Smay_64 (_ : Unit) : EB := .cond (.t 111) (hid b_Smay_63) .skip
@[simp] def b_Smay_65 (_ : Unit) : EB := .seq (hid b_Smay_60) (hid b_Smay_64)
@[simp] def l_Smay_66 (_ : Unit) : List EOp := [⟨0, (some 112), none, (.q (.mov (.t 3))), []⟩, ⟨1, (some 113), none, (.q (.fad 1 (.t 7))), []⟩, ⟨2, (some 114), none, (.q (.ldc (.t 113))), []⟩, ⟨3, (some 115), none, (.q (.bin .add (.t 112) (.t 114))), []⟩, ⟨4, (some 3), none, (.q (.mov (.t 115))), []⟩]
@[simp] def b_Smay_67 (_ : Unit) : EB := reg0 (hid l_Smay_66) 5
@[simp] def b_Smay_68 (_ : Unit) : EB := .seq (hid b_Smay_65) (hid b_Smay_67)
@[simp] def b_Smay_69 (_ : Unit) : EB := .seq (hid b_Smay_55) (hid b_Smay_68)
@[simp] def b_Smay_70 (_ : Unit) : EB := .block 3 (hid b_Smay_69)
@[simp] def l_Smay_71 (_ : Unit) : List EOp := [⟨0, (some 116), none, (.q (.bin .add (.t 88) (.k (.int .i64 1)))), []⟩, ⟨1, (some 88), none, (.q (.mov (.t 116))), []⟩]
@[simp] def b_Smay_72 (_ : Unit) : EB := reg0 (hid l_Smay_71) 2
@[simp] def b_Smay_73 (_ : Unit) : EB := .seq (hid b_Smay_70) (hid b_Smay_72)
@[simp] def b_Smay_74 (_ : Unit) : EB := .seq (hid b_Smay_53) (hid b_Smay_73)
@[simp] def b_Smay_75 (_ : Unit) : EB := .seq (hid b_Smay_52) (hid b_Smay_74)
@[simp] def b_Smay_76 (_ : Unit) : EB := .loop (hid b_Smay_75)
@[simp] def b_Smay_77 (_ : Unit) : EB := .block 2 (hid b_Smay_76)
@[simp] def b_Smay_78 (_ : Unit) : EB := .seq (hid b_Smay_50) (hid b_Smay_77)
@[simp] def l_Smay_79 (_ : Unit) : List EOp := [⟨0, (some 117), none, (.q (.mov (.t 3))), []⟩, ⟨1, (some 118), none, (.q (.bin .leq (.t 117) (.k (.int .i64 1125899906842624)))), []⟩, ⟨2, (some 2), none, (.q (.mov (.t 118))), []⟩]
@[simp] def b_Smay_80 (_ : Unit) : EB := reg0 (hid l_Smay_79) 3
@[simp] def b_Smay_81 (_ : Unit) : EB := .seq (hid b_Smay_80) .ret
@[simp] def b_Smay_82 (_ : Unit) : EB := .seq (hid b_Smay_78) (hid b_Smay_81)
@[simp] def b_Smay_83 (_ : Unit) : EB := .seq (hid b_Smay_48) (hid b_Smay_82)
@[simp] def b_Smay_84 (_ : Unit) : EB := .seq (hid b_Smay_18) (hid b_Smay_83)
@[simp] def b_Smay_85 (_ : Unit) : EB := .seq (hid b_Smay_15) (hid b_Smay_84)
@[simp] def b_Smay_86 (_ : Unit) : EB := .seq (hid b_Smay_2) (hid b_Smay_85)
def c_Smay : EB × List QOp × Nat := ((hid b_Smay_86), [(.mov (.t 2))], 119)
theorem k_Smay : cfun Tryz.prog 55 = some c_Smay := by kernel_rfl


theorem mayS_f {s : Sta} (q : ¬ (0 ≤ s.num ∧ s.num ≤ 1099511627776 ∧ 0 ≤ s.h0 ∧ s.h0 ≤ 1125899906842624 ∧ 0 ≤ s.h1 ∧ s.h1 ≤ 1125899906842624 ∧ s.pays.length ≤ 8 ∧ s.holds.length + s.pays.length ≤ 8)) : mayS s = false := by simp only [mayS, decide_eq_false q, Bool.false_and]
theorem mayS_p {s : Sta} (q : payL none s.pays = false) : mayS s = false := by simp only [mayS, q, Bool.and_false, Bool.false_and]
theorem mayS_h {s : Sta} (q : holL none s.holds = false) : mayS s = false := by simp only [mayS, q, Bool.and_false, Bool.false_and]
def prevP (l : List Pay) (i : Nat) : Option Int := if i = 0 then none else (l[i - 1]?).map (·.id)
def prevH (l : List Hol) (i : Nat) : Option Int := if i = 0 then none else (l[i - 1]?).map (·.id)
def PL (l : List Pay) : EV := .v (.c (.fz (.sl 36 (payv l))))
def HL (l : List Hol) : EV := .v (.c (.fz (.sl 3 (holv l))))
theorem sumP_snoc (l : List Pay) (p : Pay) : sumP (l ++ [p]) = sumP l + p.am := by simp [sumP]
theorem sumH_snoc (l : List Hol) (p : Hol) : sumH (l ++ [p]) = sumH l + p.am := by simp [sumH]
theorem take_s {α : Type} {l : List α} {i : Nat} {c : α} (h : l[i]? = some c) : l.take (i + 1) = l.take i ++ [c] := by rw [List.take_add_one, h]; rfl
theorem mayP_am {p : Pay} (h : mayP p = true) : 10 ≤ p.am ∧ p.am ≤ 1125899906842624 := by
  have := of_decide_eq_true h
  omega
theorem mayH_am {p : Hol} (h : mayH p = true) : 10 ≤ p.am ∧ p.am ≤ 1125899906842624 := by
  simp only [mayH, Bool.and_eq_true, decide_eq_true_eq] at h
  omega
theorem holF_fz (h : Hol) : (holF h).map EC.fz = holC h := rfl
theorem holC_take (h : Hol) : (holC h).take 3 = holC h := rfl

set_option maxHeartbeats 2000000 in
theorem Smay_ok (s : Sta) (hs : s.ok) : ECalls Tryz.prog 55 [SV s] [] fun y H' => H' = [] ∧ y = .lit (.bool (mayS s)) := by
  obtain ⟨ok1, ok2, ok3, ok4, ok5, ok6, ok7⟩ := hs
  refine ecalls k_Smay ?_
  simp [c_Smay, SV, staC]
  refine alt (fun a1 => ?_) (fun a1 => ?_)
  rotate_left
  · (first | simp [I, EV.lit, a1, Int.not_le.2 a1] | simp [I, EV.lit, a1, Int.not_lt.2 a1] | simp [I, EV.lit, a1, Int.not_lt.1 a1] | simp [I, EV.lit, a1, Int.not_le.1 a1] | simp [I, EV.lit, a1])
    exact fin [] (by decide) rfl rfl rfl ⟨rfl, by rw [mayS_f (by omega)]⟩
  (first | simp [I, EV.lit, a1, Int.not_le.2 a1] | simp [I, EV.lit, a1, Int.not_lt.2 a1] | simp [I, EV.lit, a1, Int.not_lt.1 a1] | simp [I, EV.lit, a1, Int.not_le.1 a1] | simp [I, EV.lit, a1])
  refine alt (fun a2 => ?_) (fun a2 => ?_)
  rotate_left
  · (first | simp [I, EV.lit, a2, Int.not_le.2 a2] | simp [I, EV.lit, a2, Int.not_lt.2 a2] | simp [I, EV.lit, a2, Int.not_lt.1 a2] | simp [I, EV.lit, a2, Int.not_le.1 a2] | simp [I, EV.lit, a2])
    exact fin [] (by decide) rfl rfl rfl ⟨rfl, by rw [mayS_f (by omega)]⟩
  (first | simp [I, EV.lit, a2, Int.not_le.2 a2] | simp [I, EV.lit, a2, Int.not_lt.2 a2] | simp [I, EV.lit, a2, Int.not_lt.1 a2] | simp [I, EV.lit, a2, Int.not_le.1 a2] | simp [I, EV.lit, a2])
  refine call0 (amount_ok s.h0 0) (by simp [I, EV.lit]) ?_
  rintro y H' ⟨rfl, rfl⟩
  refine ⟨.inl (by simp [I, EV.lit]), le_ok rfl, ?_⟩
  cases hb3 : decide (0 ≤ s.h0 ∧ s.h0 ≤ 1125899906842624)
  · have a3 := of_decide_eq_false hb3
    simp [EV.lit]
    exact fin [] (by decide) rfl rfl rfl ⟨rfl, by rw [mayS_f (by omega)]⟩
  have a3 := of_decide_eq_true hb3
  simp [EV.lit]
  refine call0 (amount_ok s.h1 0) (by simp [I, EV.lit]) ?_
  rintro y H' ⟨rfl, rfl⟩
  refine ⟨.inl (by simp [I, EV.lit]), le_ok rfl, ?_⟩
  cases hb4 : decide (0 ≤ s.h1 ∧ s.h1 ≤ 1125899906842624)
  · have a4 := of_decide_eq_false hb4
    simp [EV.lit]
    exact fin [] (by decide) rfl rfl rfl ⟨rfl, by rw [mayS_f (by omega)]⟩
  have a4 := of_decide_eq_true hb4
  simp [EV.lit]
  refine alt (fun a5 => ?_) (fun a5 => ?_)
  rotate_left
  · (first | simp [I, EV.lit, a5, Int.not_le.2 a5] | simp [I, EV.lit, a5, Int.not_lt.2 a5] | simp [I, EV.lit, a5, Int.not_lt.1 a5] | simp [I, EV.lit, a5, Int.not_le.1 a5] | simp [I, EV.lit, a5])
    exact fin [] (by decide) rfl rfl rfl ⟨rfl, by rw [mayS_f (by omega)]⟩
  (first | simp [I, EV.lit, a5, Int.not_le.2 a5] | simp [I, EV.lit, a5, Int.not_lt.2 a5] | simp [I, EV.lit, a5, Int.not_lt.1 a5] | simp [I, EV.lit, a5, Int.not_le.1 a5] | simp [I, EV.lit, a5])
  have w0 : IntKind.i64.wrap (8 - (s.pays.length : Int)) = 8 - (s.pays.length : Int) := wrap_i64 (by omega) (by omega)
  have w1 : IntKind.i64.wrap (s.h0 + s.h1) = s.h0 + s.h1 := wrap_i64 (by omega) (by omega)
  rw [w0]
  refine alt (fun a6 => ?_) (fun a6 => ?_)
  · simp
    exact fin [] (by decide) rfl rfl rfl ⟨rfl, by rw [mayS_f (by omega)]⟩
  simp [w1]
  refine eloop (α := Nat × Int) (fun a => a.1 ≤ s.pays.length ∧ payL none s.pays = payL (prevP s.pays a.1) (s.pays.drop a.1) ∧ a.2 = s.h0 + s.h1 + sumP (s.pays.take a.1) ∧ 0 ≤ a.2 ∧ a.2 ≤ 2251799813685248 + (a.1 : Int) * 1125899906842624) (fun a => s.pays.length - a.1)
    (fun a => [.any, Ptr 0, .any, I .i64 a.2, .any, .any, .any, .any, .any, .any, .any, .any, .any, .any, .any, .any, .any, .any, .any, .any, .any, .any, .any, .any, .any, .any, .any, .any, .any, .any, .any, .any, .any, .any, .any, .any, .any, .any, .any, .any, .any, .any, .any, .any, .any, .any, .any, .any, .any, .any, .any, .any, .any, .any, PL s.pays, I .i64 s.pays.length, I .i64 a.1, .any, .any, .any, .any, .any, .any, .any, .any, .any, .any, .any, .any, .any, .any, .any, .any, .any, .any, .any, .any, .any, .any, .any, .any, .any, .any, .any, .any, .any, .any, .any, .any, .any, .any, .any, .any, .any, .any, .any, .any, .any, .any, .any, .any, .any, .any, .any, .any, .any, .any, .any, .any, .any, .any, .any, .any, .any, .any, .any, .any, .any, .any]) (fun a => [some (.box 39 (staC s))]) (0, s.h0 + s.h1) [0]
    ⟨by simp, by simp [prevP], by simp [sumP], by simp; omega, by simp; omega⟩ (by simp [Ptr, I, PL]) (by simp [staC]) (by simp) (by simp) (by simp) ?_
  rintro ⟨i, n⟩ ⟨hi1, hi2, hi3, hi4, hi5⟩
  simp [Ptr, I, PL, staC] at hi1 hi2 hi3 hi4 hi5 ⊢
  refine alt (fun hlt => ?_) (fun hlt => ?_)
  · obtain ⟨p, hc⟩ : ∃ p, s.pays[i]? = some p := ⟨s.pays[i], by simp [hlt]⟩
    have hpo := ok4 p (List.mem_of_getElem? hc)
    have hl32 := hpo.2.2.2.2
    have ht : p.lock.take 32 = p.lock := List.take_of_length_le (by omega)
    have hcb := payv_get hc
    rw [drop_cons hc] at hi2
    have w2 : IntKind.i64.wrap ((i : Int) + 1) = ((i + 1 : Nat) : Int) := wrap_i64 (by omega) (by omega)
    have w3 : IntKind.i64.wrap ((i : Int) - 1) = (i : Int) - 1 := wrap_i64 (by omega) (by omega)
    simp [hcb, payF, hl32, ht]
    refine call0 (Pmay_ok p hl32) (by simp [payC]) ?_
    rintro y H' ⟨rfl, rfl⟩
    refine ⟨.inl (by simp), le_ok rfl, ?_⟩
    cases hm : mayP p
    · simp [EV.lit]
      exact fin [] (by decide) rfl rfl rfl ⟨rfl, by rw [mayS_p (by rw [hi2, payL, hm]; simp)]⟩
    have ham := mayP_am hm
    have w4 : IntKind.i64.wrap (n + p.am) = n + p.am := wrap_i64 (by omega) (by omega)
    have hnx : ∀ (q : aft (prevP s.pays i) p.id = true), payL none s.pays = payL (prevP s.pays (i + 1)) (s.pays.drop (i + 1)) := by
      intro q
      rw [hi2, payL, hm, q]
      simp [prevP, hc]
    have hsum : n + p.am = s.h0 + s.h1 + sumP (s.pays.take (i + 1)) := by rw [take_s hc, sumP_snoc]; omega
    simp [EV.lit]
    refine alt (fun h0 => ?_) (fun h0 => ?_)
    · obtain ⟨q, hq⟩ : ∃ q, s.pays[i - 1]? = some q := ⟨s.pays[i - 1]'(by omega), by simp⟩
      have hqb := payv_get hq
      have hti : ((i : Int) - 1).toNat = i - 1 := by omega
      have hpv : prevP s.pays i = some q.id := by simp [prevP, hq, show i ≠ 0 by omega]
      have h1 : (1 : Int) ≤ (i : Int) := by omega
      simp [h0, w3, hqb, hti, payF, h1]
      refine alt (fun c1 => ?_) (fun c1 => ?_)
      · simp
        exact fin [] (by decide) rfl rfl rfl ⟨rfl, by rw [mayS_p (by rw [hi2, payL, hm, hpv]; simp [aft, decide_eq_false (show ¬ q.id < p.id by omega)])]⟩
      simp [w2, w4, -Int.natCast_add]
      exact round (i + 1, n + p.am) [0] ⟨by omega, hnx (by rw [hpv]; exact decide_eq_true (by omega)), hsum, by simp; omega, by simp; omega⟩ (by simp; omega) (by simp) (by simp) (by simp) (by simp) (by simp)
    · have hi0 : i = 0 := by omega
      subst hi0
      simp [w4, IntKind.wrap_i64]
      exact round (1, n + p.am) [0] ⟨by omega, hnx (by simp [prevP, aft]), hsum, by simp; omega, by simp; omega⟩ (by simp; omega) (by simp) (by simp) (by simp) (by simp) (by simp)
  have hil : i = s.pays.length := by omega
  subst hil
  have hps : payL none s.pays = true := by rw [hi2]; simp [payL]
  rw [List.take_length] at hi3
  simp
  refine eloop (α := Nat × Int) (fun a => a.1 ≤ s.holds.length ∧ holL none s.holds = holL (prevH s.holds a.1) (s.holds.drop a.1) ∧ a.2 = s.h0 + s.h1 + sumP s.pays + sumH (s.holds.take a.1) ∧ 0 ≤ a.2 ∧ a.2 ≤ 22517998136852480 + (a.1 : Int) * 1125899906842624) (fun a => s.holds.length - a.1)
    (fun a => [.any, Ptr 0, .any, I .i64 a.2, .any, .any, .any, .any, .any, .any, .any, .any, .any, .any, .any, .any, .any, .any, .any, .any, .any, .any, .any, .any, .any, .any, .any, .any, .any, .any, .any, .any, .any, .any, .any, .any, .any, .any, .any, .any, .any, .any, .any, .any, .any, .any, .any, .any, .any, .any, .any, .any, .any, .any, .any, .any, .any, .any, .any, .any, .any, .any, .any, .any, .any, .any, .any, .any, .any, .any, .any, .any, .any, .any, .any, .any, .any, .any, .any, .any, .any, .any, .any, .any, .any, .any, HL s.holds, I .i64 s.holds.length, I .i64 a.1, .any, .any, .any, .any, .any, .any, .any, .any, .any, .any, .any, .any, .any, .any, .any, .any, .any, .any, .any, .any, .any, .any, .any, .any, .any, .any, .any, .any, .any, .any]) (fun a => [some (.box 39 (staC s))]) (0, n) [0]
    ⟨by simp, by simp [prevH], by simp [sumH]; omega, hi4, by simp; omega⟩ (by simp [Ptr, I, HL]) (by simp [staC]) (by simp) (by simp) (by simp) ?_
  clear hi1 hi2 hi3 hi4 hi5 hlt
  clear n
  rintro ⟨i, n⟩ ⟨hi1, hi2, hi3, hi4, hi5⟩
  simp [Ptr, I, HL, staC] at hi1 hi2 hi3 hi4 hi5 ⊢
  refine alt (fun hlt => ?_) (fun hlt => ?_)
  · obtain ⟨p, hc⟩ : ∃ p, s.holds[i]? = some p := ⟨s.holds[i], by simp [hlt]⟩
    have hpo := ok5 p (List.mem_of_getElem? hc)
    have hcb := holv_get hc
    rw [drop_cons hc] at hi2
    have w2 : IntKind.i64.wrap ((i : Int) + 1) = ((i + 1 : Nat) : Int) := wrap_i64 (by omega) (by omega)
    have w3 : IntKind.i64.wrap ((i : Int) - 1) = (i : Int) - 1 := wrap_i64 (by omega) (by omega)
    simp [hcb, holF]
    refine call0 (Hmay_ok p hpo.2.2.2) (by simp [holC]) ?_
    rintro y H' ⟨rfl, rfl⟩
    refine ⟨.inl (by simp), le_ok rfl, ?_⟩
    cases hm : mayH p
    · simp [EV.lit]
      exact fin [] (by decide) rfl rfl rfl ⟨rfl, by rw [mayS_h (by rw [hi2, holL, hm]; simp)]⟩
    have ham := mayH_am hm
    have w4 : IntKind.i64.wrap (n + p.am) = n + p.am := wrap_i64 (by omega) (by omega)
    have hnx : ∀ (q : aft (prevH s.holds i) p.id = true), holL none s.holds = holL (prevH s.holds (i + 1)) (s.holds.drop (i + 1)) := by
      intro q
      rw [hi2, holL, hm, q]
      simp [prevH, hc]
    have hsum : n + p.am = s.h0 + s.h1 + sumP s.pays + sumH (s.holds.take (i + 1)) := by rw [take_s hc, sumH_snoc]; omega
    simp [EV.lit]
    refine alt (fun h0 => ?_) (fun h0 => ?_)
    · obtain ⟨q, hq⟩ : ∃ q, s.holds[i - 1]? = some q := ⟨s.holds[i - 1]'(by omega), by simp⟩
      have hqb := holv_get hq
      have hti : ((i : Int) - 1).toNat = i - 1 := by omega
      have hpv : prevH s.holds i = some q.id := by simp [prevH, hq, show i ≠ 0 by omega]
      have h1 : (1 : Int) ≤ (i : Int) := by omega
      simp [h0, w3, hqb, hti, holF, h1]
      refine alt (fun c1 => ?_) (fun c1 => ?_)
      · simp
        exact fin [] (by decide) rfl rfl rfl ⟨rfl, by rw [mayS_h (by rw [hi2, holL, hm, hpv]; simp [aft, decide_eq_false (show ¬ q.id < p.id by omega)])]⟩
      simp [w2, w4, -Int.natCast_add]
      exact round (i + 1, n + p.am) [0] ⟨by omega, hnx (by rw [hpv]; exact decide_eq_true (by omega)), hsum, by simp; omega, by simp; omega⟩ (by simp; omega) (by simp) (by simp) (by simp) (by simp) (by simp)
    · have hi0 : i = 0 := by omega
      subst hi0
      simp [w4, IntKind.wrap_i64]
      exact round (1, n + p.am) [0] ⟨by omega, hnx (by simp [prevH, aft]), hsum, by simp; omega, by simp; omega⟩ (by simp; omega) (by simp) (by simp) (by simp) (by simp) (by simp)
  have hil : i = s.holds.length := by omega
  subst hil
  have hhs : holL none s.holds = true := by rw [hi2]; simp [holL]
  rw [List.take_length] at hi3
  have hS : mayS s = decide (n ≤ 1125899906842624) := by
    simp only [mayS, hps, hhs, Bool.and_true]
    rw [decide_eq_true (show 0 ≤ s.num ∧ s.num ≤ 1099511627776 ∧ 0 ≤ s.h0 ∧ s.h0 ≤ 1125899906842624 ∧ 0 ≤ s.h1 ∧ s.h1 ≤ 1125899906842624 ∧ s.pays.length ≤ 8 ∧ s.holds.length + s.pays.length ≤ 8 by omega), Bool.true_and, hi3]
    rfl
  simp
  exact fin [] (by decide) rfl rfl rfl ⟨rfl, by rw [hS]⟩

end Go.Proofs.YtpilpjameifcfaaGreatDoor

namespace Go.Proofs.YtpilpjameifcfaaGreatDoor
open Go Go.EW
set_option linter.unusedSimpArgs false
set_option linter.unusedVariables false

@[simp] def l_cloneP_1 (_ : Unit) : List EOp := [⟨0, (some 2), none, (.q (.mov (.k (.slice none 0 0)))), []⟩]
@[simp] def b_cloneP_2 (_ : Unit) : EB := reg0 (hid l_cloneP_1) 1
@[simp] def l_cloneP_3 (_ : Unit) : List EOp := [⟨0, (some 3), none, (.q (.mov (.t 0))), []⟩, ⟨1, (some 4), none, (.nild false (.t 3)), []⟩]
@[simp] def b_cloneP_4 (_ : Unit) : EB := reg0 (hid l_cloneP_3) 2
@[simp] def l_cloneP_5 (_ : Unit) : List EOp := [⟨0, (some 2), none, (.q (.mov (.k (.slice none 0 0)))), []⟩]
@[simp] def b_cloneP_6 (_ : Unit) : EB := reg0 (hid l_cloneP_5) 1
@[simp] def b_cloneP_7 (_ : Unit) : EB := .seq (hid b_cloneP_6) .ret
@[simp] def b_cloneP_8 (_ : Unit) : EB := .cond (.t 4) (hid b_cloneP_7) .skip
@[simp] def b_cloneP_9 (_ : Unit) : EB := .seq (hid b_cloneP_4) (hid b_cloneP_8)
@[simp] def l_cloneP_10 (_ : Unit) : List EOp := [⟨0, (some 5), none, (.q (.bsr 45 36 (([(.int .i64 0), (.int .i64 0), (.int .i64 0), (.int .i64 0)] : List Value) ++ zU8) 0 [])), []⟩, ⟨1, (some 6), none, (.q (.mov (.t 0))), []⟩, ⟨2, (some 7), none, (.app 45 36 64 (.t 5) (.t 6)), []⟩, ⟨3, (some 2), none, (.q (.mov (.t 7))), []⟩]
@[simp] def b_cloneP_11 (_ : Unit) : EB := reg0 (hid l_cloneP_10) 4
@[simp] def b_cloneP_12 (_ : Unit) : EB := .seq (hid b_cloneP_11) .ret
@[simp] def b_cloneP_13 (_ : Unit) : EB := .seq (hid b_cloneP_9) (hid b_cloneP_12)
@[simp] def b_cloneP_14 (_ : Unit) : EB := .seq (hid b_cloneP_2) (hid b_cloneP_13)
def c_cloneP : EB × List QOp × Nat := ((hid b_cloneP_14), [(.mov (.t 2))], 8)
theorem k_cloneP : cfun Tryz.prog 94 = some c_cloneP := by kernel_rfl

@[simp] def l_cloneH_1 (_ : Unit) : List EOp := [⟨0, (some 2), none, (.q (.mov (.k (.slice none 0 0)))), []⟩]
@[simp] def b_cloneH_2 (_ : Unit) : EB := reg0 (hid l_cloneH_1) 1
@[simp] def l_cloneH_3 (_ : Unit) : List EOp := [⟨0, (some 3), none, (.q (.mov (.t 0))), []⟩, ⟨1, (some 4), none, (.nild false (.t 3)), []⟩]
@[simp] def b_cloneH_4 (_ : Unit) : EB := reg0 (hid l_cloneH_3) 2
@[simp] def l_cloneH_5 (_ : Unit) : List EOp := [⟨0, (some 2), none, (.q (.mov (.k (.slice none 0 0)))), []⟩]
@[simp] def b_cloneH_6 (_ : Unit) : EB := reg0 (hid l_cloneH_5) 1
@[simp] def b_cloneH_7 (_ : Unit) : EB := .seq (hid b_cloneH_6) .ret
@[simp] def b_cloneH_8 (_ : Unit) : EB := .cond (.t 4) (hid b_cloneH_7) .skip
@[simp] def b_cloneH_9 (_ : Unit) : EB := .seq (hid b_cloneH_4) (hid b_cloneH_8)
@[simp] def l_cloneH_10 (_ : Unit) : List EOp := [⟨0, (some 5), none, (.q (.bsr 83 3 [(.int .i64 0), (.int .i64 0), (.slice none 0 0)] 0 [])), []⟩, ⟨1, (some 6), none, (.q (.mov (.t 0))), []⟩, ⟨2, (some 7), none, (.app 83 3 40 (.t 5) (.t 6)), []⟩, ⟨3, (some 2), none, (.q (.mov (.t 7))), []⟩]
@[simp] def b_cloneH_11 (_ : Unit) : EB := reg0 (hid l_cloneH_10) 4
@[simp] def b_cloneH_12 (_ : Unit) : EB := .seq (hid b_cloneH_11) .ret
@[simp] def b_cloneH_13 (_ : Unit) : EB := .seq (hid b_cloneH_9) (hid b_cloneH_12)
@[simp] def b_cloneH_14 (_ : Unit) : EB := .seq (hid b_cloneH_2) (hid b_cloneH_13)
def c_cloneH : EB × List QOp × Nat := ((hid b_cloneH_14), [(.mov (.t 2))], 8)
theorem k_cloneH : cfun Tryz.prog 95 = some c_cloneH := by kernel_rfl

@[simp] def l_cloneI_1 (_ : Unit) : List EOp := [⟨0, (some 2), none, (.q (.mov (.k (.slice none 0 0)))), []⟩]
@[simp] def b_cloneI_2 (_ : Unit) : EB := reg0 (hid l_cloneI_1) 1
@[simp] def l_cloneI_3 (_ : Unit) : List EOp := [⟨0, (some 3), none, (.q (.mov (.t 0))), []⟩, ⟨1, (some 4), none, (.nild false (.t 3)), []⟩]
@[simp] def b_cloneI_4 (_ : Unit) : EB := reg0 (hid l_cloneI_3) 2
@[simp] def l_cloneI_5 (_ : Unit) : List EOp := [⟨0, (some 2), none, (.q (.mov (.k (.slice none 0 0)))), []⟩]
@[simp] def b_cloneI_6 (_ : Unit) : EB := reg0 (hid l_cloneI_5) 1
@[simp] def b_cloneI_7 (_ : Unit) : EB := .seq (hid b_cloneI_6) .ret
@[simp] def b_cloneI_8 (_ : Unit) : EB := .cond (.t 4) (hid b_cloneI_7) .skip
@[simp] def b_cloneI_9 (_ : Unit) : EB := .seq (hid b_cloneI_4) (hid b_cloneI_8)
@[simp] def l_cloneI_10 (_ : Unit) : List EOp := [⟨0, (some 5), none, (.q (.bsr 3 1 [(.int .i64 0)] 0 [])), []⟩, ⟨1, (some 6), none, (.q (.mov (.t 0))), []⟩, ⟨2, (some 7), none, (.app 3 1 8 (.t 5) (.t 6)), []⟩, ⟨3, (some 2), none, (.q (.mov (.t 7))), []⟩]
@[simp] def b_cloneI_11 (_ : Unit) : EB := reg0 (hid l_cloneI_10) 4
@[simp] def b_cloneI_12 (_ : Unit) : EB := .seq (hid b_cloneI_11) .ret
@[simp] def b_cloneI_13 (_ : Unit) : EB := .seq (hid b_cloneI_9) (hid b_cloneI_12)
@[simp] def b_cloneI_14 (_ : Unit) : EB := .seq (hid b_cloneI_2) (hid b_cloneI_13)
def c_cloneI : EB × List QOp × Nat := ((hid b_cloneI_14), [(.mov (.t 2))], 8)
theorem k_cloneI : cfun Tryz.prog 96 = some c_cloneI := by kernel_rfl


theorem mayS_t {s : Sta} (h : mayS s = true) : (0 ≤ s.num ∧ s.num ≤ 1099511627776 ∧ 0 ≤ s.h0 ∧ s.h0 ≤ 1125899906842624 ∧ 0 ≤ s.h1 ∧ s.h1 ≤ 1125899906842624 ∧ s.pays.length ≤ 8 ∧ s.holds.length + s.pays.length ≤ 8) ∧ payL none s.pays = true ∧ holL none s.holds = true ∧ total s ≤ 1125899906842624 := by
  simp only [mayS, Bool.and_eq_true, decide_eq_true_eq] at h
  exact ⟨h.1.1.1, h.1.1.2, h.1.2, h.2⟩
theorem payL_am : ∀ {o : Option Int} {l : List Pay}, payL o l = true → ∀ p ∈ l, 10 ≤ p.am ∧ p.am ≤ 1125899906842624
  | _, [], _, p, hp => by simp at hp
  | o, q :: r, h, p, hp => by
    simp only [payL, Bool.and_eq_true] at h
    rcases List.mem_cons.1 hp with rfl | hp
    · exact mayP_am h.1.1
    · exact payL_am h.2 p hp
theorem holL_am : ∀ {o : Option Int} {l : List Hol}, holL o l = true → ∀ p ∈ l, 10 ≤ p.am ∧ p.am ≤ 1125899906842624
  | _, [], _, p, hp => by simp at hp
  | o, q :: r, h, p, hp => by
    simp only [holL, Bool.and_eq_true] at h
    rcases List.mem_cons.1 hp with rfl | hp
    · exact mayH_am h.1.1
    · exact holL_am h.2 p hp
def totS (s : Sta) : Int := if mayS s = true then total s else 0

theorem cloneP_ok (l : List Pay) (hl : l.length ≤ 100000000) : ECalls Tryz.prog 94 [PL l] [] fun y H' => H' = [some (.row 45 36 (payv l))] ∧ y = .v (.c (.row 0 l.length)) := by
  refine ecalls k_cloneP ?_
  simp [c_cloneP, PL]
  refine both (fun h => ?_) (fun _ => ?_)
  · simp
    refine finW _ (weak_nilR 2 45 36 rfl (by omega)) ?_
    have hn : l = [] := by cases l <;> simp_all
    subst hn
    exact fin [64] (by decide) rfl rfl rfl ⟨rfl, rfl⟩
  · simp
    exact ⟨by omega, fin [80] (by decide) rfl rfl rfl ⟨rfl, by simp⟩⟩

theorem cloneH_ok (l : List Hol) (hl : l.length ≤ 100000000) : ECalls Tryz.prog 95 [HL l] [] fun y H' => H' = [some (.row 83 3 (holv l))] ∧ y = .v (.c (.row 0 l.length)) := by
  refine ecalls k_cloneH ?_
  simp [c_cloneH, HL]
  refine both (fun h => ?_) (fun _ => ?_)
  · simp
    refine finW _ (weak_nilR 2 83 3 rfl (by omega)) ?_
    have hn : l = [] := by cases l <;> simp_all
    subst hn
    exact fin [64] (by decide) rfl rfl rfl ⟨rfl, rfl⟩
  · simp
    exact ⟨by omega, fin [80] (by decide) rfl rfl rfl ⟨rfl, by simp⟩⟩

theorem cloneI_ok (l : List Int) (hl : l.length ≤ 100000000) : ECalls Tryz.prog 96 [IL l] [] fun y H' => H' = [some (.row 3 1 (intv l))] ∧ y = .v (.c (.row 0 l.length)) := by
  refine ecalls k_cloneI ?_
  simp [c_cloneI, IL]
  refine both (fun h => ?_) (fun _ => ?_)
  · simp
    refine finW _ (weak_nilR 2 3 1 rfl (by omega)) ?_
    have hn : l = [] := by cases l <;> simp_all
    subst hn
    exact fin [64] (by decide) rfl rfl rfl ⟨rfl, rfl⟩
  · simp
    exact ⟨by omega, fin [80] (by decide) rfl rfl rfl ⟨rfl, by simp⟩⟩

end Go.Proofs.YtpilpjameifcfaaGreatDoor
