import Derived.Test.YtpilpjameifcfaaDoorPEnc7
import Derived.Test.YtpilpjameifcfaaDoorPEwX
namespace Go.Proofs.YtpilpjameifcfaaDoor
open Go Go.EW
set_option linter.unusedSimpArgs false
set_option linter.unusedVariables false

@[simp] def l_RdHash_1 (_ : Unit) : List EOp := [⟨0, (some 2), none, (.q (.alloc 28 zU8)), []⟩]
@[simp] def b_RdHash_2 (_ : Unit) : EB := reg0 (hid l_RdHash_1) 1
@[simp] def l_RdHash_3 (_ : Unit) : List EOp := [⟨0, (some 3), none, (.q (.alloc 28 zU8)), []⟩]
@[simp] def b_RdHash_4 (_ : Unit) : EB := reg0 (hid l_RdHash_3) 1
@[simp] def l_RdHash_5 (_ : Unit) : List EOp := [⟨0, (some 16), none, (.q (.mov (.t 0))), []⟩, ⟨1, (some 17), none, (.call 61 [(.t 16)]), []⟩, ⟨2, (some 15), none, (.q (.mov (.t 17))), []⟩]
@[simp] def b_RdHash_6 (_ : Unit) : EB := reg0 (hid l_RdHash_5) 3
@[simp] def l_RdHash_7 (_ : Unit) : List EOp := [⟨0, (some 19), none, (.q (.mov (.t 0))), []⟩, ⟨1, (some 20), none, (.call 62 [(.t 19)]), []⟩, ⟨2, (some 21), none, (.q (.len (.t 20))), []⟩, ⟨3, (some 22), none, (.q (.bin .lss (.t 21) (.k (.int .i64 32)))), []⟩, ⟨4, (some 18), none, (.q (.mov (.t 22))), []⟩]
@[simp] def b_RdHash_8 (_ : Unit) : EB := reg0 (hid l_RdHash_7) 5
@[simp] def l_RdHash_9 (_ : Unit) : List EOp := [⟨0, (some 23), none, (.q (.mov (.t 0))), []⟩, ⟨1, (some 24), none, (.q (.mki 73 (.k (.int .i64 12)))), []⟩, ⟨2, (some 25), none, (.call 63 [(.t 23), (.t 24)]), []⟩]
@[simp] def b_RdHash_10 (_ : Unit) : EB := reg0 (hid l_RdHash_9) 3
@[simp] def l_RdHash_12 (_ : Unit) : List EOp := [⟨6, (some 10), none, (.call 62 [(.t 9)]), [0, 1, 2, 3, 4]⟩, ⟨7, (some 11), none, (.cpy 1 (.t 8) (.t 10)), [0, 1, 2, 3]⟩, ⟨8, (some 12), none, (.q (.bin .add (.t 7) (.t 11))), []⟩, ⟨9, (some 13), none, (.q (.nilc (.t 4))), []⟩, ⟨10, (some 14), none, (.q (.fad 1 (.t 13))), []⟩, ⟨11, none, none, (.sto 1 (.t 14) (.t 12)), []⟩]
@[simp] def l_RdHash_11 (_ : Unit) : List EOp := ⟨0, (some 4), none, (.q (.mov (.t 0))), []⟩ :: ⟨1, (some 5), none, (.q (.nilc (.t 4))), []⟩ :: ⟨2, (some 6), none, (.q (.fad 1 (.t 5))), []⟩ :: ⟨3, (some 7), none, (.q (.ldc (.t 6))), []⟩ :: ⟨4, (some 8), none, (.q (.sar 32 (.t 3) none none)), []⟩ :: ⟨5, (some 9), none, (.q (.mov (.t 0))), []⟩ :: hid l_RdHash_12
@[simp] def b_RdHash_13 (_ : Unit) : EB := reg1 (hid l_RdHash_11) 12
@[simp] def b_RdHash_14 (_ : Unit) : EB := .cond (.t 18) (hid b_RdHash_10) (hid b_RdHash_13)
@[simp] def b_RdHash_15 (_ : Unit) : EB := .seq (hid b_RdHash_8) (hid b_RdHash_14)
@[simp] def b_RdHash_16 (_ : Unit) : EB := .cond (.t 15) .skip (hid b_RdHash_15)
@[simp] def b_RdHash_17 (_ : Unit) : EB := .seq (hid b_RdHash_6) (hid b_RdHash_16)
@[simp] def b_RdHash_18 (_ : Unit) : EB := .block 0 (hid b_RdHash_17)
@[simp] def l_RdHash_19 (_ : Unit) : List EOp := [⟨0, (some 26), none, (.q (.lda 32 (.t 3))), []⟩, ⟨1, none, none, (.sto 32 (.t 2) (.t 26)), []⟩]
@[simp] def b_RdHash_20 (_ : Unit) : EB := reg0 (hid l_RdHash_19) 2
@[simp] def b_RdHash_21 (_ : Unit) : EB := .seq (hid b_RdHash_20) .ret
@[simp] def b_RdHash_22 (_ : Unit) : EB := .seq (hid b_RdHash_18) (hid b_RdHash_21)
@[simp] def b_RdHash_23 (_ : Unit) : EB := .seq (hid b_RdHash_4) (hid b_RdHash_22)
@[simp] def b_RdHash_24 (_ : Unit) : EB := .seq (hid b_RdHash_2) (hid b_RdHash_23)
def c_RdHash : EB × List QOp × Nat := ((hid b_RdHash_24), [(.lda 32 (.t 2))], 27)
theorem k_RdHash : cfun Tryd.prog 35 = some c_RdHash := by kernel_rfl

@[simp] def l_RdDone_1 (_ : Unit) : List EOp := [⟨0, (some 2), none, (.q (.mov (.k .nilIface))), []⟩]
@[simp] def b_RdDone_2 (_ : Unit) : EB := reg0 (hid l_RdDone_1) 1
@[simp] def l_RdDone_3 (_ : Unit) : List EOp := [⟨0, (some 4), none, (.q (.mov (.t 0))), []⟩, ⟨1, (some 5), none, (.q (.eqp false (.t 4))), []⟩, ⟨2, (some 3), none, (.q (.mov (.t 5))), []⟩]
@[simp] def b_RdDone_4 (_ : Unit) : EB := reg0 (hid l_RdDone_3) 3
@[simp] def l_RdDone_5 (_ : Unit) : List EOp := [⟨0, (some 6), none, (.q (.mki 73 (.k (.int .i64 1)))), []⟩, ⟨1, (some 2), none, (.q (.mov (.t 6))), []⟩]
@[simp] def b_RdDone_6 (_ : Unit) : EB := reg0 (hid l_RdDone_5) 2
@[simp] def b_RdDone_7 (_ : Unit) : EB := .seq (hid b_RdDone_6) .ret
@[simp] def l_RdDone_8 (_ : Unit) : List EOp := [⟨0, (some 8), none, (.q (.mov (.t 0))), []⟩, ⟨1, (some 9), none, (.q (.nilc (.t 8))), []⟩, ⟨2, (some 10), none, (.q (.fad 2 (.t 9))), []⟩, ⟨3, (some 11), none, (.q (.ldc (.t 10))), []⟩, ⟨4, (some 12), none, (.q (.eqi true (.t 11))), []⟩, ⟨5, (some 7), none, (.q (.mov (.t 12))), []⟩]
@[simp] def b_RdDone_9 (_ : Unit) : EB := reg0 (hid l_RdDone_8) 6
@[simp] def l_RdDone_10 (_ : Unit) : List EOp := [⟨0, (some 13), none, (.q (.mov (.t 0))), []⟩, ⟨1, (some 14), none, (.q (.nilc (.t 13))), []⟩, ⟨2, (some 15), none, (.q (.fad 2 (.t 14))), []⟩, ⟨3, (some 16), none, (.q (.ldc (.t 15))), []⟩, ⟨4, (some 2), none, (.q (.mov (.t 16))), []⟩]
@[simp] def b_RdDone_11 (_ : Unit) : EB := reg0 (hid l_RdDone_10) 5
@[simp] def b_RdDone_12 (_ : Unit) : EB := .seq (hid b_RdDone_11) .ret
@[simp] def l_RdDone_14 (_ : Unit) : List EOp := [⟨6, (some 24), none, (.q (.fad 0 (.t 23))), []⟩, ⟨7, (some 25), none, (.q (.ldc (.t 24))), []⟩, ⟨8, (some 26), none, (.q (.len (.t 25))), []⟩, ⟨9, (some 27), none, (.q (.bin .lss (.t 21) (.t 26))), []⟩, ⟨10, (some 17), none, (.q (.mov (.t 27))), []⟩]
@[simp] def l_RdDone_13 (_ : Unit) : List EOp := ⟨0, (some 18), none, (.q (.mov (.t 0))), []⟩ :: ⟨1, (some 19), none, (.q (.nilc (.t 18))), []⟩ :: ⟨2, (some 20), none, (.q (.fad 1 (.t 19))), []⟩ :: ⟨3, (some 21), none, (.q (.ldc (.t 20))), []⟩ :: ⟨4, (some 22), none, (.q (.mov (.t 0))), []⟩ :: ⟨5, (some 23), none, (.q (.nilc (.t 22))), []⟩ :: hid l_RdDone_14
@[simp] def b_RdDone_15 (_ : Unit) : EB := reg0 (hid l_RdDone_13) 11
@[simp] def l_RdDone_16 (_ : Unit) : List EOp := [⟨0, (some 28), none, (.q (.mki 73 (.k (.int .i64 3)))), []⟩, ⟨1, (some 2), none, (.q (.mov (.t 28))), []⟩]
@[simp] def b_RdDone_17 (_ : Unit) : EB := reg0 (hid l_RdDone_16) 2
@[simp] def b_RdDone_18 (_ : Unit) : EB := .seq (hid b_RdDone_17) .ret
@[simp] def b_RdDone_19 (_ : Unit) : EB := .cond (.t 17) (hid b_RdDone_18) .skip
@[simp] def b_RdDone_20 (_ : Unit) : EB := .seq (hid b_RdDone_15) (hid b_RdDone_19)
@[simp] def b_RdDone_21 (_ : Unit) : EB := .cond (.t 7) (hid b_RdDone_12) (hid b_RdDone_20)
@[simp] def b_RdDone_22 (_ : Unit) : EB := .seq (hid b_RdDone_9) (hid b_RdDone_21)
@[simp] def b_RdDone_23 (_ : Unit) : EB := .cond (.t 3) (hid b_RdDone_7) (hid b_RdDone_22)
@[simp] def b_RdDone_24 (_ : Unit) : EB := .seq (hid b_RdDone_4) (hid b_RdDone_23)
@[simp] def b_RdDone_25 (_ : Unit) : EB := .block 0 (hid b_RdDone_24)
@[simp] def l_RdDone_26 (_ : Unit) : List EOp := [⟨0, (some 2), none, (.q (.mov (.k .nilIface))), []⟩]
@[simp] def b_RdDone_27 (_ : Unit) : EB := reg0 (hid l_RdDone_26) 1
@[simp] def b_RdDone_28 (_ : Unit) : EB := .seq (hid b_RdDone_27) .ret
@[simp] def b_RdDone_29 (_ : Unit) : EB := .seq (hid b_RdDone_25) (hid b_RdDone_28)
@[simp] def b_RdDone_30 (_ : Unit) : EB := .seq (hid b_RdDone_2) (hid b_RdDone_29)
def c_RdDone : EB × List QOp × Nat := ((hid b_RdDone_30), [(.mov (.t 2))], 29)
theorem k_RdDone : cfun Tryd.prog 36 = some c_RdDone := by kernel_rfl

@[simp] def l_RdBytes_1 (_ : Unit) : List EOp := [⟨0, (some 4), none, (.q (.mov (.k (.slice none 0 0)))), []⟩]
@[simp] def b_RdBytes_2 (_ : Unit) : EB := reg0 (hid l_RdBytes_1) 1
@[simp] def l_RdBytes_3 (_ : Unit) : List EOp := [⟨0, (some 9), none, (.q (.mov (.t 0))), []⟩, ⟨1, (some 10), none, (.call 61 [(.t 9)]), []⟩]
@[simp] def b_RdBytes_4 (_ : Unit) : EB := reg0 (hid l_RdBytes_3) 2
@[simp] def l_RdBytes_5 (_ : Unit) : List EOp := [⟨0, (some 4), none, (.q (.mov (.k (.slice none 0 0)))), []⟩]
@[simp] def b_RdBytes_6 (_ : Unit) : EB := reg0 (hid l_RdBytes_5) 1
@[simp] def b_RdBytes_7 (_ : Unit) : EB := .seq (hid b_RdBytes_6) .ret
@[simp] def b_RdBytes_8 (_ : Unit) : EB := .cond (.t 10) (hid b_RdBytes_7) .skip
@[simp] def b_RdBytes_9 (_ : Unit) : EB := .seq (hid b_RdBytes_4) (hid b_RdBytes_8)
@[simp] def l_RdBytes_10 (_ : Unit) : List EOp := [⟨0, (some 11), none, (.q (.mov (.t 1))), []⟩, ⟨1, (some 12), none, (.q (.bin .lss (.t 11) (.k (.int .i64 0)))), []⟩]
@[simp] def b_RdBytes_11 (_ : Unit) : EB := reg0 (hid l_RdBytes_10) 2
@[simp] def l_RdBytes_12 (_ : Unit) : List EOp := [⟨0, (some 13), none, (.q (.mov (.t 0))), []⟩, ⟨1, (some 14), none, (.q (.mki 73 (.k (.int .i64 1)))), []⟩, ⟨2, (some 15), none, (.call 63 [(.t 13), (.t 14)]), []⟩]
@[simp] def b_RdBytes_13 (_ : Unit) : EB := reg0 (hid l_RdBytes_12) 3
@[simp] def l_RdBytes_14 (_ : Unit) : List EOp := [⟨0, (some 4), none, (.q (.mov (.k (.slice none 0 0)))), []⟩]
@[simp] def b_RdBytes_15 (_ : Unit) : EB := reg0 (hid l_RdBytes_14) 1
@[simp] def b_RdBytes_16 (_ : Unit) : EB := .seq (hid b_RdBytes_15) .ret
@[simp] def b_RdBytes_17 (_ : Unit) : EB := .seq (hid b_RdBytes_13) (hid b_RdBytes_16)
@[simp] def b_RdBytes_18 (_ : Unit) : EB := .cond (.t 12) (hid b_RdBytes_17) .skip
@[simp] def b_RdBytes_19 (_ : Unit) : EB := .seq (hid b_RdBytes_11) (hid b_RdBytes_18)
@[simp] def l_RdBytes_20 (_ : Unit) : List EOp := [⟨0, (some 5), none, (.q (.mov (.k (.slice none 0 0)))), []⟩]
@[simp] def b_RdBytes_21 (_ : Unit) : EB := reg0 (hid l_RdBytes_20) 1
@[simp] def l_RdBytes_22 (_ : Unit) : List EOp := [⟨0, (some 16), none, (.q (.mov (.t 0))), []⟩, ⟨1, (some 17), none, (.call 62 [(.t 16)]), []⟩, ⟨2, (some 6), none, (.q (.mov (.t 17))), []⟩]
@[simp] def b_RdBytes_23 (_ : Unit) : EB := reg0 (hid l_RdBytes_22) 3
@[simp] def l_RdBytes_24 (_ : Unit) : List EOp := [⟨0, (some 7), none, (.q (.mov (.k (.int .i64 0)))), []⟩]
@[simp] def b_RdBytes_25 (_ : Unit) : EB := reg0 (hid l_RdBytes_24) 1
@[simp] def l_RdBytes_26 (_ : Unit) : List EOp := [⟨0, (some 18), none, (.q (.mov (.t 7))), []⟩, ⟨1, (some 19), none, (.q (.mov (.t 6))), []⟩, ⟨2, (some 20), none, (.q (.len (.t 19))), []⟩, ⟨3, (some 21), none, (.q (.bin .lss (.t 18) (.t 20))), []⟩]
@[simp] def b_RdBytes_27 (_ : Unit) : EB := reg0 (hid l_RdBytes_26) 4
@[simp] def b_RdBytes_28 (_ : Unit) : EB := .cond (.t 21) .skip (.exit 0)
@[simp] def b_RdBytes_29 (_ : Unit) : EB := .seq (hid b_RdBytes_27) (hid b_RdBytes_28)
@[simp] def l_RdBytes_30 (_ : Unit) : List EOp := [⟨0, (some 24), none, (.q (.mov (.t 6))), []⟩, ⟨1, (some 25), none, (.q (.mov (.t 7))), []⟩, ⟨2, (some 26), none, (.q (.isl 1 (.t 24) (.t 25))), []⟩, ⟨3, (some 27), none, (.q (.ldc (.t 26))), []⟩, ⟨4, (some 8), none, (.q (.mov (.t 27))), []⟩]
@[simp] def b_RdBytes_31 (_ : Unit) : EB := reg0 (hid l_RdBytes_30) 5
@[simp] def l_RdBytes_32 (_ : Unit) : List EOp := [⟨0, (some 28), none, (.q (.mov (.t 8))), []⟩, ⟨1, (some 29), none, (.q (.bin .eql (.t 28) (.k (.int .u8 0)))), []⟩]
@[simp] def b_RdBytes_33 (_ : Unit) : EB := reg0 (hid l_RdBytes_32) 2
@[simp] def l_RdBytes_34 (_ : Unit) : List EOp := [⟨0, (some 30), none, (.q (.mov (.t 7))), []⟩, ⟨1, (some 31), none, (.q (.bin .add (.t 30) (.k (.int .i64 1)))), []⟩, ⟨2, (some 7), none, (.q (.mov (.t 31))), []⟩]
@[simp] def b_RdBytes_35 (_ : Unit) : EB := reg0 (hid l_RdBytes_34) 3
@[simp] def l_RdBytes_36 (_ : Unit) : List EOp := [⟨0, (some 33), none, (.q (.mov (.t 7))), []⟩, ⟨1, (some 34), none, (.q (.mov (.t 6))), []⟩, ⟨2, (some 35), none, (.q (.len (.t 34))), []⟩, ⟨3, (some 36), none, (.q (.bin .eql (.t 33) (.t 35))), []⟩, ⟨4, (some 32), none, (.q (.mov (.t 36))), []⟩]
@[simp] def b_RdBytes_37 (_ : Unit) : EB := reg0 (hid l_RdBytes_36) 5
@[simp] def l_RdBytes_38 (_ : Unit) : List EOp := [⟨0, (some 37), none, (.q (.mov (.t 0))), []⟩, ⟨1, (some 38), none, (.q (.mki 73 (.k (.int .i64 12)))), []⟩, ⟨2, (some 39), none, (.call 63 [(.t 37), (.t 38)]), []⟩]
@[simp] def b_RdBytes_39 (_ : Unit) : EB := reg0 (hid l_RdBytes_38) 3
@[simp] def l_RdBytes_40 (_ : Unit) : List EOp := [⟨0, (some 4), none, (.q (.mov (.k (.slice none 0 0)))), []⟩]
@[simp] def b_RdBytes_41 (_ : Unit) : EB := reg0 (hid l_RdBytes_40) 1
@[simp] def b_RdBytes_42 (_ : Unit) : EB := .seq (hid b_RdBytes_41) .ret
@[simp] def b_RdBytes_43 (_ : Unit) : EB := .seq (hid b_RdBytes_39) (hid b_RdBytes_42)
@[simp] def l_RdBytes_44 (_ : Unit) : List EOp := [⟨0, (some 41), none, (.q (.mov (.t 6))), []⟩, ⟨1, (some 42), none, (.q (.mov (.t 7))), []⟩, ⟨2, (some 43), none, (.q (.isl 1 (.t 41) (.t 42))), []⟩, ⟨3, (some 44), none, (.q (.ldc (.t 43))), []⟩, ⟨4, (some 45), none, (.q (.bin .eql (.t 44) (.k (.int .u8 0)))), []⟩, ⟨5, (some 40), none, (.q (.mov (.t 45))), []⟩]
@[simp] def b_RdBytes_45 (_ : Unit) : EB := reg0 (hid l_RdBytes_44) 6
@[simp] def l_RdBytes_47 (_ : Unit) : List EOp := [⟨6, (some 52), none, (.q (.bin .add (.t 49) (.t 51))), []⟩, ⟨7, (some 53), none, (.q (.nilc (.t 46))), []⟩, ⟨8, (some 54), none, (.q (.fad 1 (.t 53))), []⟩, ⟨9, none, none, (.sto 1 (.t 54) (.t 52)), []⟩]
@[simp] def l_RdBytes_46 (_ : Unit) : List EOp := ⟨0, (some 46), none, (.q (.mov (.t 0))), []⟩ :: ⟨1, (some 47), none, (.q (.nilc (.t 46))), []⟩ :: ⟨2, (some 48), none, (.q (.fad 1 (.t 47))), []⟩ :: ⟨3, (some 49), none, (.q (.ldc (.t 48))), []⟩ :: ⟨4, (some 50), none, (.q (.mov (.t 7))), []⟩ :: ⟨5, (some 51), none, (.q (.bin .add (.t 50) (.k (.int .i64 1)))), []⟩ :: hid l_RdBytes_47
@[simp] def b_RdBytes_48 (_ : Unit) : EB := reg0 (hid l_RdBytes_46) 10
@[simp] def l_RdBytes_49 (_ : Unit) : List EOp := [⟨0, (some 55), none, (.q (.mov (.t 5))), []⟩, ⟨1, (some 4), none, (.q (.mov (.t 55))), []⟩]
@[simp] def b_RdBytes_50 (_ : Unit) : EB := reg0 (hid l_RdBytes_49) 2
@[simp] def b_RdBytes_51 (_ : Unit) : EB := .seq (hid b_RdBytes_50) .ret
@[simp] def b_RdBytes_52 (_ : Unit) : EB := .seq (hid b_RdBytes_48) (hid b_RdBytes_51)
@[simp] def l_RdBytes_53 (_ : Unit) : List EOp := [⟨0, (some 57), none, (.q (.mov (.t 6))), []⟩, ⟨1, (some 58), none, (.q (.mov (.t 7))), []⟩, ⟨2, (some 59), none, (.q (.isl 1 (.t 57) (.t 58))), []⟩, ⟨3, (some 60), none, (.q (.ldc (.t 59))), []⟩, ⟨4, (some 61), none, (.q (.bin .neq (.t 60) (.k (.int .u8 255)))), []⟩, ⟨5, (some 56), none, (.q (.mov (.t 61))), []⟩]
@[simp] def b_RdBytes_54 (_ : Unit) : EB := reg0 (hid l_RdBytes_53) 6
@[simp] def l_RdBytes_55 (_ : Unit) : List EOp := [⟨0, (some 62), none, (.q (.mov (.t 0))), []⟩, ⟨1, (some 63), none, (.q (.mki 73 (.k (.int .i64 3)))), []⟩, ⟨2, (some 64), none, (.call 63 [(.t 62), (.t 63)]), []⟩]
@[simp] def b_RdBytes_56 (_ : Unit) : EB := reg0 (hid l_RdBytes_55) 3
@[simp] def l_RdBytes_57 (_ : Unit) : List EOp := [⟨0, (some 4), none, (.q (.mov (.k (.slice none 0 0)))), []⟩]
@[simp] def b_RdBytes_58 (_ : Unit) : EB := reg0 (hid l_RdBytes_57) 1
@[simp] def b_RdBytes_59 (_ : Unit) : EB := .seq (hid b_RdBytes_58) .ret
@[simp] def b_RdBytes_60 (_ : Unit) : EB := .seq (hid b_RdBytes_56) (hid b_RdBytes_59)
@[simp] def b_RdBytes_61 (_ : Unit) : EB := .cond (.t 56) (hid b_RdBytes_60) .skip
@[simp] def b_RdBytes_62 (_ : Unit) : EB := .seq (hid b_RdBytes_54) (hid b_RdBytes_61)
@[simp] def b_RdBytes_63 (_ : Unit) : EB := .cond (.t 40) (hid b_RdBytes_52) (hid b_RdBytes_62)
@[simp] def b_RdBytes_64 (_ : Unit) : EB := .seq (hid b_RdBytes_45) (hid b_RdBytes_63)
@[simp] def b_RdBytes_65 (_ : Unit) : EB := .cond (.t 32) (hid b_RdBytes_43) (hid b_RdBytes_64)
@[simp] def b_RdBytes_66 (_ : Unit) : EB := .seq (hid b_RdBytes_37) (hid b_RdBytes_65)
@[simp] def b_RdBytes_67 (_ : Unit) : EB := .block 2 (hid b_RdBytes_66)
@[simp] def b_RdBytes_68 (_ : Unit) : EB := .seq (hid b_RdBytes_35) (hid b_RdBytes_67)
@[simp] def b_RdBytes_69 (_ : Unit) : EB := .cond (.t 29) (hid b_RdBytes_68) .skip
@[simp] def b_RdBytes_70 (_ : Unit) : EB := .seq (hid b_RdBytes_33) (hid b_RdBytes_69)
@[simp] def l_RdBytes_71 (_ : Unit) : List EOp := [⟨0, (some 65), none, (.q (.mov (.t 5))), []⟩, ⟨1, (some 66), none, (.q (.len (.t 65))), []⟩, ⟨2, (some 67), none, (.q (.mov (.t 1))), []⟩, ⟨3, (some 68), none, (.q (.bin .eql (.t 66) (.t 67))), []⟩]
@[simp] def b_RdBytes_72 (_ : Unit) : EB := reg0 (hid l_RdBytes_71) 4
@[simp] def l_RdBytes_73 (_ : Unit) : List EOp := [⟨0, (some 69), none, (.q (.mov (.t 0))), []⟩, ⟨1, (some 70), none, (.q (.mki 73 (.k (.int .i64 2)))), []⟩, ⟨2, (some 71), none, (.call 63 [(.t 69), (.t 70)]), []⟩]
@[simp] def b_RdBytes_74 (_ : Unit) : EB := reg0 (hid l_RdBytes_73) 3
@[simp] def l_RdBytes_75 (_ : Unit) : List EOp := [⟨0, (some 4), none, (.q (.mov (.k (.slice none 0 0)))), []⟩]
@[simp] def b_RdBytes_76 (_ : Unit) : EB := reg0 (hid l_RdBytes_75) 1
@[simp] def b_RdBytes_77 (_ : Unit) : EB := .seq (hid b_RdBytes_76) .ret
@[simp] def b_RdBytes_78 (_ : Unit) : EB := .seq (hid b_RdBytes_74) (hid b_RdBytes_77)
@[simp] def b_RdBytes_79 (_ : Unit) : EB := .cond (.t 68) (hid b_RdBytes_78) .skip
@[simp] def b_RdBytes_80 (_ : Unit) : EB := .seq (hid b_RdBytes_72) (hid b_RdBytes_79)
@[simp] def l_RdBytes_81 (_ : Unit) : List EOp := [⟨0, (some 72), none, (.q (.mov (.t 5))), []⟩, ⟨1, (some 73), none, (.q (.mov (.t 8))), []⟩, ⟨2, (some 74), none, (.q (.bsl 1 [(.int .u8 0)] 1 [(0, (.t 73))])), []⟩, ⟨3, (some 75), none, (.app 5 1 1 (.t 72) (.t 74)), []⟩, ⟨4, (some 5), none, (.q (.mov (.t 75))), []⟩]
@[simp] def b_RdBytes_82 (_ : Unit) : EB := reg0 (hid l_RdBytes_81) 5
@[simp] def b_RdBytes_83 (_ : Unit) : EB := .seq (hid b_RdBytes_80) (hid b_RdBytes_82)
@[simp] def b_RdBytes_84 (_ : Unit) : EB := .seq (hid b_RdBytes_70) (hid b_RdBytes_83)
@[simp] def b_RdBytes_85 (_ : Unit) : EB := .seq (hid b_RdBytes_31) (hid b_RdBytes_84)
@[simp] def b_RdBytes_86 (_ : Unit) : EB := .block 1 (hid b_RdBytes_85)
@[simp] def l_RdBytes_87 (_ : Unit) : List EOp := [⟨0, (some 22), none, (.q (.mov (.t 7))), []⟩, ⟨1, (some 23), none, (.q (.bin .add (.t 22) (.k (.int .i64 1)))), []⟩, ⟨2, (some 7), none, (.q (.mov (.t 23))), []⟩]
@[simp] def b_RdBytes_88 (_ : Unit) : EB := reg0 (hid l_RdBytes_87) 3
@[simp] def b_RdBytes_89 (_ : Unit) : EB := .seq (hid b_RdBytes_86) (hid b_RdBytes_88)
@[simp] def b_RdBytes_90 (_ : Unit) : EB := .seq (hid b_RdBytes_29) (hid b_RdBytes_89)
@[simp] def b_RdBytes_91 (_ : Unit) : EB := .loop (hid b_RdBytes_90)
@[simp] def b_RdBytes_92 (_ : Unit) : EB := .block 0 (hid b_RdBytes_91)
@[simp] def b_RdBytes_93 (_ : Unit) : EB := .seq (hid b_RdBytes_25) (hid b_RdBytes_92)
@[simp] def l_RdBytes_94 (_ : Unit) : List EOp := [⟨0, (some 76), none, (.q (.mov (.t 0))), []⟩, ⟨1, (some 77), none, (.q (.mki 73 (.k (.int .i64 12)))), []⟩, ⟨2, (some 78), none, (.call 63 [(.t 76), (.t 77)]), []⟩]
@[simp] def b_RdBytes_95 (_ : Unit) : EB := reg0 (hid l_RdBytes_94) 3
@[simp] def l_RdBytes_96 (_ : Unit) : List EOp := [⟨0, (some 4), none, (.q (.mov (.k (.slice none 0 0)))), []⟩]
@[simp] def b_RdBytes_97 (_ : Unit) : EB := reg0 (hid l_RdBytes_96) 1
@[simp] def b_RdBytes_98 (_ : Unit) : EB := .seq (hid b_RdBytes_97) .ret
@[simp] def b_RdBytes_99 (_ : Unit) : EB := .seq (hid b_RdBytes_95) (hid b_RdBytes_98)
@[simp] def b_RdBytes_100 (_ : Unit) : EB := .seq (hid b_RdBytes_93) (hid b_RdBytes_99)
@[simp] def b_RdBytes_101 (_ : Unit) : EB := .seq (hid b_RdBytes_23) (hid b_RdBytes_100)
@[simp] def b_RdBytes_102 (_ : Unit) : EB := .seq (hid b_RdBytes_21) (hid b_RdBytes_101)
@[simp] def b_RdBytes_103 (_ : Unit) : EB := .seq (hid b_RdBytes_19) (hid b_RdBytes_102)
@[simp] def b_RdBytes_104 (_ : Unit) : EB := .seq (hid b_RdBytes_9) (hid b_RdBytes_103)
@[simp] def b_RdBytes_105 (_ : Unit) : EB := .seq (hid b_RdBytes_2) (hid b_RdBytes_104)
def c_RdBytes : EB × List QOp × Nat := ((hid b_RdBytes_105), [(.mov (.t 4))], 79)
theorem k_RdBytes : cfun Tryd.prog 34 = some c_RdBytes := by kernel_rfl


/-- The number that bytes begin with, up to a bound: the error, the number, how many bytes it takes. -/
def numS (b : List UInt8) (most : Nat) : Nat × Nat × Nat :=
  match b with
  | [] => (12, 0, 0)
  | c :: r => if 8 < c.toNat then (3, 0, 0) else
    let q := lowS r c.toNat 0
    if q.2 ≠ 0 then (q.2, 0, 0) else if most < q.1 then (4, 0, 0) else (0, q.1, 1 + c.toNat)

theorem low_lt (r : List UInt8) (many : Nat) (mask : UInt8) (hm : many ≤ 8) : (lowS r many mask).1 < 18446744073709551616 := by
  unfold lowS
  split
  · simp
  split
  · simp
  have h1 := val_lt ((r.take many).map (· ^^^ mask))
  have h2 : ((r.take many).map (· ^^^ mask)).length ≤ 8 := by simp <;> omega
  have h3 := Nat.pow_le_pow_right (show 0 < 256 by omega) h2
  have h4 : (256 : Nat) ^ 8 = 18446744073709551616 := by decide
  show valB _ < _
  omega
theorem low_len (r : List UInt8) (many : Nat) (mask : UInt8) (h : (lowS r many mask).2 = 0) : many ≤ r.length := by
  unfold lowS at h
  split at h
  · simp at h
  · omega
theorem numS_ok (b : List UInt8) (most : Nat) : (numS b most).2.1 < 18446744073709551616 ∧ (numS b most).2.1 ≤ most ∧ (numS b most).2.2 ≤ b.length ∧ ((numS b most).1 ≠ 0 → (numS b most).2.1 = 0 ∧ (numS b most).2.2 = 0) := by
  unfold numS
  split
  · simp
  rename_i c r
  split
  · simp
  rename_i h8
  have h1 := low_lt r c.toNat 0 (by omega)
  have h2 := low_len r c.toNat 0
  obtain ⟨q, hq⟩ : ∃ q, lowS r c.toNat 0 = q := ⟨_, rfl⟩
  rw [hq] at h1 h2
  simp only [hq]
  split
  · simp
  rename_i hq2
  have := h2 (by omega)
  split
  · simp
  · simp; omega

theorem RdDone_ok (l : List UInt8) (p e : Nat) (hp : p ≤ l.length) : ECalls Tryd.prog 36 [Ptr 0] [RdO l p e] fun y H' => H' = [some (RdO l p e)] ∧ y = .lit (errV (if e ≠ 0 then e else if p < l.length then 3 else 0)) := by
  refine ecalls k_RdDone ?_
  by_cases he : e = 0
  · subst he
    simp [c_RdDone, Ptr, RdO]
    refine alt (fun h => ?_) (fun h => ?_)
    · simp
      exact fin [] (by decide) rfl rfl rfl ⟨rfl, by simp [h]⟩
    · simp
      exact fin [] (by decide) rfl rfl rfl ⟨rfl, by simp [h]⟩
  · simp [c_RdDone, Ptr, RdO, he]
    exact fin [] (by decide) rfl rfl rfl ⟨rfl, by simp⟩

theorem RdDone_nil : ECalls Tryd.prog 36 [NP] [] fun y H' => H' = [] ∧ y = .lit (errV 1) := by
  refine ecalls k_RdDone ?_
  simp [c_RdDone, NP]
  exact fin [] (by decide) rfl rfl rfl ⟨rfl, rfl⟩

/-- The sum that bytes begin with. -/
def hashS (b : List UInt8) : Nat × List UInt8 × Nat := if b.length < 32 then (12, hz, 0) else (0, b.take 32, 32)
theorem RdHash_ok (l : List UInt8) (p : Nat) (hp : p ≤ l.length) (hl : l.length ≤ 1000000000) : ECalls Tryd.prog 35 [Ptr 0] [RdO l p 0] fun y H' => H' = [some (RdO l (p + (hashS (l.drop p)).2.2) (hashS (l.drop p)).1)] ∧ y = Ag (hashS (l.drop p)).2.1 := by
  refine ecalls k_RdHash ?_
  simp [c_RdHash, Ptr]
  refine callH [0] (off_ok l p 0) (by simp [Ptr, NP, I, R, RO, WO, RdO, Bs, EV.lit]) (by simp [Ptr, NP, I, R, RO, WO, RdO, Bs, EV.lit]) (by simp) (by simp [Ptr, NP, I, R, RO, WO, RdO, Bs, EV.lit]) (by simp [Wok]) ?_
  rintro y H' ⟨rfl, rfl⟩
  refine ⟨.inl (by simp [Ptr, NP, I, R, RO, WO, RdO, Bs, EV.lit]), le_ok rfl, ?_⟩
  simp [Ptr, NP, I, R, RO, WO, RdO, Bs, EV.lit]
  refine callH [0] (rest_ok l p 0 hp) (by simp [Ptr, NP, I, R, RO, WO, RdO, Bs, EV.lit]) (by simp [Ptr, NP, I, R, RO, WO, RdO, Bs, EV.lit]) (by simp) (by simp [Ptr, NP, I, R, RO, WO, RdO, Bs, EV.lit]) (by simp [Wok]) ?_
  rintro y H' ⟨rfl, rfl⟩
  refine ⟨.inl (by simp [Ptr, NP, I, R, RO, WO, RdO, Bs, EV.lit]), le_ok rfl, ?_⟩
  simp [Ptr, NP, I, R, RO, WO, RdO, Bs, EV.lit]
  refine alt (fun h => ?_) (fun h => ?_)
  · have hi : hashS (l.drop p) = (12, hz, 0) := by unfold hashS; rw [if_pos (by rw [List.length_drop]; omega)]
    rw [hi]
    simp
    refine callH [0] (fail_ok l p 0 12) (by simp [Ptr, NP, I, R, RO, WO, RdO, Bs, EV.lit]) (by simp [Ptr, NP, I, R, RO, WO, RdO, Bs, EV.lit]) (by simp) (by simp [Ptr, NP, I, R, RO, WO, RdO, Bs, EV.lit]) (by simp [Wok]) ?_
    rintro y H' ⟨rfl, rfl⟩
    refine ⟨.inl (by simp [Ptr, NP, I, R, RO, WO, RdO, Bs, EV.lit]), le_ok rfl, ?_⟩
    simp [Ptr, NP, I, R, RO, WO, RdO, Bs, EV.lit]
    exact fin [] (by decide) rfl rfl rfl ⟨rfl, rfl⟩
  · have hi : hashS (l.drop p) = (0, (l.drop p).take 32, 32) := by unfold hashS; rw [if_neg (by rw [List.length_drop]; omega)]
    rw [hi]
    simp
    have m1 : min (l.length - p) 32 = 32 := by omega
    have m2 : min 32 (l.length - p) = 32 := by omega
    have w6 : IntKind.i64.wrap ((p : Int) + 32) = (p : Int) + 32 := wrap_i64 (by omega) (by omega)
    refine callS [0] (rest_ok l p 0 hp) (by simp [Ptr, NP, I, R, RO, WO, RdO, Bs, EV.lit]) (by simp [Ptr, NP, I, R, RO, WO, RdO, Bs, EV.lit]) (by simp) (by simp [Ptr, NP, I, R, RO, WO, RdO, Bs, EV.lit]) (by intro i hi y H' h; obtain ⟨rfl, rfl⟩ := h; simp at hi; subst hi; simp [Ptr, NP, I, R, RO, WO, RdO, Bs, EV.lit]) ?_
    rintro y H' ⟨rfl, rfl⟩
    refine ⟨.inl (by simp [Ptr, NP, I, R, RO, WO, RdO, Bs, EV.lit]), le_ok rfl, ?_⟩
    simp [RdO, Bs, m1, m2, w6]
    exact fin [] (by decide) (v := Ag ((l.drop p).take 32)) (by simp [resV, evT, Ag, m1, m2, List.take_take]) (by simp [conR, conT, Ag]) rfl ⟨rfl, rfl⟩

theorem RdHash_off (l : List UInt8) (p e : Nat) (he : e ≠ 0) : ECalls Tryd.prog 35 [Ptr 0] [RdO l p e] fun y H' => H' = [some (RdO l p e)] ∧ y = Ag (hz) := by
  refine ecalls k_RdHash ?_
  simp [c_RdHash, Ptr]
  refine callH [0] (off_ok l p e) (by simp [Ptr, NP, I, R, RO, WO, RdO, Bs, EV.lit]) (by simp [Ptr, NP, I, R, RO, WO, RdO, Bs, EV.lit]) (by simp) (by simp [Ptr, NP, I, R, RO, WO, RdO, Bs, EV.lit]) (by simp [Wok]) ?_
  rintro y H' ⟨rfl, rfl⟩
  refine ⟨.inl (by simp [Ptr, NP, I, R, RO, WO, RdO, Bs, EV.lit]), le_ok rfl, ?_⟩
  simp [he, RdO]
  exact fin [] (by decide) rfl rfl rfl ⟨rfl, rfl⟩

theorem RdHash_nil : ECalls Tryd.prog 35 [NP] [] fun y H' => H' = [] ∧ y = Ag (hz) := by
  refine ecalls k_RdHash ?_
  simp [c_RdHash, NP]
  refine call0 off_nil (by simp [NP]) ?_
  rintro y H' ⟨rfl, rfl⟩
  simp
  exact fin [] (by decide) rfl rfl rfl ⟨rfl, rfl⟩

/-- What was taken off ahead, and what comes behind it. -/
def addS (out : List UInt8) (i : Nat) (q : Nat × List UInt8 × Nat) : Nat × List UInt8 × Nat := if q.1 ≠ 0 then (q.1, [], 0) else (0, out ++ q.2.1, i + q.2.2)
theorem addS_addS (o1 o2 : List UInt8) (i j : Nat) (q : Nat × List UInt8 × Nat) : addS o1 i (addS o2 j q) = addS (o1 ++ o2) (i + j) q := by
  by_cases h : q.1 = 0 <;> simp [addS, h, Nat.add_assoc]
/-- The bytes that bytes begin with, at most so many: the error, the bytes, how many it takes. -/
def bytS : List UInt8 → Nat → Nat × List UInt8 × Nat
  | [], _ => (12, [], 0)
  | c :: r, m => if c = 0 then (match r with
      | [] => (12, [], 0)
      | x :: r' => if x = 0 then (0, [], 2) else if x ≠ 255 then (3, [], 0) else if m = 0 then (2, [], 0) else addS [0] 2 (bytS r' (m - 1)))
    else if m = 0 then (2, [], 0) else addS [c] 1 (bytS r (m - 1))
theorem bytS_c {c : UInt8} {r : List UInt8} {m : Nat} (h : c ≠ 0) (hm : m ≠ 0) : bytS (c :: r) m = addS [c] 1 (bytS r (m - 1)) := by rw [bytS.eq_def]; simp [h, hm]
theorem bytS_0 {r : List UInt8} {m : Nat} (hm : m ≠ 0) : bytS (0 :: 255 :: r) m = addS [0] 2 (bytS r (m - 1)) := by rw [bytS.eq_def]; simp [hm]
theorem bytS_len : ∀ (b : List UInt8) (m : Nat), (bytS b m).2.2 ≤ b.length ∧ (bytS b m).2.1.length ≤ m ∧ (bytS b m).2.1.length ≤ b.length ∧ ((bytS b m).1 ≠ 0 → (bytS b m).2.1 = [] ∧ (bytS b m).2.2 = 0)
  | [], m => by simp [bytS]
  | [c], m => by
    by_cases h : c = 0
    · subst h; simp [bytS]
    · by_cases hm : m = 0
      · subst hm; simp [bytS, h]
      · rw [bytS_c h hm]; simp [bytS, addS]
  | c :: x :: r, m => by
    by_cases h : c = 0
    · subst h
      by_cases h1 : x = 0
      · subst h1; simp [bytS]
      · by_cases h2 : x = 255
        · subst h2
          by_cases hm : m = 0
          · subst hm; simp [bytS]
          · rw [bytS_0 hm]
            have := bytS_len r (m - 1)
            unfold addS
            split
            · simp
            · simp; omega
        · have : bytS (0 :: x :: r) m = (3, [], 0) := by rw [bytS.eq_def]; simp [h1, h2]
          rw [this]; simp
    · by_cases hm : m = 0
      · subst hm; simp [bytS, h]
      · rw [bytS_c h hm]
        have := bytS_len (x :: r) (m - 1)
        unfold addS
        split
        · simp
        · simp at this ⊢; omega

theorem drop_cons {α : Type} {b : List α} {i : Nat} {c : α} (h : b[i]? = some c) : b.drop i = c :: b.drop (i + 1) := by
  have hi : i < b.length := lt_len h
  rw [List.drop_eq_getElem_cons hi]
  congr 1
  rw [List.getElem?_eq_getElem hi] at h
  exact Option.some.inj h
theorem bsv_get {b : List UInt8} {i : Nat} {c : UInt8} (h : b[i]? = some c) : (bsv b)[i]? = some (cb c) := by simp [bsv, h]

theorem RdBytes_off (l : List UInt8) (p e : Nat) (most : Int) (he : e ≠ 0) : ECalls Tryd.prog 34 [Ptr 0, I .i64 most] [RdO l p e] fun y H' => H' = [some (RdO l p e)] ∧ y = Bs [] := by
  refine ecalls k_RdBytes ?_
  simp [c_RdBytes, Ptr, I]
  refine callH [0] (off_ok l p e) (by simp [Ptr, NP, I, R, RO, WO, RdO, Bs, EV.lit]) (by simp [Ptr, NP, I, R, RO, WO, RdO, Bs, EV.lit]) (by simp) (by simp [Ptr, NP, I, R, RO, WO, RdO, Bs, EV.lit]) (by simp [Wok]) ?_
  rintro y H' ⟨rfl, rfl⟩
  refine ⟨.inl (by simp [Ptr, NP, I, R, RO, WO, RdO, Bs, EV.lit]), le_ok rfl, ?_⟩
  simp [he, RdO]
  refine finW _ (weak_nilF 4 1 rfl) ?_
  exact fin [] (by decide) rfl rfl rfl ⟨rfl, rfl⟩

theorem RdBytes_nil (most : Int) : ECalls Tryd.prog 34 [NP, I .i64 most] [] fun y H' => H' = [] ∧ y = Bs [] := by
  refine ecalls k_RdBytes ?_
  simp [c_RdBytes, NP, I]
  refine call0 off_nil (by simp [NP]) ?_
  rintro y H' ⟨rfl, rfl⟩
  simp
  refine finW _ (weak_nilF 4 1 rfl) ?_
  exact fin [] (by decide) rfl rfl rfl ⟨rfl, rfl⟩

/-- The same, for any bound. -/
def bytZ (b : List UInt8) (most : Int) : Nat × List UInt8 × Nat := if most < 0 then (1, [], 0) else bytS b most.toNat

set_option maxHeartbeats 2000000 in
theorem RdBytes_ok (l : List UInt8) (p : Nat) (most : Int) (hp : p ≤ l.length) (hl : l.length ≤ 1000000000) : ECalls Tryd.prog 34 [Ptr 0, I .i64 most] [RdO l p 0] fun y H' => H' = [some (RdO l (p + (bytZ (l.drop p) most).2.2) (bytZ (l.drop p) most).1)] ∧ y = Bs (bytZ (l.drop p) most).2.1 := by
  refine ecalls k_RdBytes ?_
  simp [c_RdBytes, Ptr, I]
  refine callH [0] (off_ok l p 0) (by simp [Ptr, NP, I, R, RO, WO, RdO, Bs, EV.lit]) (by simp [Ptr, NP, I, R, RO, WO, RdO, Bs, EV.lit]) (by simp) (by simp [Ptr, NP, I, R, RO, WO, RdO, Bs, EV.lit]) (by simp [Wok]) ?_
  rintro y H' ⟨rfl, rfl⟩
  refine ⟨.inl (by simp [Ptr, NP, I, R, RO, WO, RdO, Bs, EV.lit]), le_ok rfl, ?_⟩
  simp [Ptr, NP, I, R, RO, WO, RdO, Bs, EV.lit]
  refine alt (fun hneg => ?_) (fun hneg => ?_)
  · have hi : bytZ (l.drop p) most = (1, [], 0) := by rw [bytZ, if_pos hneg]
    rw [hi]
    simp
    refine callH [0] (fail_ok l p 0 1) (by simp [Ptr, NP, I, R, RO, WO, RdO, Bs, EV.lit]) (by simp [Ptr, NP, I, R, RO, WO, RdO, Bs, EV.lit]) (by simp) (by simp [Ptr, NP, I, R, RO, WO, RdO, Bs, EV.lit]) (by simp [Wok]) ?_
    rintro y H' ⟨rfl, rfl⟩
    refine ⟨.inl (by simp [Ptr, NP, I, R, RO, WO, RdO, Bs, EV.lit]), le_ok rfl, ?_⟩
    simp [Ptr, NP, I, R, RO, WO, RdO, Bs, EV.lit]
    refine finW _ (weak_nilF 4 1 rfl) ?_
    exact fin [] (by decide) rfl rfl rfl ⟨rfl, rfl⟩
  have hi : bytZ (l.drop p) most = bytS (l.drop p) most.toNat := by rw [bytZ, if_neg hneg]
  rw [hi]
  obtain ⟨k, rfl⟩ : ∃ k : Nat, most = k := ⟨most.toNat, by omega⟩
  simp
  refine callH [0] (rest_ok l p 0 hp) (by simp [Ptr, NP, I, R, RO, WO, RdO, Bs, EV.lit]) (by simp [Ptr, NP, I, R, RO, WO, RdO, Bs, EV.lit]) (by simp) (by simp [Ptr, NP, I, R, RO, WO, RdO, Bs, EV.lit]) (by simp [Wok]) ?_
  rintro y H' ⟨rfl, rfl⟩
  refine ⟨.inl (by simp [Ptr, NP, I, R, RO, WO, RdO, Bs, EV.lit]), le_ok rfl, ?_⟩
  obtain ⟨b, hb⟩ : ∃ b, l.drop p = b := ⟨_, rfl⟩
  have hbl : b.length = l.length - p := by rw [← hb, List.length_drop]
  simp only [hb]
  simp [RdO, Bs]
  refine loopW _ (weak_nilR 5 5 1 rfl (by omega)) ?_
  refine eloop (α := Nat × List UInt8) (fun a => a.1 ≤ b.length ∧ a.2.length ≤ a.1 ∧ a.2.length ≤ k ∧ bytS b k = addS a.2 a.1 (bytS (b.drop a.1) (k - a.2.length))) (fun a => b.length - a.1)
    (fun a => [Ptr 0, I .i64 k, .any, .any, .any, R 1 a.2, Bs b, I .i64 a.1, .any, .any, .any, .any, .any, .any, .any, .any, .any, .any, .any, .any, .any, .any, .any, .any, .any, .any, .any, .any, .any, .any, .any, .any, .any, .any, .any, .any, .any, .any, .any, .any, .any, .any, .any, .any, .any, .any, .any, .any, .any, .any, .any, .any, .any, .any, .any, .any, .any, .any, .any, .any, .any, .any, .any, .any, .any, .any, .any, .any, .any, .any, .any, .any, .any, .any, .any, .any, .any, .any, .any]) (fun a => [some (RdO l p 0), some (RO a.2)]) (0, []) [0, 161]
    ⟨by simp, by simp, by simp, by
      have := (bytS_len b k).2.2.2
      simp only [addS, List.drop_zero, List.length_nil, Nat.sub_zero, List.nil_append, Nat.zero_add]
      split
      · rename_i h; rw [← (this h).1, ← (this h).2]
      · rename_i h; simp at h; rw [← h]⟩ (by simp [Ptr, I, R, Bs]) (by simp [RdO, RO]) (by simp) (by simp) (by simp) ?_
  rintro ⟨i, out⟩ ⟨hi1, hi2, hi3, hi4⟩
  simp [Ptr, I, R, Bs, RdO, RO] at hi1 hi2 hi3 hi4 ⊢
  refine alt (fun hlt => ?_) (fun hlt => ?_)
  rotate_left
  · have : i = b.length := by omega
    subst this
    have hi : bytS b k = (12, [], 0) := by rw [hi4]; simp [bytS, addS]
    rw [hi]
    simp
    refine callH [0] (fail_ok l p 0 12) (by simp [Ptr, NP, I, R, RO, WO, RdO, Bs, EV.lit]) (by simp [Ptr, NP, I, R, RO, WO, RdO, Bs, EV.lit]) (by simp) (by simp [Ptr, NP, I, R, RO, WO, RdO, Bs, EV.lit]) (by simp [Wok]) ?_
    rintro y H' ⟨rfl, rfl⟩
    refine ⟨.inl (by simp [Ptr, NP, I, R, RO, WO, RdO, Bs, EV.lit]), le_ok rfl, ?_⟩
    simp [Ptr, NP, I, R, RO, WO, RdO, Bs, EV.lit]
    refine finW _ (weak_nilF 4 1 rfl) ?_
    exact fin [] (by decide) rfl rfl rfl ⟨rfl, rfl⟩
  obtain ⟨c, hc⟩ : ∃ c, b[i]? = some c := ⟨b[i], by simp [hlt]⟩
  have hcb := bsv_get hc
  have hdc := drop_cons hc
  rw [hdc] at hi4
  have w1 : IntKind.i64.wrap ((i : Int) + 1) = ((i + 1 : Nat) : Int) := wrap_i64 (by omega) (by omega)
  simp [hcb, cb]
  refine alt (fun hz => ?_) (fun hz => ?_)
  · have hc0 : c = 0 := by apply UInt8.toNat_inj.1; simpa using hz
    subst hc0
    simp [w1, -Int.natCast_add]
    refine alt (fun he => ?_) (fun he => ?_)
    · have hd : b.drop (i + 1) = [] := by rw [List.drop_eq_nil_iff]; omega
      have hi : bytS b k = (12, [], 0) := by rw [hi4, hd]; simp [bytS, addS]
      rw [hi]
      simp
      refine callH [0] (fail_ok l p 0 12) (by simp [Ptr, NP, I, R, RO, WO, RdO, Bs, EV.lit]) (by simp [Ptr, NP, I, R, RO, WO, RdO, Bs, EV.lit]) (by simp) (by simp [Ptr, NP, I, R, RO, WO, RdO, Bs, EV.lit]) (by simp [Wok]) ?_
      rintro y H' ⟨rfl, rfl⟩
      refine ⟨.inl (by simp [Ptr, NP, I, R, RO, WO, RdO, Bs, EV.lit]), le_ok rfl, ?_⟩
      simp [Ptr, NP, I, R, RO, WO, RdO, Bs, EV.lit]
      refine finW _ (weak_nilF 4 1 rfl) ?_
      exact fin [] (by decide) rfl rfl rfl ⟨rfl, rfl⟩
    obtain ⟨x, hx⟩ : ∃ x, b[i + 1]? = some x := ⟨b[i + 1]'(by omega), by simp <;> omega⟩
    have hxb := bsv_get hx
    have hdx := drop_cons hx
    rw [hdx] at hi4
    simp [hxb, cb, -Int.natCast_add]
    refine alt (fun hz2 => ?_) (fun hz2 => ?_)
    · have hx0 : x = 0 := by apply UInt8.toNat_inj.1; simpa using hz2
      subst hx0
      have hi : bytS b k = (0, out, i + 2) := by rw [hi4]; simp [bytS, addS]
      rw [hi]
      have w2 : IntKind.i64.wrap (((i + 1 : Nat) : Int) + 1) = ((i + 2 : Nat) : Int) := wrap_i64 (by omega) (by omega)
      have w3 : IntKind.i64.wrap ((p : Int) + ((i + 2 : Nat) : Int)) = ((p + (i + 2) : Nat) : Int) := by rw [wrap_i64 (by omega) (by omega)]; omega
      simp [w2, w3, -Int.natCast_add]
      refine finW _ (weak_frz (o := 1) (ty := 5) (es := 1) (xs := bsv out) rfl) ?_
      exact fin [] (by decide) rfl rfl rfl ⟨rfl, by simp [Bs]⟩
    have hx0 : x ≠ 0 := by rintro rfl; exact hz2 rfl
    simp [hxb, cb, -Int.natCast_add]
    refine alt (fun h255 => ?_) (fun h255 => ?_)
    · have hx1 : x ≠ 255 := by rintro rfl; exact h255 rfl
      have hi : bytS b k = (3, [], 0) := by rw [hi4]; simp [bytS, addS, hx0, hx1]
      rw [hi]
      simp
      refine callH [0] (fail_ok l p 0 3) (by simp [Ptr, NP, I, R, RO, WO, RdO, Bs, EV.lit]) (by simp [Ptr, NP, I, R, RO, WO, RdO, Bs, EV.lit]) (by simp) (by simp [Ptr, NP, I, R, RO, WO, RdO, Bs, EV.lit]) (by simp [Wok]) ?_
      rintro y H' ⟨rfl, rfl⟩
      refine ⟨.inl (by simp [Ptr, NP, I, R, RO, WO, RdO, Bs, EV.lit]), le_ok rfl, ?_⟩
      simp [Ptr, NP, I, R, RO, WO, RdO, Bs, EV.lit]
      refine finW _ (weak_nilF 4 1 rfl) ?_
      exact fin [] (by decide) rfl rfl rfl ⟨rfl, rfl⟩
    have hx1 : x = 255 := by apply UInt8.toNat_inj.1; simp at h255; simp; omega
    subst hx1
    simp [-Int.natCast_add]
    refine alt (fun hk => ?_) (fun hk => ?_)
    · have hi : bytS b k = (2, [], 0) := by rw [hi4]; simp [bytS, addS, show k - out.length = 0 by omega]
      rw [hi]
      simp
      refine callH [0] (fail_ok l p 0 2) (by simp [Ptr, NP, I, R, RO, WO, RdO, Bs, EV.lit]) (by simp [Ptr, NP, I, R, RO, WO, RdO, Bs, EV.lit]) (by simp) (by simp [Ptr, NP, I, R, RO, WO, RdO, Bs, EV.lit]) (by simp [Wok]) ?_
      rintro y H' ⟨rfl, rfl⟩
      refine ⟨.inl (by simp [Ptr, NP, I, R, RO, WO, RdO, Bs, EV.lit]), le_ok rfl, ?_⟩
      simp [Ptr, NP, I, R, RO, WO, RdO, Bs, EV.lit]
      refine finW _ (weak_nilF 4 1 rfl) ?_
      exact fin [] (by decide) rfl rfl rfl ⟨rfl, rfl⟩
    have w2 : IntKind.i64.wrap (((i + 1 : Nat) : Int) + 1) = ((i + 2 : Nat) : Int) := wrap_i64 (by omega) (by omega)
    simp [w2, -Int.natCast_add]
    refine ⟨by omega, round (i + 2, out ++ [0]) [0, 610] ⟨by simp <;> omega, by simp <;> omega, by simp <;> omega, ?_⟩ (by simp <;> omega) (by simp) (by simp [bsv, cb]) (by simp) (by simp) (by simp)⟩
    rw [hi4, bytS_0 (by omega), addS_addS]
    simp [Nat.sub_sub]
  · have hc0 : c ≠ 0 := by rintro rfl; exact hz rfl
    simp
    refine alt (fun hk => ?_) (fun hk => ?_)
    · have hi : bytS b k = (2, [], 0) := by rw [hi4, show k - out.length = 0 by omega, bytS.eq_def]; simp [hc0, addS]
      rw [hi]
      simp
      refine callH [0] (fail_ok l p 0 2) (by simp [Ptr, NP, I, R, RO, WO, RdO, Bs, EV.lit]) (by simp [Ptr, NP, I, R, RO, WO, RdO, Bs, EV.lit]) (by simp) (by simp [Ptr, NP, I, R, RO, WO, RdO, Bs, EV.lit]) (by simp [Wok]) ?_
      rintro y H' ⟨rfl, rfl⟩
      refine ⟨.inl (by simp [Ptr, NP, I, R, RO, WO, RdO, Bs, EV.lit]), le_ok rfl, ?_⟩
      simp [Ptr, NP, I, R, RO, WO, RdO, Bs, EV.lit]
      refine finW _ (weak_nilF 4 1 rfl) ?_
      exact fin [] (by decide) rfl rfl rfl ⟨rfl, rfl⟩
    simp [w1, -Int.natCast_add]
    refine ⟨by omega, round (i + 1, out ++ [c]) [0, 290] ⟨by simp <;> omega, by simp <;> omega, by simp <;> omega, ?_⟩ (by simp <;> omega) (by simp) (by simp [bsv, cb]) (by simp) (by simp) (by simp)⟩
    rw [hi4, bytS_c hc0 (by omega), addS_addS]
    simp [Nat.sub_sub]

end Go.Proofs.YtpilpjameifcfaaDoor
