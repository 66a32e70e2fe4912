import Derived.Test.YtpilpjameifcfaaDoorPWire1
import Derived.Test.YtpilpjameifcfaaDoorPEwX
namespace Go.Proofs.YtpilpjameifcfaaDoor
open Go Go.EW
set_option linter.unusedSimpArgs false
set_option linter.unusedVariables false

@[simp] def l_DecodeOp_1 (_ : Unit) : List EOp := [⟨0, (some 2), none, (.q (.alloc 47 (([(.int .i64 0), (.int .i64 0), (.int .i64 0), (.int .i64 0), (.int .i64 0), (.int .i64 0), (.int .i64 0)] : List Value) ++ zU8 ++ [(.slice none 0 0)]))), []⟩, ⟨1, (some 3), none, (.q (.mov (.k .nilIface))), []⟩]
@[simp] def b_DecodeOp_2 (_ : Unit) : EB := reg0 (hid l_DecodeOp_1) 2
@[simp] def l_DecodeOp_3 (_ : Unit) : List EOp := [⟨0, (some 6), none, (.q (.mov (.t 0))), []⟩, ⟨1, (some 7), none, (.call 32 [(.t 6)]), []⟩, ⟨2, (some 4), none, (.q (.mov (.t 7))), []⟩]
@[simp] def b_DecodeOp_4 (_ : Unit) : EB := reg0 (hid l_DecodeOp_3) 3
@[simp] def l_DecodeOp_6 (_ : Unit) : List EOp := [⟨6, (some 14), none, (.q (.build (([(.int .i64 0), (.int .i64 0), (.int .i64 0), (.int .i64 0), (.int .i64 0), (.int .i64 0), (.int .i64 0)] : List Value) ++ zU8 ++ [(.slice none 0 0)]) [(0, 1, (.t 9)), (1, 1, (.t 11)), (2, 1, (.t 13))])), []⟩, ⟨7, (some 5), none, (.q (.alloc 47 (([(.int .i64 0), (.int .i64 0), (.int .i64 0), (.int .i64 0), (.int .i64 0), (.int .i64 0), (.int .i64 0)] : List Value) ++ zU8 ++ [(.slice none 0 0)]))), []⟩, ⟨8, none, none, (.fz (.sto 40 (.t 5) (.t 14))), []⟩]
@[simp] def l_DecodeOp_5 (_ : Unit) : List EOp := ⟨0, (some 8), none, (.q (.mov (.t 4))), []⟩ :: ⟨1, (some 9), none, (.call 33 [(.t 8)]), []⟩ :: ⟨2, (some 10), none, (.q (.mov (.t 4))), []⟩ :: ⟨3, (some 11), none, (.call 33 [(.t 10)]), []⟩ :: ⟨4, (some 12), none, (.q (.mov (.t 4))), []⟩ :: ⟨5, (some 13), none, (.call 33 [(.t 12)]), []⟩ :: hid l_DecodeOp_6
@[simp] def b_DecodeOp_7 (_ : Unit) : EB := reg0 (hid l_DecodeOp_5) 9
@[simp] def l_DecodeOp_10 (_ : Unit) : List EOp := [⟨12, none, none, (.sto 36 (.t 26) (.t 25)), []⟩]
@[simp] def l_DecodeOp_9 (_ : Unit) : List EOp := ⟨6, (some 21), none, (.q (.mov (.t 4))), []⟩ :: ⟨7, (some 22), none, (.call 33 [(.t 21)]), []⟩ :: ⟨8, (some 23), none, (.q (.mov (.t 4))), []⟩ :: ⟨9, (some 24), none, (.call 35 [(.t 23)]), []⟩ :: ⟨10, (some 25), none, (.q (.build (([(.int .i64 0), (.int .i64 0), (.int .i64 0), (.int .i64 0)] : List Value) ++ zU8) [(0, 1, (.t 16)), (1, 1, (.t 18)), (2, 1, (.t 20)), (3, 1, (.t 22)), (4, 32, (.t 24))])), []⟩ :: ⟨11, (some 26), none, (.q (.fad 3 (.t 5))), []⟩ :: hid l_DecodeOp_10
@[simp] def l_DecodeOp_8 (_ : Unit) : List EOp := ⟨0, (some 15), none, (.q (.mov (.t 4))), []⟩ :: ⟨1, (some 16), none, (.call 33 [(.t 15)]), []⟩ :: ⟨2, (some 17), none, (.q (.mov (.t 4))), []⟩ :: ⟨3, (some 18), none, (.call 33 [(.t 17)]), []⟩ :: ⟨4, (some 19), none, (.q (.mov (.t 4))), []⟩ :: ⟨5, (some 20), none, (.call 33 [(.t 19)]), []⟩ :: hid l_DecodeOp_9
@[simp] def b_DecodeOp_11 (_ : Unit) : EB := reg0 (hid l_DecodeOp_8) 13
@[simp] def l_DecodeOp_12 (_ : Unit) : List EOp := [⟨0, (some 27), none, (.q (.mov (.t 4))), []⟩, ⟨1, (some 28), none, (.call 34 [(.t 27), (.k (.int .i64 64))]), []⟩, ⟨2, (some 29), none, (.q (.fad 39 (.t 5))), []⟩, ⟨3, none, none, (.fz (.sto 1 (.t 29) (.t 28))), []⟩]
@[simp] def b_DecodeOp_13 (_ : Unit) : EB := reg0 (hid l_DecodeOp_12) 4
@[simp] def l_DecodeOp_14 (_ : Unit) : List EOp := [⟨0, (some 30), none, (.q (.mov (.t 4))), []⟩, ⟨1, (some 31), none, (.call 36 [(.t 30)]), []⟩, ⟨2, (some 32), none, (.q (.eqi true (.t 31))), []⟩]
@[simp] def b_DecodeOp_15 (_ : Unit) : EB := reg0 (hid l_DecodeOp_14) 3
@[simp] def l_DecodeOp_16 (_ : Unit) : List EOp := [⟨0, (some 33), none, (.q (.build (([(.int .i64 0), (.int .i64 0), (.int .i64 0), (.int .i64 0), (.int .i64 0), (.int .i64 0), (.int .i64 0)] : List Value) ++ zU8 ++ [(.slice none 0 0)]) [])), []⟩, ⟨1, (some 34), none, (.q (.mki 73 (.k (.int .i64 3)))), []⟩, ⟨2, none, none, (.fz (.sto 40 (.t 2) (.t 33))), []⟩, ⟨3, (some 3), none, (.q (.mov (.t 34))), []⟩]
@[simp] def b_DecodeOp_17 (_ : Unit) : EB := reg0 (hid l_DecodeOp_16) 4
@[simp] def b_DecodeOp_18 (_ : Unit) : EB := .seq (hid b_DecodeOp_17) .ret
@[simp] def b_DecodeOp_19 (_ : Unit) : EB := .cond (.t 32) (hid b_DecodeOp_18) .skip
@[simp] def b_DecodeOp_20 (_ : Unit) : EB := .seq (hid b_DecodeOp_15) (hid b_DecodeOp_19)
@[simp] def l_DecodeOp_21 (_ : Unit) : List EOp := [⟨0, (some 35), none, (.q (.lda 40 (.t 5))), []⟩, ⟨1, none, none, (.fz (.sto 40 (.t 2) (.t 35))), []⟩, ⟨2, (some 3), none, (.q (.mov (.k .nilIface))), []⟩]
@[simp] def b_DecodeOp_22 (_ : Unit) : EB := reg0 (hid l_DecodeOp_21) 3
@[simp] def b_DecodeOp_23 (_ : Unit) : EB := .seq (hid b_DecodeOp_22) .ret
@[simp] def b_DecodeOp_24 (_ : Unit) : EB := .seq (hid b_DecodeOp_20) (hid b_DecodeOp_23)
@[simp] def b_DecodeOp_25 (_ : Unit) : EB := .seq (hid b_DecodeOp_13) (hid b_DecodeOp_24)
@[simp] def b_DecodeOp_26 (_ : Unit) : EB := .seq (hid b_DecodeOp_11) (hid b_DecodeOp_25)
@[simp] def b_DecodeOp_27 (_ : Unit) : EB := .seq (hid b_DecodeOp_7) (hid b_DecodeOp_26)
@[simp] def b_DecodeOp_28 (_ : Unit) : EB := .seq (hid b_DecodeOp_4) (hid b_DecodeOp_27)
@[simp] def b_DecodeOp_29 (_ : Unit) : EB := .seq (hid b_DecodeOp_2) (hid b_DecodeOp_28)
def c_DecodeOp : EB × List QOp × Nat := ((hid b_DecodeOp_29), [(.lda 40 (.t 2)), (.mov (.t 3))], 36)
theorem k_DecodeOp : cfun Tryd.prog 15 = some c_DecodeOp := by kernel_rfl

@[simp] def l_RDecodeOp_1 (_ : Unit) : List EOp := [⟨0, (some 2), none, (.q (.alloc 33 (([(.int .i64 0), (.int .i64 0), (.int .i64 0), (.int .i64 0), (.int .i64 0), (.int .i64 0), (.int .i64 0)] : List Value) ++ zU8 ++ [(.slice none 0 0)]))), []⟩, ⟨1, (some 3), none, (.q (.mov (.k (.int .i64 0)))), []⟩]
@[simp] def b_RDecodeOp_2 (_ : Unit) : EB := reg0 (hid l_RDecodeOp_1) 2
@[simp] def l_RDecodeOp_3 (_ : Unit) : List EOp := [⟨0, (some 6), none, (.q (.build (([(.int .i64 0), (.int .i64 0), (.int .i64 0), (.int .i64 0), (.int .i64 0), (.int .i64 0), (.int .i64 0)] : List Value) ++ zU8 ++ [(.slice none 0 0)]) [])), []⟩, ⟨1, (some 4), none, (.q (.alloc 33 (([(.int .i64 0), (.int .i64 0), (.int .i64 0), (.int .i64 0), (.int .i64 0), (.int .i64 0), (.int .i64 0)] : List Value) ++ zU8 ++ [(.slice none 0 0)]))), []⟩, ⟨2, none, none, (.fz (.sto 40 (.t 4) (.t 6))), []⟩]
@[simp] def b_RDecodeOp_4 (_ : Unit) : EB := reg0 (hid l_RDecodeOp_3) 3
@[simp] def l_RDecodeOp_5 (_ : Unit) : List EOp := [⟨0, (some 7), none, (.q (.mov (.t 0))), []⟩, ⟨1, (some 8), none, (.q (.build [(.slice none 0 0), (.int .i64 0)] [(0, 1, (.t 7))])), []⟩, ⟨2, (some 5), none, (.q (.alloc 92 [(.slice none 0 0), (.int .i64 0)])), []⟩, ⟨3, none, none, (.fz (.sto 2 (.t 5) (.t 8))), []⟩]
@[simp] def b_RDecodeOp_6 (_ : Unit) : EB := reg0 (hid l_RDecodeOp_5) 4
@[simp] def l_RDecodeOp_8 (_ : Unit) : List EOp := [⟨6, (some 14), none, (.q (.fad 0 (.t 4))), []⟩, ⟨7, none, none, (.sto 1 (.t 14) (.t 13)), []⟩]
@[simp] def l_RDecodeOp_7 (_ : Unit) : List EOp := ⟨0, (some 10), none, (.q (.lda 2 (.t 5))), []⟩ :: ⟨1, (some 11), none, (.call 37 [(.t 10)]), []⟩ :: ⟨2, (some 9), none, (.q (.mov (.t 11))), []⟩ :: ⟨3, (some 12), none, (.q (.ext 0 (.t 9))), []⟩ :: ⟨4, (some 13), none, (.q (.ext 1 (.t 9))), []⟩ :: ⟨5, none, none, (.fz (.sto 2 (.t 5) (.t 12))), []⟩ :: hid l_RDecodeOp_8
@[simp] def b_RDecodeOp_9 (_ : Unit) : EB := reg0 (hid l_RDecodeOp_7) 8
@[simp] def l_RDecodeOp_11 (_ : Unit) : List EOp := [⟨6, (some 20), none, (.q (.fad 1 (.t 4))), []⟩, ⟨7, none, none, (.sto 1 (.t 20) (.t 19)), []⟩]
@[simp] def l_RDecodeOp_10 (_ : Unit) : List EOp := ⟨0, (some 16), none, (.q (.lda 2 (.t 5))), []⟩ :: ⟨1, (some 17), none, (.call 37 [(.t 16)]), []⟩ :: ⟨2, (some 15), none, (.q (.mov (.t 17))), []⟩ :: ⟨3, (some 18), none, (.q (.ext 0 (.t 15))), []⟩ :: ⟨4, (some 19), none, (.q (.ext 1 (.t 15))), []⟩ :: ⟨5, none, none, (.fz (.sto 2 (.t 5) (.t 18))), []⟩ :: hid l_RDecodeOp_11
@[simp] def b_RDecodeOp_12 (_ : Unit) : EB := reg0 (hid l_RDecodeOp_10) 8
@[simp] def l_RDecodeOp_14 (_ : Unit) : List EOp := [⟨6, (some 26), none, (.q (.fad 2 (.t 4))), []⟩, ⟨7, none, none, (.sto 1 (.t 26) (.t 25)), []⟩]
@[simp] def l_RDecodeOp_13 (_ : Unit) : List EOp := ⟨0, (some 22), none, (.q (.lda 2 (.t 5))), []⟩ :: ⟨1, (some 23), none, (.call 37 [(.t 22)]), []⟩ :: ⟨2, (some 21), none, (.q (.mov (.t 23))), []⟩ :: ⟨3, (some 24), none, (.q (.ext 0 (.t 21))), []⟩ :: ⟨4, (some 25), none, (.q (.ext 1 (.t 21))), []⟩ :: ⟨5, none, none, (.fz (.sto 2 (.t 5) (.t 24))), []⟩ :: hid l_RDecodeOp_14
@[simp] def b_RDecodeOp_15 (_ : Unit) : EB := reg0 (hid l_RDecodeOp_13) 8
@[simp] def l_RDecodeOp_17 (_ : Unit) : List EOp := [⟨6, (some 32), none, (.q (.fad 3 (.t 4))), []⟩, ⟨7, (some 33), none, (.q (.fad 0 (.t 32))), []⟩, ⟨8, none, none, (.sto 1 (.t 33) (.t 31)), []⟩]
@[simp] def l_RDecodeOp_16 (_ : Unit) : List EOp := ⟨0, (some 28), none, (.q (.lda 2 (.t 5))), []⟩ :: ⟨1, (some 29), none, (.call 37 [(.t 28)]), []⟩ :: ⟨2, (some 27), none, (.q (.mov (.t 29))), []⟩ :: ⟨3, (some 30), none, (.q (.ext 0 (.t 27))), []⟩ :: ⟨4, (some 31), none, (.q (.ext 1 (.t 27))), []⟩ :: ⟨5, none, none, (.fz (.sto 2 (.t 5) (.t 30))), []⟩ :: hid l_RDecodeOp_17
@[simp] def b_RDecodeOp_18 (_ : Unit) : EB := reg0 (hid l_RDecodeOp_16) 9
@[simp] def l_RDecodeOp_20 (_ : Unit) : List EOp := [⟨6, (some 39), none, (.q (.fad 3 (.t 4))), []⟩, ⟨7, (some 40), none, (.q (.fad 1 (.t 39))), []⟩, ⟨8, none, none, (.sto 1 (.t 40) (.t 38)), []⟩]
@[simp] def l_RDecodeOp_19 (_ : Unit) : List EOp := ⟨0, (some 35), none, (.q (.lda 2 (.t 5))), []⟩ :: ⟨1, (some 36), none, (.call 37 [(.t 35)]), []⟩ :: ⟨2, (some 34), none, (.q (.mov (.t 36))), []⟩ :: ⟨3, (some 37), none, (.q (.ext 0 (.t 34))), []⟩ :: ⟨4, (some 38), none, (.q (.ext 1 (.t 34))), []⟩ :: ⟨5, none, none, (.fz (.sto 2 (.t 5) (.t 37))), []⟩ :: hid l_RDecodeOp_20
@[simp] def b_RDecodeOp_21 (_ : Unit) : EB := reg0 (hid l_RDecodeOp_19) 9
@[simp] def l_RDecodeOp_23 (_ : Unit) : List EOp := [⟨6, (some 46), none, (.q (.fad 3 (.t 4))), []⟩, ⟨7, (some 47), none, (.q (.fad 2 (.t 46))), []⟩, ⟨8, none, none, (.sto 1 (.t 47) (.t 45)), []⟩]
@[simp] def l_RDecodeOp_22 (_ : Unit) : List EOp := ⟨0, (some 42), none, (.q (.lda 2 (.t 5))), []⟩ :: ⟨1, (some 43), none, (.call 37 [(.t 42)]), []⟩ :: ⟨2, (some 41), none, (.q (.mov (.t 43))), []⟩ :: ⟨3, (some 44), none, (.q (.ext 0 (.t 41))), []⟩ :: ⟨4, (some 45), none, (.q (.ext 1 (.t 41))), []⟩ :: ⟨5, none, none, (.fz (.sto 2 (.t 5) (.t 44))), []⟩ :: hid l_RDecodeOp_23
@[simp] def b_RDecodeOp_24 (_ : Unit) : EB := reg0 (hid l_RDecodeOp_22) 9
@[simp] def l_RDecodeOp_26 (_ : Unit) : List EOp := [⟨6, (some 53), none, (.q (.fad 3 (.t 4))), []⟩, ⟨7, (some 54), none, (.q (.fad 3 (.t 53))), []⟩, ⟨8, none, none, (.sto 1 (.t 54) (.t 52)), []⟩]
@[simp] def l_RDecodeOp_25 (_ : Unit) : List EOp := ⟨0, (some 49), none, (.q (.lda 2 (.t 5))), []⟩ :: ⟨1, (some 50), none, (.call 37 [(.t 49)]), []⟩ :: ⟨2, (some 48), none, (.q (.mov (.t 50))), []⟩ :: ⟨3, (some 51), none, (.q (.ext 0 (.t 48))), []⟩ :: ⟨4, (some 52), none, (.q (.ext 1 (.t 48))), []⟩ :: ⟨5, none, none, (.fz (.sto 2 (.t 5) (.t 51))), []⟩ :: hid l_RDecodeOp_26
@[simp] def b_RDecodeOp_27 (_ : Unit) : EB := reg0 (hid l_RDecodeOp_25) 9
@[simp] def l_RDecodeOp_29 (_ : Unit) : List EOp := [⟨6, (some 60), none, (.q (.fad 3 (.t 4))), []⟩, ⟨7, (some 61), none, (.q (.fad 4 (.t 60))), []⟩, ⟨8, none, none, (.sto 32 (.t 61) (.t 59)), []⟩]
@[simp] def l_RDecodeOp_28 (_ : Unit) : List EOp := ⟨0, (some 56), none, (.q (.lda 2 (.t 5))), []⟩ :: ⟨1, (some 57), none, (.call 38 [(.t 56)]), []⟩ :: ⟨2, (some 55), none, (.q (.mov (.t 57))), []⟩ :: ⟨3, (some 58), none, (.q (.ext 0 (.t 55))), []⟩ :: ⟨4, (some 59), none, (.q (.ext 1 (.t 55))), []⟩ :: ⟨5, none, none, (.fz (.sto 2 (.t 5) (.t 58))), []⟩ :: hid l_RDecodeOp_29
@[simp] def b_RDecodeOp_30 (_ : Unit) : EB := reg0 (hid l_RDecodeOp_28) 9
@[simp] def l_RDecodeOp_32 (_ : Unit) : List EOp := [⟨6, (some 67), none, (.q (.fad 39 (.t 4))), []⟩, ⟨7, none, none, (.fz (.sto 1 (.t 67) (.t 66))), []⟩]
@[simp] def l_RDecodeOp_31 (_ : Unit) : List EOp := ⟨0, (some 63), none, (.q (.lda 2 (.t 5))), []⟩ :: ⟨1, (some 64), none, (.call 39 [(.t 63), (.k (.int .i64 64))]), []⟩ :: ⟨2, (some 62), none, (.q (.mov (.t 64))), []⟩ :: ⟨3, (some 65), none, (.q (.ext 0 (.t 62))), []⟩ :: ⟨4, (some 66), none, (.q (.ext 1 (.t 62))), []⟩ :: ⟨5, none, none, (.fz (.sto 2 (.t 5) (.t 65))), []⟩ :: hid l_RDecodeOp_32
@[simp] def b_RDecodeOp_33 (_ : Unit) : EB := reg0 (hid l_RDecodeOp_31) 8
@[simp] def l_RDecodeOp_34 (_ : Unit) : List EOp := [⟨0, (some 68), none, (.q (.lda 2 (.t 5))), []⟩, ⟨1, (some 69), none, (.call 40 [(.t 68)]), []⟩, ⟨2, (some 70), none, (.q (.bin .neq (.t 69) (.k (.int .i64 0)))), []⟩]
@[simp] def b_RDecodeOp_35 (_ : Unit) : EB := reg0 (hid l_RDecodeOp_34) 3
@[simp] def l_RDecodeOp_36 (_ : Unit) : List EOp := [⟨0, (some 71), none, (.q (.build (([(.int .i64 0), (.int .i64 0), (.int .i64 0), (.int .i64 0), (.int .i64 0), (.int .i64 0), (.int .i64 0)] : List Value) ++ zU8 ++ [(.slice none 0 0)]) [])), []⟩, ⟨1, none, none, (.fz (.sto 40 (.t 2) (.t 71))), []⟩, ⟨2, (some 3), none, (.q (.mov (.k (.int .i64 3)))), []⟩]
@[simp] def b_RDecodeOp_37 (_ : Unit) : EB := reg0 (hid l_RDecodeOp_36) 3
@[simp] def b_RDecodeOp_38 (_ : Unit) : EB := .seq (hid b_RDecodeOp_37) .ret
@[simp] def b_RDecodeOp_39 (_ : Unit) : EB := .cond (.t 70) (hid b_RDecodeOp_38) .skip
@[simp] def b_RDecodeOp_40 (_ : Unit) : EB := .seq (hid b_RDecodeOp_35) (hid b_RDecodeOp_39)
@[simp] def l_RDecodeOp_41 (_ : Unit) : List EOp := [⟨0, (some 72), none, (.q (.lda 40 (.t 4))), []⟩, ⟨1, none, none, (.fz (.sto 40 (.t 2) (.t 72))), []⟩, ⟨2, (some 3), none, (.q (.mov (.k (.int .i64 0)))), []⟩]
@[simp] def b_RDecodeOp_42 (_ : Unit) : EB := reg0 (hid l_RDecodeOp_41) 3
@[simp] def b_RDecodeOp_43 (_ : Unit) : EB := .seq (hid b_RDecodeOp_42) .ret
@[simp] def b_RDecodeOp_44 (_ : Unit) : EB := .seq (hid b_RDecodeOp_40) (hid b_RDecodeOp_43)
@[simp] def b_RDecodeOp_45 (_ : Unit) : EB := .seq (hid b_RDecodeOp_33) (hid b_RDecodeOp_44)
@[simp] def b_RDecodeOp_46 (_ : Unit) : EB := .seq (hid b_RDecodeOp_30) (hid b_RDecodeOp_45)
@[simp] def b_RDecodeOp_47 (_ : Unit) : EB := .seq (hid b_RDecodeOp_27) (hid b_RDecodeOp_46)
@[simp] def b_RDecodeOp_48 (_ : Unit) : EB := .seq (hid b_RDecodeOp_24) (hid b_RDecodeOp_47)
@[simp] def b_RDecodeOp_49 (_ : Unit) : EB := .seq (hid b_RDecodeOp_21) (hid b_RDecodeOp_48)
@[simp] def b_RDecodeOp_50 (_ : Unit) : EB := .seq (hid b_RDecodeOp_18) (hid b_RDecodeOp_49)
@[simp] def b_RDecodeOp_51 (_ : Unit) : EB := .seq (hid b_RDecodeOp_15) (hid b_RDecodeOp_50)
@[simp] def b_RDecodeOp_52 (_ : Unit) : EB := .seq (hid b_RDecodeOp_12) (hid b_RDecodeOp_51)
@[simp] def b_RDecodeOp_53 (_ : Unit) : EB := .seq (hid b_RDecodeOp_9) (hid b_RDecodeOp_52)
@[simp] def b_RDecodeOp_54 (_ : Unit) : EB := .seq (hid b_RDecodeOp_6) (hid b_RDecodeOp_53)
@[simp] def b_RDecodeOp_55 (_ : Unit) : EB := .seq (hid b_RDecodeOp_4) (hid b_RDecodeOp_54)
@[simp] def b_RDecodeOp_56 (_ : Unit) : EB := .seq (hid b_RDecodeOp_2) (hid b_RDecodeOp_55)
def c_RDecodeOp : EB × List QOp × Nat := ((hid b_RDecodeOp_56), [(.lda 40 (.t 2)), (.mov (.t 3))], 73)
theorem k_RDecodeOp : cfun Tryd.prog 16 = some c_RDecodeOp := by kernel_rfl


theorem RdInt_t (l : List UInt8) (σ : Rs) (hp : σ.1 ≤ l.length) (hl : l.length ≤ 1000000000) :
    ECalls Tryd.prog 33 [Ptr 0] [RdO l σ.1 σ.2] fun y H' => H' = [some (RdO l (tkI l σ).1.1 (tkI l σ).1.2)] ∧ y = I .i64 (tkI l σ).2 := RdInt_all l σ.1 σ.2 hp hl

theorem RdHash_t (l : List UInt8) (σ : Rs) (hp : σ.1 ≤ l.length) (hl : l.length ≤ 1000000000) :
    ECalls Tryd.prog 35 [Ptr 0] [RdO l σ.1 σ.2] fun y H' => H' = [some (RdO l (tkH l σ).1.1 (tkH l σ).1.2)] ∧ y = Ag (tkH l σ).2 := RdHash_all l σ.1 σ.2 hp hl

theorem RdBytes_t (l : List UInt8) (m : Int) (σ : Rs) (hp : σ.1 ≤ l.length) (hl : l.length ≤ 1000000000) :
    ECalls Tryd.prog 34 [Ptr 0, I .i64 m] [RdO l σ.1 σ.2] fun y H' => H' = [some (RdO l (tkY l m σ).1.1 (tkY l m σ).1.2)] ∧ y = Bs (tkY l m σ).2 := RdBytes_all l σ.1 σ.2 m hp hl

theorem RReadInt_t (l : List UInt8) (σ : Rs) (hp : σ.1 ≤ l.length) (hl : l.length ≤ 1000000000) :
    ECalls Tryd.prog 37 [RV (l.drop σ.1) σ.2] [] fun y H' => H' = [] ∧ y = .tup [.agg (rvC (l.drop (tkI l σ).1.1) (tkI l σ).1.2), .c (.fz (.lit (.int .i64 (tkI l σ).2)))] := by
  have e1 : (l.drop σ.1).drop (jS (l.drop σ.1) σ.2).2.2 = l.drop (tkI l σ).1.1 := by rw [List.drop_drop]; rfl
  have h := RReadInt_all (l.drop σ.1) σ.2 (by simp; omega)
  rw [e1] at h
  exact h

theorem RReadHash_t (l : List UInt8) (σ : Rs) (hp : σ.1 ≤ l.length) (hl : l.length ≤ 1000000000) :
    ECalls Tryd.prog 38 [RV (l.drop σ.1) σ.2] [] fun y H' => H' = [] ∧ y = .tup [.agg (rvC (l.drop (tkH l σ).1.1) (tkH l σ).1.2), .agg (hc (tkH l σ).2)] := by
  have e1 : (l.drop σ.1).drop (aS (l.drop σ.1) σ.2).2.2 = l.drop (tkH l σ).1.1 := by rw [List.drop_drop]; rfl
  have h := RReadHash_all (l.drop σ.1) σ.2 (by simp; omega)
  rw [e1] at h
  exact h

theorem RReadBytes_t (l : List UInt8) (m : Int) (σ : Rs) (hp : σ.1 ≤ l.length) (hl : l.length ≤ 1000000000) :
    ECalls Tryd.prog 39 [RV (l.drop σ.1) σ.2, I .i64 m] [] fun y H' => H' = [] ∧ y = .tup [.agg (rvC (l.drop (tkY l m σ).1.1) (tkY l m σ).1.2), .c (.fz (.sl 1 (bsv (tkY l m σ).2)))] := by
  have e1 : (l.drop σ.1).drop (yS (l.drop σ.1) σ.2 m).2.2 = l.drop (tkY l m σ).1.1 := by rw [List.drop_drop]; rfl
  have h := RReadBytes_all (l.drop σ.1) σ.2 m (by simp; omega)
  rw [e1] at h
  exact h

def WE (q : WOp × Nat) : EV := .tup [.agg (wopC q.1), .c (.fz (.lit (errV q.2)))]
def WR (q : WOp × Nat) : EV := .tup [.agg (wopC q.1), .c (.fz (.lit (.int .i64 (q.2 : Int))))]

set_option maxRecDepth 8000 in
set_option maxHeartbeats 8000000 in
theorem DecodeOp_ok (l : List UInt8) (hl : l.length ≤ 100000000) : ECalls Tryd.prog 15 [Bs l] [] fun y H' => H' = [] ∧ y = WE (decO l) := by
  have hl' : l.length ≤ 1000000000 := by omega
  obtain ⟨a, b, c, d, e, f, g, h, s, ha, hb, hc', hd, he, hf', hg, hh, hs, hr⟩ := rdO_eq l
  have ta := RdInt_t l (0, 0) (by simp) hl'
  have pa := tkI_p (l := l) (σ := (0, 0)) (by simp)
  rw [ha] at ta pa
  have tb := RdInt_t l a.1 pa.1 hl'
  have pb := tkI_p pa.1
  rw [hb] at tb pb
  have tc := RdInt_t l b.1 pb.1 hl'
  have pc := tkI_p pb.1
  rw [hc'] at tc pc
  have td := RdInt_t l c.1 pc.1 hl'
  have pd := tkI_p pc.1
  rw [hd] at td pd
  have te := RdInt_t l d.1 pd.1 hl'
  have pe := tkI_p pd.1
  rw [he] at te pe
  have tf := RdInt_t l e.1 pe.1 hl'
  have pf := tkI_p pe.1
  rw [hf'] at tf pf
  have tg := RdInt_t l f.1 pf.1 hl'
  have pg := tkI_p pf.1
  rw [hg] at tg pg
  have th := RdHash_t l g.1 pg.1 hl'
  have ph := tkH_p pg.1
  rw [hh] at th ph
  have ts := RdBytes_t l 64 h.1 ph.1 hl'
  have ps := tkY_p (m := 64) ph.1
  rw [hs] at ts
  rw [show ((64 : Nat) : Int) = 64 from rfl, hs] at ps
  have h32 := ph.2
  have t32 : h.2.take 32 = h.2 := List.take_of_length_le (by omega)
  have hcn : hc ([] : List UInt8) = [] := rfl
  refine ecalls k_DecodeOp ?_
  simp [c_DecodeOp, Bs]
  refine call0 (Read_ok l) (by simp [Ptr, NP, I, RdO, Bs, EV.lit, Ag, RV, rvC]) ?_
  rintro y H' ⟨rfl, rfl⟩
  refine ⟨.inl (by simp [Ptr, NP, I, RdO, Bs, EV.lit, Ag, RV, rvC]), le_ok rfl, ?_⟩
  simp [Ptr, NP, I, RdO, Bs, EV.lit, Ag, RV, rvC]
  refine callH [48] (ta) (by simp [Ptr, NP, I, RdO, Bs, EV.lit, Ag, RV, rvC]) (by simp [Ptr, NP, I, RdO, Bs, EV.lit, Ag, RV, rvC]) (by simp) (by simp [Ptr, NP, I, RdO, Bs, EV.lit, Ag, RV, rvC]) (by simp [Wok]) ?_
  rintro y H' ⟨rfl, rfl⟩
  refine ⟨.inl (by simp [Ptr, NP, I, RdO, Bs, EV.lit, Ag, RV, rvC]), le_ok rfl, ?_⟩
  simp [Ptr, NP, I, RdO, Bs, EV.lit, Ag, RV, rvC]
  refine callH [48] (tb) (by simp [Ptr, NP, I, RdO, Bs, EV.lit, Ag, RV, rvC]) (by simp [Ptr, NP, I, RdO, Bs, EV.lit, Ag, RV, rvC]) (by simp) (by simp [Ptr, NP, I, RdO, Bs, EV.lit, Ag, RV, rvC]) (by simp [Wok]) ?_
  rintro y H' ⟨rfl, rfl⟩
  refine ⟨.inl (by simp [Ptr, NP, I, RdO, Bs, EV.lit, Ag, RV, rvC]), le_ok rfl, ?_⟩
  simp [Ptr, NP, I, RdO, Bs, EV.lit, Ag, RV, rvC]
  refine callH [48] (tc) (by simp [Ptr, NP, I, RdO, Bs, EV.lit, Ag, RV, rvC]) (by simp [Ptr, NP, I, RdO, Bs, EV.lit, Ag, RV, rvC]) (by simp) (by simp [Ptr, NP, I, RdO, Bs, EV.lit, Ag, RV, rvC]) (by simp [Wok]) ?_
  rintro y H' ⟨rfl, rfl⟩
  refine ⟨.inl (by simp [Ptr, NP, I, RdO, Bs, EV.lit, Ag, RV, rvC]), le_ok rfl, ?_⟩
  simp [Ptr, NP, I, RdO, Bs, EV.lit, Ag, RV, rvC]
  refine callH [48] (td) (by simp [Ptr, NP, I, RdO, Bs, EV.lit, Ag, RV, rvC]) (by simp [Ptr, NP, I, RdO, Bs, EV.lit, Ag, RV, rvC]) (by simp) (by simp [Ptr, NP, I, RdO, Bs, EV.lit, Ag, RV, rvC]) (by simp [Wok]) ?_
  rintro y H' ⟨rfl, rfl⟩
  refine ⟨.inl (by simp [Ptr, NP, I, RdO, Bs, EV.lit, Ag, RV, rvC]), le_ok rfl, ?_⟩
  simp [Ptr, NP, I, RdO, Bs, EV.lit, Ag, RV, rvC]
  refine callH [48] (te) (by simp [Ptr, NP, I, RdO, Bs, EV.lit, Ag, RV, rvC]) (by simp [Ptr, NP, I, RdO, Bs, EV.lit, Ag, RV, rvC]) (by simp) (by simp [Ptr, NP, I, RdO, Bs, EV.lit, Ag, RV, rvC]) (by simp [Wok]) ?_
  rintro y H' ⟨rfl, rfl⟩
  refine ⟨.inl (by simp [Ptr, NP, I, RdO, Bs, EV.lit, Ag, RV, rvC]), le_ok rfl, ?_⟩
  simp [Ptr, NP, I, RdO, Bs, EV.lit, Ag, RV, rvC]
  refine callH [48] (tf) (by simp [Ptr, NP, I, RdO, Bs, EV.lit, Ag, RV, rvC]) (by simp [Ptr, NP, I, RdO, Bs, EV.lit, Ag, RV, rvC]) (by simp) (by simp [Ptr, NP, I, RdO, Bs, EV.lit, Ag, RV, rvC]) (by simp [Wok]) ?_
  rintro y H' ⟨rfl, rfl⟩
  refine ⟨.inl (by simp [Ptr, NP, I, RdO, Bs, EV.lit, Ag, RV, rvC]), le_ok rfl, ?_⟩
  simp [Ptr, NP, I, RdO, Bs, EV.lit, Ag, RV, rvC]
  refine callH [48] (tg) (by simp [Ptr, NP, I, RdO, Bs, EV.lit, Ag, RV, rvC]) (by simp [Ptr, NP, I, RdO, Bs, EV.lit, Ag, RV, rvC]) (by simp) (by simp [Ptr, NP, I, RdO, Bs, EV.lit, Ag, RV, rvC]) (by simp [Wok]) ?_
  rintro y H' ⟨rfl, rfl⟩
  refine ⟨.inl (by simp [Ptr, NP, I, RdO, Bs, EV.lit, Ag, RV, rvC]), le_ok rfl, ?_⟩
  simp [Ptr, NP, I, RdO, Bs, EV.lit, Ag, RV, rvC]
  refine callH [48] (th) (by simp [Ptr, NP, I, RdO, Bs, EV.lit, Ag, RV, rvC]) (by simp [Ptr, NP, I, RdO, Bs, EV.lit, Ag, RV, rvC]) (by simp) (by simp [Ptr, NP, I, RdO, Bs, EV.lit, Ag, RV, rvC]) (by simp [Wok]) ?_
  rintro y H' ⟨rfl, rfl⟩
  refine ⟨.inl (by simp [Ptr, NP, I, RdO, Bs, EV.lit, Ag, RV, rvC]), le_ok rfl, ?_⟩
  simp [RdO, Ag, h32, t32, hcn]
  refine callH [48] (ts) (by simp [Ptr, NP, I, RdO, Bs, EV.lit, Ag, RV, rvC]) (by simp [Ptr, NP, I, RdO, Bs, EV.lit, Ag, RV, rvC]) (by simp) (by simp [Ptr, NP, I, RdO, Bs, EV.lit, Ag, RV, rvC]) (by simp [Wok]) ?_
  rintro y H' ⟨rfl, rfl⟩
  refine ⟨.inl (by simp [Ptr, NP, I, RdO, Bs, EV.lit, Ag, RV, rvC]), le_ok rfl, ?_⟩
  simp [RdO, Bs, h32, t32, hcn]
  obtain ⟨E, hE⟩ : ∃ E, (if s.1.2 ≠ 0 then s.1.2 else if s.1.1 < l.length then 3 else 0) = E := ⟨_, rfl⟩
  have tD := RdDone_ok l s.1.1 s.1.2 ps.1
  rw [hE] at tD
  refine callH [48] (tD) (by simp [Ptr, NP, I, RdO, Bs, EV.lit, Ag, RV, rvC]) (by simp [Ptr, NP, I, RdO, Bs, EV.lit, Ag, RV, rvC]) (by simp) (by simp [Ptr, NP, I, RdO, Bs, EV.lit, Ag, RV, rvC]) (by simp [Wok]) ?_
  rintro y H' ⟨rfl, rfl⟩
  refine ⟨.inl (by simp [Ptr, NP, I, RdO, Bs, EV.lit, Ag, RV, rvC]), le_ok rfl, ?_⟩
  by_cases hE0 : E = 0
  · subst hE0
    have hdo : decO l = (⟨a.2, b.2, c.2, ⟨d.2, e.2, f.2, g.2, h.2⟩, s.2⟩, 0) := by
      simp only [decO, hr]
      rw [if_neg]
      intro h
      by_cases h1 : s.1.2 = 0
      · rw [if_neg (by omega), if_pos (by omega)] at hE; omega
      · rw [if_pos h1] at hE; exact h1 hE
    rw [hdo]
    simp [RdO, EV.lit, WE, wopC, h32, t32, hcn, -errV_0]
    exact fin [] (by decide) (v := WE (⟨a.2, b.2, c.2, ⟨d.2, e.2, f.2, g.2, h.2⟩, s.2⟩, 0)) (by simp [resV, resT, evT, asT, WE, wopC, h32, t32, hcn, tk33 h32, -errV_0]; rfl) (by simp [conR, conTs, conT, WE, wopC]) rfl ⟨rfl, rfl⟩
  · have hdo : decO l = (zOp, 3) := by
      simp only [decO, hr]
      rw [if_pos]
      by_cases h1 : s.1.2 = 0
      · by_cases h2 : s.1.1 < l.length
        · exact .inr h2
        · rw [if_neg (by omega), if_neg h2] at hE; exact absurd hE.symm hE0
      · exact .inl h1
    have hv : errV E = .iface 73 (.int .i64 E) := by rw [errV, if_neg hE0]
    rw [hdo]
    simp [hv, RdO, EV.lit, WE, wopC, zOp]
    refine finW _ (weak_nlB (o := 0) (k := 39) 1 rfl rfl) ?_
    exact fin [] (by decide) rfl rfl rfl ⟨rfl, rfl⟩

set_option maxRecDepth 8000 in
set_option maxHeartbeats 8000000 in
theorem RDecodeOp_ok (l : List UInt8) (hl : l.length ≤ 100000000) : ECalls Tryd.prog 16 [Bs l] [] fun y H' => H' = [] ∧ y = WR (decO l) := by
  have hl' : l.length ≤ 1000000000 := by omega
  obtain ⟨a, b, c, d, e, f, g, h, s, ha, hb, hc', hd, he, hf', hg, hh, hs, hr⟩ := rdO_eq l
  have ta := RReadInt_t l (0, 0) (by simp) hl'
  have pa := tkI_p (l := l) (σ := (0, 0)) (by simp)
  rw [ha] at ta pa
  simp only [List.drop_zero] at ta
  have tb := RReadInt_t l a.1 pa.1 hl'
  have pb := tkI_p pa.1
  rw [hb] at tb pb
  have tc := RReadInt_t l b.1 pb.1 hl'
  have pc := tkI_p pb.1
  rw [hc'] at tc pc
  have td := RReadInt_t l c.1 pc.1 hl'
  have pd := tkI_p pc.1
  rw [hd] at td pd
  have te := RReadInt_t l d.1 pd.1 hl'
  have pe := tkI_p pd.1
  rw [he] at te pe
  have tf := RReadInt_t l e.1 pe.1 hl'
  have pf := tkI_p pe.1
  rw [hf'] at tf pf
  have tg := RReadInt_t l f.1 pf.1 hl'
  have pg := tkI_p pf.1
  rw [hg] at tg pg
  have th := RReadHash_t l g.1 pg.1 hl'
  have ph := tkH_p pg.1
  rw [hh] at th ph
  have ts := RReadBytes_t l 64 h.1 ph.1 hl'
  have ps := tkY_p (m := 64) ph.1
  rw [hs] at ts
  rw [show ((64 : Nat) : Int) = 64 from rfl, hs] at ps
  have h32 := ph.2
  have t32 : h.2.take 32 = h.2 := List.take_of_length_le (by omega)
  have hcn : hc ([] : List UInt8) = [] := rfl
  refine ecalls k_RDecodeOp ?_
  simp [c_RDecodeOp, Bs]
  refine call0 (ta) (by simp [Ptr, NP, I, RdO, Bs, EV.lit, Ag, RV, rvC]) ?_
  rintro y H' ⟨rfl, rfl⟩
  refine ⟨.inl (by simp [Ptr, NP, I, RdO, Bs, EV.lit, Ag, RV, rvC]), le_ok rfl, ?_⟩
  simp [Ptr, NP, I, RdO, Bs, EV.lit, Ag, RV, rvC]
  refine call0 (tb) (by simp [Ptr, NP, I, RdO, Bs, EV.lit, Ag, RV, rvC]) ?_
  rintro y H' ⟨rfl, rfl⟩
  refine ⟨.inl (by simp [Ptr, NP, I, RdO, Bs, EV.lit, Ag, RV, rvC]), le_ok rfl, ?_⟩
  simp [Ptr, NP, I, RdO, Bs, EV.lit, Ag, RV, rvC]
  refine call0 (tc) (by simp [Ptr, NP, I, RdO, Bs, EV.lit, Ag, RV, rvC]) ?_
  rintro y H' ⟨rfl, rfl⟩
  refine ⟨.inl (by simp [Ptr, NP, I, RdO, Bs, EV.lit, Ag, RV, rvC]), le_ok rfl, ?_⟩
  simp [Ptr, NP, I, RdO, Bs, EV.lit, Ag, RV, rvC]
  refine call0 (td) (by simp [Ptr, NP, I, RdO, Bs, EV.lit, Ag, RV, rvC]) ?_
  rintro y H' ⟨rfl, rfl⟩
  refine ⟨.inl (by simp [Ptr, NP, I, RdO, Bs, EV.lit, Ag, RV, rvC]), le_ok rfl, ?_⟩
  simp [Ptr, NP, I, RdO, Bs, EV.lit, Ag, RV, rvC]
  refine call0 (te) (by simp [Ptr, NP, I, RdO, Bs, EV.lit, Ag, RV, rvC]) ?_
  rintro y H' ⟨rfl, rfl⟩
  refine ⟨.inl (by simp [Ptr, NP, I, RdO, Bs, EV.lit, Ag, RV, rvC]), le_ok rfl, ?_⟩
  simp [Ptr, NP, I, RdO, Bs, EV.lit, Ag, RV, rvC]
  refine call0 (tf) (by simp [Ptr, NP, I, RdO, Bs, EV.lit, Ag, RV, rvC]) ?_
  rintro y H' ⟨rfl, rfl⟩
  refine ⟨.inl (by simp [Ptr, NP, I, RdO, Bs, EV.lit, Ag, RV, rvC]), le_ok rfl, ?_⟩
  simp [Ptr, NP, I, RdO, Bs, EV.lit, Ag, RV, rvC]
  refine call0 (tg) (by simp [Ptr, NP, I, RdO, Bs, EV.lit, Ag, RV, rvC]) ?_
  rintro y H' ⟨rfl, rfl⟩
  refine ⟨.inl (by simp [Ptr, NP, I, RdO, Bs, EV.lit, Ag, RV, rvC]), le_ok rfl, ?_⟩
  simp [Ptr, NP, I, RdO, Bs, EV.lit, Ag, RV, rvC]
  refine call0 (th) (by simp [Ptr, NP, I, RdO, Bs, EV.lit, Ag, RV, rvC]) ?_
  rintro y H' ⟨rfl, rfl⟩
  refine ⟨.inl (by simp [Ptr, NP, I, RdO, Bs, EV.lit, Ag, RV, rvC]), le_ok rfl, ?_⟩
  simp [rvC, h32, t32, hcn]
  refine call0 (ts) (by simp [Ptr, NP, I, RdO, Bs, EV.lit, Ag, RV, rvC]) ?_
  rintro y H' ⟨rfl, rfl⟩
  refine ⟨.inl (by simp [Ptr, NP, I, RdO, Bs, EV.lit, Ag, RV, rvC]), le_ok rfl, ?_⟩
  simp [rvC, Bs, h32, t32, hcn]
  refine call0 (RDone_ok (l.drop s.1.1) s.1.2) (by simp [Ptr, NP, I, RdO, Bs, EV.lit, Ag, RV, rvC]) ?_
  rintro y H' ⟨rfl, rfl⟩
  refine ⟨.inl (by simp [Ptr, NP, I, RdO, Bs, EV.lit, Ag, RV, rvC]), le_ok rfl, ?_⟩
  by_cases hE0 : s.1.2 ≠ 0 ∨ s.1.1 < l.length
  · have hdo : decO l = (zOp, 3) := by
      simp only [decO, hr]
      rw [if_pos hE0]
    rw [hdo]
    have hne : ¬ (if s.1.2 ≠ 0 then s.1.2 else if (l.drop s.1.1).length ≠ 0 then 3 else 0) = 0 := by
      rw [List.length_drop]
      by_cases h1 : s.1.2 = 0
      · rw [if_neg (by omega), if_pos (by omega)]; omega
      · rw [if_pos h1]; exact h1
    obtain ⟨E, hE⟩ : ∃ E, (if s.1.2 ≠ 0 then s.1.2 else if (l.drop s.1.1).length ≠ 0 then 3 else 0) = E := ⟨_, rfl⟩
    rw [hE] at hne ⊢
    simp [I, hne, WR, wopC, zOp]
    refine finW _ (weak_nlB (o := 0) (k := 39) 1 rfl rfl) ?_
    exact fin [] (by decide) rfl rfl rfl ⟨rfl, rfl⟩
  · have hdo : decO l = (⟨a.2, b.2, c.2, ⟨d.2, e.2, f.2, g.2, h.2⟩, s.2⟩, 0) := by
      simp only [decO, hr]
      rw [if_neg hE0]
    have hz : (if s.1.2 ≠ 0 then s.1.2 else if (l.drop s.1.1).length ≠ 0 then 3 else 0) = 0 := by
      rw [List.length_drop, if_neg (by omega), if_neg (by omega)]
    rw [hdo, hz]
    simp [I, WR, wopC, h32, t32, hcn]
    exact fin [] (by decide) (v := WR (⟨a.2, b.2, c.2, ⟨d.2, e.2, f.2, g.2, h.2⟩, s.2⟩, 0)) (by simp [resV, resT, evT, asT, WR, wopC, h32, t32, hcn, tk33 h32]) (by simp [conR, conTs, conT, WR, wopC]) rfl ⟨rfl, rfl⟩

end Go.Proofs.YtpilpjameifcfaaDoor
