import Derived.Test.YtpilpjameifcfaaGreatDoorWire5
namespace Go.Proofs.YtpilpjameifcfaaGreatDoor
open Go Go.EW
set_option linter.unusedSimpArgs false
set_option linter.unusedVariables false

@[simp] def l_RWEncode_1 (_ : Unit) : List EOp := [⟨0, (some 1), none, (.q (.box 56 (.t 0))), []⟩, ⟨1, (some 2), none, (.q (.mov (.k (.slice none 0 0)))), []⟩]
@[simp] def b_RWEncode_2 (_ : Unit) : EB := reg0 (hid l_RWEncode_1) 2
@[simp] def l_RWEncode_4 (_ : Unit) : List EOp := [⟨2, (some 6), none, (.call 54 [(.k (.slice none 0 0)), (.t 5)]), [3, 4, 6, 7]⟩, ⟨5, (some 9), none, (.call 54 [(.t 6), (.t 8)]), [6, 7]⟩, ⟨8, (some 12), none, (.call 22 [(.t 11)]), []⟩, ⟨9, (some 13), none, (.call 53 [(.t 9), (.t 12)]), []⟩, ⟨10, (some 3), none, (.q (.mov (.t 13))), []⟩]
@[simp] def l_RWEncode_3 (_ : Unit) : List EOp := ⟨0, (some 4), none, (.q (.fad 0 (.t 1))), []⟩ :: ⟨1, (some 5), none, (.q (.ldc (.t 4))), []⟩ :: ⟨3, (some 7), none, (.q (.fad 1 (.t 1))), []⟩ :: ⟨4, (some 8), none, (.q (.ldc (.t 7))), []⟩ :: ⟨6, (some 10), none, (.q (.fad 2 (.t 1))), []⟩ :: ⟨7, (some 11), none, (.q (.lda 40 (.t 10))), []⟩ :: hid l_RWEncode_4
@[simp] def b_RWEncode_5 (_ : Unit) : EB := reg1 (hid l_RWEncode_3) 11
@[simp] def l_RWEncode_7 (_ : Unit) : List EOp := [⟨6, (some 20), none, (.call 53 [(.t 17), (.t 19)]), []⟩, ⟨7, (some 2), none, (.q (.mov (.t 20))), []⟩]
@[simp] def l_RWEncode_6 (_ : Unit) : List EOp := ⟨0, (some 14), none, (.q (.mov (.t 3))), []⟩ :: ⟨1, (some 15), none, (.q (.fad 42 (.t 1))), []⟩ :: ⟨2, (some 16), none, (.q (.lda 32 (.t 15))), []⟩ :: ⟨4, (some 18), none, (.q (.fad 74 (.t 1))), []⟩ :: ⟨5, (some 19), none, (.q (.ldc (.t 18))), []⟩ :: ⟨3, (some 17), none, (.call 41 [(.t 14), (.t 16)]), [4, 5]⟩ :: hid l_RWEncode_7
@[simp] def b_RWEncode_8 (_ : Unit) : EB := reg1 (hid l_RWEncode_6) 8
@[simp] def b_RWEncode_9 (_ : Unit) : EB := .seq (hid b_RWEncode_8) .ret
@[simp] def b_RWEncode_10 (_ : Unit) : EB := .seq (hid b_RWEncode_5) (hid b_RWEncode_9)
@[simp] def b_RWEncode_11 (_ : Unit) : EB := .seq (hid b_RWEncode_2) (hid b_RWEncode_10)
def c_RWEncode : EB × List QOp × Nat := ((hid b_RWEncode_11), [(.mov (.t 2))], 21)
theorem k_RWEncode : cfun Tryz.prog 20 = some c_RWEncode := by kernel_rfl

@[simp] def l_WDecode_1 (_ : Unit) : List EOp := [⟨0, (some 2), none, (.q (.alloc 58 (([(.int .i64 0), (.int .i64 0), (.int .i64 0), (.int .i64 0), (.int .i64 0), (.int .i64 0), (.int .i64 0), (.int .i64 0), (.int .i64 0)] : List Value) ++ zU8 ++ (([(.slice none 0 0)] : List Value) ++ zU8 ++ [(.slice none 0 0)])))), []⟩, ⟨1, (some 3), none, (.q (.mov (.k .nilIface))), []⟩]
@[simp] def b_WDecode_2 (_ : Unit) : EB := reg0 (hid l_WDecode_1) 2
@[simp] def l_WDecode_3 (_ : Unit) : List EOp := [⟨0, (some 8), none, (.q (.mov (.t 0))), []⟩, ⟨1, (some 9), none, (.call 42 [(.t 8)]), []⟩, ⟨2, (some 4), none, (.q (.mov (.t 9))), []⟩]
@[simp] def b_WDecode_4 (_ : Unit) : EB := reg0 (hid l_WDecode_3) 3
@[simp] def l_WDecode_6 (_ : Unit) : List EOp := [⟨6, none, none, (.fz (.sto 75 (.t 5) (.t 14))), []⟩]
@[simp] def l_WDecode_5 (_ : Unit) : List EOp := ⟨0, (some 10), none, (.q (.mov (.t 4))), []⟩ :: ⟨1, (some 11), none, (.call 43 [(.t 10)]), []⟩ :: ⟨2, (some 12), none, (.q (.mov (.t 4))), []⟩ :: ⟨3, (some 13), none, (.call 43 [(.t 12)]), []⟩ :: ⟨4, (some 14), none, (.q (.build (([(.int .i64 0), (.int .i64 0), (.int .i64 0), (.int .i64 0), (.int .i64 0), (.int .i64 0), (.int .i64 0), (.int .i64 0), (.int .i64 0)] : List Value) ++ zU8 ++ (([(.slice none 0 0)] : List Value) ++ zU8 ++ [(.slice none 0 0)])) [(0, 1, (.t 11)), (1, 1, (.t 13))])), []⟩ :: ⟨5, (some 5), none, (.q (.alloc 58 (([(.int .i64 0), (.int .i64 0), (.int .i64 0), (.int .i64 0), (.int .i64 0), (.int .i64 0), (.int .i64 0), (.int .i64 0), (.int .i64 0)] : List Value) ++ zU8 ++ (([(.slice none 0 0)] : List Value) ++ zU8 ++ [(.slice none 0 0)])))), []⟩ :: hid l_WDecode_6
@[simp] def b_WDecode_7 (_ : Unit) : EB := reg0 (hid l_WDecode_5) 7
@[simp] def l_WDecode_9 (_ : Unit) : List EOp := [⟨6, (some 6), none, (.q (.alloc 47 (([(.int .i64 0), (.int .i64 0), (.int .i64 0), (.int .i64 0), (.int .i64 0), (.int .i64 0), (.int .i64 0)] : List Value) ++ zU8 ++ [(.slice none 0 0)]))), []⟩, ⟨7, none, none, (.fz (.sto 40 (.t 6) (.t 19))), []⟩, ⟨8, (some 7), none, (.q (.mov (.t 20))), []⟩]
@[simp] def l_WDecode_8 (_ : Unit) : List EOp := ⟨0, (some 16), none, (.q (.mov (.t 4))), []⟩ :: ⟨1, (some 17), none, (.call 44 [(.t 16), (.k (.int .i64 256))]), []⟩ :: ⟨2, (some 18), none, (.call 16 [(.t 17)]), []⟩ :: ⟨3, (some 15), none, (.q (.mov (.t 18))), []⟩ :: ⟨4, (some 19), none, (.q (.ext 0 (.t 15))), []⟩ :: ⟨5, (some 20), none, (.q (.ext 1 (.t 15))), []⟩ :: hid l_WDecode_9
@[simp] def b_WDecode_10 (_ : Unit) : EB := reg0 (hid l_WDecode_8) 9
@[simp] def l_WDecode_12 (_ : Unit) : List EOp := [⟨6, none, none, (.fz (.sto 40 (.t 26) (.t 21))), []⟩, ⟨7, (some 27), none, (.q (.fad 42 (.t 5))), []⟩, ⟨8, none, none, (.sto 32 (.t 27) (.t 23)), []⟩, ⟨9, (some 28), none, (.q (.fad 74 (.t 5))), []⟩, ⟨10, none, none, (.fz (.sto 1 (.t 28) (.t 25))), []⟩]
@[simp] def l_WDecode_11 (_ : Unit) : List EOp := ⟨0, (some 21), none, (.q (.lda 40 (.t 6))), []⟩ :: ⟨1, (some 22), none, (.q (.mov (.t 4))), []⟩ :: ⟨3, (some 24), none, (.q (.mov (.t 4))), []⟩ :: ⟨5, (some 26), none, (.q (.fad 2 (.t 5))), []⟩ :: ⟨2, (some 23), none, (.call 45 [(.t 22)]), [0, 3, 5]⟩ :: ⟨4, (some 25), none, (.call 44 [(.t 24), (.k (.int .i64 64))]), [0, 5]⟩ :: hid l_WDecode_12
@[simp] def b_WDecode_13 (_ : Unit) : EB := reg1 (hid l_WDecode_11) 11
@[simp] def l_WDecode_16 (_ : Unit) : List EOp := [⟨12, (some 41), none, (.q (.mov (.t 40))), []⟩, ⟨13, (some 42), (some (41, false)), (.q (.fad 0 (.t 5))), []⟩, ⟨14, (some 43), (some (41, false)), (.q (.ldc (.t 42))), []⟩, ⟨15, (some 44), (some (41, false)), (.q (.bin .gtr (.t 43) (.k (.int .i64 5)))), []⟩, ⟨16, (some 45), none, (.q (.pick (.t 41) (.k (.bool true)) (.t 44))), []⟩]
@[simp] def l_WDecode_15 (_ : Unit) : List EOp := ⟨6, (some 35), none, (.q (.pick (.t 32) (.k (.bool true)) (.t 34))), []⟩ :: ⟨7, (some 36), none, (.q (.mov (.t 35))), []⟩ :: ⟨8, (some 37), (some (36, false)), (.q (.fad 0 (.t 5))), []⟩ :: ⟨9, (some 38), (some (36, false)), (.q (.ldc (.t 37))), []⟩ :: ⟨10, (some 39), (some (36, false)), (.q (.bin .lss (.t 38) (.k (.int .i64 1)))), []⟩ :: ⟨11, (some 40), none, (.q (.pick (.t 36) (.k (.bool true)) (.t 39))), []⟩ :: hid l_WDecode_16
@[simp] def l_WDecode_14 (_ : Unit) : List EOp := ⟨0, (some 29), none, (.q (.mov (.t 4))), []⟩ :: ⟨1, (some 30), none, (.call 46 [(.t 29)]), []⟩ :: ⟨2, (some 31), none, (.q (.eqi true (.t 30))), []⟩ :: ⟨3, (some 32), none, (.q (.mov (.t 31))), []⟩ :: ⟨4, (some 33), (some (32, false)), (.q (.mov (.t 7))), []⟩ :: ⟨5, (some 34), (some (32, false)), (.q (.eqi true (.t 33))), []⟩ :: hid l_WDecode_15
@[simp] def b_WDecode_17 (_ : Unit) : EB := reg0 (hid l_WDecode_14) 17
@[simp] def l_WDecode_18 (_ : Unit) : List EOp := [⟨0, (some 46), none, (.q (.build (([(.int .i64 0), (.int .i64 0), (.int .i64 0), (.int .i64 0), (.int .i64 0), (.int .i64 0), (.int .i64 0), (.int .i64 0), (.int .i64 0)] : List Value) ++ zU8 ++ (([(.slice none 0 0)] : List Value) ++ zU8 ++ [(.slice none 0 0)])) [])), []⟩, ⟨1, (some 47), none, (.q (.mki 77 (.k (.int .i64 3)))), []⟩, ⟨2, none, none, (.fz (.sto 75 (.t 2) (.t 46))), []⟩, ⟨3, (some 3), none, (.q (.mov (.t 47))), []⟩]
@[simp] def b_WDecode_19 (_ : Unit) : EB := reg0 (hid l_WDecode_18) 4
@[simp] def b_WDecode_20 (_ : Unit) : EB := .seq (hid b_WDecode_19) .ret
@[simp] def b_WDecode_21 (_ : Unit) : EB := .cond (.t 45) (hid b_WDecode_20) .skip
@[simp] def b_WDecode_22 (_ : Unit) : EB := .seq (hid b_WDecode_17) (hid b_WDecode_21)
@[simp] def l_WDecode_23 (_ : Unit) : List EOp := [⟨0, (some 48), none, (.q (.lda 75 (.t 5))), []⟩, ⟨1, none, none, (.fz (.sto 75 (.t 2) (.t 48))), []⟩, ⟨2, (some 3), none, (.q (.mov (.k .nilIface))), []⟩]
@[simp] def b_WDecode_24 (_ : Unit) : EB := reg0 (hid l_WDecode_23) 3
@[simp] def b_WDecode_25 (_ : Unit) : EB := .seq (hid b_WDecode_24) .ret
@[simp] def b_WDecode_26 (_ : Unit) : EB := .seq (hid b_WDecode_22) (hid b_WDecode_25)
@[simp] def b_WDecode_27 (_ : Unit) : EB := .seq (hid b_WDecode_13) (hid b_WDecode_26)
@[simp] def b_WDecode_28 (_ : Unit) : EB := .seq (hid b_WDecode_10) (hid b_WDecode_27)
@[simp] def b_WDecode_29 (_ : Unit) : EB := .seq (hid b_WDecode_7) (hid b_WDecode_28)
@[simp] def b_WDecode_30 (_ : Unit) : EB := .seq (hid b_WDecode_4) (hid b_WDecode_29)
@[simp] def b_WDecode_31 (_ : Unit) : EB := .seq (hid b_WDecode_2) (hid b_WDecode_30)
def c_WDecode : EB × List QOp × Nat := ((hid b_WDecode_31), [(.lda 75 (.t 2)), (.mov (.t 3))], 49)
theorem k_WDecode : cfun Tryz.prog 14 = some c_WDecode := by kernel_rfl

@[simp] def l_RWDecode_1 (_ : Unit) : List EOp := [⟨0, (some 2), none, (.q (.alloc 56 (([(.int .i64 0), (.int .i64 0), (.int .i64 0), (.int .i64 0), (.int .i64 0), (.int .i64 0), (.int .i64 0), (.int .i64 0), (.int .i64 0)] : List Value) ++ zU8 ++ (([(.slice none 0 0)] : List Value) ++ zU8 ++ [(.slice none 0 0)])))), []⟩, ⟨1, (some 3), none, (.q (.mov (.k (.int .i64 0)))), []⟩]
@[simp] def b_RWDecode_2 (_ : Unit) : EB := reg0 (hid l_RWDecode_1) 2
@[simp] def l_RWDecode_3 (_ : Unit) : List EOp := [⟨0, (some 9), none, (.q (.build (([(.int .i64 0), (.int .i64 0), (.int .i64 0), (.int .i64 0), (.int .i64 0), (.int .i64 0), (.int .i64 0), (.int .i64 0), (.int .i64 0)] : List Value) ++ zU8 ++ (([(.slice none 0 0)] : List Value) ++ zU8 ++ [(.slice none 0 0)])) [])), []⟩, ⟨1, (some 4), none, (.q (.alloc 56 (([(.int .i64 0), (.int .i64 0), (.int .i64 0), (.int .i64 0), (.int .i64 0), (.int .i64 0), (.int .i64 0), (.int .i64 0), (.int .i64 0)] : List Value) ++ zU8 ++ (([(.slice none 0 0)] : List Value) ++ zU8 ++ [(.slice none 0 0)])))), []⟩, ⟨2, none, none, (.fz (.sto 75 (.t 4) (.t 9))), []⟩]
@[simp] def b_RWDecode_4 (_ : Unit) : EB := reg0 (hid l_RWDecode_3) 3
@[simp] def l_RWDecode_5 (_ : Unit) : List EOp := [⟨0, (some 5), none, (.q (.mov (.k (.slice none 0 0)))), []⟩]
@[simp] def b_RWDecode_6 (_ : Unit) : EB := reg0 (hid l_RWDecode_5) 1
@[simp] def l_RWDecode_7 (_ : Unit) : List EOp := [⟨0, (some 10), none, (.q (.mov (.t 0))), []⟩, ⟨1, (some 11), none, (.q (.build [(.slice none 0 0), (.int .i64 0)] [(0, 1, (.t 10))])), []⟩, ⟨2, (some 6), none, (.q (.alloc 107 [(.slice none 0 0), (.int .i64 0)])), []⟩, ⟨3, none, none, (.fz (.sto 2 (.t 6) (.t 11))), []⟩]
@[simp] def b_RWDecode_8 (_ : Unit) : EB := reg0 (hid l_RWDecode_7) 4
@[simp] def l_RWDecode_10 (_ : Unit) : List EOp := [⟨6, (some 17), none, (.q (.fad 0 (.t 4))), []⟩, ⟨7, none, none, (.sto 1 (.t 17) (.t 16)), []⟩]
@[simp] def l_RWDecode_9 (_ : Unit) : List EOp := ⟨0, (some 13), none, (.q (.lda 2 (.t 6))), []⟩ :: ⟨1, (some 14), none, (.call 47 [(.t 13)]), []⟩ :: ⟨2, (some 12), none, (.q (.mov (.t 14))), []⟩ :: ⟨3, (some 15), none, (.q (.ext 0 (.t 12))), []⟩ :: ⟨4, (some 16), none, (.q (.ext 1 (.t 12))), []⟩ :: ⟨5, none, none, (.fz (.sto 2 (.t 6) (.t 15))), []⟩ :: hid l_RWDecode_10
@[simp] def b_RWDecode_11 (_ : Unit) : EB := reg0 (hid l_RWDecode_9) 8
@[simp] def l_RWDecode_13 (_ : Unit) : List EOp := [⟨6, (some 23), none, (.q (.fad 1 (.t 4))), []⟩, ⟨7, none, none, (.sto 1 (.t 23) (.t 22)), []⟩]
@[simp] def l_RWDecode_12 (_ : Unit) : List EOp := ⟨0, (some 19), none, (.q (.lda 2 (.t 6))), []⟩ :: ⟨1, (some 20), none, (.call 47 [(.t 19)]), []⟩ :: ⟨2, (some 18), none, (.q (.mov (.t 20))), []⟩ :: ⟨3, (some 21), none, (.q (.ext 0 (.t 18))), []⟩ :: ⟨4, (some 22), none, (.q (.ext 1 (.t 18))), []⟩ :: ⟨5, none, none, (.fz (.sto 2 (.t 6) (.t 21))), []⟩ :: hid l_RWDecode_13
@[simp] def b_RWDecode_14 (_ : Unit) : EB := reg0 (hid l_RWDecode_12) 8
@[simp] def l_RWDecode_16 (_ : Unit) : List EOp := [⟨6, (some 5), none, (.q (.mov (.t 28))), []⟩]
@[simp] def l_RWDecode_15 (_ : Unit) : List EOp := ⟨0, (some 25), none, (.q (.lda 2 (.t 6))), []⟩ :: ⟨1, (some 26), none, (.call 48 [(.t 25), (.k (.int .i64 256))]), []⟩ :: ⟨2, (some 24), none, (.q (.mov (.t 26))), []⟩ :: ⟨3, (some 27), none, (.q (.ext 0 (.t 24))), []⟩ :: ⟨4, (some 28), none, (.q (.ext 1 (.t 24))), []⟩ :: ⟨5, none, none, (.fz (.sto 2 (.t 6) (.t 27))), []⟩ :: hid l_RWDecode_16
@[simp] def b_RWDecode_17 (_ : Unit) : EB := reg0 (hid l_RWDecode_15) 7
@[simp] def l_RWDecode_19 (_ : Unit) : List EOp := [⟨6, none, none, (.fz (.sto 40 (.t 7) (.t 32))), []⟩, ⟨7, (some 8), none, (.q (.mov (.t 33))), []⟩]
@[simp] def l_RWDecode_18 (_ : Unit) : List EOp := ⟨0, (some 30), none, (.q (.mov (.t 5))), []⟩ :: ⟨1, (some 31), none, (.call 17 [(.t 30)]), []⟩ :: ⟨2, (some 29), none, (.q (.mov (.t 31))), []⟩ :: ⟨3, (some 32), none, (.q (.ext 0 (.t 29))), []⟩ :: ⟨4, (some 33), none, (.q (.ext 1 (.t 29))), []⟩ :: ⟨5, (some 7), none, (.q (.alloc 33 (([(.int .i64 0), (.int .i64 0), (.int .i64 0), (.int .i64 0), (.int .i64 0), (.int .i64 0), (.int .i64 0)] : List Value) ++ zU8 ++ [(.slice none 0 0)]))), []⟩ :: hid l_RWDecode_19
@[simp] def b_RWDecode_20 (_ : Unit) : EB := reg0 (hid l_RWDecode_18) 8
@[simp] def l_RWDecode_21 (_ : Unit) : List EOp := [⟨0, (some 34), none, (.q (.lda 40 (.t 7))), []⟩, ⟨1, (some 35), none, (.q (.fad 2 (.t 4))), []⟩, ⟨2, none, none, (.fz (.sto 40 (.t 35) (.t 34))), []⟩]
@[simp] def b_RWDecode_22 (_ : Unit) : EB := reg0 (hid l_RWDecode_21) 3
@[simp] def l_RWDecode_24 (_ : Unit) : List EOp := [⟨6, (some 41), none, (.q (.fad 42 (.t 4))), []⟩, ⟨7, none, none, (.sto 32 (.t 41) (.t 40)), []⟩]
@[simp] def l_RWDecode_23 (_ : Unit) : List EOp := ⟨0, (some 37), none, (.q (.lda 2 (.t 6))), []⟩ :: ⟨1, (some 38), none, (.call 49 [(.t 37)]), []⟩ :: ⟨2, (some 36), none, (.q (.mov (.t 38))), []⟩ :: ⟨3, (some 39), none, (.q (.ext 0 (.t 36))), []⟩ :: ⟨4, (some 40), none, (.q (.ext 1 (.t 36))), []⟩ :: ⟨5, none, none, (.fz (.sto 2 (.t 6) (.t 39))), []⟩ :: hid l_RWDecode_24
@[simp] def b_RWDecode_25 (_ : Unit) : EB := reg0 (hid l_RWDecode_23) 8
@[simp] def l_RWDecode_27 (_ : Unit) : List EOp := [⟨6, (some 47), none, (.q (.fad 74 (.t 4))), []⟩, ⟨7, none, none, (.fz (.sto 1 (.t 47) (.t 46))), []⟩]
@[simp] def l_RWDecode_26 (_ : Unit) : List EOp := ⟨0, (some 43), none, (.q (.lda 2 (.t 6))), []⟩ :: ⟨1, (some 44), none, (.call 48 [(.t 43), (.k (.int .i64 64))]), []⟩ :: ⟨2, (some 42), none, (.q (.mov (.t 44))), []⟩ :: ⟨3, (some 45), none, (.q (.ext 0 (.t 42))), []⟩ :: ⟨4, (some 46), none, (.q (.ext 1 (.t 42))), []⟩ :: ⟨5, none, none, (.fz (.sto 2 (.t 6) (.t 45))), []⟩ :: hid l_RWDecode_27
@[simp] def b_RWDecode_28 (_ : Unit) : EB := reg0 (hid l_RWDecode_26) 8
@[simp] def l_RWDecode_31 (_ : Unit) : List EOp := [⟨12, (some 60), none, (.q (.mov (.t 59))), []⟩, ⟨13, (some 61), (some (60, false)), (.q (.fad 0 (.t 4))), []⟩, ⟨14, (some 62), (some (60, false)), (.q (.ldc (.t 61))), []⟩, ⟨15, (some 63), (some (60, false)), (.q (.bin .gtr (.t 62) (.k (.int .i64 5)))), []⟩, ⟨16, (some 64), none, (.q (.pick (.t 60) (.k (.bool true)) (.t 63))), []⟩]
@[simp] def l_RWDecode_30 (_ : Unit) : List EOp := ⟨6, (some 54), none, (.q (.pick (.t 51) (.k (.bool true)) (.t 53))), []⟩ :: ⟨7, (some 55), none, (.q (.mov (.t 54))), []⟩ :: ⟨8, (some 56), (some (55, false)), (.q (.fad 0 (.t 4))), []⟩ :: ⟨9, (some 57), (some (55, false)), (.q (.ldc (.t 56))), []⟩ :: ⟨10, (some 58), (some (55, false)), (.q (.bin .lss (.t 57) (.k (.int .i64 1)))), []⟩ :: ⟨11, (some 59), none, (.q (.pick (.t 55) (.k (.bool true)) (.t 58))), []⟩ :: hid l_RWDecode_31
@[simp] def l_RWDecode_29 (_ : Unit) : List EOp := ⟨0, (some 48), none, (.q (.lda 2 (.t 6))), []⟩ :: ⟨1, (some 49), none, (.call 50 [(.t 48)]), []⟩ :: ⟨2, (some 50), none, (.q (.bin .neq (.t 49) (.k (.int .i64 0)))), []⟩ :: ⟨3, (some 51), none, (.q (.mov (.t 50))), []⟩ :: ⟨4, (some 52), (some (51, false)), (.q (.mov (.t 8))), []⟩ :: ⟨5, (some 53), (some (51, false)), (.q (.bin .neq (.t 52) (.k (.int .i64 0)))), []⟩ :: hid l_RWDecode_30
@[simp] def b_RWDecode_32 (_ : Unit) : EB := reg0 (hid l_RWDecode_29) 17
@[simp] def l_RWDecode_33 (_ : Unit) : List EOp := [⟨0, (some 65), none, (.q (.build (([(.int .i64 0), (.int .i64 0), (.int .i64 0), (.int .i64 0), (.int .i64 0), (.int .i64 0), (.int .i64 0), (.int .i64 0), (.int .i64 0)] : List Value) ++ zU8 ++ (([(.slice none 0 0)] : List Value) ++ zU8 ++ [(.slice none 0 0)])) [])), []⟩, ⟨1, none, none, (.fz (.sto 75 (.t 2) (.t 65))), []⟩, ⟨2, (some 3), none, (.q (.mov (.k (.int .i64 3)))), []⟩]
@[simp] def b_RWDecode_34 (_ : Unit) : EB := reg0 (hid l_RWDecode_33) 3
@[simp] def b_RWDecode_35 (_ : Unit) : EB := .seq (hid b_RWDecode_34) .ret
@[simp] def b_RWDecode_36 (_ : Unit) : EB := .cond (.t 64) (hid b_RWDecode_35) .skip
@[simp] def b_RWDecode_37 (_ : Unit) : EB := .seq (hid b_RWDecode_32) (hid b_RWDecode_36)
@[simp] def l_RWDecode_38 (_ : Unit) : List EOp := [⟨0, (some 66), none, (.q (.lda 75 (.t 4))), []⟩, ⟨1, none, none, (.fz (.sto 75 (.t 2) (.t 66))), []⟩, ⟨2, (some 3), none, (.q (.mov (.k (.int .i64 0)))), []⟩]
@[simp] def b_RWDecode_39 (_ : Unit) : EB := reg0 (hid l_RWDecode_38) 3
@[simp] def b_RWDecode_40 (_ : Unit) : EB := .seq (hid b_RWDecode_39) .ret
@[simp] def b_RWDecode_41 (_ : Unit) : EB := .seq (hid b_RWDecode_37) (hid b_RWDecode_40)
@[simp] def b_RWDecode_42 (_ : Unit) : EB := .seq (hid b_RWDecode_28) (hid b_RWDecode_41)
@[simp] def b_RWDecode_43 (_ : Unit) : EB := .seq (hid b_RWDecode_25) (hid b_RWDecode_42)
@[simp] def b_RWDecode_44 (_ : Unit) : EB := .seq (hid b_RWDecode_22) (hid b_RWDecode_43)
@[simp] def b_RWDecode_45 (_ : Unit) : EB := .seq (hid b_RWDecode_20) (hid b_RWDecode_44)
@[simp] def b_RWDecode_46 (_ : Unit) : EB := .seq (hid b_RWDecode_17) (hid b_RWDecode_45)
@[simp] def b_RWDecode_47 (_ : Unit) : EB := .seq (hid b_RWDecode_14) (hid b_RWDecode_46)
@[simp] def b_RWDecode_48 (_ : Unit) : EB := .seq (hid b_RWDecode_11) (hid b_RWDecode_47)
@[simp] def b_RWDecode_49 (_ : Unit) : EB := .seq (hid b_RWDecode_8) (hid b_RWDecode_48)
@[simp] def b_RWDecode_50 (_ : Unit) : EB := .seq (hid b_RWDecode_6) (hid b_RWDecode_49)
@[simp] def b_RWDecode_51 (_ : Unit) : EB := .seq (hid b_RWDecode_4) (hid b_RWDecode_50)
@[simp] def b_RWDecode_52 (_ : Unit) : EB := .seq (hid b_RWDecode_2) (hid b_RWDecode_51)
def c_RWDecode : EB × List QOp × Nat := ((hid b_RWDecode_52), [(.lda 75 (.t 2)), (.mov (.t 3))], 67)
theorem k_RWDecode : cfun Tryz.prog 15 = some c_RWDecode := by kernel_rfl


set_option maxRecDepth 8000 in
set_option maxHeartbeats 8000000 in
theorem RWEncode_ok (m : WMsg) (hm : m.ok) : ECalls Tryz.prog 20 [MV m] [] fun y H' => H' = [] ∧ y = Bs (encM m) := by
  obtain ⟨h1, h2, h3, h4, h5⟩ := hm
  have lo := encO_len h3
  have hs := h3.2.2.2.2
  have l1 := intB_len9 h1
  have l2 := intB_len9 h2
  have l3 := bytesB_len (encO m.op)
  have l4 := bytesB_len m.sec
  have h32 := h3.2.2.2.1.2.2.2.2
  have t32 : m.op.pay.lock.take 32 = m.op.pay.lock := List.take_of_length_le (by omega)
  have t32m : m.lock.take 32 = m.lock := List.take_of_length_le (by omega)
  have hcn : hc ([] : List UInt8) = [] := rfl
  have i65 := ix65 h32 h4
  have a32 := tk32a h4
  refine ecalls k_RWEncode ?_
  simp [c_RWEncode, MV, msgC, wopC, i65, a32, tk33 h32, dr33 h32]
  refine ⟨by omega, ?_⟩
  refine call0 (RInt_nil m.kind h1.1 h1.2) (by simp [I]) ?_
  rintro y H' ⟨rfl, rfl⟩
  refine ⟨.inl (by simp), le_ok rfl, ?_⟩
  simp [R, RO]
  refine call0 (RInt_ok (intB m.kind) m.num h2.1 h2.2 (by omega)) (by simp [I, Bs]) ?_
  rintro y H' ⟨rfl, rfl⟩
  refine ⟨.inr ⟨rfl, by simp [RO, bsv, cb]⟩, le_ok rfl, ?_⟩
  simp [R, RO, tk33 h32]
  refine call0 (REncodeOp_ok m.op h3) (by simp [WV, wopC]) ?_
  rintro y H' ⟨rfl, rfl⟩
  refine ⟨.inl (by simp), le_ok rfl, ?_⟩
  simp [Bs]
  refine call0 (RBytes_ok (intB m.kind ++ intB m.num) (encO m.op) (by simp; omega) (by omega)) (by simp [I, Bs, List.take_of_length_le]) ?_
  rintro y H' ⟨rfl, rfl⟩
  refine ⟨.inr ⟨rfl, by simp [RO, bsv, cb]⟩, le_ok rfl, ?_⟩
  simp [R, RO, dr33 h32, a32, h4, h32]
  refine call0 (RHash_ok (intB m.kind ++ (intB m.num ++ bytesB (encO m.op))) m.lock (by simp; omega) h4) (by simp [I, Bs, Ag, h4, t32m, hcn, List.take_of_length_le]) ?_
  rintro y H' ⟨rfl, rfl⟩
  refine ⟨.inr ⟨rfl, by simp [RO, bsv, cb]⟩, le_ok rfl, ?_⟩
  simp [R, RO, h4]
  refine call0 (RBytes_ok (intB m.kind ++ (intB m.num ++ (bytesB (encO m.op) ++ m.lock))) m.sec (by simp; omega) (by omega)) (by simp [I, Bs, Ag, h4, t32m, hcn, List.take_of_length_le]) ?_
  rintro y H' ⟨rfl, rfl⟩
  refine ⟨.inr ⟨rfl, by simp [RO, bsv, cb]⟩, le_ok rfl, ?_⟩
  simp [R, RO, h4]
  refine finW _ (weak_frz (o := 304) (ty := 5) (es := 1) (xs := bsv (intB m.kind ++ (intB m.num ++ (bytesB (encO m.op) ++ (m.lock ++ bytesB m.sec))))) rfl) ?_
  exact fin [] (by decide) rfl rfl rfl ⟨rfl, by simp [Bs, encM, h4, List.take_of_length_le]⟩

theorem dr65 {x y : List UInt8} (hx : x.length = 32) (hy : y.length = 32) (u : EC) (r : List EC) : List.drop 65 (hc x ++ u :: (hc y ++ r)) = r := by
  have h2 : (hc y).length = 32 := by rw [hc_len, hy]
  rw [show 65 = 33 + 32 from rfl, ← List.drop_drop, dr33 hx, List.drop_append, h2, List.drop_eq_nil_of_le (by omega)]
  rfl
theorem tk65 {x y : List UInt8} (hx : x.length = 32) (hy : y.length = 32) (u : EC) (r : List EC) : List.take 65 (hc x ++ u :: (hc y ++ r)) = hc x ++ u :: hc y := by
  have h1 : (hc x).length = 32 := by rw [hc_len, hx]
  rw [List.take_append, h1, List.take_of_length_le (by omega), List.take_succ_cons, tk32a hy]
theorem dr66 {x y : List UInt8} (hx : x.length = 32) (hy : y.length = 32) (u v : EC) (r : List EC) : List.drop 66 (hc x ++ u :: (hc y ++ v :: r)) = r := by
  rw [show 66 = 33 + 33 from rfl, ← List.drop_drop, dr33 hx, dr33 hy]
theorem tk66 {x y : List UInt8} (hx : x.length = 32) (hy : y.length = 32) (u v : EC) (r : List EC) : List.take 66 (hc x ++ u :: (hc y ++ v :: r)) = hc x ++ u :: (hc y ++ [v]) := by
  have h1 : (hc x).length = 32 := by rw [hc_len, hx]
  rw [List.take_append, h1, List.take_of_length_le (by omega), List.take_succ_cons, tk33 hy]

def ME (q : WMsg × Nat) : EV := .tup [.agg (msgC q.1), .c (.fz (.lit (errV q.2)))]
def MR (q : WMsg × Nat) : EV := .tup [.agg (msgC q.1), .c (.fz (.lit (.int .i64 (q.2 : Int))))]

set_option maxRecDepth 8000 in
set_option maxHeartbeats 8000000 in
theorem WDecode_ok (l : List UInt8) (hl : l.length ≤ 100000000) : ECalls Tryz.prog 14 [Bs l] [] fun y H' => H' = [] ∧ y = ME (decM l) := by
  have hl' : l.length ≤ 1000000000 := by omega
  obtain ⟨a, b, x, h, s, ha, hb, hx, hh, hs, hr⟩ := rdM_eq l
  have ta := RdInt_t l (0, 0) (by simp) hl'
  have pa := tkI_p (l := l) (σ := (0, 0)) (by simp)
  rw [ha] at ta pa
  have tb := RdInt_t l a.1 pa.1 hl'
  have pb := tkI_p pa.1
  rw [hb] at tb pb
  have tx := RdBytes_t l 256 b.1 pb.1 hl'
  have px := tkY_p (m := 256) pb.1
  rw [hx] at tx
  rw [show ((256 : Nat) : Int) = 256 from rfl, hx] at px
  have th := RdHash_t l x.1 px.1 hl'
  have ph := tkH_p px.1
  rw [hh] at th ph
  have ts := RdBytes_t l 64 h.1 ph.1 hl'
  have ps := tkY_p (m := 64) ph.1
  rw [hs] at ts
  rw [show ((64 : Nat) : Int) = 64 from rfl, hs] at ps
  have tO := DecodeOp_ok x.2 (by omega)
  have pO := (decO_p x.2).1
  obtain ⟨o, ho⟩ : ∃ o, decO x.2 = o := ⟨_, rfl⟩
  rw [ho] at tO pO hr
  have h32 := pO.2.2.2.1.2.2.2.2
  have t32 : o.1.pay.lock.take 32 = o.1.pay.lock := List.take_of_length_le (by omega)
  have h4 := ph.2
  have t4 : h.2.take 32 = h.2 := List.take_of_length_le (by omega)
  have hcn : hc ([] : List UInt8) = [] := rfl
  have z33 := dr33 hz_len
  have z66 := dr66 hz_len hz_len
  have d65 := dr65 h32 hz_len
  have u65 := tk65 h32 hz_len
  have d66 := dr66 h32 h4
  have u66 := tk66 h32 h4
  refine ecalls k_WDecode ?_
  simp [c_WDecode, Bs]
  refine call0 (Read_ok l) (by simp [Ptr, NP, I, R, RO, RdO, Bs, EV.lit, Ag, RV, rvC]) ?_
  rintro y H' ⟨rfl, rfl⟩
  refine ⟨.inl (by simp [Ptr, NP, I, R, RO, RdO, Bs, EV.lit, Ag, RV, rvC]), le_ok rfl, ?_⟩
  simp [Ptr, NP, I, R, RO, RdO, Bs, EV.lit, Ag, RV, rvC]
  refine callH [48] (ta) (by simp [Ptr, NP, I, R, RO, RdO, Bs, EV.lit, Ag, RV, rvC]) (by simp [Ptr, NP, I, R, RO, RdO, Bs, EV.lit, Ag, RV, rvC]) (by simp) (by simp [Ptr, NP, I, R, RO, RdO, Bs, EV.lit, Ag, RV, rvC]) (by simp [Wok]) ?_
  rintro y H' ⟨rfl, rfl⟩
  refine ⟨.inl (by simp [Ptr, NP, I, R, RO, RdO, Bs, EV.lit, Ag, RV, rvC]), le_ok rfl, ?_⟩
  simp [Ptr, NP, I, R, RO, RdO, Bs, EV.lit, Ag, RV, rvC]
  refine callH [48] (tb) (by simp [Ptr, NP, I, R, RO, RdO, Bs, EV.lit, Ag, RV, rvC]) (by simp [Ptr, NP, I, R, RO, RdO, Bs, EV.lit, Ag, RV, rvC]) (by simp) (by simp [Ptr, NP, I, R, RO, RdO, Bs, EV.lit, Ag, RV, rvC]) (by simp [Wok]) ?_
  rintro y H' ⟨rfl, rfl⟩
  refine ⟨.inl (by simp [Ptr, NP, I, R, RO, RdO, Bs, EV.lit, Ag, RV, rvC]), le_ok rfl, ?_⟩
  simp [Ptr, NP, I, R, RO, RdO, Bs, EV.lit, Ag, RV, rvC]
  refine callH [48] (tx) (by simp [Ptr, NP, I, R, RO, RdO, Bs, EV.lit, Ag, RV, rvC]) (by simp [Ptr, NP, I, R, RO, RdO, Bs, EV.lit, Ag, RV, rvC]) (by simp) (by simp [Ptr, NP, I, R, RO, RdO, Bs, EV.lit, Ag, RV, rvC]) (by simp [Wok]) ?_
  rintro y H' ⟨rfl, rfl⟩
  refine ⟨.inl (by simp [Ptr, NP, I, R, RO, RdO, Bs, EV.lit, Ag, RV, rvC]), le_ok rfl, ?_⟩
  simp [Ptr, NP, I, R, RO, RdO, Bs, EV.lit, Ag, RV, rvC]
  refine call0 (tO) (by simp [Ptr, NP, I, R, RO, RdO, Bs, EV.lit, Ag, RV, rvC]) ?_
  rintro y H' ⟨rfl, rfl⟩
  refine ⟨.inl (by simp [Ptr, NP, I, R, RO, RdO, Bs, EV.lit, Ag, RV, rvC]), le_ok rfl, ?_⟩
  simp [WE, wopC, h32, t32, hcn, tk33 h32, z33]
  refine callH [48] (th) (by simp [Ptr, NP, I, R, RO, RdO, Bs, EV.lit, Ag, RV, rvC]) (by simp [Ptr, NP, I, R, RO, RdO, Bs, EV.lit, Ag, RV, rvC]) (by simp) (by simp [Ptr, NP, I, R, RO, RdO, Bs, EV.lit, Ag, RV, rvC]) (by simp [Wok]) ?_
  rintro y H' ⟨rfl, rfl⟩
  refine ⟨.inl (by simp [Ptr, NP, I, R, RO, RdO, Bs, EV.lit, Ag, RV, rvC]), le_ok rfl, ?_⟩
  simp [RdO, Ag, h4, t4, h32]
  refine callH [48] (ts) (by simp [Ptr, NP, I, R, RO, RdO, Bs, EV.lit, Ag, RV, rvC]) (by simp [Ptr, NP, I, R, RO, RdO, Bs, EV.lit, Ag, RV, rvC]) (by simp) (by simp [Ptr, NP, I, R, RO, RdO, Bs, EV.lit, Ag, RV, rvC]) (by simp [Wok]) ?_
  rintro y H' ⟨rfl, rfl⟩
  refine ⟨.inl (by simp [Ptr, NP, I, R, RO, RdO, Bs, EV.lit, Ag, RV, rvC]), le_ok rfl, ?_⟩
  simp [RdO, Bs, h4, t4, h32, hcn, z33, z66, tk33 h32, d65 , u65, d66, u66]
  obtain ⟨E, hE⟩ : ∃ E, (if s.1.2 ≠ 0 then s.1.2 else if s.1.1 < l.length then 3 else 0) = E := ⟨_, rfl⟩
  have tD := RdDone_ok l s.1.1 s.1.2 ps.1
  rw [hE] at tD
  refine callH [48] (tD) (by simp [Ptr, NP, I, R, RO, RdO, Bs, EV.lit, Ag, RV, rvC]) (by simp [Ptr, NP, I, R, RO, RdO, Bs, EV.lit, Ag, RV, rvC]) (by simp) (by simp [Ptr, NP, I, R, RO, RdO, Bs, EV.lit, Ag, RV, rvC]) (by simp [Wok]) ?_
  rintro y H' ⟨rfl, rfl⟩
  refine ⟨.inl (by simp [Ptr, NP, I, R, RO, RdO, Bs, EV.lit, Ag, RV, rvC]), le_ok rfl, ?_⟩
  by_cases hE0 : E = 0
  rotate_left
  · have hEx : s.1.2 ≠ 0 ∨ s.1.1 < l.length := by
      by_cases h1 : s.1.2 = 0
      · by_cases h2 : s.1.1 < l.length
        · exact .inr h2
        · rw [if_neg (by omega), if_neg h2] at hE; exact absurd hE.symm hE0
      · exact .inl h1
    have hv : errV E = .iface 77 (.int .i64 E) := by rw [errV, if_neg hE0]
    have hdm : decM l = (zMsg, 3) := by
      simp only [decM, hr]
      rw [if_pos]
      show s.1.2 ≠ 0 ∨ s.1.1 < l.length ∨ o.2 ≠ 0 ∨ a.2 < 1 ∨ 5 < a.2
      omega
    rw [hdm]
    simp [hv, RdO, EV.lit, ME, MR, I, msgC, wopC, zMsg, zOp]
    refine finW _ (weak_nlB (o := 0) (k := 41) 1 rfl rfl) ?_
    refine finW _ (weak_nlB (o := 0) (k := 74) 1 rfl rfl) ?_
    exact fin [] (by decide) rfl rfl rfl ⟨rfl, rfl⟩
  subst hE0
  have hEn : s.1.2 = 0 ∧ ¬ s.1.1 < l.length := by
    by_cases h1 : s.1.2 = 0
    · refine ⟨h1, fun h2 => ?_⟩
      rw [if_neg (by omega), if_pos h2] at hE; omega
    · rw [if_pos h1] at hE; exact absurd hE h1
  simp [RdO, EV.lit]
  by_cases ho2 : o.2 = 0
  rotate_left
  · have hv : errV o.2 = .iface 77 (.int .i64 o.2) := by rw [errV, if_neg ho2]
    have hdm : decM l = (zMsg, 3) := by
      simp only [decM, hr]
      rw [if_pos]
      show s.1.2 ≠ 0 ∨ s.1.1 < l.length ∨ o.2 ≠ 0 ∨ a.2 < 1 ∨ 5 < a.2
      omega
    rw [hdm]
    simp [hv, ho2, RdO, EV.lit, ME, MR, I, msgC, wopC, zMsg, zOp]
    refine finW _ (weak_nlB (o := 0) (k := 41) 1 rfl rfl) ?_
    refine finW _ (weak_nlB (o := 0) (k := 74) 1 rfl rfl) ?_
    exact fin [] (by decide) rfl rfl rfl ⟨rfl, rfl⟩
  simp [ho2]
  by_cases hk1 : a.2 < 1
  · have n1 : ¬ 1 ≤ a.2 := by omega
    simp [hk1, n1]
    have hdm : decM l = (zMsg, 3) := by
      simp only [decM, hr]
      rw [if_pos]
      show s.1.2 ≠ 0 ∨ s.1.1 < l.length ∨ o.2 ≠ 0 ∨ a.2 < 1 ∨ 5 < a.2
      omega
    rw [hdm]
    simp [hk1, n1, RdO, EV.lit, ME, MR, I, msgC, wopC, zMsg, zOp]
    refine finW _ (weak_nlB (o := 0) (k := 41) 1 rfl rfl) ?_
    refine finW _ (weak_nlB (o := 0) (k := 74) 1 rfl rfl) ?_
    exact fin [] (by decide) rfl rfl rfl ⟨rfl, rfl⟩
  · have n1 : 1 ≤ a.2 := by omega
    simp [hk1, n1]
    by_cases hk5 : 5 < a.2
    · have n5 : ¬ a.2 ≤ 5 := by omega
      simp [hk5, n5]
      have hdm : decM l = (zMsg, 3) := by
        simp only [decM, hr]
        rw [if_pos]
        show s.1.2 ≠ 0 ∨ s.1.1 < l.length ∨ o.2 ≠ 0 ∨ a.2 < 1 ∨ 5 < a.2
        omega
      rw [hdm]
      simp [hk5, n5, RdO, EV.lit, ME, MR, I, msgC, wopC, zMsg, zOp]
      refine finW _ (weak_nlB (o := 0) (k := 41) 1 rfl rfl) ?_
      refine finW _ (weak_nlB (o := 0) (k := 74) 1 rfl rfl) ?_
      exact fin [] (by decide) rfl rfl rfl ⟨rfl, rfl⟩
    · have n5 : a.2 ≤ 5 := by omega
      simp [hk5, n5, -errV_0]
      have hdm : decM l = (⟨a.2, b.2, o.1, h.2, s.2⟩, 0) := by
        simp only [decM, hr]
        rw [if_neg]
        show ¬ (s.1.2 ≠ 0 ∨ s.1.1 < l.length ∨ o.2 ≠ 0 ∨ a.2 < 1 ∨ 5 < a.2)
        omega
      rw [hdm]
      simp [hk5, n5, RdO, EV.lit, ME, I, msgC, wopC, h32, h4, t32, t4, hcn, tk33 h32, tk65 h32 h4, tk66 h32 h4, -errV_0]
      exact fin [] (by decide) (v := ME (⟨a.2, b.2, o.1, h.2, s.2⟩, 0)) (by simp [resV, resT, evT, asT, ME, msgC, wopC, h32, h4, t32, t4, hcn, tk33 h32, tk65 h32 h4, tk66 h32 h4, -errV_0]; rfl) (by simp [conR, conTs, conT, ME, msgC, wopC]) rfl ⟨rfl, rfl⟩

set_option maxRecDepth 8000 in
set_option maxHeartbeats 8000000 in
theorem RWDecode_ok (l : List UInt8) (hl : l.length ≤ 100000000) : ECalls Tryz.prog 15 [Bs l] [] fun y H' => H' = [] ∧ y = MR (decM l) := by
  have hl' : l.length ≤ 1000000000 := by omega
  obtain ⟨a, b, x, h, s, ha, hb, hx, hh, hs, hr⟩ := rdM_eq l
  have ta := RReadInt_t l (0, 0) (by simp) hl'
  have pa := tkI_p (l := l) (σ := (0, 0)) (by simp)
  rw [ha] at ta pa
  simp only [List.drop_zero] at ta
  have tb := RReadInt_t l a.1 pa.1 hl'
  have pb := tkI_p pa.1
  rw [hb] at tb pb
  have tx := RReadBytes_t l 256 b.1 pb.1 hl'
  have px := tkY_p (m := 256) pb.1
  rw [hx] at tx
  rw [show ((256 : Nat) : Int) = 256 from rfl, hx] at px
  have th := RReadHash_t l x.1 px.1 hl'
  have ph := tkH_p px.1
  rw [hh] at th ph
  have ts := RReadBytes_t l 64 h.1 ph.1 hl'
  have ps := tkY_p (m := 64) ph.1
  rw [hs] at ts
  rw [show ((64 : Nat) : Int) = 64 from rfl, hs] at ps
  have tO := RDecodeOp_ok x.2 (by omega)
  have pO := (decO_p x.2).1
  obtain ⟨o, ho⟩ : ∃ o, decO x.2 = o := ⟨_, rfl⟩
  rw [ho] at tO pO hr
  have h32 := pO.2.2.2.1.2.2.2.2
  have t32 : o.1.pay.lock.take 32 = o.1.pay.lock := List.take_of_length_le (by omega)
  have h4 := ph.2
  have t4 : h.2.take 32 = h.2 := List.take_of_length_le (by omega)
  have hcn : hc ([] : List UInt8) = [] := rfl
  have z33 := dr33 hz_len
  have z66 := dr66 hz_len hz_len
  have d65 := dr65 h32 hz_len
  have u65 := tk65 h32 hz_len
  have d66 := dr66 h32 h4
  have u66 := tk66 h32 h4
  refine ecalls k_RWDecode ?_
  simp [c_RWDecode, Bs]
  refine call0 (ta) (by simp [Ptr, NP, I, R, RO, RdO, Bs, EV.lit, Ag, RV, rvC]) ?_
  rintro y H' ⟨rfl, rfl⟩
  refine ⟨.inl (by simp [Ptr, NP, I, R, RO, RdO, Bs, EV.lit, Ag, RV, rvC]), le_ok rfl, ?_⟩
  simp [Ptr, NP, I, R, RO, RdO, Bs, EV.lit, Ag, RV, rvC]
  refine call0 (tb) (by simp [Ptr, NP, I, R, RO, RdO, Bs, EV.lit, Ag, RV, rvC]) ?_
  rintro y H' ⟨rfl, rfl⟩
  refine ⟨.inl (by simp [Ptr, NP, I, R, RO, RdO, Bs, EV.lit, Ag, RV, rvC]), le_ok rfl, ?_⟩
  simp [Ptr, NP, I, R, RO, RdO, Bs, EV.lit, Ag, RV, rvC]
  refine call0 (tx) (by simp [Ptr, NP, I, R, RO, RdO, Bs, EV.lit, Ag, RV, rvC]) ?_
  rintro y H' ⟨rfl, rfl⟩
  refine ⟨.inl (by simp [Ptr, NP, I, R, RO, RdO, Bs, EV.lit, Ag, RV, rvC]), le_ok rfl, ?_⟩
  simp [Ptr, NP, I, R, RO, RdO, Bs, EV.lit, Ag, RV, rvC]
  refine call0 (tO) (by simp [Ptr, NP, I, R, RO, RdO, Bs, EV.lit, Ag, RV, rvC]) ?_
  rintro y H' ⟨rfl, rfl⟩
  refine ⟨.inl (by simp [Ptr, NP, I, R, RO, RdO, Bs, EV.lit, Ag, RV, rvC]), le_ok rfl, ?_⟩
  simp [WR, wopC, h32, t32, hcn, tk33 h32, z33]
  refine call0 (th) (by simp [Ptr, NP, I, R, RO, RdO, Bs, EV.lit, Ag, RV, rvC]) ?_
  rintro y H' ⟨rfl, rfl⟩
  refine ⟨.inl (by simp [Ptr, NP, I, R, RO, RdO, Bs, EV.lit, Ag, RV, rvC]), le_ok rfl, ?_⟩
  simp [rvC, h4, t4, h32, t32, hcn]
  refine call0 (ts) (by simp [Ptr, NP, I, R, RO, RdO, Bs, EV.lit, Ag, RV, rvC]) ?_
  rintro y H' ⟨rfl, rfl⟩
  refine ⟨.inl (by simp [Ptr, NP, I, R, RO, RdO, Bs, EV.lit, Ag, RV, rvC]), le_ok rfl, ?_⟩
  simp [rvC, Bs, h4, t4, h32, hcn, z33, z66, tk33 h32, d65, u65, d66, u66]
  refine call0 (RDone_ok (l.drop s.1.1) s.1.2) (by simp [Ptr, NP, I, R, RO, RdO, Bs, EV.lit, Ag, RV, rvC]) ?_
  rintro y H' ⟨rfl, rfl⟩
  refine ⟨.inl (by simp [Ptr, NP, I, R, RO, RdO, Bs, EV.lit, Ag, RV, rvC]), le_ok rfl, ?_⟩
  by_cases hE0 : s.1.2 ≠ 0 ∨ s.1.1 < l.length
  · have hne : ¬ (if s.1.2 ≠ 0 then s.1.2 else if (l.drop s.1.1).length ≠ 0 then 3 else 0) = 0 := by
      rw [List.length_drop]
      by_cases h1 : s.1.2 = 0
      · rw [if_neg (by omega), if_pos (by omega)]; omega
      · rw [if_pos h1]; exact h1
    obtain ⟨E, hE⟩ : ∃ E, (if s.1.2 ≠ 0 then s.1.2 else if (l.drop s.1.1).length ≠ 0 then 3 else 0) = E := ⟨_, rfl⟩
    rw [hE] at hne ⊢
    have hdm : decM l = (zMsg, 3) := by
      simp only [decM, hr]
      rw [if_pos]
      show s.1.2 ≠ 0 ∨ s.1.1 < l.length ∨ o.2 ≠ 0 ∨ a.2 < 1 ∨ 5 < a.2
      omega
    rw [hdm]
    simp [I, hne, MR, msgC, wopC, zMsg, zOp]
    refine finW _ (weak_nlB (o := 0) (k := 41) 1 rfl rfl) ?_
    refine finW _ (weak_nlB (o := 0) (k := 74) 1 rfl rfl) ?_
    exact fin [] (by decide) rfl rfl rfl ⟨rfl, rfl⟩
  have hEn : s.1.2 = 0 ∧ ¬ s.1.1 < l.length := by omega
  have hz : (if s.1.2 ≠ 0 then s.1.2 else if (l.drop s.1.1).length ≠ 0 then 3 else 0) = 0 := by
    rw [List.length_drop, if_neg (by omega), if_neg (by omega)]
  rw [hz]
  simp [I]
  by_cases hbad : o.2 ≠ 0 ∨ a.2 < 1 ∨ 5 < a.2
  · have hdm : decM l = (zMsg, 3) := by
      simp only [decM, hr]
      rw [if_pos]
      show s.1.2 ≠ 0 ∨ s.1.1 < l.length ∨ o.2 ≠ 0 ∨ a.2 < 1 ∨ 5 < a.2
      omega
    rw [hdm]
    by_cases ho2 : o.2 = 0
    · by_cases hk1 : a.2 < 1
      · have n1 : ¬ 1 ≤ a.2 := by omega
        simp [ho2, hk1, n1, MR, msgC, wopC, zMsg, zOp]
        refine finW _ (weak_nlB (o := 0) (k := 41) 1 rfl rfl) ?_
        refine finW _ (weak_nlB (o := 0) (k := 74) 1 rfl rfl) ?_
        exact fin [] (by decide) rfl rfl rfl ⟨rfl, rfl⟩
      · have n1 : 1 ≤ a.2 := by omega
        have hk5 : 5 < a.2 := by omega
        have n5 : ¬ a.2 ≤ 5 := by omega
        simp [ho2, hk1, n1, hk5, n5, MR, msgC, wopC, zMsg, zOp]
        refine finW _ (weak_nlB (o := 0) (k := 41) 1 rfl rfl) ?_
        refine finW _ (weak_nlB (o := 0) (k := 74) 1 rfl rfl) ?_
        exact fin [] (by decide) rfl rfl rfl ⟨rfl, rfl⟩
    · simp [ho2, MR, msgC, wopC, zMsg, zOp]
      refine finW _ (weak_nlB (o := 0) (k := 41) 1 rfl rfl) ?_
      refine finW _ (weak_nlB (o := 0) (k := 74) 1 rfl rfl) ?_
      exact fin [] (by decide) rfl rfl rfl ⟨rfl, rfl⟩
  · have hdm : decM l = (⟨a.2, b.2, o.1, h.2, s.2⟩, 0) := by
      simp only [decM, hr]
      rw [if_neg]
      show ¬ (s.1.2 ≠ 0 ∨ s.1.1 < l.length ∨ o.2 ≠ 0 ∨ a.2 < 1 ∨ 5 < a.2)
      omega
    have ho2 : o.2 = 0 := by omega
    have hk1 : ¬ a.2 < 1 := by omega
    have n1 : 1 ≤ a.2 := by omega
    have hk5 : ¬ 5 < a.2 := by omega
    have n5 : a.2 ≤ 5 := by omega
    rw [hdm]
    simp [ho2, hk1, n1, hk5, n5, I, MR, msgC, wopC, h32, h4, t32, t4, hcn, tk33 h32, tk65 h32 h4, tk66 h32 h4]
    exact fin [] (by decide) (v := MR (⟨a.2, b.2, o.1, h.2, s.2⟩, 0)) (by simp [resV, resT, evT, asT, MR, msgC, wopC, h32, h4, t32, t4, hcn, tk33 h32, tk65 h32 h4, tk66 h32 h4]) (by simp [conR, conTs, conT, MR, msgC, wopC]) rfl ⟨rfl, rfl⟩

end Go.Proofs.YtpilpjameifcfaaGreatDoor
