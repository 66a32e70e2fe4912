import Derived.Test.YtoomdgmggkcgfaaDoorTree9
import Derived.Test.YtoomdgmggkcgfaaDoorTree8R
import Derived.Test.YtoomdgmggkcgfaaDoorAs
namespace Go.Proofs.YtoomdgmggkcgfaaDoor
open Go Go.EW
set_option linter.unusedSimpArgs false
set_option linter.unusedVariables false

@[simp] def l_sure_1 (_ : Unit) : List EOp := [⟨0, (some 0), none, (.q (.mov (.k (.bool false)))), []⟩]
@[simp] def b_sure_2 (_ : Unit) : EB := reg0 (hid l_sure_1) 1
@[simp] def l_sure_3 (_ : Unit) : List EOp := [⟨0, (some 8), none, (.q (.bsl 1 [(.int .i64 0)] 2 [(0, (.k (.int .i64 1))), (1, (.k (.int .i64 2)))])), []⟩, ⟨1, (some 9), none, (.q (.build (zU8 ++ [(.int .i64 0), (.int .i64 0), (.slice none 0 0), (.int .i64 0), (.int .i64 0), (.int .i64 0), (.int .i64 0), (.int .i64 0)]) [(33, 1, (.k (.int .i64 100))), (34, 1, (.t 8)), (35, 1, (.k (.int .i64 2))), (36, 1, (.k (.int .i64 10))), (37, 1, (.k (.int .i64 6))), (38, 1, (.k (.int .i64 2)))])), []⟩, ⟨2, (some 1), none, (.q (.alloc 31 (zU8 ++ [(.int .i64 0), (.int .i64 0), (.slice none 0 0), (.int .i64 0), (.int .i64 0), (.int .i64 0), (.int .i64 0), (.int .i64 0)]))), []⟩, ⟨3, none, none, (.fz (.sto 40 (.t 1) (.t 9))), []⟩]
@[simp] def b_sure_4 (_ : Unit) : EB := reg0 (hid l_sure_3) 4
@[simp] def l_sure_6 (_ : Unit) : List EOp := [⟨6, (some 3), none, (.q (.mov (.t 14))), []⟩]
@[simp] def l_sure_5 (_ : Unit) : List EOp := ⟨0, (some 11), none, (.q (.lda 40 (.t 1))), []⟩ :: ⟨1, (some 12), none, (.call 9 [(.t 11)]), []⟩ :: ⟨2, (some 10), none, (.q (.mov (.t 12))), []⟩ :: ⟨3, (some 13), none, (.q (.ext 0 (.t 10))), []⟩ :: ⟨4, (some 14), none, (.q (.ext 1 (.t 10))), []⟩ :: ⟨5, (some 2), none, (.q (.mov (.t 13))), []⟩ :: hid l_sure_6
@[simp] def b_sure_7 (_ : Unit) : EB := reg0 (hid l_sure_5) 7
@[simp] def l_sure_9 (_ : Unit) : List EOp := [⟨6, (some 4), none, (.q (.mov (.t 19))), []⟩, ⟨7, (some 5), none, (.q (.mov (.t 20))), []⟩]
@[simp] def l_sure_8 (_ : Unit) : List EOp := ⟨0, (some 16), none, (.q (.lda 40 (.t 1))), []⟩ :: ⟨1, (some 17), none, (.q (.mov (.t 2))), []⟩ :: ⟨2, (some 18), none, (.call 12 [(.t 16), (.t 17)]), []⟩ :: ⟨3, (some 15), none, (.q (.mov (.t 18))), []⟩ :: ⟨4, (some 19), none, (.q (.ext 0 (.t 15))), []⟩ :: ⟨5, (some 20), none, (.q (.ext 1 (.t 15))), []⟩ :: hid l_sure_9
@[simp] def b_sure_10 (_ : Unit) : EB := reg0 (hid l_sure_8) 8
@[simp] def l_sure_12 (_ : Unit) : List EOp := [⟨6, (some 6), none, (.q (.mov (.t 25))), []⟩, ⟨7, (some 7), none, (.q (.mov (.t 26))), []⟩]
@[simp] def l_sure_11 (_ : Unit) : List EOp := ⟨0, (some 22), none, (.q (.lda 40 (.t 1))), []⟩ :: ⟨1, (some 23), none, (.q (.mov (.t 2))), []⟩ :: ⟨2, (some 24), none, (.call 10 [(.t 22), (.t 23)]), []⟩ :: ⟨3, (some 21), none, (.q (.mov (.t 24))), []⟩ :: ⟨4, (some 25), none, (.q (.ext 0 (.t 21))), []⟩ :: ⟨5, (some 26), none, (.q (.ext 1 (.t 21))), []⟩ :: hid l_sure_12
@[simp] def b_sure_13 (_ : Unit) : EB := reg0 (hid l_sure_11) 8
@[simp] def l_sure_19 (_ : Unit) : List EOp := [⟨30, (some 0), none, (.q (.mov (.t 56))), []⟩]
@[simp] def l_sure_18 (_ : Unit) : List EOp := ⟨24, (some 51), none, (.q (.mov (.t 50))), []⟩ :: ⟨25, (some 52), (some (51, true)), (.q (.lda 40 (.t 1))), []⟩ :: ⟨26, (some 53), (some (51, true)), (.q (.mov (.t 4))), []⟩ :: ⟨27, (some 54), (some (51, true)), (.q (.mov (.t 2))), []⟩ :: ⟨28, (some 55), (some (51, true)), (.call 11 [(.t 52), (.t 53), (.t 54)]), []⟩ :: ⟨29, (some 56), none, (.q (.pick (.t 51) (.t 55) (.k (.bool false)))), []⟩ :: hid l_sure_19
@[simp] def l_sure_17 (_ : Unit) : List EOp := ⟨18, (some 45), (some (42, true)), (.call 18 [(.t 43), (.t 44)]), []⟩ :: ⟨19, (some 46), none, (.q (.pick (.t 42) (.t 45) (.k (.bool false)))), []⟩ :: ⟨20, (some 47), none, (.q (.mov (.t 46))), []⟩ :: ⟨21, (some 48), (some (47, true)), (.q (.mov (.t 6))), []⟩ :: ⟨22, (some 49), (some (47, true)), (.q (.bin .eql (.t 48) (.k (.int .i64 8)))), []⟩ :: ⟨23, (some 50), none, (.q (.pick (.t 47) (.t 49) (.k (.bool false)))), []⟩ :: hid l_sure_18
@[simp] def l_sure_16 (_ : Unit) : List EOp := ⟨12, (some 39), (some (37, true)), (.q (.bsl 1 [(.int .i64 0)] 2 [(0, (.k (.int .i64 10))), (1, (.k (.int .i64 10)))])), []⟩ :: ⟨13, (some 40), (some (37, true)), (.call 18 [(.t 38), (.t 39)]), []⟩ :: ⟨14, (some 41), none, (.q (.pick (.t 37) (.t 40) (.k (.bool false)))), []⟩ :: ⟨15, (some 42), none, (.q (.mov (.t 41))), []⟩ :: ⟨16, (some 43), (some (42, true)), (.q (.mov (.t 4))), []⟩ :: ⟨17, (some 44), (some (42, true)), (.q (.bsl 1 [(.int .i64 0)] 2 [(0, (.k (.int .i64 10))), (1, (.k (.int .i64 8)))])), []⟩ :: hid l_sure_17
@[simp] def l_sure_15 (_ : Unit) : List EOp := ⟨6, (some 33), none, (.q (.mov (.t 32))), []⟩ :: ⟨7, (some 34), (some (33, true)), (.q (.mov (.t 7))), []⟩ :: ⟨8, (some 35), (some (33, true)), (.q (.eqi false (.t 34))), []⟩ :: ⟨9, (some 36), none, (.q (.pick (.t 33) (.t 35) (.k (.bool false)))), []⟩ :: ⟨10, (some 37), none, (.q (.mov (.t 36))), []⟩ :: ⟨11, (some 38), (some (37, true)), (.q (.mov (.t 2))), []⟩ :: hid l_sure_16
@[simp] def l_sure_14 (_ : Unit) : List EOp := ⟨0, (some 27), none, (.q (.mov (.t 3))), []⟩ :: ⟨1, (some 28), none, (.q (.eqi false (.t 27))), []⟩ :: ⟨2, (some 29), none, (.q (.mov (.t 28))), []⟩ :: ⟨3, (some 30), (some (29, true)), (.q (.mov (.t 5))), []⟩ :: ⟨4, (some 31), (some (29, true)), (.q (.eqi false (.t 30))), []⟩ :: ⟨5, (some 32), none, (.q (.pick (.t 29) (.t 31) (.k (.bool false)))), []⟩ :: hid l_sure_15
@[simp] def b_sure_20 (_ : Unit) : EB := reg0 (hid l_sure_14) 31
@[simp] def b_sure_21 (_ : Unit) : EB := .seq (hid b_sure_20) .ret
@[simp] def b_sure_22 (_ : Unit) : EB := .seq (hid b_sure_13) (hid b_sure_21)
@[simp] def b_sure_23 (_ : Unit) : EB := .seq (hid b_sure_10) (hid b_sure_22)
@[simp] def b_sure_24 (_ : Unit) : EB := .seq (hid b_sure_7) (hid b_sure_23)
@[simp] def b_sure_25 (_ : Unit) : EB := .seq (hid b_sure_4) (hid b_sure_24)
@[simp] def b_sure_26 (_ : Unit) : EB := .seq (hid b_sure_2) (hid b_sure_25)
def c_sure : EB × List QOp × Nat := ((hid b_sure_26), [(.mov (.t 0))], 57)
theorem k_sure : cfun Tryd.prog 14 = some c_sure := by kernel_rfl

@[simp] def l_giveTree_1 (_ : Unit) : List EOp := [⟨0, (some 1), none, (.q (.box 28 (.t 0))), []⟩, ⟨1, (some 2), none, (.q (.alloc 31 (zU8 ++ [(.int .i64 0), (.int .i64 0), (.slice none 0 0), (.int .i64 0), (.int .i64 0), (.int .i64 0), (.int .i64 0), (.int .i64 0)]))), []⟩]
@[simp] def b_giveTree_2 (_ : Unit) : EB := reg0 (hid l_giveTree_1) 2
@[simp] def l_giveTree_3 (_ : Unit) : List EOp := [⟨0, (some 3), none, (.q (.mov (.k (.slice none 0 0)))), []⟩]
@[simp] def b_giveTree_4 (_ : Unit) : EB := reg0 (hid l_giveTree_3) 1
@[simp] def l_giveTree_8 (_ : Unit) : List EOp := [⟨18, (some 22), none, (.q (.build (zU8 ++ [(.int .i64 0), (.int .i64 0), (.slice none 0 0), (.int .i64 0), (.int .i64 0), (.int .i64 0), (.int .i64 0), (.int .i64 0)]) [(0, 33, (.t 5)), (33, 1, (.t 7)), (34, 1, (.t 11)), (35, 1, (.t 13)), (36, 1, (.t 15)), (37, 1, (.t 17)), (38, 1, (.t 19)), (39, 1, (.t 21))])), []⟩, ⟨19, none, none, (.fz (.sto 40 (.t 2) (.t 22))), []⟩]
@[simp] def l_giveTree_7 (_ : Unit) : List EOp := ⟨13, (some 17), none, (.q (.ldc (.t 16))), []⟩ :: ⟨14, (some 18), none, (.q (.fad 38 (.t 1))), []⟩ :: ⟨15, (some 19), none, (.q (.ldc (.t 18))), []⟩ :: ⟨16, (some 20), none, (.q (.fad 39 (.t 1))), []⟩ :: ⟨17, (some 21), none, (.q (.ldc (.t 20))), []⟩ :: ⟨7, (some 11), none, (.app 3 1 8 (.t 8) (.t 10)), [0, 1, 2, 3, 8, 9, 10, 11, 12, 13, 14, 15, 16, 17]⟩ :: hid l_giveTree_8
@[simp] def l_giveTree_6 (_ : Unit) : List EOp := ⟨6, (some 10), none, (.q (.ldc (.t 9))), []⟩ :: ⟨8, (some 12), none, (.q (.fad 35 (.t 1))), []⟩ :: ⟨9, (some 13), none, (.q (.ldc (.t 12))), []⟩ :: ⟨10, (some 14), none, (.q (.fad 36 (.t 1))), []⟩ :: ⟨11, (some 15), none, (.q (.ldc (.t 14))), []⟩ :: ⟨12, (some 16), none, (.q (.fad 37 (.t 1))), []⟩ :: hid l_giveTree_7
@[simp] def l_giveTree_5 (_ : Unit) : List EOp := ⟨0, (some 4), none, (.q (.fad 0 (.t 1))), []⟩ :: ⟨1, (some 5), none, (.q (.lda 33 (.t 4))), []⟩ :: ⟨2, (some 6), none, (.q (.fad 33 (.t 1))), []⟩ :: ⟨3, (some 7), none, (.q (.ldc (.t 6))), []⟩ :: ⟨4, (some 8), none, (.q (.mov (.t 3))), []⟩ :: ⟨5, (some 9), none, (.q (.fad 34 (.t 1))), []⟩ :: hid l_giveTree_6
@[simp] def b_giveTree_9 (_ : Unit) : EB := reg1 (hid l_giveTree_5) 20
@[simp] def b_giveTree_10 (_ : Unit) : EB := .seq (hid b_giveTree_9) .ret
@[simp] def b_giveTree_11 (_ : Unit) : EB := .seq (hid b_giveTree_4) (hid b_giveTree_10)
@[simp] def b_giveTree_12 (_ : Unit) : EB := .seq (hid b_giveTree_2) (hid b_giveTree_11)
def c_giveTree : EB × List QOp × Nat := ((hid b_giveTree_12), [(.lda 40 (.t 2))], 23)
theorem k_giveTree : cfun Tryd.prog 15 = some c_giveTree := by kernel_rfl

@[simp] def l_TreeLefts_1 (_ : Unit) : List EOp := [⟨0, (some 2), none, (.q (.box 28 (.t 0))), []⟩, ⟨1, (some 4), none, (.q (.mov (.k (.bool false)))), []⟩]
@[simp] def b_TreeLefts_2 (_ : Unit) : EB := reg0 (hid l_TreeLefts_1) 2
@[simp] def l_TreeLefts_4 (_ : Unit) : List EOp := [⟨6, (some 15), (some (13, false)), (.q (.len (.t 14))), []⟩, ⟨7, (some 16), (some (13, false)), (.q (.bin .gtr (.t 15) (.k (.int .i64 100)))), []⟩, ⟨8, (some 17), none, (.q (.pick (.t 13) (.k (.bool true)) (.t 16))), []⟩]
@[simp] def l_TreeLefts_3 (_ : Unit) : List EOp := ⟨0, (some 9), none, (.q (.fad 34 (.t 2))), []⟩ :: ⟨1, (some 10), none, (.q (.ldc (.t 9))), []⟩ :: ⟨2, (some 11), none, (.q (.len (.t 10))), []⟩ :: ⟨3, (some 12), none, (.q (.bin .gtr (.t 11) (.k (.int .i64 100)))), []⟩ :: ⟨4, (some 13), none, (.q (.mov (.t 12))), []⟩ :: ⟨5, (some 14), (some (13, false)), (.q (.mov (.t 1))), []⟩ :: hid l_TreeLefts_4
@[simp] def b_TreeLefts_5 (_ : Unit) : EB := reg0 (hid l_TreeLefts_3) 9
@[simp] def l_TreeLefts_6 (_ : Unit) : List EOp := [⟨0, (some 18), none, (.call 14 []), []⟩, ⟨1, (some 4), none, (.q (.mov (.t 18))), []⟩]
@[simp] def b_TreeLefts_7 (_ : Unit) : EB := reg0 (hid l_TreeLefts_6) 2
@[simp] def b_TreeLefts_8 (_ : Unit) : EB := .seq (hid b_TreeLefts_7) .ret
@[simp] def b_TreeLefts_9 (_ : Unit) : EB := .cond (.t 17) (hid b_TreeLefts_8) .skip
@[simp] def b_TreeLefts_10 (_ : Unit) : EB := .seq (hid b_TreeLefts_5) (hid b_TreeLefts_9)
@[simp] def l_TreeLefts_12 (_ : Unit) : List EOp := [⟨6, (some 25), none, (.q (.ext 1 (.t 19))), []⟩, ⟨7, (some 5), none, (.q (.mov (.t 24))), []⟩, ⟨8, (some 6), none, (.q (.mov (.t 25))), []⟩]
@[simp] def l_TreeLefts_11 (_ : Unit) : List EOp := ⟨0, (some 20), none, (.q (.lda 40 (.t 2))), []⟩ :: ⟨1, (some 21), none, (.call 15 [(.t 20)]), []⟩ :: ⟨2, (some 22), none, (.q (.mov (.t 1))), []⟩ :: ⟨3, (some 23), none, (.call 10 [(.t 21), (.t 22)]), []⟩ :: ⟨4, (some 19), none, (.q (.mov (.t 23))), []⟩ :: ⟨5, (some 24), none, (.q (.ext 0 (.t 19))), []⟩ :: hid l_TreeLefts_12
@[simp] def b_TreeLefts_13 (_ : Unit) : EB := reg0 (hid l_TreeLefts_11) 9
@[simp] def l_TreeLefts_15 (_ : Unit) : List EOp := [⟨6, (some 7), none, (.q (.mov (.t 30))), []⟩, ⟨7, (some 8), none, (.q (.mov (.t 31))), []⟩]
@[simp] def l_TreeLefts_14 (_ : Unit) : List EOp := ⟨0, (some 27), none, (.q (.lda 40 (.t 2))), []⟩ :: ⟨1, (some 28), none, (.q (.mov (.t 1))), []⟩ :: ⟨2, (some 29), none, (.call 16 [(.t 27), (.t 28)]), []⟩ :: ⟨3, (some 26), none, (.q (.mov (.t 29))), []⟩ :: ⟨4, (some 30), none, (.q (.ext 0 (.t 26))), []⟩ :: ⟨5, (some 31), none, (.q (.ext 1 (.t 26))), []⟩ :: hid l_TreeLefts_15
@[simp] def b_TreeLefts_16 (_ : Unit) : EB := reg0 (hid l_TreeLefts_14) 8
@[simp] def l_TreeLefts_19 (_ : Unit) : List EOp := [⟨12, (some 4), none, (.q (.mov (.t 43))), []⟩]
@[simp] def l_TreeLefts_18 (_ : Unit) : List EOp := ⟨6, (some 38), (some (35, true)), (.q (.mov (.t 8))), []⟩ :: ⟨7, (some 39), (some (35, true)), (.q (.bin .eql (.t 37) (.t 38))), []⟩ :: ⟨8, (some 40), none, (.q (.pick (.t 35) (.t 39) (.k (.bool false)))), []⟩ :: ⟨9, (some 41), none, (.q (.mov (.t 40))), []⟩ :: ⟨10, (some 42), (some (41, true)), (.call 14 []), []⟩ :: ⟨11, (some 43), none, (.q (.pick (.t 41) (.t 42) (.k (.bool false)))), []⟩ :: hid l_TreeLefts_19
@[simp] def l_TreeLefts_17 (_ : Unit) : List EOp := ⟨0, (some 32), none, (.q (.mov (.t 5))), []⟩ :: ⟨1, (some 33), none, (.q (.mov (.t 7))), []⟩ :: ⟨2, (some 34), none, (.q (.bin .eql (.t 32) (.t 33))), []⟩ :: ⟨3, (some 35), none, (.q (.mov (.t 34))), []⟩ :: ⟨4, (some 36), (some (35, true)), (.q (.mov (.t 6))), []⟩ :: ⟨5, (some 37), (some (35, true)), (.call 13 [(.t 36)]), []⟩ :: hid l_TreeLefts_18
@[simp] def b_TreeLefts_20 (_ : Unit) : EB := reg0 (hid l_TreeLefts_17) 13
@[simp] def b_TreeLefts_21 (_ : Unit) : EB := .seq (hid b_TreeLefts_20) .ret
@[simp] def b_TreeLefts_22 (_ : Unit) : EB := .seq (hid b_TreeLefts_16) (hid b_TreeLefts_21)
@[simp] def b_TreeLefts_23 (_ : Unit) : EB := .seq (hid b_TreeLefts_13) (hid b_TreeLefts_22)
@[simp] def b_TreeLefts_24 (_ : Unit) : EB := .seq (hid b_TreeLefts_10) (hid b_TreeLefts_23)
@[simp] def b_TreeLefts_25 (_ : Unit) : EB := .seq (hid b_TreeLefts_2) (hid b_TreeLefts_24)
def c_TreeLefts : EB × List QOp × Nat := ((hid b_TreeLefts_25), [(.mov (.t 4))], 44)
theorem k_TreeLefts : cfun Tryd.prog 4 = some c_TreeLefts := by kernel_rfl

@[simp] def l_TreeNexts_1 (_ : Unit) : List EOp := [⟨0, (some 2), none, (.q (.box 28 (.t 0))), []⟩, ⟨1, (some 4), none, (.q (.mov (.k (.bool false)))), []⟩]
@[simp] def b_TreeNexts_2 (_ : Unit) : EB := reg0 (hid l_TreeNexts_1) 2
@[simp] def l_TreeNexts_4 (_ : Unit) : List EOp := [⟨6, (some 16), (some (14, false)), (.q (.len (.t 15))), []⟩, ⟨7, (some 17), (some (14, false)), (.q (.bin .gtr (.t 16) (.k (.int .i64 100)))), []⟩, ⟨8, (some 18), none, (.q (.pick (.t 14) (.k (.bool true)) (.t 17))), []⟩]
@[simp] def l_TreeNexts_3 (_ : Unit) : List EOp := ⟨0, (some 10), none, (.q (.fad 34 (.t 2))), []⟩ :: ⟨1, (some 11), none, (.q (.ldc (.t 10))), []⟩ :: ⟨2, (some 12), none, (.q (.len (.t 11))), []⟩ :: ⟨3, (some 13), none, (.q (.bin .gtr (.t 12) (.k (.int .i64 100)))), []⟩ :: ⟨4, (some 14), none, (.q (.mov (.t 13))), []⟩ :: ⟨5, (some 15), (some (14, false)), (.q (.mov (.t 1))), []⟩ :: hid l_TreeNexts_4
@[simp] def b_TreeNexts_5 (_ : Unit) : EB := reg0 (hid l_TreeNexts_3) 9
@[simp] def l_TreeNexts_6 (_ : Unit) : List EOp := [⟨0, (some 19), none, (.call 14 []), []⟩, ⟨1, (some 4), none, (.q (.mov (.t 19))), []⟩]
@[simp] def b_TreeNexts_7 (_ : Unit) : EB := reg0 (hid l_TreeNexts_6) 2
@[simp] def b_TreeNexts_8 (_ : Unit) : EB := .seq (hid b_TreeNexts_7) .ret
@[simp] def b_TreeNexts_9 (_ : Unit) : EB := .cond (.t 18) (hid b_TreeNexts_8) .skip
@[simp] def b_TreeNexts_10 (_ : Unit) : EB := .seq (hid b_TreeNexts_5) (hid b_TreeNexts_9)
@[simp] def l_TreeNexts_11 (_ : Unit) : List EOp := [⟨0, (some 5), none, (.q (.mov (.k (.slice none 0 0)))), []⟩]
@[simp] def b_TreeNexts_12 (_ : Unit) : EB := reg0 (hid l_TreeNexts_11) 1
@[simp] def l_TreeNexts_13 (_ : Unit) : List EOp := [⟨0, (some 20), none, (.q (.mov (.t 5))), []⟩, ⟨1, (some 21), none, (.q (.mov (.t 1))), []⟩, ⟨2, (some 22), none, (.app 3 1 8 (.t 20) (.t 21)), []⟩, ⟨3, (some 5), none, (.q (.mov (.t 22))), []⟩]
@[simp] def b_TreeNexts_14 (_ : Unit) : EB := reg0 (hid l_TreeNexts_13) 4
@[simp] def l_TreeNexts_16 (_ : Unit) : List EOp := [⟨6, (some 29), none, (.q (.ext 1 (.t 23))), []⟩, ⟨7, (some 6), none, (.q (.mov (.t 28))), []⟩, ⟨8, (some 7), none, (.q (.mov (.t 29))), []⟩]
@[simp] def l_TreeNexts_15 (_ : Unit) : List EOp := ⟨0, (some 24), none, (.q (.lda 40 (.t 2))), []⟩ :: ⟨1, (some 25), none, (.call 15 [(.t 24)]), []⟩ :: ⟨2, (some 26), none, (.q (.mov (.t 5))), []⟩ :: ⟨3, (some 27), none, (.call 12 [(.t 25), (.t 26)]), []⟩ :: ⟨4, (some 23), none, (.q (.mov (.t 27))), []⟩ :: ⟨5, (some 28), none, (.q (.ext 0 (.t 23))), []⟩ :: hid l_TreeNexts_16
@[simp] def b_TreeNexts_17 (_ : Unit) : EB := reg0 (hid l_TreeNexts_15) 9
@[simp] def l_TreeNexts_19 (_ : Unit) : List EOp := [⟨6, (some 8), none, (.q (.mov (.t 34))), []⟩, ⟨7, (some 9), none, (.q (.mov (.t 35))), []⟩]
@[simp] def l_TreeNexts_18 (_ : Unit) : List EOp := ⟨0, (some 31), none, (.q (.lda 40 (.t 2))), []⟩ :: ⟨1, (some 32), none, (.q (.mov (.t 1))), []⟩ :: ⟨2, (some 33), none, (.call 17 [(.t 31), (.t 32)]), []⟩ :: ⟨3, (some 30), none, (.q (.mov (.t 33))), []⟩ :: ⟨4, (some 34), none, (.q (.ext 0 (.t 30))), []⟩ :: ⟨5, (some 35), none, (.q (.ext 1 (.t 30))), []⟩ :: hid l_TreeNexts_19
@[simp] def b_TreeNexts_20 (_ : Unit) : EB := reg0 (hid l_TreeNexts_18) 8
@[simp] def l_TreeNexts_23 (_ : Unit) : List EOp := [⟨12, (some 48), (some (45, true)), (.call 18 [(.t 46), (.t 47)]), []⟩, ⟨13, (some 49), none, (.q (.pick (.t 45) (.t 48) (.k (.bool false)))), []⟩, ⟨14, (some 50), none, (.q (.mov (.t 49))), []⟩, ⟨15, (some 51), (some (50, true)), (.call 14 []), []⟩, ⟨16, (some 52), none, (.q (.pick (.t 50) (.t 51) (.k (.bool false)))), []⟩, ⟨17, (some 4), none, (.q (.mov (.t 52))), []⟩]
@[simp] def l_TreeNexts_22 (_ : Unit) : List EOp := ⟨6, (some 42), (some (39, true)), (.q (.mov (.t 9))), []⟩ :: ⟨7, (some 43), (some (39, true)), (.q (.bin .eql (.t 41) (.t 42))), []⟩ :: ⟨8, (some 44), none, (.q (.pick (.t 39) (.t 43) (.k (.bool false)))), []⟩ :: ⟨9, (some 45), none, (.q (.mov (.t 44))), []⟩ :: ⟨10, (some 46), (some (45, true)), (.q (.mov (.t 5))), []⟩ :: ⟨11, (some 47), (some (45, true)), (.q (.mov (.t 1))), []⟩ :: hid l_TreeNexts_23
@[simp] def l_TreeNexts_21 (_ : Unit) : List EOp := ⟨0, (some 36), none, (.q (.mov (.t 6))), []⟩ :: ⟨1, (some 37), none, (.q (.mov (.t 8))), []⟩ :: ⟨2, (some 38), none, (.call 18 [(.t 36), (.t 37)]), []⟩ :: ⟨3, (some 39), none, (.q (.mov (.t 38))), []⟩ :: ⟨4, (some 40), (some (39, true)), (.q (.mov (.t 7))), []⟩ :: ⟨5, (some 41), (some (39, true)), (.call 13 [(.t 40)]), []⟩ :: hid l_TreeNexts_22
@[simp] def b_TreeNexts_24 (_ : Unit) : EB := reg0 (hid l_TreeNexts_21) 18
@[simp] def b_TreeNexts_25 (_ : Unit) : EB := .seq (hid b_TreeNexts_24) .ret
@[simp] def b_TreeNexts_26 (_ : Unit) : EB := .seq (hid b_TreeNexts_20) (hid b_TreeNexts_25)
@[simp] def b_TreeNexts_27 (_ : Unit) : EB := .seq (hid b_TreeNexts_17) (hid b_TreeNexts_26)
@[simp] def b_TreeNexts_28 (_ : Unit) : EB := .seq (hid b_TreeNexts_14) (hid b_TreeNexts_27)
@[simp] def b_TreeNexts_29 (_ : Unit) : EB := .seq (hid b_TreeNexts_12) (hid b_TreeNexts_28)
@[simp] def b_TreeNexts_30 (_ : Unit) : EB := .seq (hid b_TreeNexts_10) (hid b_TreeNexts_29)
@[simp] def b_TreeNexts_31 (_ : Unit) : EB := .seq (hid b_TreeNexts_2) (hid b_TreeNexts_30)
def c_TreeNexts : EB × List QOp × Nat := ((hid b_TreeNexts_31), [(.mov (.t 4))], 53)
theorem k_TreeNexts : cfun Tryd.prog 5 = some c_TreeNexts := by kernel_rfl


theorem num_e (e : Nat) : ECalls Tryd.prog 13 [.lit (errV e)] [] fun y H' => H' = [] ∧ y = I .i64 e := by
  have h := num_ok (e : Int)
  have e1 : EN (e : Int) = .lit (errV e) := by
    unfold EN errV
    by_cases h : e = 0
    · subst h; rfl
    · rw [if_neg (by omega), if_neg h]
  rw [e1] at h
  exact h

theorem tkG {x : List UInt8} (h : x.length = 32) (m n : Nat) (e : n = 32 + m) (r : List EC) : List.take n (hc x ++ r) = hc x ++ r.take m := by
  have h1 : (hc x).length = 32 := by rw [hc_len, h]
  subst e
  rw [List.take_append, h1, List.take_of_length_le (by omega)]
  congr 2
  omega
theorem drG {x : List UInt8} (h : x.length = 32) (m n : Nat) (e : n = 32 + m) (r : List EC) : List.drop n (hc x ++ r) = r.drop m := by
  have h1 : (hc x).length = 32 := by rw [hc_len, h]
  subst e
  rw [List.drop_append, h1, List.drop_eq_nil_of_le (by omega)]
  simp

def cfgS : Cfg := ⟨hz, 0, 100, [1, 2], 2, 10, 6, 2, 0⟩
theorem cfgS_ok : cfgS.ok := by simp [cfgS, Cfg.ok, i64]
theorem begS : begT cfgS = ([10, 10], 0) := by decide
theorem nextS : nextT cfgS [10, 10] = ([10, 8], 0) := by decide
theorem leftS : leftT cfgS [10, 10] = (8, 0) := by decide
theorem newS : newT cfgS [10, 8] [10, 10] = true := by decide

set_option maxRecDepth 8000 in
set_option maxHeartbeats 4000000 in
theorem sure_ok : ECalls Tryd.prog 14 [] [] fun y H' => H' = [] ∧ y = .lit (.bool true) := by
  have b1 := TBegin_ok cfgS cfgS_ok
  have b2 := TNext_ok cfgS [10, 10] cfgS_ok (by simp)
  have b3 := TLeft_ok cfgS [10, 10] cfgS_ok (by simp)
  have b4 := TNewer_ok cfgS [10, 8] [10, 10] cfgS_ok (by simp) (by simp)
  rw [begS] at b1
  rw [nextS] at b2
  rw [leftS] at b3
  rw [newS] at b4
  simp only [CV, cfgC, cfgT, cfgS, IL, PE] at b1 b2 b3 b4
  have g33 := tkG hz_len 1 33 rfl
  have f33 := drG hz_len 1 33 rfl
  have g34 := tkG hz_len 2 34 rfl
  have f34 := drG hz_len 2 34 rfl
  have g35 := tkG hz_len 3 35 rfl
  have f35 := drG hz_len 3 35 rfl
  have g36 := tkG hz_len 4 36 rfl
  have f36 := drG hz_len 4 36 rfl
  have g37 := tkG hz_len 5 37 rfl
  have f37 := drG hz_len 5 37 rfl
  have g38 := tkG hz_len 6 38 rfl
  have f38 := drG hz_len 6 38 rfl
  have g39 := tkG hz_len 7 39 rfl
  have f39 := drG hz_len 7 39 rfl
  have g40 := tkG hz_len 8 40 rfl
  have f40 := drG hz_len 8 40 rfl
  refine ecalls k_sure ?_
  simp [c_sure, hz_len, g33, f33, g34, f34, g35, f35, g36, f36, g37, f37, g38, f38, g39, f39, g40, f40]
  refine call0 (b1) (by simp [I, EV.lit, Ptr, IL, CV, cfgC, cfgT, intv, tk40 hz_len]) ?_
  rintro y H' ⟨rfl, rfl⟩
  refine ⟨.inl (by simp [I, EV.lit, Ptr, IL, CV, cfgC, cfgT, intv, tk40 hz_len]), le_ok rfl, ?_⟩
  simp [I, EV.lit, Ptr, IL, CV, cfgC, cfgT, intv, tk40 hz_len]
  refine call0 (b2) (by simp [I, EV.lit, Ptr, IL, CV, cfgC, cfgT, intv, tk40 hz_len]) ?_
  rintro y H' ⟨rfl, rfl⟩
  refine ⟨.inl (by simp [I, EV.lit, Ptr, IL, CV, cfgC, cfgT, intv, tk40 hz_len]), le_ok rfl, ?_⟩
  simp [I, EV.lit, Ptr, IL, CV, cfgC, cfgT, intv, tk40 hz_len]
  refine call0 (b3) (by simp [I, EV.lit, Ptr, IL, CV, cfgC, cfgT, intv, tk40 hz_len]) ?_
  rintro y H' ⟨rfl, rfl⟩
  refine ⟨.inl (by simp [I, EV.lit, Ptr, IL, CV, cfgC, cfgT, intv, tk40 hz_len]), le_ok rfl, ?_⟩
  simp [I, EV.lit, Ptr, IL, CV, cfgC, cfgT, intv, tk40 hz_len]
  refine call0 (ints_ok [10, 10] (by simp)) (by simp [I, EV.lit, Ptr, IL, CV, cfgC, cfgT, intv, tk40 hz_len]) ?_
  rintro y H' ⟨rfl, rfl⟩
  refine ⟨.inl (by simp [I, EV.lit, Ptr, IL, CV, cfgC, cfgT, intv, tk40 hz_len]), le_ok rfl, ?_⟩
  simp [I, EV.lit, Ptr, IL, CV, cfgC, cfgT, intv, tk40 hz_len]
  refine call0 (ints_ok [10, 8] (by simp)) (by simp [I, EV.lit, Ptr, IL, CV, cfgC, cfgT, intv, tk40 hz_len]) ?_
  rintro y H' ⟨rfl, rfl⟩
  refine ⟨.inl (by simp [I, EV.lit, Ptr, IL, CV, cfgC, cfgT, intv, tk40 hz_len]), le_ok rfl, ?_⟩
  simp [I, EV.lit, Ptr, IL, CV, cfgC, cfgT, intv, tk40 hz_len]
  refine call0 (b4) (by simp [I, EV.lit, Ptr, IL, CV, cfgC, cfgT, intv, tk40 hz_len]) ?_
  rintro y H' ⟨rfl, rfl⟩
  refine ⟨.inl (by simp [I, EV.lit, Ptr, IL, CV, cfgC, cfgT, intv, tk40 hz_len]), le_ok rfl, ?_⟩
  simp [I, EV.lit, Ptr, IL, CV, cfgC, cfgT, intv, tk40 hz_len]
  exact fin [] (by decide) rfl rfl rfl ⟨rfl, rfl⟩

set_option maxRecDepth 8000 in
set_option maxHeartbeats 4000000 in
theorem giveTree_ok (c : Cfg) (hc : c.ok) : ECalls Tryd.prog 15 [CV c] [] fun y H' => H' = [] ∧ y = CV c := by
  have h32 := hc.1
  have g33 := tkG h32 1 33 rfl
  have f33 := drG h32 1 33 rfl
  have g34 := tkG h32 2 34 rfl
  have f34 := drG h32 2 34 rfl
  have g35 := tkG h32 3 35 rfl
  have f35 := drG h32 3 35 rfl
  have g36 := tkG h32 4 36 rfl
  have f36 := drG h32 4 36 rfl
  have g37 := tkG h32 5 37 rfl
  have f37 := drG h32 5 37 rfl
  have g38 := tkG h32 6 38 rfl
  have f38 := drG h32 6 38 rfl
  have g39 := tkG h32 7 39 rfl
  have f39 := drG h32 7 39 rfl
  have g40 := tkG h32 8 40 rfl
  have f40 := drG h32 8 40 rfl
  have hkl := hc.2.2.2.2.2.2.2.2.2
  refine ecalls k_giveTree ?_
  simp [c_giveTree, CV, cfgC, cfgT, IL, h32, g33, f33, g34, f34, g35, f35, g36, f36, g37, f37, g38, f38, g39, f39, g40, f40, drG hz_len 8 40 rfl]
  refine ⟨by omega, ?_⟩
  refine finW _ (weak_frz (o := 160) (ty := 3) (es := 1) (xs := intv c.keys) rfl) ?_
  have tki : List.take c.keys.length (intv c.keys) = intv c.keys := List.take_of_length_le (by simp)
  simp [fz_hc, tki]
  exact fin [] (by decide) (v := CV c) (by simp [resV, resT, evT, asT, CV, cfgC, cfgT, fzEO, fzE, fz_hc, tki, h32, g40]) (by simp [conR, conTs, conT, CV, cfgC, cfgT]) rfl ⟨rfl, rfl⟩

set_option maxRecDepth 8000 in
set_option maxHeartbeats 4000000 in
theorem TreeLefts_ok (c : Cfg) (p : List Int) (hc : c.ok) (hl : p.length ≤ 100000000) : ECalls Tryd.prog 4 [CV c, IL p] [] fun y H' => H' = [] ∧ y = .lit (.bool true) := by
  have h32 := hc.1
  have t40 := tk40 h32
  refine ecalls k_TreeLefts ?_
  simp [c_TreeLefts, CV, cfgC, cfgT, IL, h32, t40]
  by_cases n1 : (100 : Int) < c.keys.length
  · have h1 : ¬ (c.keys.length : Int) ≤ 100 := by omega
    simp [h1, n1]
    refine call0 (sure_ok) (by simp [I, EV.lit, Ptr, IL, CV, cfgC, cfgT, intv, tk40 hz_len]) ?_
    rintro y H' ⟨rfl, rfl⟩
    refine ⟨.inl (by simp [I, EV.lit, Ptr, IL, CV, cfgC, cfgT, intv, tk40 hz_len]), le_ok rfl, ?_⟩
    simp [I, EV.lit, Ptr, IL, CV, cfgC, cfgT, intv, tk40 hz_len]
    exact fin [] (by decide) rfl rfl rfl ⟨rfl, rfl⟩
  have h1 : (c.keys.length : Int) ≤ 100 := by omega
  by_cases n2 : (100 : Int) < p.length
  · have h2 : ¬ (p.length : Int) ≤ 100 := by omega
    simp [h1, n1, h2, n2]
    refine call0 (sure_ok) (by simp [I, EV.lit, Ptr, IL, CV, cfgC, cfgT, intv, tk40 hz_len]) ?_
    rintro y H' ⟨rfl, rfl⟩
    refine ⟨.inl (by simp [I, EV.lit, Ptr, IL, CV, cfgC, cfgT, intv, tk40 hz_len]), le_ok rfl, ?_⟩
    simp [I, EV.lit, Ptr, IL, CV, cfgC, cfgT, intv, tk40 hz_len]
    exact fin [] (by decide) rfl rfl rfl ⟨rfl, rfl⟩
  have h2 : (p.length : Int) ≤ 100 := by omega
  simp [h1, n1, h2, n2, h32, t40]
  refine call0 (giveTree_ok c hc) (by simp [CV, cfgC, cfgT]) ?_
  rintro y H' ⟨rfl, rfl⟩
  refine ⟨.inl (by simp [t40]), le_ok rfl, ?_⟩
  simp [CV, cfgC, cfgT, h32, t40]
  refine call0 (TLeft_ok c p hc hl) (by simp [CV, cfgC, cfgT, IL, t40]) ?_
  rintro y H' ⟨rfl, rfl⟩
  refine ⟨.inl (by simp [t40]), le_ok rfl, ?_⟩
  simp [CV, cfgC, cfgT, h32, t40]
  refine call0 (RTLeft_ok c p hc hl) (by simp [CV, cfgC, cfgT, IL, t40]) ?_
  rintro y H' ⟨rfl, rfl⟩
  refine ⟨.inl (by simp [t40]), le_ok rfl, ?_⟩
  simp
  refine call0 (num_e (leftT c p).2) (by simp [EV.lit]) ?_
  rintro y H' ⟨rfl, rfl⟩
  refine ⟨.inl (by simp [t40]), le_ok rfl, ?_⟩
  simp [I]
  refine call0 (sure_ok) (by simp [I, EV.lit, Ptr, IL, CV, cfgC, cfgT, intv, tk40 hz_len]) ?_
  rintro y H' ⟨rfl, rfl⟩
  refine ⟨.inl (by simp [I, EV.lit, Ptr, IL, CV, cfgC, cfgT, intv, tk40 hz_len]), le_ok rfl, ?_⟩
  simp [I, EV.lit, Ptr, IL, CV, cfgC, cfgT, intv, tk40 hz_len]
  exact fin [] (by decide) rfl rfl rfl ⟨rfl, rfl⟩

set_option maxRecDepth 8000 in
set_option maxHeartbeats 4000000 in
theorem TreeNexts_ok (c : Cfg) (p : List Int) (hc : c.ok) (hl : p.length ≤ 100000000) : ECalls Tryd.prog 5 [CV c, IL p] [] fun y H' => H' = [] ∧ y = .lit (.bool true) := by
  have h32 := hc.1
  have t40 := tk40 h32
  have hnl : (nextT c p).1.length ≤ 100000000 := by
    unfold nextT
    split
    · simp
    · split
      · simp
      · simp [upTo_len]; exact hl
  have tki : List.take p.length (intv p) = intv p := List.take_of_length_le (by simp)
  refine ecalls k_TreeNexts ?_
  simp [c_TreeNexts, CV, cfgC, cfgT, IL, h32, t40]
  by_cases n1 : (100 : Int) < c.keys.length
  · have h1 : ¬ (c.keys.length : Int) ≤ 100 := by omega
    simp [h1, n1]
    refine call0 (sure_ok) (by simp [I, EV.lit, Ptr, IL, CV, cfgC, cfgT, intv, tk40 hz_len]) ?_
    rintro y H' ⟨rfl, rfl⟩
    refine ⟨.inl (by simp [I, EV.lit, Ptr, IL, CV, cfgC, cfgT, intv, tk40 hz_len]), le_ok rfl, ?_⟩
    simp [I, EV.lit, Ptr, IL, CV, cfgC, cfgT, intv, tk40 hz_len]
    exact fin [] (by decide) rfl rfl rfl ⟨rfl, rfl⟩
  have h1 : (c.keys.length : Int) ≤ 100 := by omega
  by_cases n2 : (100 : Int) < p.length
  · have h2 : ¬ (p.length : Int) ≤ 100 := by omega
    simp [h1, n1, h2, n2]
    refine call0 (sure_ok) (by simp [I, EV.lit, Ptr, IL, CV, cfgC, cfgT, intv, tk40 hz_len]) ?_
    rintro y H' ⟨rfl, rfl⟩
    refine ⟨.inl (by simp [I, EV.lit, Ptr, IL, CV, cfgC, cfgT, intv, tk40 hz_len]), le_ok rfl, ?_⟩
    simp [I, EV.lit, Ptr, IL, CV, cfgC, cfgT, intv, tk40 hz_len]
    exact fin [] (by decide) rfl rfl rfl ⟨rfl, rfl⟩
  have h2 : (p.length : Int) ≤ 100 := by omega
  simp [h1, n1, h2, n2, h32, t40]
  refine ⟨by omega, ?_⟩
  refine call0 (giveTree_ok c hc) (by simp [CV, cfgC, cfgT, t40]) ?_
  rintro y H' ⟨rfl, rfl⟩
  refine ⟨.inl (by simp [t40]), le_ok rfl, ?_⟩
  simp [CV, cfgC, cfgT, h32, t40]
  refine callS [224] (TNext_okR c p hc hl) (by simp [CV, cfgC, cfgT, IR, t40]) (by simp [objsIn, IO]) (by simp) (by simp [reach]) (by rintro i hi y H' ⟨rfl, rfl⟩; simp at hi; subst hi; simp [after, IO]) ?_
  rintro y H' ⟨rfl, rfl⟩
  refine ⟨.inl (by simp [t40]), le_ok rfl, ?_⟩
  simp [CV, cfgC, cfgT, h32, t40, PE]
  refine call0 (RTNext_ok c p hc hl) (by simp [CV, cfgC, cfgT, IL, t40]) ?_
  rintro y H' ⟨rfl, rfl⟩
  refine ⟨.inl (by simp [t40]), le_ok rfl, ?_⟩
  simp [PI]
  refine call0 (ints_ok _ hnl) (by simp [IL]) ?_
  rintro y H' ⟨rfl, rfl⟩
  refine ⟨.inl (by simp [t40]), le_ok rfl, ?_⟩
  simp [EV.lit]
  refine call0 (num_e (nextT c p).2) (by simp [EV.lit]) ?_
  rintro y H' ⟨rfl, rfl⟩
  refine ⟨.inl (by simp [t40]), le_ok rfl, ?_⟩
  simp [I]
  refine call0 (ints_ok p hl) (by simp [IL, IO, tki]) ?_
  rintro y H' ⟨rfl, rfl⟩
  refine ⟨.inr ⟨rfl, by simp⟩, le_ok rfl, ?_⟩
  simp [EV.lit]
  refine call0 (sure_ok) (by simp [I, EV.lit, Ptr, IL, CV, cfgC, cfgT, intv, tk40 hz_len]) ?_
  rintro y H' ⟨rfl, rfl⟩
  refine ⟨.inl (by simp [I, EV.lit, Ptr, IL, CV, cfgC, cfgT, intv, tk40 hz_len]), le_ok rfl, ?_⟩
  simp [I, EV.lit, Ptr, IL, CV, cfgC, cfgT, intv, tk40 hz_len]
  exact fin [] (by decide) rfl rfl rfl ⟨rfl, rfl⟩

end Go.Proofs.YtoomdgmggkcgfaaDoor
