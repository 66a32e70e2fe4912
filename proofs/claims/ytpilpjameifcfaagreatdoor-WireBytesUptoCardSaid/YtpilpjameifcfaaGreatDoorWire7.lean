import Derived.Test.YtpilpjameifcfaaGreatDoorWire6
namespace Go.Proofs.YtpilpjameifcfaaGreatDoor
open Go Go.EW
set_option linter.unusedSimpArgs false
set_option linter.unusedVariables false

@[simp] def l_giveOp_1 (_ : Unit) : List EOp := [⟨0, (some 1), none, (.q (.box 33 (.t 0))), []⟩, ⟨1, (some 2), none, (.q (.alloc 47 (([(.int .i64 0), (.int .i64 0), (.int .i64 0), (.int .i64 0), (.int .i64 0), (.int .i64 0), (.int .i64 0)] : List Value) ++ zU8 ++ [(.slice none 0 0)]))), []⟩]
@[simp] def b_giveOp_2 (_ : Unit) : EB := reg0 (hid l_giveOp_1) 2
@[simp] def l_giveOp_3 (_ : Unit) : List EOp := [⟨0, (some 3), none, (.q (.mov (.k (.slice none 0 0)))), []⟩]
@[simp] def b_giveOp_4 (_ : Unit) : EB := reg0 (hid l_giveOp_3) 1
@[simp] def l_giveOp_7 (_ : Unit) : List EOp := [⟨12, (some 16), none, (.q (.build (([(.int .i64 0), (.int .i64 0), (.int .i64 0), (.int .i64 0), (.int .i64 0), (.int .i64 0), (.int .i64 0)] : List Value) ++ zU8 ++ [(.slice none 0 0)]) [(0, 1, (.t 5)), (1, 1, (.t 7)), (2, 1, (.t 9)), (3, 36, (.t 11)), (39, 1, (.t 15))])), []⟩, ⟨13, none, none, (.fz (.sto 40 (.t 2) (.t 16))), []⟩]
@[simp] def l_giveOp_6 (_ : Unit) : List EOp := ⟨6, (some 10), none, (.q (.fad 3 (.t 1))), []⟩ :: ⟨7, (some 11), none, (.q (.lda 36 (.t 10))), []⟩ :: ⟨8, (some 12), none, (.q (.mov (.t 3))), []⟩ :: ⟨9, (some 13), none, (.q (.fad 39 (.t 1))), []⟩ :: ⟨10, (some 14), none, (.q (.ldc (.t 13))), []⟩ :: ⟨11, (some 15), none, (.app 5 1 1 (.t 12) (.t 14)), [0, 1, 2, 3, 4, 5, 6, 7]⟩ :: hid l_giveOp_7
@[simp] def l_giveOp_5 (_ : Unit) : List EOp := ⟨0, (some 4), none, (.q (.fad 0 (.t 1))), []⟩ :: ⟨1, (some 5), none, (.q (.ldc (.t 4))), []⟩ :: ⟨2, (some 6), none, (.q (.fad 1 (.t 1))), []⟩ :: ⟨3, (some 7), none, (.q (.ldc (.t 6))), []⟩ :: ⟨4, (some 8), none, (.q (.fad 2 (.t 1))), []⟩ :: ⟨5, (some 9), none, (.q (.ldc (.t 8))), []⟩ :: hid l_giveOp_6
@[simp] def b_giveOp_8 (_ : Unit) : EB := reg1 (hid l_giveOp_5) 14
@[simp] def b_giveOp_9 (_ : Unit) : EB := .seq (hid b_giveOp_8) .ret
@[simp] def b_giveOp_10 (_ : Unit) : EB := .seq (hid b_giveOp_4) (hid b_giveOp_9)
@[simp] def b_giveOp_11 (_ : Unit) : EB := .seq (hid b_giveOp_2) (hid b_giveOp_10)
def c_giveOp : EB × List QOp × Nat := ((hid b_giveOp_11), [(.lda 40 (.t 2))], 17)
theorem k_giveOp : cfun Tryz.prog 9 = some c_giveOp := by kernel_rfl

@[simp] def l_giveMsg_1 (_ : Unit) : List EOp := [⟨0, (some 1), none, (.q (.box 56 (.t 0))), []⟩, ⟨1, (some 2), none, (.q (.alloc 58 (([(.int .i64 0), (.int .i64 0), (.int .i64 0), (.int .i64 0), (.int .i64 0), (.int .i64 0), (.int .i64 0), (.int .i64 0), (.int .i64 0)] : List Value) ++ zU8 ++ (([(.slice none 0 0)] : List Value) ++ zU8 ++ [(.slice none 0 0)])))), []⟩]
@[simp] def b_giveMsg_2 (_ : Unit) : EB := reg0 (hid l_giveMsg_1) 2
@[simp] def l_giveMsg_3 (_ : Unit) : List EOp := [⟨0, (some 3), none, (.q (.mov (.k (.slice none 0 0)))), []⟩]
@[simp] def b_giveMsg_4 (_ : Unit) : EB := reg0 (hid l_giveMsg_3) 1
@[simp] def l_giveMsg_7 (_ : Unit) : List EOp := [⟨12, (some 16), none, (.app 5 1 1 (.t 13) (.t 15)), [0, 1, 2, 3, 7, 8]⟩, ⟨13, (some 17), none, (.q (.build (([(.int .i64 0), (.int .i64 0), (.int .i64 0), (.int .i64 0), (.int .i64 0), (.int .i64 0), (.int .i64 0), (.int .i64 0), (.int .i64 0)] : List Value) ++ zU8 ++ (([(.slice none 0 0)] : List Value) ++ zU8 ++ [(.slice none 0 0)])) [(0, 1, (.t 5)), (1, 1, (.t 7)), (2, 40, (.t 10)), (42, 32, (.t 12)), (74, 1, (.t 16))])), []⟩, ⟨14, none, none, (.fz (.sto 75 (.t 2) (.t 17))), []⟩]
@[simp] def l_giveMsg_6 (_ : Unit) : List EOp := ⟨7, (some 11), none, (.q (.fad 42 (.t 1))), []⟩ :: ⟨8, (some 12), none, (.q (.lda 32 (.t 11))), []⟩ :: ⟨9, (some 13), none, (.q (.mov (.t 3))), []⟩ :: ⟨10, (some 14), none, (.q (.fad 74 (.t 1))), []⟩ :: ⟨11, (some 15), none, (.q (.ldc (.t 14))), []⟩ :: ⟨6, (some 10), none, (.call 9 [(.t 9)]), [0, 1, 2, 3, 7, 8, 9, 10, 11]⟩ :: hid l_giveMsg_7
@[simp] def l_giveMsg_5 (_ : Unit) : List EOp := ⟨0, (some 4), none, (.q (.fad 0 (.t 1))), []⟩ :: ⟨1, (some 5), none, (.q (.ldc (.t 4))), []⟩ :: ⟨2, (some 6), none, (.q (.fad 1 (.t 1))), []⟩ :: ⟨3, (some 7), none, (.q (.ldc (.t 6))), []⟩ :: ⟨4, (some 8), none, (.q (.fad 2 (.t 1))), []⟩ :: ⟨5, (some 9), none, (.q (.lda 40 (.t 8))), []⟩ :: hid l_giveMsg_6
@[simp] def b_giveMsg_8 (_ : Unit) : EB := reg1 (hid l_giveMsg_5) 15
@[simp] def b_giveMsg_9 (_ : Unit) : EB := .seq (hid b_giveMsg_8) .ret
@[simp] def b_giveMsg_10 (_ : Unit) : EB := .seq (hid b_giveMsg_4) (hid b_giveMsg_9)
@[simp] def b_giveMsg_11 (_ : Unit) : EB := .seq (hid b_giveMsg_2) (hid b_giveMsg_10)
def c_giveMsg : EB × List QOp × Nat := ((hid b_giveMsg_11), [(.lda 75 (.t 2))], 18)
theorem k_giveMsg : cfun Tryz.prog 19 = some c_giveMsg := by kernel_rfl

@[simp] def l_WireBytes_1 (_ : Unit) : List EOp := [⟨0, (some 2), none, (.q (.box 56 (.t 0))), []⟩, ⟨1, (some 4), none, (.q (.mov (.k (.bool false)))), []⟩]
@[simp] def b_WireBytes_2 (_ : Unit) : EB := reg0 (hid l_WireBytes_1) 2
@[simp] def l_WireBytes_4 (_ : Unit) : List EOp := [⟨6, (some 19), none, (.q (.len (.t 18))), []⟩, ⟨7, (some 20), none, (.q (.bin .add (.t 15) (.t 19))), []⟩, ⟨8, (some 21), none, (.q (.bin .gtr (.t 20) (.k (.int .i64 1000)))), []⟩]
@[simp] def l_WireBytes_3 (_ : Unit) : List EOp := ⟨0, (some 13), none, (.q (.fad 74 (.t 2))), []⟩ :: ⟨1, (some 14), none, (.q (.ldc (.t 13))), []⟩ :: ⟨2, (some 15), none, (.q (.len (.t 14))), []⟩ :: ⟨3, (some 16), none, (.q (.fad 2 (.t 2))), []⟩ :: ⟨4, (some 17), none, (.q (.fad 39 (.t 16))), []⟩ :: ⟨5, (some 18), none, (.q (.ldc (.t 17))), []⟩ :: hid l_WireBytes_4
@[simp] def b_WireBytes_5 (_ : Unit) : EB := reg0 (hid l_WireBytes_3) 9
@[simp] def l_WireBytes_6 (_ : Unit) : List EOp := [⟨0, (some 22), none, (.call 6 []), []⟩, ⟨1, (some 4), none, (.q (.mov (.t 22))), []⟩]
@[simp] def b_WireBytes_7 (_ : Unit) : EB := reg0 (hid l_WireBytes_6) 2
@[simp] def b_WireBytes_8 (_ : Unit) : EB := .seq (hid b_WireBytes_7) .ret
@[simp] def b_WireBytes_9 (_ : Unit) : EB := .cond (.t 21) (hid b_WireBytes_8) .skip
@[simp] def b_WireBytes_10 (_ : Unit) : EB := .seq (hid b_WireBytes_5) (hid b_WireBytes_9)
@[simp] def l_WireBytes_12 (_ : Unit) : List EOp := [⟨6, none, none, (.fz (.sto 75 (.t 5) (.t 26))), []⟩, ⟨7, (some 6), none, (.q (.mov (.t 27))), []⟩]
@[simp] def l_WireBytes_11 (_ : Unit) : List EOp := ⟨0, (some 24), none, (.q (.mov (.t 1))), []⟩ :: ⟨1, (some 25), none, (.call 14 [(.t 24)]), []⟩ :: ⟨2, (some 23), none, (.q (.mov (.t 25))), []⟩ :: ⟨3, (some 26), none, (.q (.ext 0 (.t 23))), []⟩ :: ⟨4, (some 27), none, (.q (.ext 1 (.t 23))), []⟩ :: ⟨5, (some 5), none, (.q (.alloc 58 (([(.int .i64 0), (.int .i64 0), (.int .i64 0), (.int .i64 0), (.int .i64 0), (.int .i64 0), (.int .i64 0), (.int .i64 0), (.int .i64 0)] : List Value) ++ zU8 ++ (([(.slice none 0 0)] : List Value) ++ zU8 ++ [(.slice none 0 0)])))), []⟩ :: hid l_WireBytes_12
@[simp] def b_WireBytes_13 (_ : Unit) : EB := reg0 (hid l_WireBytes_11) 8
@[simp] def l_WireBytes_15 (_ : Unit) : List EOp := [⟨6, none, none, (.fz (.sto 75 (.t 7) (.t 31))), []⟩, ⟨7, (some 8), none, (.q (.mov (.t 32))), []⟩]
@[simp] def l_WireBytes_14 (_ : Unit) : List EOp := ⟨0, (some 29), none, (.q (.mov (.t 1))), []⟩ :: ⟨1, (some 30), none, (.call 15 [(.t 29)]), []⟩ :: ⟨2, (some 28), none, (.q (.mov (.t 30))), []⟩ :: ⟨3, (some 31), none, (.q (.ext 0 (.t 28))), []⟩ :: ⟨4, (some 32), none, (.q (.ext 1 (.t 28))), []⟩ :: ⟨5, (some 7), none, (.q (.alloc 56 (([(.int .i64 0), (.int .i64 0), (.int .i64 0), (.int .i64 0), (.int .i64 0), (.int .i64 0), (.int .i64 0), (.int .i64 0), (.int .i64 0)] : List Value) ++ zU8 ++ (([(.slice none 0 0)] : List Value) ++ zU8 ++ [(.slice none 0 0)])))), []⟩ :: hid l_WireBytes_15
@[simp] def b_WireBytes_16 (_ : Unit) : EB := reg0 (hid l_WireBytes_14) 8
@[simp] def l_WireBytes_18 (_ : Unit) : List EOp := [⟨6, none, none, (.fz (.sto 40 (.t 9) (.t 36))), []⟩, ⟨7, (some 10), none, (.q (.mov (.t 37))), []⟩]
@[simp] def l_WireBytes_17 (_ : Unit) : List EOp := ⟨0, (some 34), none, (.q (.mov (.t 1))), []⟩ :: ⟨1, (some 35), none, (.call 16 [(.t 34)]), []⟩ :: ⟨2, (some 33), none, (.q (.mov (.t 35))), []⟩ :: ⟨3, (some 36), none, (.q (.ext 0 (.t 33))), []⟩ :: ⟨4, (some 37), none, (.q (.ext 1 (.t 33))), []⟩ :: ⟨5, (some 9), none, (.q (.alloc 47 (([(.int .i64 0), (.int .i64 0), (.int .i64 0), (.int .i64 0), (.int .i64 0), (.int .i64 0), (.int .i64 0)] : List Value) ++ zU8 ++ [(.slice none 0 0)]))), []⟩ :: hid l_WireBytes_18
@[simp] def b_WireBytes_19 (_ : Unit) : EB := reg0 (hid l_WireBytes_17) 8
@[simp] def l_WireBytes_21 (_ : Unit) : List EOp := [⟨6, none, none, (.fz (.sto 40 (.t 11) (.t 41))), []⟩, ⟨7, (some 12), none, (.q (.mov (.t 42))), []⟩]
@[simp] def l_WireBytes_20 (_ : Unit) : List EOp := ⟨0, (some 39), none, (.q (.mov (.t 1))), []⟩ :: ⟨1, (some 40), none, (.call 17 [(.t 39)]), []⟩ :: ⟨2, (some 38), none, (.q (.mov (.t 40))), []⟩ :: ⟨3, (some 41), none, (.q (.ext 0 (.t 38))), []⟩ :: ⟨4, (some 42), none, (.q (.ext 1 (.t 38))), []⟩ :: ⟨5, (some 11), none, (.q (.alloc 33 (([(.int .i64 0), (.int .i64 0), (.int .i64 0), (.int .i64 0), (.int .i64 0), (.int .i64 0), (.int .i64 0)] : List Value) ++ zU8 ++ [(.slice none 0 0)]))), []⟩ :: hid l_WireBytes_21
@[simp] def b_WireBytes_22 (_ : Unit) : EB := reg0 (hid l_WireBytes_20) 8
@[simp] def l_WireBytes_31 (_ : Unit) : List EOp := [⟨48, (some 91), (some (84, true)), (.q (.bin .eql (.t 87) (.t 90))), []⟩, ⟨49, (some 92), none, (.q (.pick (.t 84) (.t 91) (.k (.bool false)))), []⟩, ⟨50, (some 93), none, (.q (.mov (.t 92))), []⟩, ⟨51, (some 94), (some (93, true)), (.call 6 []), []⟩, ⟨52, (some 95), none, (.q (.pick (.t 93) (.t 94) (.k (.bool false)))), []⟩, ⟨53, (some 4), none, (.q (.mov (.t 95))), []⟩]
@[simp] def l_WireBytes_30 (_ : Unit) : List EOp := ⟨42, (some 85), (some (84, true)), (.q (.lda 40 (.t 9))), []⟩ :: ⟨45, (some 88), (some (84, true)), (.q (.lda 40 (.t 11))), []⟩ :: ⟨43, (some 86), (some (84, true)), (.call 21 [(.t 85)]), [45]⟩ :: ⟨44, (some 87), (some (84, true)), (.q (.b2s (.t 86))), []⟩ :: ⟨46, (some 89), (some (84, true)), (.call 22 [(.t 88)]), [44]⟩ :: ⟨47, (some 90), (some (84, true)), (.q (.b2s (.t 89))), []⟩ :: hid l_WireBytes_31
@[simp] def l_WireBytes_29 (_ : Unit) : List EOp := ⟨36, (some 79), (some (78, true)), (.q (.mov (.t 10))), []⟩ :: ⟨38, (some 81), (some (78, true)), (.q (.mov (.t 12))), []⟩ :: ⟨37, (some 80), (some (78, true)), (.call 11 [(.t 79)]), [38]⟩ :: ⟨39, (some 82), (some (78, true)), (.q (.bin .eql (.t 80) (.t 81))), []⟩ :: ⟨40, (some 83), none, (.q (.pick (.t 78) (.t 82) (.k (.bool false)))), []⟩ :: ⟨41, (some 84), none, (.q (.mov (.t 83))), []⟩ :: hid l_WireBytes_30
@[simp] def l_WireBytes_28 (_ : Unit) : List EOp := ⟨29, (some 72), (some (69, true)), (.q (.b2s (.t 71))), []⟩ :: ⟨31, (some 74), (some (69, true)), (.call 20 [(.t 73)]), [29]⟩ :: ⟨32, (some 75), (some (69, true)), (.q (.b2s (.t 74))), []⟩ :: ⟨33, (some 76), (some (69, true)), (.q (.bin .eql (.t 72) (.t 75))), []⟩ :: ⟨34, (some 77), none, (.q (.pick (.t 69) (.t 76) (.k (.bool false)))), []⟩ :: ⟨35, (some 78), none, (.q (.mov (.t 77))), []⟩ :: hid l_WireBytes_29
@[simp] def l_WireBytes_27 (_ : Unit) : List EOp := ⟨24, (some 67), (some (63, true)), (.q (.bin .eql (.t 65) (.t 66))), []⟩ :: ⟨25, (some 68), none, (.q (.pick (.t 63) (.t 67) (.k (.bool false)))), []⟩ :: ⟨26, (some 69), none, (.q (.mov (.t 68))), []⟩ :: ⟨27, (some 70), (some (69, true)), (.q (.lda 75 (.t 5))), []⟩ :: ⟨30, (some 73), (some (69, true)), (.q (.lda 75 (.t 7))), []⟩ :: ⟨28, (some 71), (some (69, true)), (.call 18 [(.t 70)]), [30]⟩ :: hid l_WireBytes_28
@[simp] def l_WireBytes_26 (_ : Unit) : List EOp := ⟨18, (some 61), (some (51, true)), (.q (.bin .eql (.t 56) (.t 60))), []⟩ :: ⟨19, (some 62), none, (.q (.pick (.t 51) (.t 61) (.k (.bool false)))), []⟩ :: ⟨20, (some 63), none, (.q (.mov (.t 62))), []⟩ :: ⟨21, (some 64), (some (63, true)), (.q (.mov (.t 6))), []⟩ :: ⟨23, (some 66), (some (63, true)), (.q (.mov (.t 8))), []⟩ :: ⟨22, (some 65), (some (63, true)), (.call 11 [(.t 64)]), [23]⟩ :: hid l_WireBytes_27
@[simp] def l_WireBytes_25 (_ : Unit) : List EOp := ⟨15, (some 58), (some (51, true)), (.q (.lda 40 (.t 57))), []⟩ :: ⟨11, (some 54), (some (51, true)), (.call 9 [(.t 53)]), [14, 15]⟩ :: ⟨12, (some 55), (some (51, true)), (.call 21 [(.t 54)]), [14, 15]⟩ :: ⟨13, (some 56), (some (51, true)), (.q (.b2s (.t 55))), []⟩ :: ⟨16, (some 59), (some (51, true)), (.call 22 [(.t 58)]), [13]⟩ :: ⟨17, (some 60), (some (51, true)), (.q (.b2s (.t 59))), []⟩ :: hid l_WireBytes_26
@[simp] def l_WireBytes_24 (_ : Unit) : List EOp := ⟨6, (some 49), none, (.q (.b2s (.t 48))), []⟩ :: ⟨7, (some 50), none, (.q (.bin .eql (.t 46) (.t 49))), []⟩ :: ⟨8, (some 51), none, (.q (.mov (.t 50))), []⟩ :: ⟨9, (some 52), (some (51, true)), (.q (.fad 2 (.t 2))), []⟩ :: ⟨10, (some 53), (some (51, true)), (.q (.lda 40 (.t 52))), []⟩ :: ⟨14, (some 57), (some (51, true)), (.q (.fad 2 (.t 2))), []⟩ :: hid l_WireBytes_25
@[simp] def l_WireBytes_23 (_ : Unit) : List EOp := ⟨0, (some 43), none, (.q (.lda 75 (.t 2))), []⟩ :: ⟨4, (some 47), none, (.q (.lda 75 (.t 2))), []⟩ :: ⟨1, (some 44), none, (.call 19 [(.t 43)]), [4]⟩ :: ⟨2, (some 45), none, (.call 18 [(.t 44)]), [4]⟩ :: ⟨3, (some 46), none, (.q (.b2s (.t 45))), []⟩ :: ⟨5, (some 48), none, (.call 20 [(.t 47)]), [3]⟩ :: hid l_WireBytes_24
@[simp] def b_WireBytes_32 (_ : Unit) : EB := reg1 (hid l_WireBytes_23) 54
@[simp] def b_WireBytes_33 (_ : Unit) : EB := .seq (hid b_WireBytes_32) .ret
@[simp] def b_WireBytes_34 (_ : Unit) : EB := .seq (hid b_WireBytes_22) (hid b_WireBytes_33)
@[simp] def b_WireBytes_35 (_ : Unit) : EB := .seq (hid b_WireBytes_19) (hid b_WireBytes_34)
@[simp] def b_WireBytes_36 (_ : Unit) : EB := .seq (hid b_WireBytes_16) (hid b_WireBytes_35)
@[simp] def b_WireBytes_37 (_ : Unit) : EB := .seq (hid b_WireBytes_13) (hid b_WireBytes_36)
@[simp] def b_WireBytes_38 (_ : Unit) : EB := .seq (hid b_WireBytes_10) (hid b_WireBytes_37)
@[simp] def b_WireBytes_39 (_ : Unit) : EB := .seq (hid b_WireBytes_2) (hid b_WireBytes_38)
def c_WireBytes : EB × List QOp × Nat := ((hid b_WireBytes_39), [(.mov (.t 4))], 96)
theorem k_WireBytes : cfun Tryz.prog 4 = some c_WireBytes := by kernel_rfl


@[simp] theorem fz_hc (o es : Nat) (xs : List (List FV)) (l : List UInt8) : (hc l).map (fzE o es xs) = hc l := by
  induction l with
  | nil => rfl
  | cons b r ih =>
    have e : hc (b :: r) = .fz (.lit (.int .u8 (b.toNat : Int))) :: hc r := rfl
    rw [e, List.map_cons, ih]
    rfl

set_option maxRecDepth 8000 in
set_option maxHeartbeats 8000000 in
theorem giveOp_ok (o : WOp) (ho : o.ok) : ECalls Tryz.prog 9 [WV o] [] fun y H' => H' = [] ∧ y = WV o := by
  have h32 := ho.2.2.2.1.2.2.2.2
  have hs := ho.2.2.2.2
  have t32 : o.pay.lock.take 32 = o.pay.lock := List.take_of_length_le (by omega)
  have hcn : hc ([] : List UInt8) = [] := rfl
  have z33 := dr33 hz_len
  refine ecalls k_giveOp ?_
  simp [c_giveOp, WV, wopC, h32, t32, hcn, z33, tk33 h32, dr33 h32]
  refine ⟨⟨by omega, by omega⟩, ?_⟩
  refine finW _ (weak_frz (o := 224) (ty := 5) (es := 1) (xs := bsv o.sec) rfl) ?_
  exact fin [] (by decide) (v := WV o) (by simp [resV, resT, evT, asT, WV, wopC, fzEO, h32, t32, hcn, tk33 h32]) (by simp [conR, conTs, conT, WV, wopC]) rfl ⟨rfl, rfl⟩

set_option maxRecDepth 8000 in
set_option maxHeartbeats 8000000 in
theorem giveMsg_ok (m : WMsg) (hm : m.ok) : ECalls Tryz.prog 19 [MV m] [] fun y H' => H' = [] ∧ y = MV m := by
  have ho := hm.2.2.1
  have h32 := ho.2.2.2.1.2.2.2.2
  have hs := ho.2.2.2.2
  have h4 := hm.2.2.2.1
  have h5 := hm.2.2.2.2
  have t32 : m.op.pay.lock.take 32 = m.op.pay.lock := List.take_of_length_le (by omega)
  have t4 : m.lock.take 32 = m.lock := List.take_of_length_le (by omega)
  have hcn : hc ([] : List UInt8) = [] := rfl
  have z33 := dr33 hz_len
  have z66 := dr66 hz_len hz_len
  have i65 := ix65 h32 h4
  have a32 := tk32a h4
  have d65 := dr65 h32 h4
  have u65 := tk65 h32 h4
  have d66 := dr66 h32 h4
  have u66 := tk66 h32 h4
  have z65 := dr65 h32 hz_len
  refine ecalls k_giveMsg ?_
  simp [c_giveMsg, MV, msgC, wopC, h32, h4, t32, t4, hcn, i65, a32, z33, z66, tk33 h32, dr33 h32, tk33 h4, dr33 h4]
  refine call0 (giveOp_ok m.op ho) (by simp [WV, wopC]) ?_
  rintro y H' ⟨rfl, rfl⟩
  refine ⟨.inl (by simp), le_ok rfl, ?_⟩
  simp [WV, wopC, h32, h4, t32, t4, hcn, i65, a32, z33, z66, tk33 h32, dr33 h32, tk33 h4, dr33 h4, d65, u65, d66, u66, z65]
  refine ⟨⟨by omega, by omega⟩, ?_⟩
  refine finW _ (weak_frz (o := 240) (ty := 5) (es := 1) (xs := bsv m.sec) rfl) ?_
  exact fin [] (by decide) (v := MV m) (by simp [resV, resT, evT, asT, MV, msgC, wopC, fzEO, h32, h4, t32, t4, hcn, tk33 h32, u65, u66, d66, z65]) (by simp [conR, conTs, conT, MV, msgC, wopC]) rfl ⟨rfl, rfl⟩

set_option maxRecDepth 8000 in
set_option maxHeartbeats 8000000 in
theorem WireBytes_ok (m : WMsg) (b : List UInt8) (hm : m.ok) (hl : b.length ≤ 100000000) : ECalls Tryz.prog 4 [MV m, Bs b] [] fun y H' => H' = [] ∧ y = .lit (.bool true) := by
  have ho := hm.2.2.1
  have h32 := ho.2.2.2.1.2.2.2.2
  have hs := ho.2.2.2.2
  have h4 := hm.2.2.2.1
  have h5 := hm.2.2.2.2
  have t32 : m.op.pay.lock.take 32 = m.op.pay.lock := List.take_of_length_le (by omega)
  have t4 : m.lock.take 32 = m.lock := List.take_of_length_le (by omega)
  have hcn : hc ([] : List UInt8) = [] := rfl
  have z33 := dr33 hz_len
  have z66 := dr66 hz_len hz_len
  have i65 := ix65 h32 h4
  have a32 := tk32a h4
  have d65 := dr65 h32 h4
  have u65 := tk65 h32 h4
  have d66 := dr66 h32 h4
  have u66 := tk66 h32 h4
  have q1 := decM_p b
  have q2 := (decO_p b).1
  have tM := WDecode_ok b hl
  have tMR := RWDecode_ok b hl
  have tO := DecodeOp_ok b hl
  have tOR := RDecodeOp_ok b hl
  obtain ⟨p, hp⟩ : ∃ p, decM b = p := ⟨_, rfl⟩
  obtain ⟨q, hq⟩ : ∃ q, decO b = q := ⟨_, rfl⟩
  rw [hp] at q1 tM tMR
  rw [hq] at q2 tO tOR
  have p32 := q1.2.2.1.2.2.2.1.2.2.2.2
  have p4 := q1.2.2.2.1
  have pt32 : p.1.op.pay.lock.take 32 = p.1.op.pay.lock := List.take_of_length_le (by omega)
  have pt4 : p.1.lock.take 32 = p.1.lock := List.take_of_length_le (by omega)
  have pd66 := dr66 p32 p4
  have pu66 := tk66 p32 p4
  have o32 := q2.2.2.2.1.2.2.2.2
  have ot32 : q.1.pay.lock.take 32 = q.1.pay.lock := List.take_of_length_le (by omega)
  have w1 : IntKind.i64.wrap ((m.sec.length : Int) + (m.op.sec.length : Int)) = (m.sec.length : Int) + (m.op.sec.length : Int) := wrap_i64 (by omega) (by omega)
  refine ecalls k_WireBytes ?_
  simp [c_WireBytes, MV, msgC, wopC, h32, h4, t32, t4, hcn, i65, a32, z33, z66, tk33 h32, dr33 h32, tk33 h4, dr33 h4, w1]
  refine alt (fun hlg => ?_) (fun hlg => ?_)
  · simp
    refine call0 (sure_ok) (by simp [Ptr, I, EV.lit, Bs, WV, wopC, MV, msgC]) ?_
    rintro y H' ⟨rfl, rfl⟩
    refine ⟨.inl (by simp [Ptr, I, EV.lit, Bs, WV, wopC, MV, msgC]), le_ok rfl, ?_⟩
    simp [Ptr, I, EV.lit, Bs, WV, wopC, MV, msgC]
    exact fin [] (by decide) rfl rfl rfl ⟨rfl, rfl⟩
  simp
  refine call0 (tM) (by simp [Ptr, I, EV.lit, Bs, WV, wopC, MV, msgC]) ?_
  rintro y H' ⟨rfl, rfl⟩
  refine ⟨.inl (by simp [Ptr, I, EV.lit, Bs, WV, wopC, MV, msgC]), le_ok rfl, ?_⟩
  simp [ME, msgC, wopC, p32, p4, pt32, pt4, hcn, z33, z66, pu66, pd66]
  refine call0 (tMR) (by simp [Ptr, I, EV.lit, Bs, WV, wopC, MV, msgC]) ?_
  rintro y H' ⟨rfl, rfl⟩
  refine ⟨.inl (by simp [Ptr, I, EV.lit, Bs, WV, wopC, MV, msgC]), le_ok rfl, ?_⟩
  simp [MR, msgC, wopC, p32, p4, pt32, pt4, hcn, z33, z66, pu66, pd66]
  refine call0 (tO) (by simp [Ptr, I, EV.lit, Bs, WV, wopC, MV, msgC]) ?_
  rintro y H' ⟨rfl, rfl⟩
  refine ⟨.inl (by simp [Ptr, I, EV.lit, Bs, WV, wopC, MV, msgC]), le_ok rfl, ?_⟩
  simp [WE, wopC, o32, ot32, hcn, z33, tk33 o32, dr33 o32]
  refine call0 (tOR) (by simp [Ptr, I, EV.lit, Bs, WV, wopC, MV, msgC]) ?_
  rintro y H' ⟨rfl, rfl⟩
  refine ⟨.inl (by simp [Ptr, I, EV.lit, Bs, WV, wopC, MV, msgC]), le_ok rfl, ?_⟩
  simp [WR, wopC, o32, ot32, hcn, z33, tk33 o32, dr33 o32, h32, h4, u66]
  refine call0 (giveMsg_ok m hm) (by simp [MV, msgC, wopC]) ?_
  rintro y H' ⟨rfl, rfl⟩
  refine ⟨.inl (by simp), le_ok rfl, ?_⟩
  simp [MV, msgC, wopC, h32, h4, u66]
  refine call0 (WEncode_ok m hm) (by simp [MV, msgC, wopC]) ?_
  rintro y H' ⟨rfl, rfl⟩
  refine ⟨.inl (by simp), le_ok rfl, ?_⟩
  simp [Bs, h32, h4, u66]
  refine call0 (RWEncode_ok m hm) (by simp [MV, msgC, wopC]) ?_
  rintro y H' ⟨rfl, rfl⟩
  refine ⟨.inl (by simp), le_ok rfl, ?_⟩
  simp [Bs, h32, h4, u66, tk33 h32]
  refine call0 (giveOp_ok m.op ho) (by simp [WV, wopC]) ?_
  rintro y H' ⟨rfl, rfl⟩
  refine ⟨.inl (by simp), le_ok rfl, ?_⟩
  simp [WV, wopC, Bs, h32, h4, u66, tk33 h32, p32, p4, pu66, o32, tk33 o32]
  refine call0 (EncodeOp_ok m.op ho) (by simp [WV, wopC]) ?_
  rintro y H' ⟨rfl, rfl⟩
  refine ⟨.inl (by simp), le_ok rfl, ?_⟩
  simp [Bs, h32, h4, u66, tk33 h32, p32, p4, pu66, o32, tk33 o32]
  refine call0 (REncodeOp_ok m.op ho) (by simp [WV, wopC]) ?_
  rintro y H' ⟨rfl, rfl⟩
  refine ⟨.inl (by simp), le_ok rfl, ?_⟩
  simp [Bs, h32, h4, u66, tk33 h32, p32, p4, pu66, o32, tk33 o32]
  refine call0 (num_e p.2) (by simp [EV.lit]) ?_
  rintro y H' ⟨rfl, rfl⟩
  refine ⟨.inl (by simp), le_ok rfl, ?_⟩
  simp [I, Bs, h32, h4, u66, tk33 h32, p32, p4, pu66, o32, tk33 o32]
  refine call0 (WEncode_ok p.1 q1) (by simp [MV, msgC, wopC]) ?_
  rintro y H' ⟨rfl, rfl⟩
  refine ⟨.inl (by simp), le_ok rfl, ?_⟩
  simp [Bs, h32, h4, u66, tk33 h32, p32, p4, pu66, o32, tk33 o32]
  refine call0 (RWEncode_ok p.1 q1) (by simp [MV, msgC, wopC]) ?_
  rintro y H' ⟨rfl, rfl⟩
  refine ⟨.inl (by simp), le_ok rfl, ?_⟩
  simp [Bs, h32, h4, u66, tk33 h32, p32, p4, pu66, o32, tk33 o32]
  refine call0 (num_e q.2) (by simp [EV.lit]) ?_
  rintro y H' ⟨rfl, rfl⟩
  refine ⟨.inl (by simp), le_ok rfl, ?_⟩
  simp [I, Bs, h32, h4, u66, tk33 h32, p32, p4, pu66, o32, tk33 o32]
  refine call0 (EncodeOp_ok q.1 q2) (by simp [WV, wopC]) ?_
  rintro y H' ⟨rfl, rfl⟩
  refine ⟨.inl (by simp), le_ok rfl, ?_⟩
  simp [Bs, h32, h4, u66, tk33 h32, p32, p4, pu66, o32, tk33 o32]
  refine call0 (REncodeOp_ok q.1 q2) (by simp [WV, wopC]) ?_
  rintro y H' ⟨rfl, rfl⟩
  refine ⟨.inl (by simp), le_ok rfl, ?_⟩
  simp [Bs, h32, h4, u66, tk33 h32, p32, p4, pu66, o32, tk33 o32]
  refine call0 (sure_ok) (by simp [Ptr, I, EV.lit, Bs, WV, wopC, MV, msgC]) ?_
  rintro y H' ⟨rfl, rfl⟩
  refine ⟨.inl (by simp [Ptr, I, EV.lit, Bs, WV, wopC, MV, msgC]), le_ok rfl, ?_⟩
  simp [Ptr, I, EV.lit, Bs, WV, wopC, MV, msgC]
  exact fin [] (by decide) rfl rfl rfl ⟨rfl, rfl⟩

end Go.Proofs.YtpilpjameifcfaaGreatDoor
