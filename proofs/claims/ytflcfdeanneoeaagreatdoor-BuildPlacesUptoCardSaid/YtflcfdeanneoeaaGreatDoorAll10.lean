import Derived.Test.YtflcfdeanneoeaaGreatDoorAll9
namespace Go.Proofs.YtflcfdeanneoeaaGreatDoor
open Go Go.EW
set_option linter.unusedSimpArgs false
set_option linter.unusedVariables false

@[simp] def l_BOne_1 (_ : Unit) : List EOp := [⟨0, (some 1), none, (.q (.box 187 (.t 0))), []⟩, ⟨1, (some 2), none, (.q (.alloc 116 [(.slice none 0 0)])), []⟩]
@[simp] def b_BOne_2 (_ : Unit) : EB := reg0 (hid l_BOne_1) 2
@[simp] def l_BOne_3 (_ : Unit) : List EOp := [⟨0, (some 3), none, (.q (.lda 35 (.t 1))), []⟩, ⟨1, (some 4), none, (.fz (.q (.bsl 35 (([(.slice none 0 0)] : List Value) ++ zU8 ++ [(.int .i64 0), (.int .i64 0)]) 1 [(0, (.t 3))]))), []⟩, ⟨2, (some 5), none, (.q (.build [(.slice none 0 0)] [(0, 1, (.t 4))])), []⟩, ⟨3, none, none, (.fz (.sto 1 (.t 2) (.t 5))), []⟩]
@[simp] def b_BOne_4 (_ : Unit) : EB := reg0 (hid l_BOne_3) 4
@[simp] def b_BOne_5 (_ : Unit) : EB := .seq (hid b_BOne_4) .ret
@[simp] def b_BOne_6 (_ : Unit) : EB := .seq (hid b_BOne_2) (hid b_BOne_5)
def c_BOne : EB × List QOp × Nat := ((hid b_BOne_6), [(.lda 1 (.t 2))], 6)
theorem k_BOne : cfun Tryz.prog 140 = some c_BOne := by kernel_rfl

@[simp] def l_BFine_1 (_ : Unit) : List EOp := [⟨0, (some 1), none, (.q (.box 123 (.t 0))), []⟩, ⟨1, (some 2), none, (.q (.alloc 187 (([(.slice none 0 0)] : List Value) ++ zU8 ++ [(.int .i64 0), (.int .i64 0)]))), []⟩]
@[simp] def b_BFine_2 (_ : Unit) : EB := reg0 (hid l_BFine_1) 2
@[simp] def l_BFine_4 (_ : Unit) : List EOp := [⟨6, (some 9), none, (.q (.ldc (.t 8))), []⟩, ⟨7, (some 10), none, (.q (.bsl 1 [(.int .i64 0)] 1 [(0, (.t 9))])), []⟩, ⟨8, (some 11), none, (.q (.fad 44 (.t 1))), []⟩, ⟨9, (some 12), none, (.q (.lda 32 (.t 11))), []⟩, ⟨10, (some 13), none, (.q (.build (([(.slice none 0 0)] : List Value) ++ zU8 ++ [(.int .i64 0), (.int .i64 0)]) [(0, 1, (.t 10)), (1, 32, (.t 12))])), []⟩, ⟨11, none, none, (.fz (.sto 35 (.t 2) (.t 13))), []⟩]
@[simp] def l_BFine_3 (_ : Unit) : List EOp := ⟨0, (some 3), none, (.q (.fad 43 (.t 1))), []⟩ :: ⟨1, (some 4), none, (.q (.ldc (.t 3))), []⟩ :: ⟨2, (some 5), none, (.q (.bin .sub (.k (.int .i64 1)) (.t 4))), []⟩ :: ⟨3, (some 6), none, (.q (.fad 0 (.t 1))), []⟩ :: ⟨4, (some 7), none, (.q (.fad 34 (.t 6))), []⟩ :: ⟨5, (some 8), none, (.q (.iad 2 1 (.t 7) (.t 5))), []⟩ :: hid l_BFine_4
@[simp] def b_BFine_5 (_ : Unit) : EB := reg0 (hid l_BFine_3) 12
@[simp] def b_BFine_6 (_ : Unit) : EB := .seq (hid b_BFine_5) .ret
@[simp] def b_BFine_7 (_ : Unit) : EB := .seq (hid b_BFine_2) (hid b_BFine_6)
def c_BFine : EB × List QOp × Nat := ((hid b_BFine_7), [(.lda 35 (.t 2))], 14)
theorem k_BFine : cfun Tryz.prog 141 = some c_BFine := by kernel_rfl

@[simp] def l_BWait_1 (_ : Unit) : List EOp := [⟨0, (some 2), none, (.q (.box 123 (.t 0))), []⟩, ⟨1, (some 4), none, (.q (.mov (.k (.int .i64 0)))), []⟩]
@[simp] def b_BWait_2 (_ : Unit) : EB := reg0 (hid l_BWait_1) 2
@[simp] def l_BWait_3 (_ : Unit) : List EOp := [⟨0, (some 5), none, (.q (.mov (.t 1))), []⟩, ⟨1, (some 6), none, (.q (.fad 43 (.t 2))), []⟩, ⟨2, (some 7), none, (.q (.ldc (.t 6))), []⟩, ⟨3, (some 8), none, (.q (.bin .eql (.t 5) (.t 7))), []⟩]
@[simp] def b_BWait_4 (_ : Unit) : EB := reg0 (hid l_BWait_3) 4
@[simp] def l_BWait_5 (_ : Unit) : List EOp := [⟨0, (some 9), none, (.q (.fad 0 (.t 2))), []⟩, ⟨1, (some 10), none, (.q (.fad 36 (.t 9))), []⟩, ⟨2, (some 11), none, (.q (.ldc (.t 10))), []⟩, ⟨3, (some 4), none, (.q (.mov (.t 11))), []⟩]
@[simp] def b_BWait_6 (_ : Unit) : EB := reg0 (hid l_BWait_5) 4
@[simp] def b_BWait_7 (_ : Unit) : EB := .seq (hid b_BWait_6) .ret
@[simp] def b_BWait_8 (_ : Unit) : EB := .cond (.t 8) (hid b_BWait_7) .skip
@[simp] def b_BWait_9 (_ : Unit) : EB := .seq (hid b_BWait_4) (hid b_BWait_8)
@[simp] def l_BWait_10 (_ : Unit) : List EOp := [⟨0, (some 4), none, (.q (.mov (.k (.int .i64 0)))), []⟩]
@[simp] def b_BWait_11 (_ : Unit) : EB := reg0 (hid l_BWait_10) 1
@[simp] def b_BWait_12 (_ : Unit) : EB := .seq (hid b_BWait_11) .ret
@[simp] def b_BWait_13 (_ : Unit) : EB := .seq (hid b_BWait_9) (hid b_BWait_12)
@[simp] def b_BWait_14 (_ : Unit) : EB := .seq (hid b_BWait_2) (hid b_BWait_13)
def c_BWait : EB × List QOp × Nat := ((hid b_BWait_14), [(.mov (.t 4))], 12)
theorem k_BWait : cfun Tryz.prog 142 = some c_BWait := by kernel_rfl

@[simp] def l_BOwn_1 (_ : Unit) : List EOp := [⟨0, (some 2), none, (.q (.box 123 (.t 0))), []⟩, ⟨1, (some 3), none, (.q (.box 126 (.t 1))), []⟩, ⟨2, (some 4), none, (.q (.alloc 116 [(.slice none 0 0)])), []⟩]
@[simp] def b_BOwn_2 (_ : Unit) : EB := reg0 (hid l_BOwn_1) 3
@[simp] def l_BOwn_5 (_ : Unit) : List EOp := [⟨11, (some 16), none, (.call 140 [(.t 15)]), [12]⟩, ⟨13, (some 18), none, (.call 141 [(.t 17)]), []⟩, ⟨14, (some 19), none, (.call 140 [(.t 18)]), []⟩, ⟨15, (some 20), none, (.call 59 [(.t 16), (.t 19)]), []⟩, ⟨16, none, none, (.fz (.sto 1 (.t 4) (.t 20))), []⟩]
@[simp] def l_BOwn_4 (_ : Unit) : List EOp := ⟨6, (some 11), none, (.q (.bsl 1 [(.int .i64 0)] 1 [(0, (.t 10))])), []⟩ :: ⟨7, (some 12), none, (.q (.fad 0 (.t 2))), []⟩ :: ⟨8, (some 13), none, (.q (.fad 36 (.t 12))), []⟩ :: ⟨9, (some 14), none, (.q (.ldc (.t 13))), []⟩ :: ⟨10, (some 15), none, (.q (.build (([(.slice none 0 0)] : List Value) ++ zU8 ++ [(.int .i64 0), (.int .i64 0)]) [(0, 1, (.t 11)), (34, 1, (.t 14))])), []⟩ :: ⟨12, (some 17), none, (.q (.lda 76 (.t 2))), []⟩ :: hid l_BOwn_5
@[simp] def l_BOwn_3 (_ : Unit) : List EOp := ⟨0, (some 5), none, (.q (.fad 43 (.t 2))), []⟩ :: ⟨1, (some 6), none, (.q (.ldc (.t 5))), []⟩ :: ⟨2, (some 7), none, (.q (.fad 0 (.t 2))), []⟩ :: ⟨3, (some 8), none, (.q (.fad 34 (.t 7))), []⟩ :: ⟨4, (some 9), none, (.q (.iad 2 1 (.t 8) (.t 6))), []⟩ :: ⟨5, (some 10), none, (.q (.ldc (.t 9))), []⟩ :: hid l_BOwn_4
@[simp] def b_BOwn_6 (_ : Unit) : EB := reg1 (hid l_BOwn_3) 17
@[simp] def b_BOwn_7 (_ : Unit) : EB := .seq (hid b_BOwn_6) .ret
@[simp] def b_BOwn_8 (_ : Unit) : EB := .seq (hid b_BOwn_2) (hid b_BOwn_7)
def c_BOwn : EB × List QOp × Nat := ((hid b_BOwn_8), [(.lda 1 (.t 4))], 21)
theorem k_BOwn : cfun Tryz.prog 86 = some c_BOwn := by kernel_rfl

@[simp] def l_BOther_1 (_ : Unit) : List EOp := [⟨0, (some 2), none, (.q (.box 123 (.t 0))), []⟩, ⟨1, (some 3), none, (.q (.box 126 (.t 1))), []⟩, ⟨2, (some 4), none, (.q (.alloc 116 [(.slice none 0 0)])), []⟩]
@[simp] def b_BOther_2 (_ : Unit) : EB := reg0 (hid l_BOther_1) 3
@[simp] def l_BOther_4 (_ : Unit) : List EOp := [⟨6, (some 11), none, (.q (.ldc (.t 10))), []⟩, ⟨7, (some 12), none, (.q (.bsl 1 [(.int .i64 0)] 1 [(0, (.t 11))])), []⟩, ⟨8, (some 13), none, (.call 57 [(.t 12)]), []⟩, ⟨9, none, none, (.fz (.sto 1 (.t 4) (.t 13))), []⟩]
@[simp] def l_BOther_3 (_ : Unit) : List EOp := ⟨0, (some 5), none, (.q (.fad 43 (.t 2))), []⟩ :: ⟨1, (some 6), none, (.q (.ldc (.t 5))), []⟩ :: ⟨2, (some 7), none, (.q (.bin .sub (.k (.int .i64 1)) (.t 6))), []⟩ :: ⟨3, (some 8), none, (.q (.fad 0 (.t 2))), []⟩ :: ⟨4, (some 9), none, (.q (.fad 34 (.t 8))), []⟩ :: ⟨5, (some 10), none, (.q (.iad 2 1 (.t 9) (.t 7))), []⟩ :: hid l_BOther_4
@[simp] def b_BOther_5 (_ : Unit) : EB := reg0 (hid l_BOther_3) 10
@[simp] def b_BOther_6 (_ : Unit) : EB := .seq (hid b_BOther_5) .ret
@[simp] def b_BOther_7 (_ : Unit) : EB := .seq (hid b_BOther_2) (hid b_BOther_6)
def c_BOther : EB × List QOp × Nat := ((hid b_BOther_7), [(.lda 1 (.t 4))], 14)
theorem k_BOther : cfun Tryz.prog 87 = some c_BOther := by kernel_rfl

@[simp] def l_BPaid_1 (_ : Unit) : List EOp := [⟨0, (some 2), none, (.q (.box 123 (.t 0))), []⟩, ⟨1, (some 3), none, (.q (.box 126 (.t 1))), []⟩, ⟨2, (some 4), none, (.q (.alloc 116 [(.slice none 0 0)])), []⟩]
@[simp] def b_BPaid_2 (_ : Unit) : EB := reg0 (hid l_BPaid_1) 3
@[simp] def l_BPaid_3 (_ : Unit) : List EOp := [⟨0, (some 8), none, (.q (.fad 1 (.t 3))), []⟩, ⟨1, (some 9), none, (.q (.ldc (.t 8))), []⟩, ⟨2, (some 10), none, (.q (.bin .sub (.k (.int .i64 1)) (.t 9))), []⟩, ⟨3, (some 5), none, (.q (.mov (.t 10))), []⟩]
@[simp] def b_BPaid_4 (_ : Unit) : EB := reg0 (hid l_BPaid_3) 4
@[simp] def l_BPaid_7 (_ : Unit) : List EOp := [⟨11, (some 22), none, (.q (.build (([(.slice none 0 0)] : List Value) ++ zU8 ++ [(.int .i64 0), (.int .i64 0)]) [(0, 1, (.t 16)), (1, 32, (.t 18)), (34, 1, (.t 21))])), []⟩, ⟨13, none, none, (.fz (.sto 35 (.t 6) (.t 22))), []⟩]
@[simp] def l_BPaid_6 (_ : Unit) : List EOp := ⟨6, (some 17), none, (.q (.fad 4 (.t 3))), []⟩ :: ⟨7, (some 18), none, (.q (.lda 32 (.t 17))), []⟩ :: ⟨8, (some 19), none, (.q (.lda 76 (.t 2))), []⟩ :: ⟨9, (some 20), none, (.q (.mov (.t 5))), []⟩ :: ⟨12, (some 6), none, (.q (.alloc 187 (([(.slice none 0 0)] : List Value) ++ zU8 ++ [(.int .i64 0), (.int .i64 0)]))), []⟩ :: ⟨10, (some 21), none, (.call 142 [(.t 19), (.t 20)]), [0, 1, 2, 3, 4, 5, 6, 7, 12]⟩ :: hid l_BPaid_7
@[simp] def l_BPaid_5 (_ : Unit) : List EOp := ⟨0, (some 11), none, (.q (.mov (.t 5))), []⟩ :: ⟨1, (some 12), none, (.q (.fad 0 (.t 2))), []⟩ :: ⟨2, (some 13), none, (.q (.fad 34 (.t 12))), []⟩ :: ⟨3, (some 14), none, (.q (.iad 2 1 (.t 13) (.t 11))), []⟩ :: ⟨4, (some 15), none, (.q (.ldc (.t 14))), []⟩ :: ⟨5, (some 16), none, (.q (.bsl 1 [(.int .i64 0)] 1 [(0, (.t 15))])), []⟩ :: hid l_BPaid_6
@[simp] def b_BPaid_8 (_ : Unit) : EB := reg1 (hid l_BPaid_5) 14
@[simp] def l_BPaid_11 (_ : Unit) : List EOp := [⟨14, (some 7), none, (.q (.alloc 187 (([(.slice none 0 0)] : List Value) ++ zU8 ++ [(.int .i64 0), (.int .i64 0)]))), []⟩, ⟨12, (some 35), none, (.call 142 [(.t 32), (.t 34)]), [0, 1, 2, 3, 4, 5, 6, 7, 8, 14]⟩, ⟨13, (some 36), none, (.q (.build (([(.slice none 0 0)] : List Value) ++ zU8 ++ [(.int .i64 0), (.int .i64 0)]) [(0, 1, (.t 29)), (33, 1, (.t 31)), (34, 1, (.t 35))])), []⟩, ⟨15, none, none, (.fz (.sto 35 (.t 7) (.t 36))), []⟩]
@[simp] def l_BPaid_10 (_ : Unit) : List EOp := ⟨6, (some 29), none, (.q (.bsl 1 [(.int .i64 0)] 1 [(0, (.t 28))])), []⟩ :: ⟨7, (some 30), none, (.q (.fad 3 (.t 3))), []⟩ :: ⟨8, (some 31), none, (.q (.ldc (.t 30))), []⟩ :: ⟨9, (some 32), none, (.q (.lda 76 (.t 2))), []⟩ :: ⟨10, (some 33), none, (.q (.fad 1 (.t 3))), []⟩ :: ⟨11, (some 34), none, (.q (.ldc (.t 33))), []⟩ :: hid l_BPaid_11
@[simp] def l_BPaid_9 (_ : Unit) : List EOp := ⟨0, (some 23), none, (.q (.fad 1 (.t 3))), []⟩ :: ⟨1, (some 24), none, (.q (.ldc (.t 23))), []⟩ :: ⟨2, (some 25), none, (.q (.fad 0 (.t 2))), []⟩ :: ⟨3, (some 26), none, (.q (.fad 34 (.t 25))), []⟩ :: ⟨4, (some 27), none, (.q (.iad 2 1 (.t 26) (.t 24))), []⟩ :: ⟨5, (some 28), none, (.q (.ldc (.t 27))), []⟩ :: hid l_BPaid_10
@[simp] def b_BPaid_12 (_ : Unit) : EB := reg1 (hid l_BPaid_9) 16
@[simp] def l_BPaid_14 (_ : Unit) : List EOp := [⟨6, none, none, (.fz (.sto 1 (.t 4) (.t 42))), []⟩]
@[simp] def l_BPaid_13 (_ : Unit) : List EOp := ⟨0, (some 37), none, (.q (.lda 35 (.t 6))), []⟩ :: ⟨1, (some 38), none, (.q (.lda 35 (.t 7))), []⟩ :: ⟨2, (some 39), none, (.q (.lda 76 (.t 2))), []⟩ :: ⟨3, (some 40), none, (.call 141 [(.t 39)]), [0, 1]⟩ :: ⟨4, (some 41), none, (.fz (.q (.bsl 35 (([(.slice none 0 0)] : List Value) ++ zU8 ++ [(.int .i64 0), (.int .i64 0)]) 3 [(0, (.t 37)), (1, (.t 38)), (2, (.t 40))]))), []⟩ :: ⟨5, (some 42), none, (.q (.build [(.slice none 0 0)] [(0, 1, (.t 41))])), []⟩ :: hid l_BPaid_14
@[simp] def b_BPaid_15 (_ : Unit) : EB := reg1 (hid l_BPaid_13) 7
@[simp] def b_BPaid_16 (_ : Unit) : EB := .seq (hid b_BPaid_15) .ret
@[simp] def b_BPaid_17 (_ : Unit) : EB := .seq (hid b_BPaid_12) (hid b_BPaid_16)
@[simp] def b_BPaid_18 (_ : Unit) : EB := .seq (hid b_BPaid_8) (hid b_BPaid_17)
@[simp] def b_BPaid_19 (_ : Unit) : EB := .seq (hid b_BPaid_4) (hid b_BPaid_18)
@[simp] def b_BPaid_20 (_ : Unit) : EB := .seq (hid b_BPaid_2) (hid b_BPaid_19)
def c_BPaid : EB × List QOp × Nat := ((hid b_BPaid_20), [(.lda 1 (.t 4))], 43)
theorem k_BPaid : cfun Tryz.prog 88 = some c_BPaid := by kernel_rfl

@[simp] def l_BHas_1 (_ : Unit) : List EOp := [⟨0, (some 3), none, (.q (.box 42 (.t 0))), []⟩, ⟨1, (some 4), none, (.q (.box 47 (.t 1))), []⟩, ⟨2, (some 6), none, (.q (.mov (.k (.int .i64 0)))), []⟩]
@[simp] def b_BHas_2 (_ : Unit) : EB := reg0 (hid l_BHas_1) 3
@[simp] def l_BHas_3 (_ : Unit) : List EOp := [⟨0, (some 7), none, (.q (.mov (.t 2))), []⟩, ⟨1, (some 8), none, (.q (.bin .eql (.t 7) (.k (.int .i64 0)))), []⟩]
@[simp] def b_BHas_4 (_ : Unit) : EB := reg0 (hid l_BHas_3) 2
@[simp] def l_BHas_6 (_ : Unit) : List EOp := [⟨6, (some 6), none, (.q (.mov (.t 14))), []⟩]
@[simp] def l_BHas_5 (_ : Unit) : List EOp := ⟨0, (some 9), none, (.q (.fad 1 (.t 4))), []⟩ :: ⟨1, (some 10), none, (.q (.iad 2 1 (.t 9) (.k (.int .i64 0)))), []⟩ :: ⟨2, (some 11), none, (.q (.ldc (.t 10))), []⟩ :: ⟨3, (some 12), none, (.q (.fad 37 (.t 3))), []⟩ :: ⟨4, (some 13), none, (.q (.ldc (.t 12))), []⟩ :: ⟨5, (some 14), none, (.q (.bin .sub (.t 11) (.t 13))), []⟩ :: hid l_BHas_6
@[simp] def b_BHas_7 (_ : Unit) : EB := reg0 (hid l_BHas_5) 7
@[simp] def b_BHas_8 (_ : Unit) : EB := .seq (hid b_BHas_7) .ret
@[simp] def b_BHas_9 (_ : Unit) : EB := .cond (.t 8) (hid b_BHas_8) .skip
@[simp] def b_BHas_10 (_ : Unit) : EB := .seq (hid b_BHas_4) (hid b_BHas_9)
@[simp] def l_BHas_11 (_ : Unit) : List EOp := [⟨0, (some 15), none, (.q (.fad 1 (.t 4))), []⟩, ⟨1, (some 16), none, (.q (.iad 2 1 (.t 15) (.k (.int .i64 1)))), []⟩, ⟨2, (some 17), none, (.q (.ldc (.t 16))), []⟩, ⟨3, (some 6), none, (.q (.mov (.t 17))), []⟩]
@[simp] def b_BHas_12 (_ : Unit) : EB := reg0 (hid l_BHas_11) 4
@[simp] def b_BHas_13 (_ : Unit) : EB := .seq (hid b_BHas_12) .ret
@[simp] def b_BHas_14 (_ : Unit) : EB := .seq (hid b_BHas_10) (hid b_BHas_13)
@[simp] def b_BHas_15 (_ : Unit) : EB := .seq (hid b_BHas_2) (hid b_BHas_14)
def c_BHas : EB × List QOp × Nat := ((hid b_BHas_15), [(.mov (.t 6))], 18)
theorem k_BHas : cfun Tryz.prog 56 = some c_BHas := by kernel_rfl


/-! ### the maker of a commitment's outputs -/
def mkC (p : Prm) (s : Sta) (o : Int) (lock : List UInt8) : List EC := prmC p ++ (staC s ++ (iC o :: hc lock))
def MKv (p : Prm) (s : Sta) (o : Int) (lock : List UInt8) : EV := .v (.agg (mkC p s o lock))
def mkF (p : Prm) (s : Sta) (o : Int) (lock : List UInt8) : List FV := prmF p ++ ([.lit (.int .i64 s.num), .lit (.int .i64 s.h0), .lit (.int .i64 s.h1), .sl 36 (payv s.pays), .sl 3 (holv s.holds)] ++ (iF o :: hf lock))
theorem mkF_fz (p : Prm) (s : Sta) (o : Int) (lock : List UInt8) : (mkF p s o lock).map EC.fz = mkC p s o lock := by simp [mkF, mkC, prmF_fz, staC, iF, iC]
@[simp] theorem conAll_mkC (H : Nat → Option EO) (ids : List Nat) (p : Prm) (s : Sta) (o : Int) (l : List UInt8) : conAll H ids (mkC p s o l) = some (mkC p s o l) := by rw [← mkF_fz]; exact conAll_mp H ids _
@[simp] theorem strAll_mkC (ids : List Nat) (p : Prm) (s : Sta) (o : Int) (l : List UInt8) : strAll ids (mkC p s o l) = some (mkC p s o l) := by rw [← mkF_fz]; exact strAll_mp ids _
@[simp] theorem refs_mkC (p : Prm) (s : Sta) (o : Int) (l : List UInt8) : (mkC p s o l).flatMap refsC = [] := by rw [← mkF_fz]; exact refs_mp _
@[simp] theorem fz_mkC (ids : List Nat) (p : Prm) (s : Sta) (o : Int) (l : List UInt8) : (mkC p s o l).flatMap (fzC ids) = [] := by rw [← mkF_fz]; exact fz_mp ids _
@[simp] theorem ren_mkC (g : Nat → Nat) (p : Prm) (s : Sta) (o : Int) (l : List UInt8) : (mkC p s o l).map (renC g) = mkC p s o l := by rw [← mkF_fz]; exact ren_mp g _
section
variable {p : Prm} {lock : List UInt8} (h : p.tx.length = 32) (hl : lock.length = 32) (s : Sta) (o : Int)
include h
theorem mk_p : (mkC p s o lock).take 38 = prmC p := by unfold mkC; rw [← prmC_len h, List.take_left]
theorem mk_d38 : (mkC p s o lock).drop 38 = staC s ++ (iC o :: hc lock) := by unfold mkC; rw [← prmC_len h, List.drop_left]
theorem mk_s : ((mkC p s o lock).drop 38).take 5 = staC s := by rw [mk_d38 h]; rfl
theorem mk_d43 : (mkC p s o lock).drop 43 = iC o :: hc lock := by rw [show 43 = 38 + 5 from rfl, ← List.drop_drop, mk_d38 h]; rfl
theorem mk_d44 : (mkC p s o lock).drop 44 = hc lock := by rw [show 44 = 43 + 1 from rfl, ← List.drop_drop, mk_d43 h]; rfl
theorem mk_43 : (mkC p s o lock)[43]? = some (iC o) := by
  have := congrArg (·[0]?) (mk_d43 (lock := lock) h s o)
  simpa using this
theorem mk_at (i : Nat) (hi : i < 6) : (mkC p s o lock)[32 + i]? = [iC p.n, iC p.am, iC p.k0, iC p.k1, iC p.dl, iC p.fe][i]? := by
  have e : (hc p.tx).length = 32 := by rw [hc_len, h]
  unfold mkC prmC
  rw [List.append_assoc, List.getElem?_append_right (by omega), e, Nat.add_sub_cancel_left, List.getElem?_append_left (by simp; omega)]
theorem mk_34 : (mkC p s o lock)[34]? = some (iC p.k0) := mk_at h s o 2 (by omega)
theorem mk_35 : (mkC p s o lock)[35]? = some (iC p.k1) := mk_at h s o 3 (by omega)
theorem mk_36 : (mkC p s o lock)[36]? = some (iC p.dl) := mk_at h s o 4 (by omega)
include hl
theorem mk_lock : ((mkC p s o lock).drop 44).take 32 = hc lock := by rw [mk_d44 h]; exact hc_t32 hl
theorem mk_len : (mkC p s o lock).length = 76 := by simp [mkC, prmC_len h, staC, hl]
theorem mk_take : (mkC p s o lock).take 76 = mkC p s o lock := List.take_of_length_le (by rw [mk_len h hl]; omega)
end
def keyO (p : Prm) (o : Int) : Int := if o = 0 then p.k0 else p.k1
def fineB (p : Prm) (o : Int) (lock : List UInt8) : Bra := ⟨[keyO p (1 - o)], lock, 0, 0⟩
def waitV (p : Prm) (o who : Int) : Int := if who = o then p.dl else 0
def ownB (p : Prm) (o : Int) (lock : List UInt8) : List Bra := [⟨[keyO p o], hz, 0, p.dl⟩, fineB p o lock]
def paidB (p : Prm) (o : Int) (lock : List UInt8) (x : Pay) : List Bra := [⟨[keyO p (1 - x.fr)], x.lock, 0, waitV p o (1 - x.fr)⟩, ⟨[keyO p x.fr], hz, x.af, waitV p o x.fr⟩, fineB p o lock]
theorem take33h (a b : EC) : List.take 33 (hc hz ++ [a, b]) = hc hz ++ [a] := by
  rw [List.take_append, List.take_of_length_le (by simp [hz])]
  rfl
theorem take32h (a b : EC) : List.take 32 (hc hz ++ [a, b]) = hc hz := by
  rw [List.take_append, List.take_of_length_le (by simp [hz])]
  simp [hz]
theorem drop32h (a b : EC) : List.drop 32 (hc hz ++ [a, b]) = [a, b] := by
  rw [List.drop_append, List.drop_of_length_le (by simp [hz])]
  rfl
theorem drop33h (a b : EC) : List.drop 33 (hc hz ++ [a, b]) = [b] := by
  rw [List.drop_append, List.drop_of_length_le (by simp [hz])]
  rfl
theorem take33l {l : List UInt8} (h : l.length = 32) (a b : EC) : List.take 33 (hc l ++ [a, b]) = hc l ++ [a] := by
  rw [List.take_append, List.take_of_length_le (by simp [h]), hc_len, h]
  rfl
theorem take34l {l : List UInt8} (h : l.length = 32) (a b : EC) : List.take 34 (hc l ++ [a, b]) = hc l ++ [a, b] := List.take_of_length_le (by simp [h])
theorem drop34l {l : List UInt8} (h : l.length = 32) (a b : EC) : List.drop 34 (hc l ++ [a, b]) = [] := by rw [List.drop_eq_nil_iff]; simp [h]
theorem drop34h (a b : EC) : List.drop 34 (hc hz ++ [a, b]) = [] := by rw [List.drop_eq_nil_iff]; simp [hz]
theorem bfold (k a b : Int) (l : List UInt8) : EC.fz (FV.sl 1 [[FV.lit (.int .i64 k)]]) :: (hc l ++ [EC.fz (FV.lit (.int .i64 a)), EC.fz (FV.lit (.int .i64 b))]) = braC ⟨[k], l, a, b⟩ := rfl
theorem rows_mp : ∀ l : List FV, (l.map EC.fz).flatMap rowsE = []
  | [] => rfl
  | a :: r => by simp only [List.map_cons, List.flatMap_cons, rows_mp r]; rfl
theorem fzM_mp (H : Nat → Option EO) (d : List Nat) : ∀ l : List FV, (l.map EC.fz).map (fzM H d) = l.map EC.fz
  | [] => rfl
  | a :: r => by rw [List.map_cons, List.map_cons, fzM_mp H d r]; rfl
@[simp] theorem rows_braC (b : Bra) : (braC b).flatMap rowsE = [] := by rw [← braF_fz]; exact rows_mp _
@[simp] theorem fzM_braC (H : Nat → Option EO) (d : List Nat) (b : Bra) : (braC b).map (fzM H d) = braC b := by rw [← braF_fz]; exact fzM_mp H d _
@[simp] theorem rows_mkC (p : Prm) (s : Sta) (o : Int) (l : List UInt8) : (mkC p s o l).flatMap rowsE = [] := by rw [← mkF_fz]; exact rows_mp _
@[simp] theorem fzM_mkC (H : Nat → Option EO) (d : List Nat) (p : Prm) (s : Sta) (o : Int) (l : List UInt8) : (mkC p s o l).map (fzM H d) = mkC p s o l := by rw [← mkF_fz]; exact fzM_mp H d _
theorem bsing (b : Bra) : [braF b] = brav [b] := rfl
theorem finL {post : EV → List (Option EO) → Prop} {T : List EV} {H : Nat → Option EO} {m i o L : Nat} {ty : TypeId} (fs : List FV) (hL : fs.length = L) (hT : nth T i = .v (.c (.ptr o 0))) (hH : H o = some (.box ty (fs.map EC.fz))) (hp : post (.v (.agg (fs.map EC.fz))) []) : FinQ 0 [QOp.lda L (.t i)] post .ret ⟨T, H, m⟩ := by
  have hv : resV T H [QOp.lda L (.t i)] = some (.v (.agg (fs.map EC.fz))) := by
    subst hL
    have tk : List.take fs.length (List.map EC.fz fs) = List.map EC.fz fs := List.take_of_length_le (by simp)
    simp [resV, evT, hT, hH, tk]
  exact fin [] (by decide) hv (y := .v (.agg (fs.map EC.fz))) (by simp [conR, conT, conAll_mp]) rfl hp
theorem w_0 : IntKind.i64.wrap 0 = 0 := by decide +kernel
theorem w_1 : IntKind.i64.wrap 1 = 1 := by decide +kernel
theorem hz_len : hz.length = 32 := rfl
theorem keyO_i64 {p : Prm} (h : p.ok) (o : Int) : i64 (keyO p o) := by
  unfold keyO
  split
  · exact h.2.2.2.1
  · exact h.2.2.2.2.1

set_option maxHeartbeats 4000000 in
theorem BFine_ok (p : Prm) (s : Sta) (o : Int) (lock : List UInt8) (hp : p.tx.length = 32) (hl : lock.length = 32) (ho : o = 0 ∨ o = 1) : ECalls Tryz.prog 141 [MKv p s o lock] [] fun y H' => H' = [] ∧ y = .v (.agg (braC (fineB p o lock))) := by
  have l0 := mk_len hp hl s o
  have e34 := idx_of (mk_34 (lock := lock) hp s o) (by omega)
  have e35 := idx_of (mk_35 (lock := lock) hp s o) (by omega)
  have e43 := idx_of (mk_43 (lock := lock) hp s o) (by omega)
  have d44 := mk_lock hp hl s o
  have lb := bc_len (b := fineB p o lock) hl
  refine ecalls k_BFine ?_
  rcases ho with rfl | rfl
  · simp [c_BFine, MKv, I, l0, e43, iC, w_1, w_0, e34, e35, d44, drop34h, hl]
    exact finL (braF (fineB p 0 lock)) (bf_len hl) rfl (by rw [braF_fz]; rfl) ⟨rfl, by rw [braF_fz]⟩
  · simp [c_BFine, MKv, I, l0, e43, iC, w_1, w_0, e34, e35, d44, drop34h, hl]
    exact finL (braF (fineB p 1 lock)) (bf_len hl) rfl (by rw [braF_fz]; rfl) ⟨rfl, by rw [braF_fz]⟩
set_option maxHeartbeats 4000000 in
theorem BWait_ok (p : Prm) (s : Sta) (o : Int) (lock : List UInt8) (who : Int) (hp : p.tx.length = 32) (hl : lock.length = 32) : ECalls Tryz.prog 142 [MKv p s o lock, I .i64 who] [] fun y H' => H' = [] ∧ y = I .i64 (waitV p o who) := by
  have l0 := mk_len hp hl s o
  have t0 := mk_take hp hl s o
  have mp := mk_p (lock := lock) hp s o
  have e34 := idx_of (mk_34 (lock := lock) hp s o) (by omega)
  have e35 := idx_of (mk_35 (lock := lock) hp s o) (by omega)
  have e36 := idx_of (mk_36 (lock := lock) hp s o) (by omega)
  have e43 := idx_of (mk_43 (lock := lock) hp s o) (by omega)
  refine ecalls k_BWait ?_
  simp [c_BWait, MKv, I, l0, e43, iC]
  by_cases c : who = o
  · rw [show waitV p o who = p.dl from if_pos c]
    simp [c, l0, e36, iC]
    exact fin [] (by decide) rfl rfl rfl ⟨rfl, rfl⟩
  · rw [show waitV p o who = 0 from if_neg c]
    simp [c]
    exact fin [] (by decide) rfl rfl rfl ⟨rfl, rfl⟩
set_option maxHeartbeats 4000000 in
theorem BOne_ok (b : Bra) (hb : b.lock.length = 32) : ECalls Tryz.prog 140 [.v (.agg (braC b))] [] fun y H' => H' = [] ∧ y = CNv [b] := by
  have l0 := bc_len hb
  have tk := bc_take hb
  refine ecalls k_BOne ?_
  simp [c_BOne, l0, tk, bf_len hb]
  exact fin [] (by decide) rfl rfl rfl ⟨rfl, by simp [CNv, brav]⟩
theorem fineB_ok {p : Prm} {o : Int} {lock : List UInt8} (hp : p.ok) (hl : lock.length = 32) : (fineB p o lock).ok := ⟨by simp [fineB]; exact keyO_i64 hp _, hl, by simp [fineB, i64], by simp [fineB, i64], by simp [fineB]⟩
set_option maxHeartbeats 8000000 in
theorem BOwn_ok (p : Prm) (s : Sta) (o : Int) (lock : List UInt8) (x : Pay) (hp : p.ok) (hl : lock.length = 32) (ho : o = 0 ∨ o = 1) (hx : x.lock.length = 32) : ECalls Tryz.prog 86 [MKv p s o lock, .v (.agg (payC x))] [] fun y H' => H' = [] ∧ y = CNv (ownB p o lock) := by
  have hpo := hp
  replace hp := hp.1
  have l0 := mk_len hp hl s o
  have t0 := mk_take hp hl s o
  have e34 := idx_of (mk_34 (lock := lock) hp s o) (by omega)
  have e35 := idx_of (mk_35 (lock := lock) hp s o) (by omega)
  have e36 := idx_of (mk_36 (lock := lock) hp s o) (by omega)
  have e43 := idx_of (mk_43 (lock := lock) hp s o) (by omega)
  have hf := BFine_ok p s o lock hp hl ho
  have h1 := BOne_ok ⟨[keyO p o], hz, 0, p.dl⟩ hz_len
  have h2 := BOne_ok (fineB p o lock) hl
  have lb := bc_len (b := fineB p o lock) hl
  have h3 := POr_ok [⟨[keyO p o], hz, 0, p.dl⟩] [fineB p o lock] (by intro b hb; simp at hb; subst hb; exact ⟨by simp; exact keyO_i64 hpo _, hz_len, by simp [i64], hpo.2.2.2.2.2.1, by simp⟩) (by intro b hb; simp at hb; subst hb; exact fineB_ok hpo hl) (by simp) (by simp)
  refine ecalls k_BOwn ?_
  rcases ho with rfl | rfl
  · have hk : keyO p 0 = p.k0 := rfl
    rw [hk] at h1 h3
    simp [c_BOwn, MKv, I, l0, t0, e43, e34, e35, e36, iC, w_1, w_0, hl, hx, take33h, take32h, drop32h, drop33h, drop34h, hz_len, lb, bsing, hc_t32 hl, hc_t32 hx, take33l hx, drop34l hx, take33l hl, drop34l hl, take34l hz_len, take34l hx]
    simp only [bfold]
    refine call0 (h1) (by simp [MKv, I, l0, t0, e43, e34, e35, e36, iC, w_1, w_0, hl, hx, take33h, take32h, drop32h, drop33h, drop34h, hz_len, lb, bsing, hc_t32 hl, hc_t32 hx, take33l hx, drop34l hx, take33l hl, drop34l hl, take34l hz_len, take34l hx]) ?_
    rintro y H' ⟨rfl, rfl⟩
    refine ⟨.inl (by simp [CNv]), le_ok rfl, ?_⟩
    simp [MKv, I, l0, t0, e43, e34, e35, e36, iC, w_1, w_0, hl, hx, take33h, take32h, drop32h, drop33h, drop34h, hz_len, lb, bsing, hc_t32 hl, hc_t32 hx, take33l hx, drop34l hx, take33l hl, drop34l hl, take34l hz_len, take34l hx]
    refine call0 (hf) (by simp [MKv, I, l0, t0, e43, e34, e35, e36, iC, w_1, w_0, hl, hx, take33h, take32h, drop32h, drop33h, drop34h, hz_len, lb, bsing, hc_t32 hl, hc_t32 hx, take33l hx, drop34l hx, take33l hl, drop34l hl, take34l hz_len, take34l hx]) ?_
    rintro y H' ⟨rfl, rfl⟩
    refine ⟨.inl (by simp), le_ok rfl, ?_⟩
    simp [MKv, I, l0, t0, e43, e34, e35, e36, iC, w_1, w_0, hl, hx, take33h, take32h, drop32h, drop33h, drop34h, hz_len, lb, bsing, hc_t32 hl, hc_t32 hx, take33l hx, drop34l hx, take33l hl, drop34l hl, take34l hz_len, take34l hx]
    refine call0 (h2) (by simp [MKv, I, l0, t0, e43, e34, e35, e36, iC, w_1, w_0, hl, hx, take33h, take32h, drop32h, drop33h, drop34h, hz_len, lb, bsing, hc_t32 hl, hc_t32 hx, take33l hx, drop34l hx, take33l hl, drop34l hl, take34l hz_len, take34l hx]) ?_
    rintro y H' ⟨rfl, rfl⟩
    refine ⟨.inl (by simp [CNv]), le_ok rfl, ?_⟩
    simp [CNv, MKv, I, l0, t0, e43, e34, e35, e36, iC, w_1, w_0, hl, hx, take33h, take32h, drop32h, drop33h, drop34h, hz_len, lb, bsing, hc_t32 hl, hc_t32 hx, take33l hx, drop34l hx, take33l hl, drop34l hl, take34l hz_len, take34l hx]
    refine call0 (h3) (by simp [CNv, MKv, I, l0, t0, e43, e34, e35, e36, iC, w_1, w_0, hl, hx, take33h, take32h, drop32h, drop33h, drop34h, hz_len, lb, bsing, hc_t32 hl, hc_t32 hx, take33l hx, drop34l hx, take33l hl, drop34l hl, take34l hz_len, take34l hx]) ?_
    rintro y H' ⟨rfl, rfl⟩
    refine ⟨.inl (by simp [CNv]), le_ok rfl, ?_⟩
    simp [CNv, MKv, I, l0, t0, e43, e34, e35, e36, iC, w_1, w_0, hl, hx, take33h, take32h, drop32h, drop33h, drop34h, hz_len, lb, bsing, hc_t32 hl, hc_t32 hx, take33l hx, drop34l hx, take33l hl, drop34l hl, take34l hz_len, take34l hx]
    exact fin [] (by decide) rfl rfl rfl ⟨rfl, by simp [ownB, CNv, hk]⟩
  · have hk : keyO p 1 = p.k1 := rfl
    rw [hk] at h1 h3
    simp [c_BOwn, MKv, I, l0, t0, e43, e34, e35, e36, iC, w_1, w_0, hl, hx, take33h, take32h, drop32h, drop33h, drop34h, hz_len, lb, bsing, hc_t32 hl, hc_t32 hx, take33l hx, drop34l hx, take33l hl, drop34l hl, take34l hz_len, take34l hx]
    simp only [bfold]
    refine call0 (h1) (by simp [MKv, I, l0, t0, e43, e34, e35, e36, iC, w_1, w_0, hl, hx, take33h, take32h, drop32h, drop33h, drop34h, hz_len, lb, bsing, hc_t32 hl, hc_t32 hx, take33l hx, drop34l hx, take33l hl, drop34l hl, take34l hz_len, take34l hx]) ?_
    rintro y H' ⟨rfl, rfl⟩
    refine ⟨.inl (by simp [CNv]), le_ok rfl, ?_⟩
    simp [MKv, I, l0, t0, e43, e34, e35, e36, iC, w_1, w_0, hl, hx, take33h, take32h, drop32h, drop33h, drop34h, hz_len, lb, bsing, hc_t32 hl, hc_t32 hx, take33l hx, drop34l hx, take33l hl, drop34l hl, take34l hz_len, take34l hx]
    refine call0 (hf) (by simp [MKv, I, l0, t0, e43, e34, e35, e36, iC, w_1, w_0, hl, hx, take33h, take32h, drop32h, drop33h, drop34h, hz_len, lb, bsing, hc_t32 hl, hc_t32 hx, take33l hx, drop34l hx, take33l hl, drop34l hl, take34l hz_len, take34l hx]) ?_
    rintro y H' ⟨rfl, rfl⟩
    refine ⟨.inl (by simp), le_ok rfl, ?_⟩
    simp [MKv, I, l0, t0, e43, e34, e35, e36, iC, w_1, w_0, hl, hx, take33h, take32h, drop32h, drop33h, drop34h, hz_len, lb, bsing, hc_t32 hl, hc_t32 hx, take33l hx, drop34l hx, take33l hl, drop34l hl, take34l hz_len, take34l hx]
    refine call0 (h2) (by simp [MKv, I, l0, t0, e43, e34, e35, e36, iC, w_1, w_0, hl, hx, take33h, take32h, drop32h, drop33h, drop34h, hz_len, lb, bsing, hc_t32 hl, hc_t32 hx, take33l hx, drop34l hx, take33l hl, drop34l hl, take34l hz_len, take34l hx]) ?_
    rintro y H' ⟨rfl, rfl⟩
    refine ⟨.inl (by simp [CNv]), le_ok rfl, ?_⟩
    simp [CNv, MKv, I, l0, t0, e43, e34, e35, e36, iC, w_1, w_0, hl, hx, take33h, take32h, drop32h, drop33h, drop34h, hz_len, lb, bsing, hc_t32 hl, hc_t32 hx, take33l hx, drop34l hx, take33l hl, drop34l hl, take34l hz_len, take34l hx]
    refine call0 (h3) (by simp [CNv, MKv, I, l0, t0, e43, e34, e35, e36, iC, w_1, w_0, hl, hx, take33h, take32h, drop32h, drop33h, drop34h, hz_len, lb, bsing, hc_t32 hl, hc_t32 hx, take33l hx, drop34l hx, take33l hl, drop34l hl, take34l hz_len, take34l hx]) ?_
    rintro y H' ⟨rfl, rfl⟩
    refine ⟨.inl (by simp [CNv]), le_ok rfl, ?_⟩
    simp [CNv, MKv, I, l0, t0, e43, e34, e35, e36, iC, w_1, w_0, hl, hx, take33h, take32h, drop32h, drop33h, drop34h, hz_len, lb, bsing, hc_t32 hl, hc_t32 hx, take33l hx, drop34l hx, take33l hl, drop34l hl, take34l hz_len, take34l hx]
    exact fin [] (by decide) rfl rfl rfl ⟨rfl, by simp [ownB, CNv, hk]⟩
set_option maxHeartbeats 8000000 in
theorem BOther_ok (p : Prm) (s : Sta) (o : Int) (lock : List UInt8) (x : Pay) (hp : p.ok) (hl : lock.length = 32) (ho : o = 0 ∨ o = 1) (hx : x.lock.length = 32) : ECalls Tryz.prog 87 [MKv p s o lock, .v (.agg (payC x))] [] fun y H' => H' = [] ∧ y = CNv (allB [keyO p (1 - o)]) := by
  have hpo := hp
  replace hp := hp.1
  have l0 := mk_len hp hl s o
  have t0 := mk_take hp hl s o
  have e34 := idx_of (mk_34 (lock := lock) hp s o) (by omega)
  have e35 := idx_of (mk_35 (lock := lock) hp s o) (by omega)
  have e36 := idx_of (mk_36 (lock := lock) hp s o) (by omega)
  have e43 := idx_of (mk_43 (lock := lock) hp s o) (by omega)
  have h1 := PAll_ok [keyO p (1 - o)] (keys_one _).1
  have lb := bc_len (b := fineB p o lock) hl
  refine ecalls k_BOther ?_
  rcases ho with rfl | rfl
  · have hk : keyO p (1 - 0) = p.k1 := rfl
    rw [hk] at h1 ⊢
    simp [c_BOther, MKv, I, l0, t0, e43, e34, e35, e36, iC, w_1, w_0, hl, hx, take33h, take32h, drop32h, drop33h, drop34h, hz_len, lb, bsing, hc_t32 hl, hc_t32 hx, take33l hx, drop34l hx, take33l hl, drop34l hl, take34l hz_len, take34l hx]
    refine call0 (h1) (by simp [IL, intv, MKv, I, l0, t0, e43, e34, e35, e36, iC, w_1, w_0, hl, hx, take33h, take32h, drop32h, drop33h, drop34h, hz_len, lb, bsing, hc_t32 hl, hc_t32 hx, take33l hx, drop34l hx, take33l hl, drop34l hl, take34l hz_len, take34l hx]) ?_
    rintro y H' ⟨rfl, rfl⟩
    refine ⟨.inl (by simp [CNv]), le_ok rfl, ?_⟩
    simp [CNv, MKv, I, l0, t0, e43, e34, e35, e36, iC, w_1, w_0, hl, hx, take33h, take32h, drop32h, drop33h, drop34h, hz_len, lb, bsing, hc_t32 hl, hc_t32 hx, take33l hx, drop34l hx, take33l hl, drop34l hl, take34l hz_len, take34l hx]
    exact fin [] (by decide) rfl rfl rfl ⟨rfl, by simp [CNv]⟩
  · have hk : keyO p (1 - 1) = p.k0 := rfl
    rw [hk] at h1 ⊢
    simp [c_BOther, MKv, I, l0, t0, e43, e34, e35, e36, iC, w_1, w_0, hl, hx, take33h, take32h, drop32h, drop33h, drop34h, hz_len, lb, bsing, hc_t32 hl, hc_t32 hx, take33l hx, drop34l hx, take33l hl, drop34l hl, take34l hz_len, take34l hx]
    refine call0 (h1) (by simp [IL, intv, MKv, I, l0, t0, e43, e34, e35, e36, iC, w_1, w_0, hl, hx, take33h, take32h, drop32h, drop33h, drop34h, hz_len, lb, bsing, hc_t32 hl, hc_t32 hx, take33l hx, drop34l hx, take33l hl, drop34l hl, take34l hz_len, take34l hx]) ?_
    rintro y H' ⟨rfl, rfl⟩
    refine ⟨.inl (by simp [CNv]), le_ok rfl, ?_⟩
    simp [CNv, MKv, I, l0, t0, e43, e34, e35, e36, iC, w_1, w_0, hl, hx, take33h, take32h, drop32h, drop33h, drop34h, hz_len, lb, bsing, hc_t32 hl, hc_t32 hx, take33l hx, drop34l hx, take33l hl, drop34l hl, take34l hz_len, take34l hx]
    exact fin [] (by decide) rfl rfl rfl ⟨rfl, by simp [CNv]⟩
set_option maxHeartbeats 16000000 in
theorem BPaid_ok (p : Prm) (s : Sta) (o : Int) (lock : List UInt8) (x : Pay) (hp : p.ok) (hl : lock.length = 32) (ho : o = 0 ∨ o = 1) (hx : x.lock.length = 32) (hf : x.fr = 0 ∨ x.fr = 1) : ECalls Tryz.prog 88 [MKv p s o lock, .v (.agg (payC x))] [] fun y H' => H' = [] ∧ y = CNv (paidB p o lock x) := by
  have hpo := hp
  replace hp := hp.1
  have l0 := mk_len hp hl s o
  have t0 := mk_take hp hl s o
  have e34 := idx_of (mk_34 (lock := lock) hp s o) (by omega)
  have e35 := idx_of (mk_35 (lock := lock) hp s o) (by omega)
  have e36 := idx_of (mk_36 (lock := lock) hp s o) (by omega)
  have e43 := idx_of (mk_43 (lock := lock) hp s o) (by omega)
  have h1 := BFine_ok p s o lock hp hl ho
  have lb := bc_len (b := fineB p o lock) hl
  have hw1 := BWait_ok p s o lock (1 - x.fr) hp hl
  have hw2 := BWait_ok p s o lock x.fr hp hl
  obtain ⟨A, hA⟩ : ∃ A, waitV p o (1 - x.fr) = A := ⟨_, rfl⟩
  obtain ⟨B, hB⟩ : ∃ B, waitV p o x.fr = B := ⟨_, rfl⟩
  have hv : paidB p o lock x = [⟨[keyO p (1 - x.fr)], x.lock, 0, A⟩, ⟨[keyO p x.fr], hz, x.af, B⟩, fineB p o lock] := by rw [← hA, ← hB]; rfl
  rw [hA] at hw1
  rw [hB] at hw2
  refine ecalls k_BPaid ?_
  rw [hv]
  obtain ⟨id', fr, am, af, lk⟩ := x
  dsimp only at hf hw1 hw2 hx ⊢
  rcases hf with rfl | rfl
  · have hw1' := hw1
    rw [show (1 - 0 : Int) = 1 from rfl] at hw1'
    have lb1 := bc_len (b := (⟨[p.k1], lk, 0, A⟩ : Bra)) hx
    have lb2 := bc_len (b := (⟨[p.k0], hz, af, B⟩ : Bra)) hz_len
    have tk1 := bc_take (b := (⟨[p.k1], lk, 0, A⟩ : Bra)) hx
    have tk2 := bc_take (b := (⟨[p.k0], hz, af, B⟩ : Bra)) hz_len
    have tkb := bc_take (b := fineB p o lock) hl
    have f1 := bf_len (b := (⟨[p.k1], lk, 0, A⟩ : Bra)) hx
    have f2 := bf_len (b := (⟨[p.k0], hz, af, B⟩ : Bra)) hz_len
    have f3 := bf_len (b := fineB p o lock) hl
    simp [c_BPaid, payC, MKv, I, l0, t0, e43, e34, e35, e36, iC, w_1, w_0, hl, hx, take33h, take32h, drop32h, drop33h, drop34h, hz_len, lb, bsing, hc_t32 hl, hc_t32 hx, take33l hx, drop34l hx, take33l hl, drop34l hl, take34l hz_len, take34l hx]
    refine call0 (hw1') (by simp [MKv, I, l0, t0, e43, e34, e35, e36, iC, w_1, w_0, hl, hx, take33h, take32h, drop32h, drop33h, drop34h, hz_len, lb, bsing, hc_t32 hl, hc_t32 hx, take33l hx, drop34l hx, take33l hl, drop34l hl, take34l hz_len, take34l hx]) ?_
    rintro y H' ⟨rfl, rfl⟩
    refine ⟨.inl (by simp [I]), le_ok rfl, ?_⟩
    simp [MKv, I, l0, t0, e43, e34, e35, e36, iC, w_1, w_0, hl, hx, take33h, take32h, drop32h, drop33h, drop34h, hz_len, lb, bsing, hc_t32 hl, hc_t32 hx, take33l hx, drop34l hx, take33l hl, drop34l hl, take34l hz_len, take34l hx]
    simp only [bfold]
    refine call0 (hw2) (by simp [MKv, I, l0, t0, e43, e34, e35, e36, iC, w_1, w_0, hl, hx, take33h, take32h, drop32h, drop33h, drop34h, hz_len, lb, bsing, hc_t32 hl, hc_t32 hx, take33l hx, drop34l hx, take33l hl, drop34l hl, take34l hz_len, take34l hx]) ?_
    rintro y H' ⟨rfl, rfl⟩
    refine ⟨.inl (by simp [I]), le_ok rfl, ?_⟩
    simp [MKv, I, l0, t0, e43, e34, e35, e36, iC, w_1, w_0, hl, hx, take33h, take32h, drop32h, drop33h, drop34h, hz_len, lb, bsing, hc_t32 hl, hc_t32 hx, take33l hx, drop34l hx, take33l hl, drop34l hl, take34l hz_len, take34l hx, lb1, lb2, tk1, tk2, tkb]
    simp only [bfold]
    refine call0 (h1) (by simp [MKv, I, l0, t0, e43, e34, e35, e36, iC, w_1, w_0, hl, hx, take33h, take32h, drop32h, drop33h, drop34h, hz_len, lb, bsing, hc_t32 hl, hc_t32 hx, take33l hx, drop34l hx, take33l hl, drop34l hl, take34l hz_len, take34l hx]) ?_
    rintro y H' ⟨rfl, rfl⟩
    refine ⟨.inl (by simp), le_ok rfl, ?_⟩
    simp [MKv, I, l0, t0, e43, e34, e35, e36, iC, w_1, w_0, hl, hx, take33h, take32h, drop32h, drop33h, drop34h, hz_len, lb, bsing, hc_t32 hl, hc_t32 hx, take33l hx, drop34l hx, take33l hl, drop34l hl, take34l hz_len, take34l hx, lb1, lb2, tk1, tk2, tkb, f1, f2, f3]
    exact fin [] (by decide) rfl rfl rfl ⟨rfl, by simp [CNv, brav, keyO]⟩
  · have hw1' := hw1
    rw [show (1 - 1 : Int) = 0 from rfl] at hw1'
    have lb1 := bc_len (b := (⟨[p.k0], lk, 0, A⟩ : Bra)) hx
    have lb2 := bc_len (b := (⟨[p.k1], hz, af, B⟩ : Bra)) hz_len
    have tk1 := bc_take (b := (⟨[p.k0], lk, 0, A⟩ : Bra)) hx
    have tk2 := bc_take (b := (⟨[p.k1], hz, af, B⟩ : Bra)) hz_len
    have tkb := bc_take (b := fineB p o lock) hl
    have f1 := bf_len (b := (⟨[p.k0], lk, 0, A⟩ : Bra)) hx
    have f2 := bf_len (b := (⟨[p.k1], hz, af, B⟩ : Bra)) hz_len
    have f3 := bf_len (b := fineB p o lock) hl
    simp [c_BPaid, payC, MKv, I, l0, t0, e43, e34, e35, e36, iC, w_1, w_0, hl, hx, take33h, take32h, drop32h, drop33h, drop34h, hz_len, lb, bsing, hc_t32 hl, hc_t32 hx, take33l hx, drop34l hx, take33l hl, drop34l hl, take34l hz_len, take34l hx]
    refine call0 (hw1') (by simp [MKv, I, l0, t0, e43, e34, e35, e36, iC, w_1, w_0, hl, hx, take33h, take32h, drop32h, drop33h, drop34h, hz_len, lb, bsing, hc_t32 hl, hc_t32 hx, take33l hx, drop34l hx, take33l hl, drop34l hl, take34l hz_len, take34l hx]) ?_
    rintro y H' ⟨rfl, rfl⟩
    refine ⟨.inl (by simp [I]), le_ok rfl, ?_⟩
    simp [MKv, I, l0, t0, e43, e34, e35, e36, iC, w_1, w_0, hl, hx, take33h, take32h, drop32h, drop33h, drop34h, hz_len, lb, bsing, hc_t32 hl, hc_t32 hx, take33l hx, drop34l hx, take33l hl, drop34l hl, take34l hz_len, take34l hx]
    simp only [bfold]
    refine call0 (hw2) (by simp [MKv, I, l0, t0, e43, e34, e35, e36, iC, w_1, w_0, hl, hx, take33h, take32h, drop32h, drop33h, drop34h, hz_len, lb, bsing, hc_t32 hl, hc_t32 hx, take33l hx, drop34l hx, take33l hl, drop34l hl, take34l hz_len, take34l hx]) ?_
    rintro y H' ⟨rfl, rfl⟩
    refine ⟨.inl (by simp [I]), le_ok rfl, ?_⟩
    simp [MKv, I, l0, t0, e43, e34, e35, e36, iC, w_1, w_0, hl, hx, take33h, take32h, drop32h, drop33h, drop34h, hz_len, lb, bsing, hc_t32 hl, hc_t32 hx, take33l hx, drop34l hx, take33l hl, drop34l hl, take34l hz_len, take34l hx, lb1, lb2, tk1, tk2, tkb]
    simp only [bfold]
    refine call0 (h1) (by simp [MKv, I, l0, t0, e43, e34, e35, e36, iC, w_1, w_0, hl, hx, take33h, take32h, drop32h, drop33h, drop34h, hz_len, lb, bsing, hc_t32 hl, hc_t32 hx, take33l hx, drop34l hx, take33l hl, drop34l hl, take34l hz_len, take34l hx]) ?_
    rintro y H' ⟨rfl, rfl⟩
    refine ⟨.inl (by simp), le_ok rfl, ?_⟩
    simp [MKv, I, l0, t0, e43, e34, e35, e36, iC, w_1, w_0, hl, hx, take33h, take32h, drop32h, drop33h, drop34h, hz_len, lb, bsing, hc_t32 hl, hc_t32 hx, take33l hx, drop34l hx, take33l hl, drop34l hl, take34l hz_len, take34l hx, lb1, lb2, tk1, tk2, tkb, f1, f2, f3]
    exact fin [] (by decide) rfl rfl rfl ⟨rfl, by simp [CNv, brav, keyO]⟩

end Go.Proofs.YtflcfdeanneoeaaGreatDoor

namespace Go.Proofs.YtflcfdeanneoeaaGreatDoor
open Go Go.EW
set_option linter.unusedSimpArgs false
set_option linter.unusedVariables false

@[simp] def l_BLay_1 (_ : Unit) : List EOp := [⟨0, (some 8), none, (.q (.box 126 (.t 1))), []⟩]
@[simp] def b_BLay_2 (_ : Unit) : EB := reg0 (hid l_BLay_1) 1
@[simp] def l_BLay_3 (_ : Unit) : List EOp := [⟨0, (some 11), none, (.q (.mov (.t 2))), []⟩, ⟨1, (some 12), none, (.q (.bin .geq (.t 11) (.k (.int .i64 10)))), []⟩]
@[simp] def b_BLay_4 (_ : Unit) : EB := reg0 (hid l_BLay_3) 2
@[simp] def l_BLay_6 (_ : Unit) : List EOp := [⟨6, (some 19), none, (.q (.build [(.int .i64 0), (.slice none 0 0)] [(0, 1, (.t 14)), (1, 1, (.t 18))])), []⟩, ⟨7, (some 20), none, (.fz (.q (.bsl 2 [(.int .i64 0), (.slice none 0 0)] 1 [(0, (.t 19))]))), [0]⟩, ⟨8, (some 21), none, (.app 118 2 32 (.t 13) (.t 20)), []⟩, ⟨9, none, none, (.fz (.sto 1 (.t 4) (.t 21))), []⟩]
@[simp] def l_BLay_5 (_ : Unit) : List EOp := ⟨0, (some 13), none, (.q (.ldc (.t 4))), []⟩ :: ⟨1, (some 14), none, (.q (.mov (.t 2))), []⟩ :: ⟨2, (some 15), none, (.q (.mov (.t 3))), []⟩ :: ⟨3, (some 16), none, (.q (.lda 76 (.t 5))), []⟩ :: ⟨4, (some 17), none, (.q (.lda 36 (.t 8))), []⟩ :: ⟨5, (some 18), none, (.clo (.t 15) [(.t 16), (.t 17)]), [0, 1]⟩ :: hid l_BLay_6
@[simp] def b_BLay_7 (_ : Unit) : EB := reg1 (hid l_BLay_5) 10
@[simp] def l_BLay_9 (_ : Unit) : List EOp := [⟨6, (some 28), none, (.app 54 2 16 (.t 22) (.t 27)), []⟩, ⟨7, none, none, (.fz (.sto 1 (.t 6) (.t 28))), []⟩]
@[simp] def l_BLay_8 (_ : Unit) : List EOp := ⟨0, (some 22), none, (.q (.ldc (.t 6))), []⟩ :: ⟨1, (some 23), none, (.q (.mov (.t 0))), []⟩ :: ⟨2, (some 24), none, (.q (.fad 0 (.t 8))), []⟩ :: ⟨3, (some 25), none, (.q (.ldc (.t 24))), []⟩ :: ⟨4, (some 26), none, (.q (.build [(.int .i64 0), (.int .i64 0)] [(0, 1, (.t 23)), (1, 1, (.t 25))])), []⟩ :: ⟨5, (some 27), none, (.q (.bsl 2 [(.int .i64 0), (.int .i64 0)] 1 [(0, (.t 26))])), []⟩ :: hid l_BLay_9
@[simp] def b_BLay_10 (_ : Unit) : EB := reg0 (hid l_BLay_8) 8
@[simp] def b_BLay_11 (_ : Unit) : EB := .seq (hid b_BLay_7) (hid b_BLay_10)
@[simp] def b_BLay_12 (_ : Unit) : EB := .cond (.t 12) (hid b_BLay_11) .skip
@[simp] def b_BLay_13 (_ : Unit) : EB := .seq (hid b_BLay_4) (hid b_BLay_12)
@[simp] def b_BLay_14 (_ : Unit) : EB := .seq (hid b_BLay_2) (hid b_BLay_13)
def c_BLay : EB × List QOp × Nat := ((hid b_BLay_14), [], 29)
theorem k_BLay : cfun Tryz.prog 85 = some c_BLay := by kernel_rfl


/-! ### an output laid, and what it is for -/
def plcF (q : Int × Int) : List FV := [iF q.1, iF q.2]
def plcv (l : List (Int × Int)) : List (List FV) := l.map plcF
@[simp] theorem plcv_len (l : List (Int × Int)) : (plcv l).length = l.length := by simp [plcv]
def hasP (p : Prm) (s : Sta) (who : Int) : Int := if who = 0 then s.h0 - p.fe else s.h1
@[simp] theorem rows_payC (x : Pay) : (payC x).flatMap rowsE = [] := by rw [← payF_fz]; exact rows_mp _
@[simp] theorem fzM_payC (H : Nat → Option EO) (d : List Nat) (x : Pay) : (payC x).map (fzM H d) = payC x := by rw [← payF_fz]; exact fzM_mp H d _

set_option maxHeartbeats 4000000 in
theorem BHas_ok (p : Prm) (s : Sta) (who : Int) (hp : p.tx.length = 32) (hw : i64 (s.h0 - p.fe)) : ECalls Tryz.prog 56 [PVv p, SV s, I .i64 who] [] fun y H' => H' = [] ∧ y = I .i64 (hasP p s who) := by
  unfold i64 at hw
  have l0 := prmC_len hp
  have e37 : (prmC p)[37]? = some (iC p.fe) := by
    have e : (hc p.tx).length = 32 := by rw [hc_len, hp]
    unfold prmC
    rw [List.getElem?_append_right (by omega), e]; rfl
  have e37 := idx_of e37 (by omega)
  have w1 : IntKind.i64.wrap (s.h0 - p.fe) = s.h0 - p.fe := wrap_i64 (by omega) (by omega)
  refine ecalls k_BHas ?_
  simp [c_BHas, PVv, SV, staC, I, l0, iC]
  by_cases c : who = 0
  · rw [show hasP p s who = s.h0 - p.fe from if_pos c]
    simp [c, l0, e37, iC, w1]
    exact fin [] (by decide) rfl rfl rfl ⟨rfl, rfl⟩
  · rw [show hasP p s who = s.h1 from if_neg c]
    simp [c]
    exact fin [] (by decide) rfl rfl rfl ⟨rfl, rfl⟩

/-- What is laid: the outputs, the maker, what they are for. -/
def layH (p : Prm) (s : Sta) (o : Int) (lock : List UInt8) (L : List Outp) (Q : List (Int × Int)) : List EO :=
  [.box 61 [.row 3 L.length], .box 123 (mkC p s o lock), .box 35 [.row 4 Q.length], .row 118 2 (outv L), .row 54 2 (plcv Q)]

set_option maxHeartbeats 8000000 in
theorem BLay_no (f : FuncId) (p : Prm) (s : Sta) (o kind am : Int) (lock : List UInt8) (x : Pay) (L : List Outp) (Q : List (Int × Int)) (ha : am < 10) (hx : x.lock.length = 32) :
    ECalls Tryz.prog 85 [I .i64 kind, .v (.agg (payC x)), I .i64 am, .v (.c (.clo f [])), Ptr 0, Ptr 1, Ptr 2] (layH p s o lock L Q) fun y H' => H' = (layH p s o lock L Q).map some ∧ y = .tup [] := by
  have ha' : ¬ 10 ≤ am := by omega
  refine ecalls k_BLay ?_
  simp [c_BLay, I, Ptr, layH, ha']
  exact fin [] (by decide) rfl rfl (by simp [objsOut, show List.range 5 = [0, 1, 2, 3, 4] from rfl]) ⟨rfl, rfl⟩
set_option maxHeartbeats 8000000 in
theorem BLay_yes (f : FuncId) (c : List Bra) (p : Prm) (s : Sta) (o kind am : Int) (lock : List UInt8) (x : Pay) (L : List Outp) (Q : List (Int × Int)) (ha : 10 ≤ am) (hx : x.lock.length = 32) (hp : p.tx.length = 32) (hl : lock.length = 32) (hL : L.length ≤ 1000) (hQ : Q.length ≤ 1000)
    (hb : bodyOK Tryz.prog f = true) (hf : ECalls Tryz.prog f [MKv p s o lock, .v (.agg (payC x))] [] fun y H' => H' = [] ∧ y = CNv c) :
    ECalls Tryz.prog 85 [I .i64 kind, .v (.agg (payC x)), I .i64 am, .v (.c (.clo f [])), Ptr 0, Ptr 1, Ptr 2] (layH p s o lock L Q) fun y H' =>
      H' = [some (.box 61 [.row 5 (L.length + 1)]), some (.box 123 (mkC p s o lock)), some (.box 35 [.row 6 (Q.length + 1)]), none, none, some (.row 118 2 (outv (L ++ [⟨am, c⟩]))), some (.row 54 2 (plcv (Q ++ [(kind, x.id)])))] ∧ y = .tup [] := by
  have l0 := mk_len hp hl s o
  have t0 := mk_take hp hl s o
  have tp := payC_take hx
  have lp := payC_len hx
  refine ecalls k_BLay ?_
  simp [c_BLay, I, Ptr, layH, ha, l0, t0, tp, lp]
  refine ⟨hb, ?_⟩
  refine call0 hf (by simp [MKv]) ?_
  rintro y H' ⟨rfl, rfl⟩
  refine ⟨.inl (by simp [CNv]), le_ok rfl, ?_⟩
  simp [CNv]
  refine ⟨⟨by omega, by omega⟩, ?_⟩
  have e0 : (payC x)[0]? = some (.fz (.lit (.int .i64 x.id))) := rfl
  simp [e0]
  refine ⟨⟨by omega, by omega⟩, ?_⟩
  have hol : outv L ++ [[FV.lit (Value.int IntKind.i64 am), FV.sl 35 (brav c)]] = outv (L ++ [⟨am, c⟩]) := by simp [outv, outF, iF]
  have hpl : plcv Q ++ [[FV.lit (Value.int IntKind.i64 kind), FV.lit (Value.int IntKind.i64 x.id)]] = plcv (Q ++ [(kind, x.id)]) := by simp [plcv, plcF, iF]
  rw [hol, hpl]
  exact fin [181, 309] (by decide) rfl rfl (by simp [objsOut, show List.range 5 = [0, 1, 2, 3, 4] from rfl]) ⟨rfl, rfl⟩

/-- The first one: nothing is laid yet. -/
def layN (p : Prm) (s : Sta) (o : Int) (lock : List UInt8) : List EO :=
  [.box 61 [.fz (.lit (.slice none 0 0))], .box 123 (mkC p s o lock), .box 35 [.fz (.lit (.slice none 0 0))]]
theorem lay_nil {f : FuncId} {args : List EV} {post : EV → List (Option EO) → Prop} {p : Prm} {s : Sta} {o : Int} {lock : List UInt8} (h : ECalls Tryz.prog f args (layH p s o lock [] []) post) : ECalls Tryz.prog f args (layN p s o lock) post := by
  refine ecalls_nilB (o := 0) (k := 0) (ty := 118) (es := 2) rfl rfl (by omega) ?_
  refine ecalls_nilB (o := 2) (k := 0) (ty := 54) (es := 2) rfl rfl (by omega) ?_
  exact h

end Go.Proofs.YtflcfdeanneoeaaGreatDoor

namespace Go.Proofs.YtflcfdeanneoeaaGreatDoor
open Go Go.EW
set_option linter.unusedSimpArgs false
set_option linter.unusedVariables false

@[simp] def l_BOuts_1 (_ : Unit) : List EOp := [⟨0, (some 1), none, (.q (.box 123 (.t 0))), []⟩, ⟨1, (some 2), none, (.q (.mov (.k (.slice none 0 0)))), []⟩, ⟨2, (some 3), none, (.q (.mov (.k (.slice none 0 0)))), []⟩]
@[simp] def b_BOuts_2 (_ : Unit) : EB := reg0 (hid l_BOuts_1) 3
@[simp] def l_BOuts_3 (_ : Unit) : List EOp := [⟨0, (some 4), none, (.q (.alloc 61 [(.slice none 0 0)])), []⟩]
@[simp] def b_BOuts_4 (_ : Unit) : EB := reg0 (hid l_BOuts_3) 1
@[simp] def l_BOuts_5 (_ : Unit) : List EOp := [⟨0, (some 5), none, (.q (.alloc 35 [(.slice none 0 0)])), []⟩]
@[simp] def b_BOuts_6 (_ : Unit) : EB := reg0 (hid l_BOuts_5) 1
@[simp] def l_BOuts_7 (_ : Unit) : List EOp := [⟨0, (some 11), none, (.q (.mkf 85 [(.t 4), (.t 1), (.t 5)])), []⟩, ⟨1, (some 6), none, (.q (.mov (.t 11))), []⟩]
@[simp] def b_BOuts_8 (_ : Unit) : EB := reg0 (hid l_BOuts_7) 2
@[simp] def l_BOuts_10 (_ : Unit) : List EOp := [⟨6, (some 18), none, (.q (.fad 43 (.t 1))), []⟩, ⟨7, (some 19), none, (.q (.ldc (.t 18))), []⟩, ⟨8, (some 20), none, (.call 56 [(.t 15), (.t 17), (.t 19)]), []⟩, ⟨9, (some 21), none, (.clo (.t 12) [(.k (.int .i64 1)), (.t 13), (.t 20), (.k (.func (.func 86) #[] #[]))]), []⟩]
@[simp] def l_BOuts_9 (_ : Unit) : List EOp := ⟨0, (some 12), none, (.q (.mov (.t 6))), []⟩ :: ⟨1, (some 13), none, (.q (.build (([(.int .i64 0), (.int .i64 0), (.int .i64 0), (.int .i64 0)] : List Value) ++ zU8) [])), []⟩ :: ⟨2, (some 14), none, (.q (.fad 0 (.t 1))), []⟩ :: ⟨3, (some 15), none, (.q (.lda 38 (.t 14))), []⟩ :: ⟨4, (some 16), none, (.q (.fad 38 (.t 1))), []⟩ :: ⟨5, (some 17), none, (.q (.lda 5 (.t 16))), []⟩ :: hid l_BOuts_10
@[simp] def b_BOuts_11 (_ : Unit) : EB := reg0 (hid l_BOuts_9) 10
@[simp] def l_BOuts_13 (_ : Unit) : List EOp := [⟨6, (some 28), none, (.q (.fad 43 (.t 1))), []⟩, ⟨7, (some 29), none, (.q (.ldc (.t 28))), []⟩, ⟨8, (some 30), none, (.q (.bin .sub (.k (.int .i64 1)) (.t 29))), []⟩, ⟨9, (some 31), none, (.call 56 [(.t 25), (.t 27), (.t 30)]), []⟩, ⟨10, (some 32), none, (.clo (.t 22) [(.k (.int .i64 2)), (.t 23), (.t 31), (.k (.func (.func 87) #[] #[]))]), []⟩]
@[simp] def l_BOuts_12 (_ : Unit) : List EOp := ⟨0, (some 22), none, (.q (.mov (.t 6))), []⟩ :: ⟨1, (some 23), none, (.q (.build (([(.int .i64 0), (.int .i64 0), (.int .i64 0), (.int .i64 0)] : List Value) ++ zU8) [])), []⟩ :: ⟨2, (some 24), none, (.q (.fad 0 (.t 1))), []⟩ :: ⟨3, (some 25), none, (.q (.lda 38 (.t 24))), []⟩ :: ⟨4, (some 26), none, (.q (.fad 38 (.t 1))), []⟩ :: ⟨5, (some 27), none, (.q (.lda 5 (.t 26))), []⟩ :: hid l_BOuts_13
@[simp] def b_BOuts_14 (_ : Unit) : EB := reg0 (hid l_BOuts_12) 11
@[simp] def l_BOuts_15 (_ : Unit) : List EOp := [⟨0, (some 33), none, (.q (.fad 38 (.t 1))), []⟩, ⟨1, (some 34), none, (.q (.fad 3 (.t 33))), []⟩, ⟨2, (some 35), none, (.q (.ldc (.t 34))), []⟩, ⟨3, (some 36), none, (.q (.len (.t 35))), []⟩, ⟨4, (some 37), none, (.q (.mov (.k (.int .i64 0)))), []⟩]
@[simp] def b_BOuts_16 (_ : Unit) : EB := reg0 (hid l_BOuts_15) 5
@[simp] def l_BOuts_17 (_ : Unit) : List EOp := [⟨0, (some 38), none, (.q (.bin .lss (.t 37) (.t 36))), []⟩]
@[simp] def b_BOuts_18 (_ : Unit) : EB := reg0 (hid l_BOuts_17) 1
@[simp] def b_BOuts_19 (_ : Unit) : EB := .cond (.t 38) .skip (.exit 0)
@[simp] def l_BOuts_20 (_ : Unit) : List EOp := [⟨0, (some 39), none, (.q (.isl 36 (.t 35) (.t 37))), []⟩, ⟨1, (some 40), none, (.q (.lda 36 (.t 39))), []⟩, ⟨2, (some 8), none, (.q (.alloc 126 (([(.int .i64 0), (.int .i64 0), (.int .i64 0), (.int .i64 0)] : List Value) ++ zU8))), []⟩, ⟨3, none, none, (.sto 36 (.t 8) (.t 40)), []⟩]
@[simp] def b_BOuts_21 (_ : Unit) : EB := reg0 (hid l_BOuts_20) 4
@[simp] def l_BOuts_22 (_ : Unit) : List EOp := [⟨0, (some 41), none, (.q (.mov (.t 6))), []⟩, ⟨1, (some 42), none, (.q (.lda 36 (.t 8))), []⟩, ⟨2, (some 43), none, (.q (.fad 2 (.t 8))), []⟩, ⟨3, (some 44), none, (.q (.ldc (.t 43))), []⟩, ⟨4, (some 45), none, (.clo (.t 41) [(.k (.int .i64 3)), (.t 42), (.t 44), (.k (.func (.func 88) #[] #[]))]), []⟩]
@[simp] def b_BOuts_23 (_ : Unit) : EB := reg0 (hid l_BOuts_22) 5
@[simp] def b_BOuts_24 (_ : Unit) : EB := .seq (hid b_BOuts_21) (hid b_BOuts_23)
@[simp] def b_BOuts_25 (_ : Unit) : EB := .block 1 (hid b_BOuts_24)
@[simp] def l_BOuts_26 (_ : Unit) : List EOp := [⟨0, (some 46), none, (.q (.bin .add (.t 37) (.k (.int .i64 1)))), []⟩, ⟨1, (some 37), none, (.q (.mov (.t 46))), []⟩]
@[simp] def b_BOuts_27 (_ : Unit) : EB := reg0 (hid l_BOuts_26) 2
@[simp] def b_BOuts_28 (_ : Unit) : EB := .seq (hid b_BOuts_25) (hid b_BOuts_27)
@[simp] def b_BOuts_29 (_ : Unit) : EB := .seq (hid b_BOuts_19) (hid b_BOuts_28)
@[simp] def b_BOuts_30 (_ : Unit) : EB := .seq (hid b_BOuts_18) (hid b_BOuts_29)
@[simp] def b_BOuts_31 (_ : Unit) : EB := .loop (hid b_BOuts_30)
@[simp] def b_BOuts_32 (_ : Unit) : EB := .block 0 (hid b_BOuts_31)
@[simp] def b_BOuts_33 (_ : Unit) : EB := .seq (hid b_BOuts_16) (hid b_BOuts_32)
@[simp] def l_BOuts_34 (_ : Unit) : List EOp := [⟨0, (some 47), none, (.q (.fad 38 (.t 1))), []⟩, ⟨1, (some 48), none, (.q (.fad 4 (.t 47))), []⟩, ⟨2, (some 49), none, (.q (.ldc (.t 48))), []⟩, ⟨3, (some 50), none, (.q (.len (.t 49))), []⟩, ⟨4, (some 51), none, (.q (.mov (.k (.int .i64 0)))), []⟩]
@[simp] def b_BOuts_35 (_ : Unit) : EB := reg0 (hid l_BOuts_34) 5
@[simp] def l_BOuts_36 (_ : Unit) : List EOp := [⟨0, (some 52), none, (.q (.bin .lss (.t 51) (.t 50))), []⟩]
@[simp] def b_BOuts_37 (_ : Unit) : EB := reg0 (hid l_BOuts_36) 1
@[simp] def b_BOuts_38 (_ : Unit) : EB := .cond (.t 52) .skip (.exit 2)
@[simp] def l_BOuts_39 (_ : Unit) : List EOp := [⟨0, (some 53), none, (.q (.isl 3 (.t 49) (.t 51))), []⟩, ⟨1, (some 54), none, (.q (.lda 3 (.t 53))), []⟩, ⟨2, (some 10), none, (.q (.alloc 128 [(.int .i64 0), (.int .i64 0), (.slice none 0 0)])), []⟩, ⟨3, none, none, (.fz (.sto 3 (.t 10) (.t 54))), []⟩]
@[simp] def b_BOuts_40 (_ : Unit) : EB := reg0 (hid l_BOuts_39) 4
@[simp] def l_BOuts_42 (_ : Unit) : List EOp := [⟨6, (some 61), none, (.q (.build [(.int .i64 0), (.slice none 0 0)] [(0, 1, (.t 57)), (1, 1, (.t 60))])), []⟩, ⟨7, (some 62), none, (.fz (.q (.bsl 2 [(.int .i64 0), (.slice none 0 0)] 1 [(0, (.t 61))]))), [0]⟩, ⟨8, (some 63), none, (.app 118 2 32 (.t 55) (.t 62)), []⟩, ⟨9, none, none, (.fz (.sto 1 (.t 4) (.t 63))), []⟩]
@[simp] def l_BOuts_41 (_ : Unit) : List EOp := ⟨0, (some 55), none, (.q (.ldc (.t 4))), []⟩ :: ⟨1, (some 56), none, (.q (.fad 1 (.t 10))), []⟩ :: ⟨2, (some 57), none, (.q (.ldc (.t 56))), []⟩ :: ⟨3, (some 58), none, (.q (.fad 2 (.t 10))), []⟩ :: ⟨4, (some 59), none, (.q (.ldc (.t 58))), []⟩ :: ⟨5, (some 60), none, (.call 57 [(.t 59)]), [0, 1, 2]⟩ :: hid l_BOuts_42
@[simp] def b_BOuts_43 (_ : Unit) : EB := reg1 (hid l_BOuts_41) 10
@[simp] def l_BOuts_45 (_ : Unit) : List EOp := [⟨6, none, none, (.fz (.sto 1 (.t 5) (.t 69))), []⟩]
@[simp] def l_BOuts_44 (_ : Unit) : List EOp := ⟨0, (some 64), none, (.q (.ldc (.t 5))), []⟩ :: ⟨1, (some 65), none, (.q (.fad 0 (.t 10))), []⟩ :: ⟨2, (some 66), none, (.q (.ldc (.t 65))), []⟩ :: ⟨3, (some 67), none, (.q (.build [(.int .i64 0), (.int .i64 0)] [(0, 1, (.k (.int .i64 4))), (1, 1, (.t 66))])), []⟩ :: ⟨4, (some 68), none, (.q (.bsl 2 [(.int .i64 0), (.int .i64 0)] 1 [(0, (.t 67))])), []⟩ :: ⟨5, (some 69), none, (.app 54 2 16 (.t 64) (.t 68)), []⟩ :: hid l_BOuts_45
@[simp] def b_BOuts_46 (_ : Unit) : EB := reg0 (hid l_BOuts_44) 7
@[simp] def b_BOuts_47 (_ : Unit) : EB := .seq (hid b_BOuts_43) (hid b_BOuts_46)
@[simp] def b_BOuts_48 (_ : Unit) : EB := .seq (hid b_BOuts_40) (hid b_BOuts_47)
@[simp] def b_BOuts_49 (_ : Unit) : EB := .block 3 (hid b_BOuts_48)
@[simp] def l_BOuts_50 (_ : Unit) : List EOp := [⟨0, (some 70), none, (.q (.bin .add (.t 51) (.k (.int .i64 1)))), []⟩, ⟨1, (some 51), none, (.q (.mov (.t 70))), []⟩]
@[simp] def b_BOuts_51 (_ : Unit) : EB := reg0 (hid l_BOuts_50) 2
@[simp] def b_BOuts_52 (_ : Unit) : EB := .seq (hid b_BOuts_49) (hid b_BOuts_51)
@[simp] def b_BOuts_53 (_ : Unit) : EB := .seq (hid b_BOuts_38) (hid b_BOuts_52)
@[simp] def b_BOuts_54 (_ : Unit) : EB := .seq (hid b_BOuts_37) (hid b_BOuts_53)
@[simp] def b_BOuts_55 (_ : Unit) : EB := .loop (hid b_BOuts_54)
@[simp] def b_BOuts_56 (_ : Unit) : EB := .block 2 (hid b_BOuts_55)
@[simp] def b_BOuts_57 (_ : Unit) : EB := .seq (hid b_BOuts_35) (hid b_BOuts_56)
@[simp] def l_BOuts_58 (_ : Unit) : List EOp := [⟨0, (some 71), none, (.q (.ldc (.t 4))), []⟩, ⟨1, (some 72), none, (.q (.ldc (.t 5))), []⟩, ⟨2, (some 2), none, (.q (.mov (.t 71))), []⟩, ⟨3, (some 3), none, (.q (.mov (.t 72))), []⟩]
@[simp] def b_BOuts_59 (_ : Unit) : EB := reg0 (hid l_BOuts_58) 4
@[simp] def b_BOuts_60 (_ : Unit) : EB := .seq (hid b_BOuts_59) .ret
@[simp] def b_BOuts_61 (_ : Unit) : EB := .seq (hid b_BOuts_57) (hid b_BOuts_60)
@[simp] def b_BOuts_62 (_ : Unit) : EB := .seq (hid b_BOuts_33) (hid b_BOuts_61)
@[simp] def b_BOuts_63 (_ : Unit) : EB := .seq (hid b_BOuts_14) (hid b_BOuts_62)
@[simp] def b_BOuts_64 (_ : Unit) : EB := .seq (hid b_BOuts_11) (hid b_BOuts_63)
@[simp] def b_BOuts_65 (_ : Unit) : EB := .seq (hid b_BOuts_8) (hid b_BOuts_64)
@[simp] def b_BOuts_66 (_ : Unit) : EB := .seq (hid b_BOuts_6) (hid b_BOuts_65)
@[simp] def b_BOuts_67 (_ : Unit) : EB := .seq (hid b_BOuts_4) (hid b_BOuts_66)
@[simp] def b_BOuts_68 (_ : Unit) : EB := .seq (hid b_BOuts_2) (hid b_BOuts_67)
def c_BOuts : EB × List QOp × Nat := ((hid b_BOuts_68), [(.mov (.t 2)), (.mov (.t 3))], 73)
theorem k_BOuts : cfun Tryz.prog 44 = some c_BOuts := by kernel_rfl


/-! ### the outputs of a commitment -/
def zPy : Pay := ⟨0, 0, 0, 0, hz⟩
theorem mk_41 {p : Prm} {lock : List UInt8} (h : p.tx.length = 32) (s : Sta) (o : Int) : (mkC p s o lock)[41]? = some (.fz (.sl 36 (payv s.pays))) := by
  rw [show 41 = 38 + 3 from rfl, ← List.getElem?_drop, mk_d38 h]; rfl
theorem mk_42 {p : Prm} {lock : List UInt8} (h : p.tx.length = 32) (s : Sta) (o : Int) : (mkC p s o lock)[42]? = some (.fz (.sl 3 (holv s.holds))) := by
  rw [show 42 = 38 + 4 from rfl, ← List.getElem?_drop, mk_d38 h]; rfl
theorem zpid : zPy.id = 0 := rfl
theorem zpay : EC.fz (FV.lit (.int .i64 0)) :: EC.fz (FV.lit (.int .i64 0)) :: EC.fz (FV.lit (.int .i64 0)) :: EC.fz (FV.lit (.int .i64 0)) :: hc hz = payC zPy := rfl
def out1 (p : Prm) (s : Sta) (o : Int) (lock : List UInt8) : List Outp := if 10 ≤ hasP p s o then [⟨hasP p s o, ownB p o lock⟩] else []
def out2 (p : Prm) (s : Sta) (o : Int) : List Outp := if 10 ≤ hasP p s (1 - o) then [⟨hasP p s (1 - o), allB [keyO p (1 - o)]⟩] else []
def outP (p : Prm) (o : Int) (lock : List UInt8) (l : List Pay) : List Outp := l.map fun x => ⟨x.am, paidB p o lock x⟩
def outH (l : List Hol) : List Outp := l.map fun h => ⟨h.am, allB h.keys⟩
def outsB (p : Prm) (s : Sta) (o : Int) (lock : List UInt8) : List Outp := (out1 p s o lock ++ out2 p s o) ++ (outP p o lock s.pays ++ outH s.holds)
def plc1 (p : Prm) (s : Sta) (o : Int) : List (Int × Int) := if 10 ≤ hasP p s o then [(1, 0)] else []
def plc2 (p : Prm) (s : Sta) (o : Int) : List (Int × Int) := if 10 ≤ hasP p s (1 - o) then [(2, 0)] else []
def plcP (l : List Pay) : List (Int × Int) := l.map fun x => (3, x.id)
def plcH (l : List Hol) : List (Int × Int) := l.map fun h => (4, h.id)
def plcB (p : Prm) (s : Sta) (o : Int) : List (Int × Int) := (plc1 p s o ++ plc2 p s o) ++ (plcP s.pays ++ plcH s.holds)
theorem BLay_body : bodyOK Tryz.prog 85 = true := by kernel_rfl
theorem BOwn_body : bodyOK Tryz.prog 86 = true := by kernel_rfl
theorem BOther_body : bodyOK Tryz.prog 87 = true := by kernel_rfl
theorem BPaid_body : bodyOK Tryz.prog 88 = true := by kernel_rfl

set_option maxHeartbeats 32000000 in
theorem BOuts_ok (p : Prm) (s : Sta) (o : Int) (lock : List UInt8) (hp : p.ok) (hl : lock.length = 32) (ho : o = 0 ∨ o = 1) (hs : s.ok) (hw : i64 (s.h0 - p.fe)) (hn : s.pays.length ≤ 8 ∧ s.holds.length ≤ 8) (hpay : ∀ x ∈ s.pays, 10 ≤ x.am ∧ (x.fr = 0 ∨ x.fr = 1)) (hhol : ∀ h ∈ s.holds, KeysOK h.keys) :
    ECalls Tryz.prog 44 [MKv p s o lock] [] fun y H' => H' = [] ∧ y = .tup [.c (.fz (.sl 2 (outv (outsB p s o lock)))), .c (.fz (.sl 2 (plcv (plcB p s o))))] := by
  have hpo := hp
  replace hp := hp.1
  obtain ⟨ok1, ok2, ok3, ok4, ok5, ok6, ok7⟩ := id hs
  have l0 := mk_len hp hl s o
  have t0 := mk_take hp hl s o
  have mp := mk_p (lock := lock) hp s o
  have ms := mk_s (lock := lock) hp s o
  have e43 := idx_of (mk_43 (lock := lock) hp s o) (by omega)
  have wo : IntKind.i64.wrap (1 - o) = 1 - o := by rcases ho with rfl | rfl <;> decide +kernel
  have e41 := idx_of (mk_41 (lock := lock) hp s o) (by omega)
  have e42 := idx_of (mk_42 (lock := lock) hp s o) (by omega)
  have hB1 := BHas_ok p s o hp hw
  have hB2 := BHas_ok p s (1 - o) hp hw
  have hown := BOwn_ok p s o lock zPy hpo hl ho rfl
  have hoth := BOther_ok p s o lock zPy hpo hl ho rfl
  refine ecalls k_BOuts ?_
  simp [c_BOuts, MKv, SV, PVv, staC, I, Ptr, l0, t0, mp, ms, e43, iC, layH, layN, wo, zpay, zpid, e41, e42]
  refine call0 hB1 (by simp [MKv, SV, PVv, staC, I, Ptr, l0, t0, mp, ms, e43, iC, layH, layN, wo, zpay, zpid, e41, e42]) ?_
  rintro y H' ⟨rfl, rfl⟩
  refine ⟨.inl (by simp [I]), le_ok rfl, ?_⟩
  simp [MKv, SV, PVv, staC, I, Ptr, l0, t0, mp, ms, e43, iC, layH, layN, wo, zpay, zpid, e41, e42]
  refine ⟨BLay_body, ?_⟩
  by_cases c0 : 10 ≤ hasP p s o
  · have hv1 : out1 p s o lock = ([⟨hasP p s o, ownB p o lock⟩] : List Outp) := if_pos c0
    have hq1 : plc1 p s o = ([(1, 0)] : List (Int × Int)) := if_pos c0
    refine callH [48, 0, 64] (lay_nil (BLay_yes 86 (ownB p o lock) p s o 1 (hasP p s o) lock zPy [] [] c0 rfl hp hl (by simp) (by simp) BOwn_body hown)) (by simp [I, Ptr]) (by simp [layH, layN]) (by simp) (by simp) (by simp) ?_
    rintro y H' ⟨rfl, rfl⟩
    refine ⟨.inl (by simp), by simp [layH], ?_⟩
    simp [MKv, SV, PVv, staC, I, Ptr, l0, t0, mp, ms, e43, iC, layH, layN, wo, zpay, zpid, e41, e42]
    refine call0 hB2 (by simp [MKv, SV, PVv, staC, I, Ptr, l0, t0, mp, ms, e43, iC, layH, layN, wo, zpay, zpid, e41, e42]) ?_
    rintro y H' ⟨rfl, rfl⟩
    refine ⟨.inl (by simp [I]), le_ok rfl, ?_⟩
    simp [MKv, SV, PVv, staC, I, Ptr, l0, t0, mp, ms, e43, iC, layH, layN, wo, zpay, zpid, e41, e42]
    refine ⟨BLay_body, ?_⟩
    by_cases c1 : 10 ≤ hasP p s (1 - o)
    · have hv2 : out2 p s o = ([⟨hasP p s (1 - o), allB [keyO p (1 - o)]⟩] : List Outp) := if_pos c1
      have hq2 : plc2 p s o = ([(2, 0)] : List (Int × Int)) := if_pos c1
      refine callH [48, 0, 64, 258, 259] (BLay_yes 87 (allB [keyO p (1 - o)]) p s o 2 (hasP p s (1 - o)) lock zPy [⟨hasP p s o, ownB p o lock⟩] [(1, 0)] c1 rfl hp hl (by simp) (by simp) BOther_body hoth) (by simp [I, Ptr]) (by simp [layH, layN]) (by simp) (by simp) (by simp) ?_
      rintro y H' ⟨rfl, rfl⟩
      refine ⟨.inl (by simp), by simp [layH], ?_⟩
      simp [MKv, SV, PVv, staC, I, Ptr, l0, t0, mp, ms, e43, iC, layH, layN, wo, zpay, zpid, e41, e42]
      obtain ⟨L0, hL0⟩ : ∃ L0, ([⟨hasP p s o, ownB p o lock⟩] ++ [⟨hasP p s (1 - o), allB [keyO p (1 - o)]⟩] : List Outp) = L0 := ⟨_, rfl⟩
      obtain ⟨Q0, hQ0⟩ : ∃ Q0, ([(1, 0)] ++ [(2, 0)] : List (Int × Int)) = Q0 := ⟨_, rfl⟩
      have hL8 : L0.length ≤ 2 := by rw [← hL0]; simp
      have hQ8 : Q0.length ≤ 2 := by rw [← hQ0]; simp
      have hvL : outsB p s o lock = L0 ++ (outP p o lock s.pays ++ outH s.holds) := by rw [← hL0]; unfold outsB; rw [hv1, hv2]
      have hvQ : plcB p s o = Q0 ++ (plcP s.pays ++ plcH s.holds) := by rw [← hQ0]; unfold plcB; rw [hq1, hq2]
      refine eloop (α := Nat) (fun i => i ≤ s.pays.length) (fun i => s.pays.length - i)
        (fun i => [.any, Ptr 0, .any, .any, Ptr 1, Ptr 2, .v (.c (.clo 85 [(1, 0), (0, 0), (2, 0)])), .any, .any, .any, .any, .any, .any, .any, .any, .any, .any, .any, .any, .any, .any, .any, .any, .any, .any, .any, .any, .any, .any, .any, .any, .any, .any, .any, .any, PL s.pays, I .i64 s.pays.length, I .i64 i, .any, .any, .any, .any, .any, .any, .any, .any, .any, .any, .any, .any, .any, .any, .any, .any, .any, .any, .any, .any, .any, .any, .any, .any, .any, .any, .any, .any, .any, .any, .any, .any, .any, .any, .any])
        (fun i => [some (.box 123 (mkC p s o lock)), some (.box 61 [.row 3 (L0 ++ outP p o lock (s.pays.take i)).length]), some (.box 35 [.row 4 (Q0 ++ plcP (s.pays.take i)).length]), some (.row 118 2 (outv (L0 ++ outP p o lock (s.pays.take i)))), some (.row 54 2 (plcv (Q0 ++ plcP (s.pays.take i))))]) 0 [0, 48, 64, 432, 433]
        (Nat.zero_le _) (by simp [Ptr, I, PL]) (by simp [outP, plcP, ← hL0, ← hQ0]) (by simp) (by simp) (by simp) ?_
      intro i hi
      obtain ⟨Li, hLi⟩ : ∃ Li, L0 ++ outP p o lock (s.pays.take i) = Li := ⟨_, rfl⟩
      obtain ⟨Qi, hQi⟩ : ∃ Qi, Q0 ++ plcP (s.pays.take i) = Qi := ⟨_, rfl⟩
      have hlL : Li.length ≤ 20 := by rw [← hLi]; simp [outP]; omega
      have hlQ : Qi.length ≤ 20 := by rw [← hQi]; simp [plcP]; omega
      rw [hLi, hQi]
      simp [Ptr, I, PL]
      refine alt (fun hlt => ?_) (fun hlt => ?_)
      · have hln : i < s.pays.length := by omega
        obtain ⟨x, hc⟩ : ∃ x, s.pays[i]? = some x := ⟨s.pays[i], by simp [hln]⟩
        have hge : (payv s.pays)[i]'(by simp [hln]) = payF x := by
          have e := payv_get hc
          rw [List.getElem?_eq_getElem (by simp [hln])] at e
          exact Option.some.inj e
        have hxo := ok4 x (List.mem_of_getElem? hc)
        have hx := hxo.2.2.2.2
        obtain ⟨ham, hfr⟩ := hpay x (List.mem_of_getElem? hc)
        have lp := payC_len hx
        have lf := payF_len hx
        have tp := payC_take hx
        have e2 : (payC x)[2]? = some (.fz (.lit (.int .i64 x.am))) := rfl
        have e2 := idx_of e2 (by omega)
        have w1 : IntKind.i64.wrap ((i : Int) + 1) = ((i + 1 : Nat) : Int) := wrap_i64 (by omega) (by omega)
        have hpd := BPaid_ok p s o lock x hpo hl ho hx hfr
        have hLn : L0 ++ outP p o lock (s.pays.take (i + 1)) = Li ++ [⟨x.am, paidB p o lock x⟩] := by rw [take_s hc, ← hLi]; simp [outP]
        have hQn : Q0 ++ plcP (s.pays.take (i + 1)) = Qi ++ [(3, x.id)] := by rw [take_s hc, ← hQi]; simp [plcP]
        simp [hln, hge, payF_fz, lp, lf, tp, e2]
        refine ⟨BLay_body, ?_⟩
        refine callH [1, 0, 2, 3, 4] (BLay_yes 88 (paidB p o lock x) p s o 3 x.am lock x Li Qi ham hx hp hl (by omega) (by omega) BPaid_body hpd) (by simp [I, Ptr]) (by simp [layH]) (by simp) (by simp) (by simp) ?_
        rintro y H' ⟨rfl, rfl⟩
        refine ⟨.inl (by simp), by simp, ?_⟩
        simp [w1, -Int.natCast_add]
        refine round (i + 1) [0, 1, 2, 149, 150] (by omega) (by omega) (by simp [Ptr, I, PL]) ?_ (by simp) (by simp) (by simp)
        have q1 := congrArg List.length hLn
        have q2 := congrArg List.length hQn
        simp only [List.length_append, List.length_singleton] at q1 q2
        rw [hLn, hQn]
        simp [q1, q2]
      have hil : i = s.pays.length := by omega
      subst hil
      rw [List.take_length] at hLi hQi
      clear hlt hi
      simp [l0, e42]
      refine eloop (α := Nat) (fun i => i ≤ s.holds.length) (fun i => s.holds.length - i)
        (fun i => [.any, .any, .any, .any, Ptr 0, Ptr 1, .any, .any, .any, .any, .any, .any, .any, .any, .any, .any, .any, .any, .any, .any, .any, .any, .any, .any, .any, .any, .any, .any, .any, .any, .any, .any, .any, .any, .any, .any, .any, .any, .any, .any, .any, .any, .any, .any, .any, .any, .any, .any, .any, HL s.holds, I .i64 s.holds.length, I .i64 i, .any, .any, .any, .any, .any, .any, .any, .any, .any, .any, .any, .any, .any, .any, .any, .any, .any, .any, .any, .any, .any])
        (fun i => [some (.box 61 [.row 2 (Li ++ outH (s.holds.take i)).length]), some (.box 35 [.row 3 (Qi ++ plcH (s.holds.take i)).length]), some (.row 118 2 (outv (Li ++ outH (s.holds.take i)))), some (.row 54 2 (plcv (Qi ++ plcH (s.holds.take i))))]) 0 [1, 2, 3, 4]
        (Nat.zero_le _) (by simp [Ptr, I, HL]) (by simp [outH, plcH]) (by simp) (by simp) (by simp) ?_
      intro i hi
      obtain ⟨Lj, hLj⟩ : ∃ Lj, Li ++ outH (s.holds.take i) = Lj := ⟨_, rfl⟩
      obtain ⟨Qj, hQj⟩ : ∃ Qj, Qi ++ plcH (s.holds.take i) = Qj := ⟨_, rfl⟩
      have hlL2 : Lj.length ≤ 40 := by rw [← hLj]; simp [outH]; omega
      have hlQ2 : Qj.length ≤ 40 := by rw [← hQj]; simp [plcH]; omega
      rw [hLj, hQj]
      simp [Ptr, I, HL]
      refine alt (fun hlt => ?_) (fun hlt => ?_)
      · have hln : i < s.holds.length := by omega
        obtain ⟨x, hc⟩ : ∃ x, s.holds[i]? = some x := ⟨s.holds[i], by simp [hln]⟩
        have hge : (holv s.holds)[i]'(by simp [hln]) = holF x := by
          have e := holv_get hc
          rw [List.getElem?_eq_getElem (by simp [hln])] at e
          exact Option.some.inj e
        have hk := hhol x (List.mem_of_getElem? hc)
        have w1 : IntKind.i64.wrap ((i : Int) + 1) = ((i + 1 : Nat) : Int) := wrap_i64 (by omega) (by omega)
        have hLn : Li ++ outH (s.holds.take (i + 1)) = Lj ++ [⟨x.am, allB x.keys⟩] := by rw [take_s hc, ← hLj]; simp [outH]
        have hQn : Qi ++ plcH (s.holds.take (i + 1)) = Qj ++ [(4, x.id)] := by rw [take_s hc, ← hQj]; simp [plcH]
        simp [hln, hge, holF]
        refine call0 (PAll_ok x.keys hk) (by simp [IL]) ?_
        rintro y H' ⟨rfl, rfl⟩
        refine ⟨.inl (by simp [CNv]), le_ok rfl, ?_⟩
        simp [CNv]
        refine ⟨⟨by omega, by omega⟩, ?_⟩
        try simp
        refine ⟨⟨by omega, by omega⟩, ?_⟩
        try simp [w1, -Int.natCast_add]
        have q1 := congrArg List.length hLn
        have q2 := congrArg List.length hQn
        simp only [List.length_append, List.length_singleton] at q1 q2
        have hol : outv Lj ++ [[FV.lit (Value.int IntKind.i64 x.am), FV.sl 35 (brav (allB x.keys))]] = outv (Lj ++ [⟨x.am, allB x.keys⟩]) := by simp [outv, outF, iF]
        have hpl : plcv Qj ++ [[FV.lit (Value.int IntKind.i64 4), FV.lit (Value.int IntKind.i64 x.id)]] = plcv (Qj ++ [(4, x.id)]) := by simp [plcv, plcF, iF]
        refine round (i + 1) [0, 1, 212, 324] (by omega) (by omega) (by simp [Ptr, I, HL]) ?_ (by simp) (by simp) (by simp)
        rw [hLn, hQn]
        simp [q1, q2, hol, hpl]
      have hil : i = s.holds.length := by omega
      subst hil
      rw [List.take_length] at hLj hQj
      clear hlt hi
      simp
      have tk1 : List.take Lj.length (outv Lj) = outv Lj := List.take_of_length_le (by simp)
      have tk2 : List.take Qj.length (plcv Qj) = plcv Qj := List.take_of_length_le (by simp)
      refine finW _ (weak_frz (o := 2) (ty := 118) (es := 2) (xs := outv Lj) rfl) ?_
      refine finW _ (weak_frz (o := 3) (ty := 54) (es := 2) (xs := plcv Qj) rfl) ?_
      refine fin [] (by decide) rfl rfl rfl ⟨rfl, ?_⟩
      have hL9 : outsB p s o lock = Lj := by rw [hvL, ← hLj, ← hLi, List.append_assoc]
      have hQ9 : plcB p s o = Qj := by rw [hvQ, ← hQj, ← hQi, List.append_assoc]
      rw [hL9, hQ9]
      simp [tk1, tk2]
    · have hv2 : out2 p s o = ([] : List Outp) := if_neg c1
      have hq2 : plc2 p s o = ([] : List (Int × Int)) := if_neg c1
      refine callH [48, 0, 64, 258, 259] (BLay_no 87 p s o 2 (hasP p s (1 - o)) lock zPy [⟨hasP p s o, ownB p o lock⟩] [(1, 0)] (by omega) rfl) (by simp [I, Ptr]) (by simp [layH, layN]) (by simp) (by simp) (by simp) ?_
      rintro y H' ⟨rfl, rfl⟩
      refine ⟨.inl (by simp), by simp [layH], ?_⟩
      simp [MKv, SV, PVv, staC, I, Ptr, l0, t0, mp, ms, e43, iC, layH, layN, wo, zpay, zpid, e41, e42]
      obtain ⟨L0, hL0⟩ : ∃ L0, ([⟨hasP p s o, ownB p o lock⟩] ++ [] : List Outp) = L0 := ⟨_, rfl⟩
      obtain ⟨Q0, hQ0⟩ : ∃ Q0, ([(1, 0)] ++ [] : List (Int × Int)) = Q0 := ⟨_, rfl⟩
      have hL8 : L0.length ≤ 2 := by rw [← hL0]; simp
      have hQ8 : Q0.length ≤ 2 := by rw [← hQ0]; simp
      have hvL : outsB p s o lock = L0 ++ (outP p o lock s.pays ++ outH s.holds) := by rw [← hL0]; unfold outsB; rw [hv1, hv2]
      have hvQ : plcB p s o = Q0 ++ (plcP s.pays ++ plcH s.holds) := by rw [← hQ0]; unfold plcB; rw [hq1, hq2]
      refine eloop (α := Nat) (fun i => i ≤ s.pays.length) (fun i => s.pays.length - i)
        (fun i => [.any, Ptr 0, .any, .any, Ptr 1, Ptr 2, .v (.c (.clo 85 [(1, 0), (0, 0), (2, 0)])), .any, .any, .any, .any, .any, .any, .any, .any, .any, .any, .any, .any, .any, .any, .any, .any, .any, .any, .any, .any, .any, .any, .any, .any, .any, .any, .any, .any, PL s.pays, I .i64 s.pays.length, I .i64 i, .any, .any, .any, .any, .any, .any, .any, .any, .any, .any, .any, .any, .any, .any, .any, .any, .any, .any, .any, .any, .any, .any, .any, .any, .any, .any, .any, .any, .any, .any, .any, .any, .any, .any, .any])
        (fun i => [some (.box 123 (mkC p s o lock)), some (.box 61 [.row 3 (L0 ++ outP p o lock (s.pays.take i)).length]), some (.box 35 [.row 4 (Q0 ++ plcP (s.pays.take i)).length]), some (.row 118 2 (outv (L0 ++ outP p o lock (s.pays.take i)))), some (.row 54 2 (plcv (Q0 ++ plcP (s.pays.take i))))]) 0 [0, 48, 64, 258, 259]
        (Nat.zero_le _) (by simp [Ptr, I, PL]) (by simp [outP, plcP, ← hL0, ← hQ0]) (by simp) (by simp) (by simp) ?_
      intro i hi
      obtain ⟨Li, hLi⟩ : ∃ Li, L0 ++ outP p o lock (s.pays.take i) = Li := ⟨_, rfl⟩
      obtain ⟨Qi, hQi⟩ : ∃ Qi, Q0 ++ plcP (s.pays.take i) = Qi := ⟨_, rfl⟩
      have hlL : Li.length ≤ 20 := by rw [← hLi]; simp [outP]; omega
      have hlQ : Qi.length ≤ 20 := by rw [← hQi]; simp [plcP]; omega
      rw [hLi, hQi]
      simp [Ptr, I, PL]
      refine alt (fun hlt => ?_) (fun hlt => ?_)
      · have hln : i < s.pays.length := by omega
        obtain ⟨x, hc⟩ : ∃ x, s.pays[i]? = some x := ⟨s.pays[i], by simp [hln]⟩
        have hge : (payv s.pays)[i]'(by simp [hln]) = payF x := by
          have e := payv_get hc
          rw [List.getElem?_eq_getElem (by simp [hln])] at e
          exact Option.some.inj e
        have hxo := ok4 x (List.mem_of_getElem? hc)
        have hx := hxo.2.2.2.2
        obtain ⟨ham, hfr⟩ := hpay x (List.mem_of_getElem? hc)
        have lp := payC_len hx
        have lf := payF_len hx
        have tp := payC_take hx
        have e2 : (payC x)[2]? = some (.fz (.lit (.int .i64 x.am))) := rfl
        have e2 := idx_of e2 (by omega)
        have w1 : IntKind.i64.wrap ((i : Int) + 1) = ((i + 1 : Nat) : Int) := wrap_i64 (by omega) (by omega)
        have hpd := BPaid_ok p s o lock x hpo hl ho hx hfr
        have hLn : L0 ++ outP p o lock (s.pays.take (i + 1)) = Li ++ [⟨x.am, paidB p o lock x⟩] := by rw [take_s hc, ← hLi]; simp [outP]
        have hQn : Q0 ++ plcP (s.pays.take (i + 1)) = Qi ++ [(3, x.id)] := by rw [take_s hc, ← hQi]; simp [plcP]
        simp [hln, hge, payF_fz, lp, lf, tp, e2]
        refine ⟨BLay_body, ?_⟩
        refine callH [1, 0, 2, 3, 4] (BLay_yes 88 (paidB p o lock x) p s o 3 x.am lock x Li Qi ham hx hp hl (by omega) (by omega) BPaid_body hpd) (by simp [I, Ptr]) (by simp [layH]) (by simp) (by simp) (by simp) ?_
        rintro y H' ⟨rfl, rfl⟩
        refine ⟨.inl (by simp), by simp, ?_⟩
        simp [w1, -Int.natCast_add]
        refine round (i + 1) [0, 1, 2, 149, 150] (by omega) (by omega) (by simp [Ptr, I, PL]) ?_ (by simp) (by simp) (by simp)
        have q1 := congrArg List.length hLn
        have q2 := congrArg List.length hQn
        simp only [List.length_append, List.length_singleton] at q1 q2
        rw [hLn, hQn]
        simp [q1, q2]
      have hil : i = s.pays.length := by omega
      subst hil
      rw [List.take_length] at hLi hQi
      clear hlt hi
      simp [l0, e42]
      refine eloop (α := Nat) (fun i => i ≤ s.holds.length) (fun i => s.holds.length - i)
        (fun i => [.any, .any, .any, .any, Ptr 0, Ptr 1, .any, .any, .any, .any, .any, .any, .any, .any, .any, .any, .any, .any, .any, .any, .any, .any, .any, .any, .any, .any, .any, .any, .any, .any, .any, .any, .any, .any, .any, .any, .any, .any, .any, .any, .any, .any, .any, .any, .any, .any, .any, .any, .any, HL s.holds, I .i64 s.holds.length, I .i64 i, .any, .any, .any, .any, .any, .any, .any, .any, .any, .any, .any, .any, .any, .any, .any, .any, .any, .any, .any, .any, .any])
        (fun i => [some (.box 61 [.row 2 (Li ++ outH (s.holds.take i)).length]), some (.box 35 [.row 3 (Qi ++ plcH (s.holds.take i)).length]), some (.row 118 2 (outv (Li ++ outH (s.holds.take i)))), some (.row 54 2 (plcv (Qi ++ plcH (s.holds.take i))))]) 0 [1, 2, 3, 4]
        (Nat.zero_le _) (by simp [Ptr, I, HL]) (by simp [outH, plcH]) (by simp) (by simp) (by simp) ?_
      intro i hi
      obtain ⟨Lj, hLj⟩ : ∃ Lj, Li ++ outH (s.holds.take i) = Lj := ⟨_, rfl⟩
      obtain ⟨Qj, hQj⟩ : ∃ Qj, Qi ++ plcH (s.holds.take i) = Qj := ⟨_, rfl⟩
      have hlL2 : Lj.length ≤ 40 := by rw [← hLj]; simp [outH]; omega
      have hlQ2 : Qj.length ≤ 40 := by rw [← hQj]; simp [plcH]; omega
      rw [hLj, hQj]
      simp [Ptr, I, HL]
      refine alt (fun hlt => ?_) (fun hlt => ?_)
      · have hln : i < s.holds.length := by omega
        obtain ⟨x, hc⟩ : ∃ x, s.holds[i]? = some x := ⟨s.holds[i], by simp [hln]⟩
        have hge : (holv s.holds)[i]'(by simp [hln]) = holF x := by
          have e := holv_get hc
          rw [List.getElem?_eq_getElem (by simp [hln])] at e
          exact Option.some.inj e
        have hk := hhol x (List.mem_of_getElem? hc)
        have w1 : IntKind.i64.wrap ((i : Int) + 1) = ((i + 1 : Nat) : Int) := wrap_i64 (by omega) (by omega)
        have hLn : Li ++ outH (s.holds.take (i + 1)) = Lj ++ [⟨x.am, allB x.keys⟩] := by rw [take_s hc, ← hLj]; simp [outH]
        have hQn : Qi ++ plcH (s.holds.take (i + 1)) = Qj ++ [(4, x.id)] := by rw [take_s hc, ← hQj]; simp [plcH]
        simp [hln, hge, holF]
        refine call0 (PAll_ok x.keys hk) (by simp [IL]) ?_
        rintro y H' ⟨rfl, rfl⟩
        refine ⟨.inl (by simp [CNv]), le_ok rfl, ?_⟩
        simp [CNv]
        refine ⟨⟨by omega, by omega⟩, ?_⟩
        try simp
        refine ⟨⟨by omega, by omega⟩, ?_⟩
        try simp [w1, -Int.natCast_add]
        have q1 := congrArg List.length hLn
        have q2 := congrArg List.length hQn
        simp only [List.length_append, List.length_singleton] at q1 q2
        have hol : outv Lj ++ [[FV.lit (Value.int IntKind.i64 x.am), FV.sl 35 (brav (allB x.keys))]] = outv (Lj ++ [⟨x.am, allB x.keys⟩]) := by simp [outv, outF, iF]
        have hpl : plcv Qj ++ [[FV.lit (Value.int IntKind.i64 4), FV.lit (Value.int IntKind.i64 x.id)]] = plcv (Qj ++ [(4, x.id)]) := by simp [plcv, plcF, iF]
        refine round (i + 1) [0, 1, 212, 324] (by omega) (by omega) (by simp [Ptr, I, HL]) ?_ (by simp) (by simp) (by simp)
        rw [hLn, hQn]
        simp [q1, q2, hol, hpl]
      have hil : i = s.holds.length := by omega
      subst hil
      rw [List.take_length] at hLj hQj
      clear hlt hi
      simp
      have tk1 : List.take Lj.length (outv Lj) = outv Lj := List.take_of_length_le (by simp)
      have tk2 : List.take Qj.length (plcv Qj) = plcv Qj := List.take_of_length_le (by simp)
      refine finW _ (weak_frz (o := 2) (ty := 118) (es := 2) (xs := outv Lj) rfl) ?_
      refine finW _ (weak_frz (o := 3) (ty := 54) (es := 2) (xs := plcv Qj) rfl) ?_
      refine fin [] (by decide) rfl rfl rfl ⟨rfl, ?_⟩
      have hL9 : outsB p s o lock = Lj := by rw [hvL, ← hLj, ← hLi, List.append_assoc]
      have hQ9 : plcB p s o = Qj := by rw [hvQ, ← hQj, ← hQi, List.append_assoc]
      rw [hL9, hQ9]
      simp [tk1, tk2]
  · have hv1 : out1 p s o lock = ([] : List Outp) := if_neg c0
    have hq1 : plc1 p s o = ([] : List (Int × Int)) := if_neg c0
    refine callH [48, 0, 64] (lay_nil (BLay_no 86 p s o 1 (hasP p s o) lock zPy [] [] (by omega) rfl)) (by simp [I, Ptr]) (by simp [layH, layN]) (by simp) (by simp) (by simp) ?_
    rintro y H' ⟨rfl, rfl⟩
    refine ⟨.inl (by simp), by simp [layH], ?_⟩
    simp [MKv, SV, PVv, staC, I, Ptr, l0, t0, mp, ms, e43, iC, layH, layN, wo, zpay, zpid, e41, e42]
    refine call0 hB2 (by simp [MKv, SV, PVv, staC, I, Ptr, l0, t0, mp, ms, e43, iC, layH, layN, wo, zpay, zpid, e41, e42]) ?_
    rintro y H' ⟨rfl, rfl⟩
    refine ⟨.inl (by simp [I]), le_ok rfl, ?_⟩
    simp [MKv, SV, PVv, staC, I, Ptr, l0, t0, mp, ms, e43, iC, layH, layN, wo, zpay, zpid, e41, e42]
    refine ⟨BLay_body, ?_⟩
    by_cases c1 : 10 ≤ hasP p s (1 - o)
    · have hv2 : out2 p s o = ([⟨hasP p s (1 - o), allB [keyO p (1 - o)]⟩] : List Outp) := if_pos c1
      have hq2 : plc2 p s o = ([(2, 0)] : List (Int × Int)) := if_pos c1
      refine callH [48, 0, 64, 256, 257] (BLay_yes 87 (allB [keyO p (1 - o)]) p s o 2 (hasP p s (1 - o)) lock zPy [] [] c1 rfl hp hl (by simp) (by simp) BOther_body hoth) (by simp [I, Ptr]) (by simp [layH, layN]) (by simp) (by simp) (by simp) ?_
      rintro y H' ⟨rfl, rfl⟩
      refine ⟨.inl (by simp), by simp [layH], ?_⟩
      simp [MKv, SV, PVv, staC, I, Ptr, l0, t0, mp, ms, e43, iC, layH, layN, wo, zpay, zpid, e41, e42]
      obtain ⟨L0, hL0⟩ : ∃ L0, ([] ++ [⟨hasP p s (1 - o), allB [keyO p (1 - o)]⟩] : List Outp) = L0 := ⟨_, rfl⟩
      obtain ⟨Q0, hQ0⟩ : ∃ Q0, ([] ++ [(2, 0)] : List (Int × Int)) = Q0 := ⟨_, rfl⟩
      have hL8 : L0.length ≤ 2 := by rw [← hL0]; simp
      have hQ8 : Q0.length ≤ 2 := by rw [← hQ0]; simp
      have hvL : outsB p s o lock = L0 ++ (outP p o lock s.pays ++ outH s.holds) := by rw [← hL0]; unfold outsB; rw [hv1, hv2]
      have hvQ : plcB p s o = Q0 ++ (plcP s.pays ++ plcH s.holds) := by rw [← hQ0]; unfold plcB; rw [hq1, hq2]
      refine eloop (α := Nat) (fun i => i ≤ s.pays.length) (fun i => s.pays.length - i)
        (fun i => [.any, Ptr 0, .any, .any, Ptr 1, Ptr 2, .v (.c (.clo 85 [(1, 0), (0, 0), (2, 0)])), .any, .any, .any, .any, .any, .any, .any, .any, .any, .any, .any, .any, .any, .any, .any, .any, .any, .any, .any, .any, .any, .any, .any, .any, .any, .any, .any, .any, PL s.pays, I .i64 s.pays.length, I .i64 i, .any, .any, .any, .any, .any, .any, .any, .any, .any, .any, .any, .any, .any, .any, .any, .any, .any, .any, .any, .any, .any, .any, .any, .any, .any, .any, .any, .any, .any, .any, .any, .any, .any, .any, .any])
        (fun i => [some (.box 123 (mkC p s o lock)), some (.box 61 [.row 3 (L0 ++ outP p o lock (s.pays.take i)).length]), some (.box 35 [.row 4 (Q0 ++ plcP (s.pays.take i)).length]), some (.row 118 2 (outv (L0 ++ outP p o lock (s.pays.take i)))), some (.row 54 2 (plcv (Q0 ++ plcP (s.pays.take i))))]) 0 [0, 48, 64, 432, 433]
        (Nat.zero_le _) (by simp [Ptr, I, PL]) (by simp [outP, plcP, ← hL0, ← hQ0]) (by simp) (by simp) (by simp) ?_
      intro i hi
      obtain ⟨Li, hLi⟩ : ∃ Li, L0 ++ outP p o lock (s.pays.take i) = Li := ⟨_, rfl⟩
      obtain ⟨Qi, hQi⟩ : ∃ Qi, Q0 ++ plcP (s.pays.take i) = Qi := ⟨_, rfl⟩
      have hlL : Li.length ≤ 20 := by rw [← hLi]; simp [outP]; omega
      have hlQ : Qi.length ≤ 20 := by rw [← hQi]; simp [plcP]; omega
      rw [hLi, hQi]
      simp [Ptr, I, PL]
      refine alt (fun hlt => ?_) (fun hlt => ?_)
      · have hln : i < s.pays.length := by omega
        obtain ⟨x, hc⟩ : ∃ x, s.pays[i]? = some x := ⟨s.pays[i], by simp [hln]⟩
        have hge : (payv s.pays)[i]'(by simp [hln]) = payF x := by
          have e := payv_get hc
          rw [List.getElem?_eq_getElem (by simp [hln])] at e
          exact Option.some.inj e
        have hxo := ok4 x (List.mem_of_getElem? hc)
        have hx := hxo.2.2.2.2
        obtain ⟨ham, hfr⟩ := hpay x (List.mem_of_getElem? hc)
        have lp := payC_len hx
        have lf := payF_len hx
        have tp := payC_take hx
        have e2 : (payC x)[2]? = some (.fz (.lit (.int .i64 x.am))) := rfl
        have e2 := idx_of e2 (by omega)
        have w1 : IntKind.i64.wrap ((i : Int) + 1) = ((i + 1 : Nat) : Int) := wrap_i64 (by omega) (by omega)
        have hpd := BPaid_ok p s o lock x hpo hl ho hx hfr
        have hLn : L0 ++ outP p o lock (s.pays.take (i + 1)) = Li ++ [⟨x.am, paidB p o lock x⟩] := by rw [take_s hc, ← hLi]; simp [outP]
        have hQn : Q0 ++ plcP (s.pays.take (i + 1)) = Qi ++ [(3, x.id)] := by rw [take_s hc, ← hQi]; simp [plcP]
        simp [hln, hge, payF_fz, lp, lf, tp, e2]
        refine ⟨BLay_body, ?_⟩
        refine callH [1, 0, 2, 3, 4] (BLay_yes 88 (paidB p o lock x) p s o 3 x.am lock x Li Qi ham hx hp hl (by omega) (by omega) BPaid_body hpd) (by simp [I, Ptr]) (by simp [layH]) (by simp) (by simp) (by simp) ?_
        rintro y H' ⟨rfl, rfl⟩
        refine ⟨.inl (by simp), by simp, ?_⟩
        simp [w1, -Int.natCast_add]
        refine round (i + 1) [0, 1, 2, 149, 150] (by omega) (by omega) (by simp [Ptr, I, PL]) ?_ (by simp) (by simp) (by simp)
        have q1 := congrArg List.length hLn
        have q2 := congrArg List.length hQn
        simp only [List.length_append, List.length_singleton] at q1 q2
        rw [hLn, hQn]
        simp [q1, q2]
      have hil : i = s.pays.length := by omega
      subst hil
      rw [List.take_length] at hLi hQi
      clear hlt hi
      simp [l0, e42]
      refine eloop (α := Nat) (fun i => i ≤ s.holds.length) (fun i => s.holds.length - i)
        (fun i => [.any, .any, .any, .any, Ptr 0, Ptr 1, .any, .any, .any, .any, .any, .any, .any, .any, .any, .any, .any, .any, .any, .any, .any, .any, .any, .any, .any, .any, .any, .any, .any, .any, .any, .any, .any, .any, .any, .any, .any, .any, .any, .any, .any, .any, .any, .any, .any, .any, .any, .any, .any, HL s.holds, I .i64 s.holds.length, I .i64 i, .any, .any, .any, .any, .any, .any, .any, .any, .any, .any, .any, .any, .any, .any, .any, .any, .any, .any, .any, .any, .any])
        (fun i => [some (.box 61 [.row 2 (Li ++ outH (s.holds.take i)).length]), some (.box 35 [.row 3 (Qi ++ plcH (s.holds.take i)).length]), some (.row 118 2 (outv (Li ++ outH (s.holds.take i)))), some (.row 54 2 (plcv (Qi ++ plcH (s.holds.take i))))]) 0 [1, 2, 3, 4]
        (Nat.zero_le _) (by simp [Ptr, I, HL]) (by simp [outH, plcH]) (by simp) (by simp) (by simp) ?_
      intro i hi
      obtain ⟨Lj, hLj⟩ : ∃ Lj, Li ++ outH (s.holds.take i) = Lj := ⟨_, rfl⟩
      obtain ⟨Qj, hQj⟩ : ∃ Qj, Qi ++ plcH (s.holds.take i) = Qj := ⟨_, rfl⟩
      have hlL2 : Lj.length ≤ 40 := by rw [← hLj]; simp [outH]; omega
      have hlQ2 : Qj.length ≤ 40 := by rw [← hQj]; simp [plcH]; omega
      rw [hLj, hQj]
      simp [Ptr, I, HL]
      refine alt (fun hlt => ?_) (fun hlt => ?_)
      · have hln : i < s.holds.length := by omega
        obtain ⟨x, hc⟩ : ∃ x, s.holds[i]? = some x := ⟨s.holds[i], by simp [hln]⟩
        have hge : (holv s.holds)[i]'(by simp [hln]) = holF x := by
          have e := holv_get hc
          rw [List.getElem?_eq_getElem (by simp [hln])] at e
          exact Option.some.inj e
        have hk := hhol x (List.mem_of_getElem? hc)
        have w1 : IntKind.i64.wrap ((i : Int) + 1) = ((i + 1 : Nat) : Int) := wrap_i64 (by omega) (by omega)
        have hLn : Li ++ outH (s.holds.take (i + 1)) = Lj ++ [⟨x.am, allB x.keys⟩] := by rw [take_s hc, ← hLj]; simp [outH]
        have hQn : Qi ++ plcH (s.holds.take (i + 1)) = Qj ++ [(4, x.id)] := by rw [take_s hc, ← hQj]; simp [plcH]
        simp [hln, hge, holF]
        refine call0 (PAll_ok x.keys hk) (by simp [IL]) ?_
        rintro y H' ⟨rfl, rfl⟩
        refine ⟨.inl (by simp [CNv]), le_ok rfl, ?_⟩
        simp [CNv]
        refine ⟨⟨by omega, by omega⟩, ?_⟩
        try simp
        refine ⟨⟨by omega, by omega⟩, ?_⟩
        try simp [w1, -Int.natCast_add]
        have q1 := congrArg List.length hLn
        have q2 := congrArg List.length hQn
        simp only [List.length_append, List.length_singleton] at q1 q2
        have hol : outv Lj ++ [[FV.lit (Value.int IntKind.i64 x.am), FV.sl 35 (brav (allB x.keys))]] = outv (Lj ++ [⟨x.am, allB x.keys⟩]) := by simp [outv, outF, iF]
        have hpl : plcv Qj ++ [[FV.lit (Value.int IntKind.i64 4), FV.lit (Value.int IntKind.i64 x.id)]] = plcv (Qj ++ [(4, x.id)]) := by simp [plcv, plcF, iF]
        refine round (i + 1) [0, 1, 212, 324] (by omega) (by omega) (by simp [Ptr, I, HL]) ?_ (by simp) (by simp) (by simp)
        rw [hLn, hQn]
        simp [q1, q2, hol, hpl]
      have hil : i = s.holds.length := by omega
      subst hil
      rw [List.take_length] at hLj hQj
      clear hlt hi
      simp
      have tk1 : List.take Lj.length (outv Lj) = outv Lj := List.take_of_length_le (by simp)
      have tk2 : List.take Qj.length (plcv Qj) = plcv Qj := List.take_of_length_le (by simp)
      refine finW _ (weak_frz (o := 2) (ty := 118) (es := 2) (xs := outv Lj) rfl) ?_
      refine finW _ (weak_frz (o := 3) (ty := 54) (es := 2) (xs := plcv Qj) rfl) ?_
      refine fin [] (by decide) rfl rfl rfl ⟨rfl, ?_⟩
      have hL9 : outsB p s o lock = Lj := by rw [hvL, ← hLj, ← hLi, List.append_assoc]
      have hQ9 : plcB p s o = Qj := by rw [hvQ, ← hQj, ← hQi, List.append_assoc]
      rw [hL9, hQ9]
      simp [tk1, tk2]
    · have hv2 : out2 p s o = ([] : List Outp) := if_neg c1
      have hq2 : plc2 p s o = ([] : List (Int × Int)) := if_neg c1
      refine callH [48, 0, 64, 256, 257] (BLay_no 87 p s o 2 (hasP p s (1 - o)) lock zPy [] [] (by omega) rfl) (by simp [I, Ptr]) (by simp [layH, layN]) (by simp) (by simp) (by simp) ?_
      rintro y H' ⟨rfl, rfl⟩
      refine ⟨.inl (by simp), by simp [layH], ?_⟩
      simp [MKv, SV, PVv, staC, I, Ptr, l0, t0, mp, ms, e43, iC, layH, layN, wo, zpay, zpid, e41, e42]
      obtain ⟨L0, hL0⟩ : ∃ L0, ([] ++ [] : List Outp) = L0 := ⟨_, rfl⟩
      obtain ⟨Q0, hQ0⟩ : ∃ Q0, ([] ++ [] : List (Int × Int)) = Q0 := ⟨_, rfl⟩
      have hL8 : L0.length ≤ 2 := by rw [← hL0]; simp
      have hQ8 : Q0.length ≤ 2 := by rw [← hQ0]; simp
      have hvL : outsB p s o lock = L0 ++ (outP p o lock s.pays ++ outH s.holds) := by rw [← hL0]; unfold outsB; rw [hv1, hv2]
      have hvQ : plcB p s o = Q0 ++ (plcP s.pays ++ plcH s.holds) := by rw [← hQ0]; unfold plcB; rw [hq1, hq2]
      refine eloop (α := Nat) (fun i => i ≤ s.pays.length) (fun i => s.pays.length - i)
        (fun i => [.any, Ptr 0, .any, .any, Ptr 1, Ptr 2, .v (.c (.clo 85 [(1, 0), (0, 0), (2, 0)])), .any, .any, .any, .any, .any, .any, .any, .any, .any, .any, .any, .any, .any, .any, .any, .any, .any, .any, .any, .any, .any, .any, .any, .any, .any, .any, .any, .any, PL s.pays, I .i64 s.pays.length, I .i64 i, .any, .any, .any, .any, .any, .any, .any, .any, .any, .any, .any, .any, .any, .any, .any, .any, .any, .any, .any, .any, .any, .any, .any, .any, .any, .any, .any, .any, .any, .any, .any, .any, .any, .any, .any])
        (fun i => [some (.box 123 (mkC p s o lock)), some (.box 61 [.row 3 (L0 ++ outP p o lock (s.pays.take i)).length]), some (.box 35 [.row 4 (Q0 ++ plcP (s.pays.take i)).length]), some (.row 118 2 (outv (L0 ++ outP p o lock (s.pays.take i)))), some (.row 54 2 (plcv (Q0 ++ plcP (s.pays.take i))))]) 0 [0, 48, 64, 256, 257]
        (Nat.zero_le _) (by simp [Ptr, I, PL]) (by simp [outP, plcP, ← hL0, ← hQ0]) (by simp) (by simp) (by simp) ?_
      intro i hi
      obtain ⟨Li, hLi⟩ : ∃ Li, L0 ++ outP p o lock (s.pays.take i) = Li := ⟨_, rfl⟩
      obtain ⟨Qi, hQi⟩ : ∃ Qi, Q0 ++ plcP (s.pays.take i) = Qi := ⟨_, rfl⟩
      have hlL : Li.length ≤ 20 := by rw [← hLi]; simp [outP]; omega
      have hlQ : Qi.length ≤ 20 := by rw [← hQi]; simp [plcP]; omega
      rw [hLi, hQi]
      simp [Ptr, I, PL]
      refine alt (fun hlt => ?_) (fun hlt => ?_)
      · have hln : i < s.pays.length := by omega
        obtain ⟨x, hc⟩ : ∃ x, s.pays[i]? = some x := ⟨s.pays[i], by simp [hln]⟩
        have hge : (payv s.pays)[i]'(by simp [hln]) = payF x := by
          have e := payv_get hc
          rw [List.getElem?_eq_getElem (by simp [hln])] at e
          exact Option.some.inj e
        have hxo := ok4 x (List.mem_of_getElem? hc)
        have hx := hxo.2.2.2.2
        obtain ⟨ham, hfr⟩ := hpay x (List.mem_of_getElem? hc)
        have lp := payC_len hx
        have lf := payF_len hx
        have tp := payC_take hx
        have e2 : (payC x)[2]? = some (.fz (.lit (.int .i64 x.am))) := rfl
        have e2 := idx_of e2 (by omega)
        have w1 : IntKind.i64.wrap ((i : Int) + 1) = ((i + 1 : Nat) : Int) := wrap_i64 (by omega) (by omega)
        have hpd := BPaid_ok p s o lock x hpo hl ho hx hfr
        have hLn : L0 ++ outP p o lock (s.pays.take (i + 1)) = Li ++ [⟨x.am, paidB p o lock x⟩] := by rw [take_s hc, ← hLi]; simp [outP]
        have hQn : Q0 ++ plcP (s.pays.take (i + 1)) = Qi ++ [(3, x.id)] := by rw [take_s hc, ← hQi]; simp [plcP]
        simp [hln, hge, payF_fz, lp, lf, tp, e2]
        refine ⟨BLay_body, ?_⟩
        refine callH [1, 0, 2, 3, 4] (BLay_yes 88 (paidB p o lock x) p s o 3 x.am lock x Li Qi ham hx hp hl (by omega) (by omega) BPaid_body hpd) (by simp [I, Ptr]) (by simp [layH]) (by simp) (by simp) (by simp) ?_
        rintro y H' ⟨rfl, rfl⟩
        refine ⟨.inl (by simp), by simp, ?_⟩
        simp [w1, -Int.natCast_add]
        refine round (i + 1) [0, 1, 2, 149, 150] (by omega) (by omega) (by simp [Ptr, I, PL]) ?_ (by simp) (by simp) (by simp)
        have q1 := congrArg List.length hLn
        have q2 := congrArg List.length hQn
        simp only [List.length_append, List.length_singleton] at q1 q2
        rw [hLn, hQn]
        simp [q1, q2]
      have hil : i = s.pays.length := by omega
      subst hil
      rw [List.take_length] at hLi hQi
      clear hlt hi
      simp [l0, e42]
      refine eloop (α := Nat) (fun i => i ≤ s.holds.length) (fun i => s.holds.length - i)
        (fun i => [.any, .any, .any, .any, Ptr 0, Ptr 1, .any, .any, .any, .any, .any, .any, .any, .any, .any, .any, .any, .any, .any, .any, .any, .any, .any, .any, .any, .any, .any, .any, .any, .any, .any, .any, .any, .any, .any, .any, .any, .any, .any, .any, .any, .any, .any, .any, .any, .any, .any, .any, .any, HL s.holds, I .i64 s.holds.length, I .i64 i, .any, .any, .any, .any, .any, .any, .any, .any, .any, .any, .any, .any, .any, .any, .any, .any, .any, .any, .any, .any, .any])
        (fun i => [some (.box 61 [.row 2 (Li ++ outH (s.holds.take i)).length]), some (.box 35 [.row 3 (Qi ++ plcH (s.holds.take i)).length]), some (.row 118 2 (outv (Li ++ outH (s.holds.take i)))), some (.row 54 2 (plcv (Qi ++ plcH (s.holds.take i))))]) 0 [1, 2, 3, 4]
        (Nat.zero_le _) (by simp [Ptr, I, HL]) (by simp [outH, plcH]) (by simp) (by simp) (by simp) ?_
      intro i hi
      obtain ⟨Lj, hLj⟩ : ∃ Lj, Li ++ outH (s.holds.take i) = Lj := ⟨_, rfl⟩
      obtain ⟨Qj, hQj⟩ : ∃ Qj, Qi ++ plcH (s.holds.take i) = Qj := ⟨_, rfl⟩
      have hlL2 : Lj.length ≤ 40 := by rw [← hLj]; simp [outH]; omega
      have hlQ2 : Qj.length ≤ 40 := by rw [← hQj]; simp [plcH]; omega
      rw [hLj, hQj]
      simp [Ptr, I, HL]
      refine alt (fun hlt => ?_) (fun hlt => ?_)
      · have hln : i < s.holds.length := by omega
        obtain ⟨x, hc⟩ : ∃ x, s.holds[i]? = some x := ⟨s.holds[i], by simp [hln]⟩
        have hge : (holv s.holds)[i]'(by simp [hln]) = holF x := by
          have e := holv_get hc
          rw [List.getElem?_eq_getElem (by simp [hln])] at e
          exact Option.some.inj e
        have hk := hhol x (List.mem_of_getElem? hc)
        have w1 : IntKind.i64.wrap ((i : Int) + 1) = ((i + 1 : Nat) : Int) := wrap_i64 (by omega) (by omega)
        have hLn : Li ++ outH (s.holds.take (i + 1)) = Lj ++ [⟨x.am, allB x.keys⟩] := by rw [take_s hc, ← hLj]; simp [outH]
        have hQn : Qi ++ plcH (s.holds.take (i + 1)) = Qj ++ [(4, x.id)] := by rw [take_s hc, ← hQj]; simp [plcH]
        simp [hln, hge, holF]
        refine call0 (PAll_ok x.keys hk) (by simp [IL]) ?_
        rintro y H' ⟨rfl, rfl⟩
        refine ⟨.inl (by simp [CNv]), le_ok rfl, ?_⟩
        simp [CNv]
        refine ⟨⟨by omega, by omega⟩, ?_⟩
        try simp
        refine ⟨⟨by omega, by omega⟩, ?_⟩
        try simp [w1, -Int.natCast_add]
        have q1 := congrArg List.length hLn
        have q2 := congrArg List.length hQn
        simp only [List.length_append, List.length_singleton] at q1 q2
        have hol : outv Lj ++ [[FV.lit (Value.int IntKind.i64 x.am), FV.sl 35 (brav (allB x.keys))]] = outv (Lj ++ [⟨x.am, allB x.keys⟩]) := by simp [outv, outF, iF]
        have hpl : plcv Qj ++ [[FV.lit (Value.int IntKind.i64 4), FV.lit (Value.int IntKind.i64 x.id)]] = plcv (Qj ++ [(4, x.id)]) := by simp [plcv, plcF, iF]
        refine round (i + 1) [0, 1, 212, 324] (by omega) (by omega) (by simp [Ptr, I, HL]) ?_ (by simp) (by simp) (by simp)
        rw [hLn, hQn]
        simp [q1, q2, hol, hpl]
      have hil : i = s.holds.length := by omega
      subst hil
      rw [List.take_length] at hLj hQj
      clear hlt hi
      simp
      have tk1 : List.take Lj.length (outv Lj) = outv Lj := List.take_of_length_le (by simp)
      have tk2 : List.take Qj.length (plcv Qj) = plcv Qj := List.take_of_length_le (by simp)
      refine finW _ (weak_frz (o := 2) (ty := 118) (es := 2) (xs := outv Lj) rfl) ?_
      refine finW _ (weak_frz (o := 3) (ty := 54) (es := 2) (xs := plcv Qj) rfl) ?_
      refine fin [] (by decide) rfl rfl rfl ⟨rfl, ?_⟩
      have hL9 : outsB p s o lock = Lj := by rw [hvL, ← hLj, ← hLi, List.append_assoc]
      have hQ9 : plcB p s o = Qj := by rw [hvQ, ← hQj, ← hQi, List.append_assoc]
      rw [hL9, hQ9]
      simp [tk1, tk2]

end Go.Proofs.YtflcfdeanneoeaaGreatDoor
