import Derived.Test.YtejjhgdnmknejaaGreatDoorAll8
import Derived.Test.YtejjhgdnmknejaaGreatDoorAll10
namespace Go.Proofs.YtejjhgdnmknejaaGreatDoor
open Go Go.EW
set_option linter.unusedSimpArgs false
set_option linter.unusedVariables false

@[simp] def l_CompI_1 (_ : Unit) : List EOp := [⟨0, (some 2), none, (.q (.mov (.k (.slice none 0 0)))), []⟩]
@[simp] def b_CompI_2 (_ : Unit) : EB := reg0 (hid l_CompI_1) 1
@[simp] def l_CompI_3 (_ : Unit) : List EOp := [⟨0, (some 6), none, (.q (.mov (.t 0))), []⟩, ⟨1, (some 7), none, (.q (.len (.t 6))), []⟩, ⟨2, (some 8), none, (.q (.bin .lss (.t 7) (.k (.int .i64 2)))), []⟩]
@[simp] def b_CompI_4 (_ : Unit) : EB := reg0 (hid l_CompI_3) 3
@[simp] def l_CompI_5 (_ : Unit) : List EOp := [⟨0, (some 9), none, (.q (.mov (.t 0))), []⟩, ⟨1, (some 2), none, (.q (.mov (.t 9))), []⟩]
@[simp] def b_CompI_6 (_ : Unit) : EB := reg0 (hid l_CompI_5) 2
@[simp] def b_CompI_7 (_ : Unit) : EB := .seq (hid b_CompI_6) .ret
@[simp] def b_CompI_8 (_ : Unit) : EB := .cond (.t 8) (hid b_CompI_7) .skip
@[simp] def b_CompI_9 (_ : Unit) : EB := .seq (hid b_CompI_4) (hid b_CompI_8)
@[simp] def l_CompI_10 (_ : Unit) : List EOp := [⟨0, (some 3), none, (.q (.mov (.k (.int .i64 1)))), []⟩]
@[simp] def b_CompI_11 (_ : Unit) : EB := reg0 (hid l_CompI_10) 1
@[simp] def l_CompI_12 (_ : Unit) : List EOp := [⟨0, (some 10), none, (.q (.mov (.t 3))), []⟩, ⟨1, (some 11), none, (.q (.mov (.t 0))), []⟩, ⟨2, (some 12), none, (.q (.len (.t 11))), []⟩, ⟨3, (some 13), none, (.q (.bin .lss (.t 10) (.t 12))), []⟩]
@[simp] def b_CompI_13 (_ : Unit) : EB := reg0 (hid l_CompI_12) 4
@[simp] def b_CompI_14 (_ : Unit) : EB := .cond (.t 13) .skip (.exit 0)
@[simp] def b_CompI_15 (_ : Unit) : EB := .seq (hid b_CompI_13) (hid b_CompI_14)
@[simp] def l_CompI_17 (_ : Unit) : List EOp := [⟨6, (some 22), none, (.q (.bin .sub (.t 21) (.k (.int .i64 1)))), []⟩, ⟨7, (some 23), none, (.q (.isl 1 (.t 20) (.t 22))), []⟩, ⟨8, (some 24), none, (.q (.ldc (.t 23))), []⟩, ⟨9, (some 25), none, (.q (.bin .eql (.t 19) (.t 24))), []⟩]
@[simp] def l_CompI_16 (_ : Unit) : List EOp := ⟨0, (some 16), none, (.q (.mov (.t 0))), []⟩ :: ⟨1, (some 17), none, (.q (.mov (.t 3))), []⟩ :: ⟨2, (some 18), none, (.q (.isl 1 (.t 16) (.t 17))), []⟩ :: ⟨3, (some 19), none, (.q (.ldc (.t 18))), []⟩ :: ⟨4, (some 20), none, (.q (.mov (.t 0))), []⟩ :: ⟨5, (some 21), none, (.q (.mov (.t 3))), []⟩ :: hid l_CompI_17
@[simp] def b_CompI_18 (_ : Unit) : EB := reg0 (hid l_CompI_16) 10
@[simp] def l_CompI_19 (_ : Unit) : List EOp := [⟨0, (some 26), none, (.q (.mov (.t 0))), []⟩, ⟨1, (some 27), none, (.q (.mov (.t 3))), []⟩, ⟨2, (some 28), none, (.q (.ssl 1 (.t 26) (some (.t 27)) none)), []⟩, ⟨3, (some 4), none, (.q (.mov (.t 28))), []⟩]
@[simp] def b_CompI_20 (_ : Unit) : EB := reg0 (hid l_CompI_19) 4
@[simp] def l_CompI_21 (_ : Unit) : List EOp := [⟨0, (some 5), none, (.q (.mov (.k (.int .i64 1)))), []⟩]
@[simp] def b_CompI_22 (_ : Unit) : EB := reg0 (hid l_CompI_21) 1
@[simp] def l_CompI_23 (_ : Unit) : List EOp := [⟨0, (some 29), none, (.q (.mov (.t 5))), []⟩, ⟨1, (some 30), none, (.q (.mov (.t 4))), []⟩, ⟨2, (some 31), none, (.q (.len (.t 30))), []⟩, ⟨3, (some 32), none, (.q (.bin .lss (.t 29) (.t 31))), []⟩]
@[simp] def b_CompI_24 (_ : Unit) : EB := reg0 (hid l_CompI_23) 4
@[simp] def b_CompI_25 (_ : Unit) : EB := .cond (.t 32) .skip (.exit 2)
@[simp] def b_CompI_26 (_ : Unit) : EB := .seq (hid b_CompI_24) (hid b_CompI_25)
@[simp] def l_CompI_28 (_ : Unit) : List EOp := [⟨6, (some 41), none, (.q (.bin .sub (.t 40) (.k (.int .i64 1)))), []⟩, ⟨7, (some 42), none, (.q (.isl 1 (.t 39) (.t 41))), []⟩, ⟨8, (some 43), none, (.q (.ldc (.t 42))), []⟩, ⟨9, (some 44), none, (.q (.bin .neq (.t 38) (.t 43))), []⟩]
@[simp] def l_CompI_27 (_ : Unit) : List EOp := ⟨0, (some 35), none, (.q (.mov (.t 4))), []⟩ :: ⟨1, (some 36), none, (.q (.mov (.t 5))), []⟩ :: ⟨2, (some 37), none, (.q (.isl 1 (.t 35) (.t 36))), []⟩ :: ⟨3, (some 38), none, (.q (.ldc (.t 37))), []⟩ :: ⟨4, (some 39), none, (.q (.mov (.t 4))), []⟩ :: ⟨5, (some 40), none, (.q (.mov (.t 5))), []⟩ :: hid l_CompI_28
@[simp] def b_CompI_29 (_ : Unit) : EB := reg0 (hid l_CompI_27) 10
@[simp] def l_CompI_31 (_ : Unit) : List EOp := [⟨6, (some 51), none, (.q (.isl 1 (.t 45) (.t 46))), []⟩, ⟨7, none, none, (.sto 1 (.t 51) (.t 50)), []⟩]
@[simp] def l_CompI_30 (_ : Unit) : List EOp := ⟨0, (some 45), none, (.q (.mov (.t 0))), []⟩ :: ⟨1, (some 46), none, (.q (.mov (.t 3))), []⟩ :: ⟨2, (some 47), none, (.q (.mov (.t 4))), []⟩ :: ⟨3, (some 48), none, (.q (.mov (.t 5))), []⟩ :: ⟨4, (some 49), none, (.q (.isl 1 (.t 47) (.t 48))), []⟩ :: ⟨5, (some 50), none, (.q (.ldc (.t 49))), []⟩ :: hid l_CompI_31
@[simp] def b_CompI_32 (_ : Unit) : EB := reg0 (hid l_CompI_30) 8
@[simp] def l_CompI_33 (_ : Unit) : List EOp := [⟨0, (some 52), none, (.q (.mov (.t 3))), []⟩, ⟨1, (some 53), none, (.q (.bin .add (.t 52) (.k (.int .i64 1)))), []⟩, ⟨2, (some 3), none, (.q (.mov (.t 53))), []⟩]
@[simp] def b_CompI_34 (_ : Unit) : EB := reg0 (hid l_CompI_33) 3
@[simp] def b_CompI_35 (_ : Unit) : EB := .seq (hid b_CompI_32) (hid b_CompI_34)
@[simp] def b_CompI_36 (_ : Unit) : EB := .cond (.t 44) (hid b_CompI_35) .skip
@[simp] def b_CompI_37 (_ : Unit) : EB := .seq (hid b_CompI_29) (hid b_CompI_36)
@[simp] def b_CompI_38 (_ : Unit) : EB := .block 3 (hid b_CompI_37)
@[simp] def l_CompI_39 (_ : Unit) : List EOp := [⟨0, (some 33), none, (.q (.mov (.t 5))), []⟩, ⟨1, (some 34), none, (.q (.bin .add (.t 33) (.k (.int .i64 1)))), []⟩, ⟨2, (some 5), none, (.q (.mov (.t 34))), []⟩]
@[simp] def b_CompI_40 (_ : Unit) : EB := reg0 (hid l_CompI_39) 3
@[simp] def b_CompI_41 (_ : Unit) : EB := .seq (hid b_CompI_38) (hid b_CompI_40)
@[simp] def b_CompI_42 (_ : Unit) : EB := .seq (hid b_CompI_26) (hid b_CompI_41)
@[simp] def b_CompI_43 (_ : Unit) : EB := .loop (hid b_CompI_42)
@[simp] def b_CompI_44 (_ : Unit) : EB := .block 2 (hid b_CompI_43)
@[simp] def b_CompI_45 (_ : Unit) : EB := .seq (hid b_CompI_22) (hid b_CompI_44)
@[simp] def l_CompI_46 (_ : Unit) : List EOp := [⟨0, (some 57), none, (.q (.mov (.t 0))), []⟩, ⟨1, (some 58), none, (.q (.mov (.t 3))), []⟩, ⟨2, (some 59), none, (.q (.ssl 1 (.t 57) none (some (.t 58)))), []⟩, ⟨3, (some 2), none, (.q (.mov (.t 59))), []⟩]
@[simp] def b_CompI_47 (_ : Unit) : EB := reg0 (hid l_CompI_46) 4
@[simp] def b_CompI_48 (_ : Unit) : EB := .seq (hid b_CompI_47) .ret
@[simp] def b_CompI_49 (_ : Unit) : EB := .seq .bot (hid b_CompI_48)
@[simp] def b_CompI_50 (_ : Unit) : EB := .seq (hid b_CompI_45) (hid b_CompI_49)
@[simp] def b_CompI_51 (_ : Unit) : EB := .seq (hid b_CompI_20) (hid b_CompI_50)
@[simp] def b_CompI_52 (_ : Unit) : EB := .cond (.t 25) (hid b_CompI_51) .skip
@[simp] def b_CompI_53 (_ : Unit) : EB := .seq (hid b_CompI_18) (hid b_CompI_52)
@[simp] def b_CompI_54 (_ : Unit) : EB := .block 1 (hid b_CompI_53)
@[simp] def l_CompI_55 (_ : Unit) : List EOp := [⟨0, (some 14), none, (.q (.mov (.t 3))), []⟩, ⟨1, (some 15), none, (.q (.bin .add (.t 14) (.k (.int .i64 1)))), []⟩, ⟨2, (some 3), none, (.q (.mov (.t 15))), []⟩]
@[simp] def b_CompI_56 (_ : Unit) : EB := reg0 (hid l_CompI_55) 3
@[simp] def b_CompI_57 (_ : Unit) : EB := .seq (hid b_CompI_54) (hid b_CompI_56)
@[simp] def b_CompI_58 (_ : Unit) : EB := .seq (hid b_CompI_15) (hid b_CompI_57)
@[simp] def b_CompI_59 (_ : Unit) : EB := .loop (hid b_CompI_58)
@[simp] def b_CompI_60 (_ : Unit) : EB := .block 0 (hid b_CompI_59)
@[simp] def b_CompI_61 (_ : Unit) : EB := .seq (hid b_CompI_11) (hid b_CompI_60)
@[simp] def l_CompI_62 (_ : Unit) : List EOp := [⟨0, (some 60), none, (.q (.mov (.t 0))), []⟩, ⟨1, (some 2), none, (.q (.mov (.t 60))), []⟩]
@[simp] def b_CompI_63 (_ : Unit) : EB := reg0 (hid l_CompI_62) 2
@[simp] def b_CompI_64 (_ : Unit) : EB := .seq (hid b_CompI_63) .ret
@[simp] def b_CompI_65 (_ : Unit) : EB := .seq (hid b_CompI_61) (hid b_CompI_64)
@[simp] def b_CompI_66 (_ : Unit) : EB := .seq (hid b_CompI_9) (hid b_CompI_65)
@[simp] def b_CompI_67 (_ : Unit) : EB := .seq (hid b_CompI_2) (hid b_CompI_66)
def c_CompI : EB × List QOp × Nat := ((hid b_CompI_67), [(.mov (.t 2))], 61)
theorem k_CompI : cfun Tryz.prog 78 = some c_CompI := by kernel_rfl

@[simp] def l_PAll_1 (_ : Unit) : List EOp := [⟨0, (some 2), none, (.q (.alloc 109 [(.slice none 0 0)])), []⟩]
@[simp] def b_PAll_2 (_ : Unit) : EB := reg0 (hid l_PAll_1) 1
@[simp] def l_PAll_3 (_ : Unit) : List EOp := [⟨0, (some 4), none, (.q (.mov (.t 0))), []⟩, ⟨1, (some 5), none, (.call 76 [(.t 4)]), []⟩, ⟨2, (some 3), none, (.q (.mov (.t 5))), []⟩]
@[simp] def b_PAll_4 (_ : Unit) : EB := reg0 (hid l_PAll_3) 3
@[simp] def l_PAll_5 (_ : Unit) : List EOp := [⟨0, (some 6), none, (.q (.mov (.t 3))), []⟩, ⟨1, (some 7), none, (.call 77 [(.t 6)]), []⟩]
@[simp] def b_PAll_6 (_ : Unit) : EB := reg0 (hid l_PAll_5) 2
@[simp] def l_PAll_7 (_ : Unit) : List EOp := [⟨0, (some 8), none, (.q (.mov (.t 3))), []⟩, ⟨1, (some 9), none, (.call 78 [(.t 8)]), []⟩, ⟨2, (some 10), none, (.q (.build (([(.slice none 0 0)] : List Value) ++ zU8 ++ [(.int .i64 0), (.int .i64 0)]) [(0, 1, (.t 9))])), []⟩, ⟨3, (some 11), none, (.fz (.q (.bsl 35 (([(.slice none 0 0)] : List Value) ++ zU8 ++ [(.int .i64 0), (.int .i64 0)]) 1 [(0, (.t 10))]))), []⟩, ⟨4, (some 12), none, (.q (.build [(.slice none 0 0)] [(0, 1, (.t 11))])), []⟩, ⟨5, none, none, (.fz (.sto 1 (.t 2) (.t 12))), []⟩]
@[simp] def b_PAll_8 (_ : Unit) : EB := reg0 (hid l_PAll_7) 6
@[simp] def b_PAll_9 (_ : Unit) : EB := .seq (hid b_PAll_8) .ret
@[simp] def b_PAll_10 (_ : Unit) : EB := .seq (hid b_PAll_6) (hid b_PAll_9)
@[simp] def b_PAll_11 (_ : Unit) : EB := .seq (hid b_PAll_4) (hid b_PAll_10)
@[simp] def b_PAll_12 (_ : Unit) : EB := .seq (hid b_PAll_2) (hid b_PAll_11)
def c_PAll : EB × List QOp × Nat := ((hid b_PAll_12), [(.lda 1 (.t 2))], 13)
theorem k_PAll : cfun Tryz.prog 36 = some c_PAll := by kernel_rfl

@[simp] def l_CloneBr_1 (_ : Unit) : List EOp := [⟨0, (some 2), none, (.q (.mov (.k (.slice none 0 0)))), []⟩]
@[simp] def b_CloneBr_2 (_ : Unit) : EB := reg0 (hid l_CloneBr_1) 1
@[simp] def l_CloneBr_3 (_ : Unit) : List EOp := [⟨0, (some 3), none, (.q (.mov (.t 0))), []⟩, ⟨1, (some 4), none, (.nild false (.t 3)), []⟩]
@[simp] def b_CloneBr_4 (_ : Unit) : EB := reg0 (hid l_CloneBr_3) 2
@[simp] def l_CloneBr_5 (_ : Unit) : List EOp := [⟨0, (some 2), none, (.q (.mov (.k (.slice none 0 0)))), []⟩]
@[simp] def b_CloneBr_6 (_ : Unit) : EB := reg0 (hid l_CloneBr_5) 1
@[simp] def b_CloneBr_7 (_ : Unit) : EB := .seq (hid b_CloneBr_6) .ret
@[simp] def b_CloneBr_8 (_ : Unit) : EB := .cond (.t 4) (hid b_CloneBr_7) .skip
@[simp] def b_CloneBr_9 (_ : Unit) : EB := .seq (hid b_CloneBr_4) (hid b_CloneBr_8)
@[simp] def l_CloneBr_10 (_ : Unit) : List EOp := [⟨0, (some 5), none, (.q (.bsr 196 35 (([(.slice none 0 0)] : List Value) ++ zU8 ++ [(.int .i64 0), (.int .i64 0)]) 0 [])), []⟩, ⟨1, (some 6), none, (.q (.mov (.t 0))), []⟩, ⟨2, (some 7), none, (.app 196 35 72 (.t 5) (.t 6)), []⟩, ⟨3, (some 2), none, (.q (.mov (.t 7))), []⟩]
@[simp] def b_CloneBr_11 (_ : Unit) : EB := reg0 (hid l_CloneBr_10) 4
@[simp] def b_CloneBr_12 (_ : Unit) : EB := .seq (hid b_CloneBr_11) .ret
@[simp] def b_CloneBr_13 (_ : Unit) : EB := .seq (hid b_CloneBr_9) (hid b_CloneBr_12)
@[simp] def b_CloneBr_14 (_ : Unit) : EB := .seq (hid b_CloneBr_2) (hid b_CloneBr_13)
@[simp] def l_POwn_1 (_ : Unit) : List EOp := [⟨0, (some 1), none, (.q (.box 109 (.t 0))), []⟩, ⟨1, (some 2), none, (.q (.alloc 109 [(.slice none 0 0)])), []⟩]
@[simp] def b_POwn_2 (_ : Unit) : EB := reg0 (hid l_POwn_1) 2
@[simp] def l_POwn_3 (_ : Unit) : List EOp := [⟨0, (some 5), none, (.q (.fad 0 (.t 1))), []⟩, ⟨1, (some 6), none, (.q (.ldc (.t 5))), []⟩, ⟨2, (some 7), none, (.call 203 [(.t 6)]), []⟩, ⟨3, (some 3), none, (.q (.mov (.t 7))), []⟩]
@[simp] def b_POwn_4 (_ : Unit) : EB := reg0 (hid l_POwn_3) 4
@[simp] def l_POwn_5 (_ : Unit) : List EOp := [⟨0, (some 8), none, (.q (.mov (.t 3))), []⟩, ⟨1, (some 9), none, (.q (.len (.t 8))), []⟩, ⟨2, (some 10), none, (.q (.mov (.k (.int .i64 0)))), []⟩]
@[simp] def b_POwn_6 (_ : Unit) : EB := reg0 (hid l_POwn_5) 3
@[simp] def l_POwn_7 (_ : Unit) : List EOp := [⟨0, (some 11), none, (.q (.bin .lss (.t 10) (.t 9))), []⟩]
@[simp] def b_POwn_8 (_ : Unit) : EB := reg0 (hid l_POwn_7) 1
@[simp] def b_POwn_9 (_ : Unit) : EB := .cond (.t 11) .skip (.exit 0)
@[simp] def l_POwn_10 (_ : Unit) : List EOp := [⟨0, (some 12), none, (.q (.mov (.t 10))), []⟩, ⟨1, (some 4), none, (.q (.mov (.t 12))), []⟩]
@[simp] def b_POwn_11 (_ : Unit) : EB := reg0 (hid l_POwn_10) 2
@[simp] def l_POwn_13 (_ : Unit) : List EOp := [⟨6, (some 19), none, (.q (.ldc (.t 18))), []⟩, ⟨7, (some 20), none, (.call 76 [(.t 19)]), []⟩, ⟨8, (some 21), none, (.q (.isl 35 (.t 13) (.t 14))), []⟩, ⟨9, (some 22), none, (.q (.fad 0 (.t 21))), []⟩, ⟨10, none, none, (.fz (.sto 1 (.t 22) (.t 20))), []⟩]
@[simp] def l_POwn_12 (_ : Unit) : List EOp := ⟨0, (some 13), none, (.q (.mov (.t 3))), []⟩ :: ⟨1, (some 14), none, (.q (.mov (.t 4))), []⟩ :: ⟨2, (some 15), none, (.q (.mov (.t 3))), []⟩ :: ⟨3, (some 16), none, (.q (.mov (.t 4))), []⟩ :: ⟨4, (some 17), none, (.q (.isl 35 (.t 15) (.t 16))), []⟩ :: ⟨5, (some 18), none, (.q (.fad 0 (.t 17))), []⟩ :: hid l_POwn_13
@[simp] def b_POwn_14 (_ : Unit) : EB := reg0 (hid l_POwn_12) 11
@[simp] def b_POwn_15 (_ : Unit) : EB := .seq (hid b_POwn_11) (hid b_POwn_14)
@[simp] def b_POwn_16 (_ : Unit) : EB := .block 1 (hid b_POwn_15)
@[simp] def l_POwn_17 (_ : Unit) : List EOp := [⟨0, (some 23), none, (.q (.bin .add (.t 10) (.k (.int .i64 1)))), []⟩, ⟨1, (some 10), none, (.q (.mov (.t 23))), []⟩]
@[simp] def b_POwn_18 (_ : Unit) : EB := reg0 (hid l_POwn_17) 2
@[simp] def b_POwn_19 (_ : Unit) : EB := .seq (hid b_POwn_16) (hid b_POwn_18)
@[simp] def b_POwn_20 (_ : Unit) : EB := .seq (hid b_POwn_9) (hid b_POwn_19)
@[simp] def b_POwn_21 (_ : Unit) : EB := .seq (hid b_POwn_8) (hid b_POwn_20)
@[simp] def b_POwn_22 (_ : Unit) : EB := .loop (hid b_POwn_21)
@[simp] def b_POwn_23 (_ : Unit) : EB := .block 0 (hid b_POwn_22)
@[simp] def b_POwn_24 (_ : Unit) : EB := .seq (hid b_POwn_6) (hid b_POwn_23)
@[simp] def l_POwn_25 (_ : Unit) : List EOp := [⟨0, (some 24), none, (.q (.mov (.t 3))), []⟩, ⟨1, (some 25), none, (.q (.build [(.slice none 0 0)] [(0, 1, (.t 24))])), []⟩, ⟨2, none, none, (.fz (.sto 1 (.t 2) (.t 25))), []⟩]
@[simp] def b_POwn_26 (_ : Unit) : EB := reg0 (hid l_POwn_25) 3
@[simp] def b_POwn_27 (_ : Unit) : EB := .seq (hid b_POwn_26) .ret
@[simp] def b_POwn_28 (_ : Unit) : EB := .seq (hid b_POwn_24) (hid b_POwn_27)
@[simp] def b_POwn_29 (_ : Unit) : EB := .seq (hid b_POwn_4) (hid b_POwn_28)
@[simp] def b_POwn_30 (_ : Unit) : EB := .seq (hid b_POwn_2) (hid b_POwn_29)
@[simp] def l_POr_1 (_ : Unit) : List EOp := [⟨0, (some 2), none, (.q (.box 109 (.t 0))), []⟩, ⟨1, (some 3), none, (.q (.box 109 (.t 1))), []⟩, ⟨2, (some 4), none, (.q (.alloc 109 [(.slice none 0 0)])), []⟩]
@[simp] def b_POr_2 (_ : Unit) : EB := reg0 (hid l_POr_1) 3
@[simp] def l_POr_4 (_ : Unit) : List EOp := [⟨6, (some 11), none, (.app 196 35 72 (.t 7) (.t 10)), []⟩, ⟨7, (some 12), none, (.q (.build [(.slice none 0 0)] [(0, 1, (.t 11))])), []⟩, ⟨8, none, none, (.fz (.sto 1 (.t 4) (.t 12))), []⟩]
@[simp] def l_POr_3 (_ : Unit) : List EOp := ⟨0, (some 5), none, (.q (.lda 1 (.t 2))), []⟩ :: ⟨3, (some 8), none, (.q (.lda 1 (.t 3))), []⟩ :: ⟨1, (some 6), none, (.call 179 [(.t 5)]), [3]⟩ :: ⟨2, (some 7), none, (.q (.fgc 0 (.t 6))), []⟩ :: ⟨4, (some 9), none, (.call 179 [(.t 8)]), [2]⟩ :: ⟨5, (some 10), none, (.q (.fgc 0 (.t 9))), []⟩ :: hid l_POr_4
@[simp] def b_POr_5 (_ : Unit) : EB := reg1 (hid l_POr_3) 9
@[simp] def b_POr_6 (_ : Unit) : EB := .seq (hid b_POr_5) .ret
@[simp] def b_POr_7 (_ : Unit) : EB := .seq (hid b_POr_2) (hid b_POr_6)
@[simp] theorem rowsE_hc (l : List UInt8) : (hc l).flatMap rowsE = [] := by
  induction l with
  | nil => rfl
  | cons a r ih => exact ih
@[simp] theorem fzM_hc (H : Nat → Option EO) (d : List Nat) (l : List UInt8) : (hc l).map (fzM H d) = hc l := by
  induction l with
  | nil => rfl
  | cons a r ih =>
    show _ :: (hc r).map (fzM H d) = _
    rw [ih]
    rfl
theorem frzAll_hc (l : List UInt8) (r : List EC) : frzAll (hc l ++ r) = (frzAll r).map (hf l ++ ·) := by
  induction l with
  | nil => cases h : frzAll r <;> simp [hc, hf, h]
  | cons a t ih =>
    show ((some (FV.lit (.int .u8 a.toNat))).bind fun x => (frzAll (hc t ++ r)).map (x :: ·)) = _
    rw [ih]
    cases frzAll r <;> rfl
/-! ### who signs -/
/-- Keys that are sorted and told apart as they are. -/
def KeysOK (ks : List Int) : Prop := 1 ≤ ks.length ∧ ks.length ≤ 16 ∧ (ks.length ≤ 12 ∨ RisI ks) ∧ RisI (insN ks) ∧ ks.Pairwise (· ≠ ·) ∧ ks.foldl insI [] = insN ks
def allB (ks : List Int) : List Bra := [⟨insN ks, hz, 0, 0⟩]
theorem ris_pw {l : List Int} (h : RisI l) : l.Pairwise (· < ·) := by
  rw [List.pairwise_iff_getElem]
  intro i j hi hj hij
  have := ris_lt h (j - i - 1) i l[i] l[j] (by simp [hi]) (by rw [show i + 1 + (j - i - 1) = j by omega]; simp [hj])
  exact this
theorem fold_ris : ∀ (l K : List Int), (K ++ l).Pairwise (· < ·) → l.foldl insI K = K ++ l
  | [], K, _ => by simp
  | a :: r, K, h => by
    have hlt : ∀ y ∈ K, y < a := fun y hy => (List.pairwise_append.1 h).2.2 y hy a (by simp)
    have hp : posI K a = K.length := by
      refine posI_eq (Nat.le_refl _) ?_ ?_
      · intro k y _ hy; exact hlt y (List.mem_of_getElem? hy)
      · intro y hy; simp at hy
    have e : insI K a = K ++ [a] := by
      unfold insI
      rw [hp, List.take_length, List.drop_length]
    rw [List.foldl_cons, e, fold_ris r (K ++ [a]) (by simpa using h)]
    simp
theorem keys_ris {ks : List Int} (h1 : 1 ≤ ks.length) (h2 : ks.length ≤ 16) (h : RisI ks) : KeysOK ks ∧ insN ks = ks := by
  have hp := ris_pw h
  have he := ins_ris h
  exact ⟨⟨h1, h2, .inr h, by rw [he]; exact h, hp.imp (fun h => by omega), by rw [he, fold_ris ks [] (by simpa using hp)]; rfl⟩, he⟩
theorem ris_one (a : Int) : RisI [a] := by
  intro i x y h1 h2
  simp at h2
theorem keys_one (a : Int) : KeysOK [a] ∧ insN [a] = [a] := keys_ris (by simp) (by simp) (ris_one a)
theorem ris_two {a b : Int} (h : a < b) : RisI [a, b] := by
  intro i x y h1 h2
  cases i with
  | zero => simp at h1 h2; omega
  | succ i => simp at h2
theorem keys_two {a b : Int} (h : a ≠ b) : KeysOK [a, b] := by
  rcases (by omega : a < b ∨ b < a) with g | g
  · exact (keys_ris (by simp) (by simp) (ris_two g)).1
  · have e : insN [a, b] = [b, a] := by rw [ins_two, if_pos g]
    refine ⟨by simp, by simp, .inl (by simp), by rw [e]; exact ris_two g, by simp [h], ?_⟩
    rw [e]
    have g' : ¬ a < b := by omega
    simp [insI, posI, g', g, Int.le_of_lt g]

set_option maxHeartbeats 4000000 in
theorem CompI_ok (l : List Int) (n : Nat) (hl : l.length = n) (h1 : 1 ≤ n) (h2 : n ≤ 1000) (h : RisI l) : ECalls Tryz.prog 78 [.v (.c (.row 0 n))] [.row 3 1 (intv l)] fun y H' => H' = [some (.row 3 1 (intv l))] ∧ y = .v (.c (.row 0 n)) := by
  refine ecalls k_CompI ?_
  simp [c_CompI, I]
  by_cases c1 : n < 2
  · have c1' : (n : Int) < 2 := by omega
    simp [c1, c1']
    exact fin [] (by decide) rfl rfl (by simp [objsOut, show List.range 1 = [0] from rfl]) ⟨rfl, rfl⟩
  have c1' : ¬ (n : Int) < 2 := by omega
  simp [c1, c1']
  refine eloop (α := Nat) (fun i => 1 ≤ i ∧ i ≤ n) (fun i => n - i) (fun i => [.v (.c (.row 0 n)), .any, .any, I .i64 i, .any, .any, .any, .any, .any, .any, .any, .any, .any, .any, .any, .any, .any, .any, .any, .any, .any, .any, .any, .any, .any, .any, .any, .any, .any, .any, .any, .any, .any, .any, .any, .any, .any, .any, .any, .any, .any, .any, .any, .any, .any, .any, .any, .any, .any, .any, .any, .any, .any, .any, .any, .any, .any, .any, .any, .any, .any]) (fun _ => [some (.row 3 1 (intv l))]) 1 [0]
    ⟨by omega, by omega⟩ (by simp [I]) (by simp) (by simp) (by simp) (by simp) ?_
  rintro i ⟨hi1, hi2⟩
  by_cases hlt : i < n
  · have hli : (i : Int) < n := by omega
    have hll : i < l.length := by omega
    obtain ⟨p, rfl⟩ : ∃ p, i = p + 1 := ⟨i - 1, by omega⟩
    obtain ⟨a, ha⟩ : ∃ a, l[p]? = some a := ⟨l[p], by simp [show p < l.length by omega]⟩
    obtain ⟨b, hb⟩ : ∃ b, l[p + 1]? = some b := ⟨l[p + 1], by simp [hll]⟩
    have hab : ¬ b = a := by have := h p a b ha hb; omega
    have wj : IntKind.i64.wrap (((p + 1 : Nat) : Int) - 1) = (p : Int) := by rw [wrap_i64 (by omega) (by omega)]; omega
    have w1 : IntKind.i64.wrap (((p + 1 : Nat) : Int) + 1) = ((p + 1 + 1 : Nat) : Int) := wrap_i64 (by omega) (by omega)
    have ga : ∀ h2, (intv l)[p]'h2 = [.lit (.int .i64 a)] := fun h2 => by rw [intv_at (by omega), ha]; rfl
    have gb : ∀ h2, (intv l)[p + 1]'h2 = [.lit (.int .i64 b)] := fun h2 => by rw [intv_at (by omega), hb]; rfl
    have hpl : p < l.length := by omega
    have hpn : p < n := by omega
    have hpi : (p : Int) < n := by omega
    generalize hje : p + 1 = j at *
    have n0 : ¬ ((j : Int) < 0) := by omega
    have n1 : ¬ ((p : Int) < 0) := by omega
    simp [I, hli, hlt, wj, ga, gb, hpl, hll, hpn, hpi, n0, n1, hab, hl]
    simp [w1, -Int.natCast_add]
    exact round (j + 1) [0] ⟨by omega, by omega⟩ (by omega) (by simp [I]) (by simp) (by simp) (by simp) (by simp)
  · have h3' : i = n := by omega
    subst h3'
    simp [I]
    exact fin [] (by decide) rfl rfl (by simp [objsOut, show List.range 1 = [0] from rfl]) ⟨rfl, rfl⟩

set_option maxHeartbeats 4000000 in
theorem PAll_ok (ks : List Int) (h : KeysOK ks) : ECalls Tryz.prog 36 [IL ks] [] fun y H' => H' = [] ∧ y = CNv (allB ks) := by
  obtain ⟨h1, h2, h3, h4, h5, h6⟩ := h
  have hil : (insN ks).length = ks.length := insN_len ks
  refine ecalls k_PAll ?_
  simp [c_PAll, IL]
  refine call0 (cloneI_ok ks (by omega)) (by simp [IL]) ?_
  rintro y H' ⟨rfl, rfl⟩
  refine ⟨.inl (by simp), by simp, ?_⟩
  simp
  refine callH [32] (SortN_ok ks ks.length rfl h1 h2 h3) (by simp) (by simp) (by simp) (by simp) (by simp) ?_
  rintro y H' ⟨rfl, rfl⟩
  refine ⟨.inl (by simp), by simp, ?_⟩
  simp
  refine callH [32] (CompI_ok (insN ks) ks.length hil h1 (by omega) h4) (by simp) (by simp) (by simp) (by simp) (by simp) ?_
  rintro y H' ⟨rfl, rfl⟩
  refine ⟨.inl (by simp), by simp, ?_⟩
  have tk : List.take ks.length (intv (insN ks)) = intv (insN ks) := List.take_of_length_le (by simp [hil])
  simp [tk, frzAll_hc]
  exact fin [] (by decide) rfl rfl rfl ⟨rfl, rfl⟩

end Go.Proofs.YtejjhgdnmknejaaGreatDoor

namespace Go.Proofs.YtejjhgdnmknejaaGreatDoor
open Go Go.EW
set_option linter.unusedSimpArgs false
set_option linter.unusedVariables false

/-! ### slices of nothing within rows, that are nil -/
def gN : FV → FV
  | .sl _ [] => .lit (.slice none 0 0)
  | x => x
theorem fr_g {Φ : Nat → Prop} {w : World} {es : Nat} {ys : List (List FV)} {v : Value} (h : FR Φ w (.sl es (ys.map (·.map gN))) v) : FR Φ w (.sl es ys) v := by
  generalize hx : ys.map (·.map gN) = xs at h
  have hlen : xs.length = ys.length := by rw [← hx]; simp
  cases h with
  | emp => 
    have : ys = [] := by simpa using hx
    subst this
    exact FR.emp _ _ _
  | sl es xs b off cap vs hb h0 hl hn hcap hcell hfr =>
    rw [hlen]
    refine .sl es ys b off cap vs hb h0 ?_ (by rw [hn, hlen]) (by omega) hcell ?_
    · intro y hy
      have := hl (y.map gN) (by rw [← hx]; exact List.mem_map.2 ⟨y, hy, rfl⟩)
      simpa using this
    · intro j y u hy hu
      have e : xs.flatten = ys.flatten.map gN := by rw [← hx, List.map_flatten]
      have h1 := hfr j (gN y) u (by rw [e, List.getElem?_map, hy]; rfl) hu
      unfold gN at h1
      split at h1
      · cases h1
        exact FR.emp _ none 0
      · exact h1
theorem ecalls_nlG {P : Program} {f : FuncId} {a c : EC} {ys : List (List FV)} {rest : List EV} {H : List EO} {post : EV → List (Option EO) → Prop} (h : ECalls P f (.v (.agg [a, .fz (.sl 35 ys), c]) :: rest) H post) :
    ECalls P f (.v (.agg [a, .fz (.sl 35 (ys.map (·.map gN))), c]) :: rest) H post := by
  intro ρ Φ w vals r' ha
  refine h ρ Φ w vals r' ?_
  obtain ⟨u, us, rfl, h1, h2⟩ := ha.cons_left
  refine All2.cons ?_ h2
  obtain ⟨vs, rfl, hv⟩ := h1
  refine ⟨vs, rfl, by simpa using hv.1, ?_⟩
  intro i x y hx hy
  rcases i with _ | _ | _ | i
  · exact hv.2 0 x y hx hy
  · have := hv.2 1 _ y rfl hy
    simp at hx; subst hx
    exact fr_g this
  · exact hv.2 2 x y hx hy
  · simp at hx
theorem weak_nlG {m n o k : Nat} {T : List EV} {H : Nat → Option EO} {tb : TypeId} {cells : List EC} {es : Nat} (ys : List (List FV)) (ho : H o = some (.box tb cells)) (hc : cells[k]? = some (.fz (.sl es (ys.map (·.map gN))))) :
    Weak m ⟨T, H, n⟩ ⟨T, upd H o (some (.box tb (cells.set k (.fz (.sl es ys))))), n⟩ := by
  rintro w0 ρ0 Φ0 a w ⟨⟨X, rfl, r, hall, hd, hU⟩, hm⟩
  have live : ∀ i x, upd H o (some (.box tb (cells.set k (.fz (.sl es ys))))) i = some x → ∃ x', H i = some x' ∧ ((i = o ∧ x = .box tb (cells.set k (.fz (.sl es ys)))) ∨ x' = x) := by
    intro i x hx
    by_cases h : i = o
    · subst h; rw [upd_same] at hx; exact ⟨_, ho, .inl ⟨rfl, (Option.some.inj hx).symm⟩⟩
    · rw [upd_ne _ _ _ h] at hx; exact ⟨x, hx, .inr rfl⟩
  have hbx : ∀ i x x', upd H o (some (.box tb (cells.set k (.fz (.sl es ys))))) i = some x → H i = some x' → True := fun _ _ _ _ _ => trivial
  refine ⟨⟨X, rfl, ⟨r.os, r.tape, r.output, r.size, r.block, r.pin, ?_, ?_, ?_, ?_, r.fro, r.phi, r.glob⟩, hall, hd, hU⟩, hm⟩
  · intro i x hx
    obtain ⟨x', hx', h⟩ := live i x hx
    obtain ⟨hu, hor⟩ := r.obj i x' hx'
    refine ⟨hu, ?_⟩
    rcases h with ⟨rfl, rfl⟩ | rfl
    · rw [ho] at hx'
      obtain rfl := Option.some.inj hx'
      obtain ⟨b, c, q1, q2, q3⟩ := hor
      refine ⟨b, c, q1, q2, by simpa using q3.1, ?_⟩
      intro j y v hy hv
      rw [List.getElem?_set] at hy
      split at hy
      · rename_i hj
        subst hj
        split at hy
        · obtain rfl := Option.some.inj hy
          exact fr_g (q3.2 k _ v hc hv)
        · simp at hy
      · exact q3.2 j y v hy hv
    · exact hor
  · intro i i' x x' b h1 h2
    obtain ⟨_, q1, _⟩ := live i x h1
    obtain ⟨_, q2, _⟩ := live i' x' h2
    exact r.inj i i' _ _ b q1 q2
  · intro i x b h1
    obtain ⟨_, q1, _⟩ := live i x h1
    exact r.own i _ b q1
  · intro i x b h1
    obtain ⟨_, q1, _⟩ := live i x h1
    exact r.dis i _ b q1
theorem hf_gN (l : List UInt8) (r : List FV) : (hf l ++ r).map gN = hf l ++ r.map gN := by
  have : (hf l).map gN = hf l := by simp [hf, gN]
  rw [List.map_append, this]

end Go.Proofs.YtejjhgdnmknejaaGreatDoor

namespace Go.Proofs.YtejjhgdnmknejaaGreatDoor
open Go Go.EW
set_option linter.unusedSimpArgs false
set_option linter.unusedVariables false

@[simp] def l_TxTotal_1 (_ : Unit) : List EOp := [⟨0, (some 1), none, (.q (.box 71 (.t 0))), []⟩, ⟨1, (some 2), none, (.q (.mov (.k (.int .i64 0)))), []⟩, ⟨2, (some 3), none, (.q (.mov (.k .nilIface))), []⟩]
@[simp] def b_TxTotal_2 (_ : Unit) : EB := reg0 (hid l_TxTotal_1) 3
@[simp] def l_TxTotal_3 (_ : Unit) : List EOp := [⟨0, (some 4), none, (.q (.mov (.k (.int .i64 0)))), []⟩]
@[simp] def b_TxTotal_4 (_ : Unit) : EB := reg0 (hid l_TxTotal_3) 1
@[simp] def l_TxTotal_5 (_ : Unit) : List EOp := [⟨0, (some 7), none, (.q (.fad 2 (.t 1))), []⟩, ⟨1, (some 8), none, (.q (.ldc (.t 7))), []⟩, ⟨2, (some 9), none, (.q (.len (.t 8))), []⟩, ⟨3, (some 10), none, (.q (.mov (.k (.int .i64 0)))), []⟩]
@[simp] def b_TxTotal_6 (_ : Unit) : EB := reg0 (hid l_TxTotal_5) 4
@[simp] def l_TxTotal_7 (_ : Unit) : List EOp := [⟨0, (some 11), none, (.q (.bin .lss (.t 10) (.t 9))), []⟩]
@[simp] def b_TxTotal_8 (_ : Unit) : EB := reg0 (hid l_TxTotal_7) 1
@[simp] def b_TxTotal_9 (_ : Unit) : EB := .cond (.t 11) .skip (.exit 0)
@[simp] def l_TxTotal_10 (_ : Unit) : List EOp := [⟨0, (some 12), none, (.q (.isl 2 (.t 8) (.t 10))), []⟩, ⟨1, (some 13), none, (.q (.lda 2 (.t 12))), []⟩, ⟨2, (some 6), none, (.q (.alloc 112 [(.int .i64 0), (.slice none 0 0)])), []⟩, ⟨3, none, none, (.fz (.sto 2 (.t 6) (.t 13))), []⟩]
@[simp] def b_TxTotal_11 (_ : Unit) : EB := reg0 (hid l_TxTotal_10) 4
@[simp] def l_TxTotal_13 (_ : Unit) : List EOp := [⟨6, (some 20), (some (17, false)), (.q (.mov (.t 4))), []⟩, ⟨7, (some 21), (some (17, false)), (.q (.bin .sub (.k (.int .i64 1125899906842624)) (.t 20))), []⟩, ⟨8, (some 22), (some (17, false)), (.q (.bin .gtr (.t 19) (.t 21))), []⟩, ⟨9, (some 23), none, (.q (.pick (.t 17) (.k (.bool true)) (.t 22))), []⟩]
@[simp] def l_TxTotal_12 (_ : Unit) : List EOp := ⟨0, (some 14), none, (.q (.fad 0 (.t 6))), []⟩ :: ⟨1, (some 15), none, (.q (.ldc (.t 14))), []⟩ :: ⟨2, (some 16), none, (.q (.bin .lss (.t 15) (.k (.int .i64 0)))), []⟩ :: ⟨3, (some 17), none, (.q (.mov (.t 16))), []⟩ :: ⟨4, (some 18), (some (17, false)), (.q (.fad 0 (.t 6))), []⟩ :: ⟨5, (some 19), (some (17, false)), (.q (.ldc (.t 18))), []⟩ :: hid l_TxTotal_13
@[simp] def b_TxTotal_14 (_ : Unit) : EB := reg0 (hid l_TxTotal_12) 10
@[simp] def l_TxTotal_15 (_ : Unit) : List EOp := [⟨0, (some 24), none, (.q (.mki 132 (.k (.int .i64 5)))), []⟩, ⟨1, (some 2), none, (.q (.mov (.k (.int .i64 0)))), []⟩, ⟨2, (some 3), none, (.q (.mov (.t 24))), []⟩]
@[simp] def b_TxTotal_16 (_ : Unit) : EB := reg0 (hid l_TxTotal_15) 3
@[simp] def b_TxTotal_17 (_ : Unit) : EB := .seq (hid b_TxTotal_16) .ret
@[simp] def b_TxTotal_18 (_ : Unit) : EB := .cond (.t 23) (hid b_TxTotal_17) .skip
@[simp] def b_TxTotal_19 (_ : Unit) : EB := .seq (hid b_TxTotal_14) (hid b_TxTotal_18)
@[simp] def l_TxTotal_20 (_ : Unit) : List EOp := [⟨0, (some 25), none, (.q (.mov (.t 4))), []⟩, ⟨1, (some 26), none, (.q (.fad 0 (.t 6))), []⟩, ⟨2, (some 27), none, (.q (.ldc (.t 26))), []⟩, ⟨3, (some 28), none, (.q (.bin .add (.t 25) (.t 27))), []⟩, ⟨4, (some 4), none, (.q (.mov (.t 28))), []⟩]
@[simp] def b_TxTotal_21 (_ : Unit) : EB := reg0 (hid l_TxTotal_20) 5
@[simp] def b_TxTotal_22 (_ : Unit) : EB := .seq (hid b_TxTotal_19) (hid b_TxTotal_21)
@[simp] def b_TxTotal_23 (_ : Unit) : EB := .seq (hid b_TxTotal_11) (hid b_TxTotal_22)
@[simp] def b_TxTotal_24 (_ : Unit) : EB := .block 1 (hid b_TxTotal_23)
@[simp] def l_TxTotal_25 (_ : Unit) : List EOp := [⟨0, (some 29), none, (.q (.bin .add (.t 10) (.k (.int .i64 1)))), []⟩, ⟨1, (some 10), none, (.q (.mov (.t 29))), []⟩]
@[simp] def b_TxTotal_26 (_ : Unit) : EB := reg0 (hid l_TxTotal_25) 2
@[simp] def b_TxTotal_27 (_ : Unit) : EB := .seq (hid b_TxTotal_24) (hid b_TxTotal_26)
@[simp] def b_TxTotal_28 (_ : Unit) : EB := .seq (hid b_TxTotal_9) (hid b_TxTotal_27)
@[simp] def b_TxTotal_29 (_ : Unit) : EB := .seq (hid b_TxTotal_8) (hid b_TxTotal_28)
@[simp] def b_TxTotal_30 (_ : Unit) : EB := .loop (hid b_TxTotal_29)
@[simp] def b_TxTotal_31 (_ : Unit) : EB := .block 0 (hid b_TxTotal_30)
@[simp] def b_TxTotal_32 (_ : Unit) : EB := .seq (hid b_TxTotal_6) (hid b_TxTotal_31)
@[simp] def l_TxTotal_33 (_ : Unit) : List EOp := [⟨0, (some 30), none, (.q (.mov (.t 4))), []⟩, ⟨1, (some 2), none, (.q (.mov (.t 30))), []⟩, ⟨2, (some 3), none, (.q (.mov (.k .nilIface))), []⟩]
@[simp] def b_TxTotal_34 (_ : Unit) : EB := reg0 (hid l_TxTotal_33) 3
@[simp] def b_TxTotal_35 (_ : Unit) : EB := .seq (hid b_TxTotal_34) .ret
@[simp] def b_TxTotal_36 (_ : Unit) : EB := .seq (hid b_TxTotal_32) (hid b_TxTotal_35)
@[simp] def b_TxTotal_37 (_ : Unit) : EB := .seq (hid b_TxTotal_4) (hid b_TxTotal_36)
@[simp] def b_TxTotal_38 (_ : Unit) : EB := .seq (hid b_TxTotal_2) (hid b_TxTotal_37)
def c_TxTotal : EB × List QOp × Nat := ((hid b_TxTotal_38), [(.mov (.t 2)), (.mov (.t 3))], 31)
theorem k_TxTotal : cfun Tryz.prog 118 = some c_TxTotal := by kernel_rfl

@[simp] def l_TxCheck_1 (_ : Unit) : List EOp := [⟨0, (some 1), none, (.q (.box 71 (.t 0))), []⟩, ⟨1, (some 2), none, (.q (.mov (.k .nilIface))), []⟩]
@[simp] def b_TxCheck_2 (_ : Unit) : EB := reg0 (hid l_TxCheck_1) 2
@[simp] def l_TxCheck_3 (_ : Unit) : List EOp := [⟨0, (some 3), none, (.q (.mov (.k (.func (.func 113) #[] #[])))), []⟩]
@[simp] def b_TxCheck_4 (_ : Unit) : EB := reg0 (hid l_TxCheck_3) 1
@[simp] def l_TxCheck_9 (_ : Unit) : List EOp := [⟨24, (some 36), (some (34, false)), (.q (.ldc (.t 35))), []⟩, ⟨25, (some 37), (some (34, false)), (.q (.mov (.t 3))), []⟩, ⟨26, (some 38), (some (34, false)), (.call 116 [(.t 36), (.t 37)]), []⟩, ⟨27, (some 39), none, (.q (.pick (.t 34) (.k (.bool true)) (.t 38))), []⟩]
@[simp] def l_TxCheck_8 (_ : Unit) : List EOp := ⟨18, (some 30), (some (27, false)), (.q (.len (.t 29))), []⟩ :: ⟨19, (some 31), (some (27, false)), (.call 115 [(.t 30)]), []⟩ :: ⟨20, (some 32), (some (27, false)), (.q (.un .not (.t 31))), []⟩ :: ⟨21, (some 33), none, (.q (.pick (.t 27) (.k (.bool true)) (.t 32))), []⟩ :: ⟨22, (some 34), none, (.q (.mov (.t 33))), []⟩ :: ⟨23, (some 35), (some (34, false)), (.q (.fad 1 (.t 1))), []⟩ :: hid l_TxCheck_9
@[simp] def l_TxCheck_7 (_ : Unit) : List EOp := ⟨12, (some 24), (some (20, false)), (.call 115 [(.t 23)]), []⟩ :: ⟨13, (some 25), (some (20, false)), (.q (.un .not (.t 24))), []⟩ :: ⟨14, (some 26), none, (.q (.pick (.t 20) (.k (.bool true)) (.t 25))), []⟩ :: ⟨15, (some 27), none, (.q (.mov (.t 26))), []⟩ :: ⟨16, (some 28), (some (27, false)), (.q (.fad 2 (.t 1))), []⟩ :: ⟨17, (some 29), (some (27, false)), (.q (.ldc (.t 28))), []⟩ :: hid l_TxCheck_8
@[simp] def l_TxCheck_6 (_ : Unit) : List EOp := ⟨6, (some 18), (some (15, false)), (.q (.bin .gtr (.t 17) (.k (.int .i64 1099511627776)))), []⟩ :: ⟨7, (some 19), none, (.q (.pick (.t 15) (.k (.bool true)) (.t 18))), []⟩ :: ⟨8, (some 20), none, (.q (.mov (.t 19))), []⟩ :: ⟨9, (some 21), (some (20, false)), (.q (.fad 1 (.t 1))), []⟩ :: ⟨10, (some 22), (some (20, false)), (.q (.ldc (.t 21))), []⟩ :: ⟨11, (some 23), (some (20, false)), (.q (.len (.t 22))), []⟩ :: hid l_TxCheck_7
@[simp] def l_TxCheck_5 (_ : Unit) : List EOp := ⟨0, (some 12), none, (.q (.fad 0 (.t 1))), []⟩ :: ⟨1, (some 13), none, (.q (.ldc (.t 12))), []⟩ :: ⟨2, (some 14), none, (.q (.bin .lss (.t 13) (.k (.int .i64 0)))), []⟩ :: ⟨3, (some 15), none, (.q (.mov (.t 14))), []⟩ :: ⟨4, (some 16), (some (15, false)), (.q (.fad 0 (.t 1))), []⟩ :: ⟨5, (some 17), (some (15, false)), (.q (.ldc (.t 16))), []⟩ :: hid l_TxCheck_6
@[simp] def b_TxCheck_10 (_ : Unit) : EB := reg0 (hid l_TxCheck_5) 28
@[simp] def l_TxCheck_11 (_ : Unit) : List EOp := [⟨0, (some 40), none, (.q (.mki 132 (.k (.int .i64 4)))), []⟩, ⟨1, (some 2), none, (.q (.mov (.t 40))), []⟩]
@[simp] def b_TxCheck_12 (_ : Unit) : EB := reg0 (hid l_TxCheck_11) 2
@[simp] def b_TxCheck_13 (_ : Unit) : EB := .seq (hid b_TxCheck_12) .ret
@[simp] def b_TxCheck_14 (_ : Unit) : EB := .cond (.t 39) (hid b_TxCheck_13) .skip
@[simp] def b_TxCheck_15 (_ : Unit) : EB := .seq (hid b_TxCheck_10) (hid b_TxCheck_14)
@[simp] def l_TxCheck_16 (_ : Unit) : List EOp := [⟨0, (some 41), none, (.mp (.new [(32, .u8), (1, .i64)]) []), []⟩, ⟨1, (some 4), none, (.q (.mov (.t 41))), []⟩]
@[simp] def b_TxCheck_17 (_ : Unit) : EB := reg0 (hid l_TxCheck_16) 2
@[simp] def l_TxCheck_18 (_ : Unit) : List EOp := [⟨0, (some 42), none, (.q (.fad 1 (.t 1))), []⟩, ⟨1, (some 43), none, (.q (.ldc (.t 42))), []⟩, ⟨2, (some 44), none, (.q (.len (.t 43))), []⟩, ⟨3, (some 45), none, (.q (.mov (.k (.int .i64 0)))), []⟩]
@[simp] def b_TxCheck_19 (_ : Unit) : EB := reg0 (hid l_TxCheck_18) 4
@[simp] def l_TxCheck_20 (_ : Unit) : List EOp := [⟨0, (some 46), none, (.q (.bin .lss (.t 45) (.t 44))), []⟩]
@[simp] def b_TxCheck_21 (_ : Unit) : EB := reg0 (hid l_TxCheck_20) 1
@[simp] def b_TxCheck_22 (_ : Unit) : EB := .cond (.t 46) .skip (.exit 0)
@[simp] def l_TxCheck_23 (_ : Unit) : List EOp := [⟨0, (some 47), none, (.q (.isl 35 (.t 43) (.t 45))), []⟩, ⟨1, (some 48), none, (.q (.lda 35 (.t 47))), []⟩, ⟨2, (some 6), none, (.q (.alloc 146 (zU8 ++ [(.int .i64 0), (.int .i64 0), (.slice none 0 0)]))), []⟩, ⟨3, none, none, (.fz (.sto 35 (.t 6) (.t 48))), []⟩]
@[simp] def b_TxCheck_24 (_ : Unit) : EB := reg0 (hid l_TxCheck_23) 4
@[simp] def l_TxCheck_26 (_ : Unit) : List EOp := [⟨6, (some 55), none, (.q (.ext 1 (.t 54))), []⟩, ⟨7, none, none, (.mp .sto [(.t 49), (.t 55), (.t 53)]), []⟩]
@[simp] def l_TxCheck_25 (_ : Unit) : List EOp := ⟨0, (some 49), none, (.q (.mov (.t 4))), []⟩ :: ⟨1, (some 50), none, (.q (.fad 0 (.t 6))), []⟩ :: ⟨2, (some 51), none, (.q (.lda 33 (.t 50))), []⟩ :: ⟨3, (some 52), none, (.q (.mget [(32, .u8), (1, .i64)] .i64 (.t 49) (.t 51))), []⟩ :: ⟨4, (some 53), none, (.q (.bin .add (.t 52) (.k (.int .i64 1)))), []⟩ :: ⟨5, (some 54), none, (.mp (.ent [(32, .u8), (1, .i64)] .i64) [(.t 49), (.t 51)]), [4]⟩ :: hid l_TxCheck_26
@[simp] def b_TxCheck_27 (_ : Unit) : EB := reg1 (hid l_TxCheck_25) 8
@[simp] def b_TxCheck_28 (_ : Unit) : EB := .seq (hid b_TxCheck_24) (hid b_TxCheck_27)
@[simp] def b_TxCheck_29 (_ : Unit) : EB := .block 1 (hid b_TxCheck_28)
@[simp] def l_TxCheck_30 (_ : Unit) : List EOp := [⟨0, (some 56), none, (.q (.bin .add (.t 45) (.k (.int .i64 1)))), []⟩, ⟨1, (some 45), none, (.q (.mov (.t 56))), []⟩]
@[simp] def b_TxCheck_31 (_ : Unit) : EB := reg0 (hid l_TxCheck_30) 2
@[simp] def b_TxCheck_32 (_ : Unit) : EB := .seq (hid b_TxCheck_29) (hid b_TxCheck_31)
@[simp] def b_TxCheck_33 (_ : Unit) : EB := .seq (hid b_TxCheck_22) (hid b_TxCheck_32)
@[simp] def b_TxCheck_34 (_ : Unit) : EB := .seq (hid b_TxCheck_21) (hid b_TxCheck_33)
@[simp] def b_TxCheck_35 (_ : Unit) : EB := .loop (hid b_TxCheck_34)
@[simp] def b_TxCheck_36 (_ : Unit) : EB := .block 0 (hid b_TxCheck_35)
@[simp] def b_TxCheck_37 (_ : Unit) : EB := .seq (hid b_TxCheck_19) (hid b_TxCheck_36)
@[simp] def l_TxCheck_38 (_ : Unit) : List EOp := [⟨0, (some 57), none, (.q (.mov (.t 4))), []⟩, ⟨1, (some 58), none, (.mp .len [(.t 57)]), []⟩, ⟨2, (some 59), none, (.q (.fad 1 (.t 1))), []⟩, ⟨3, (some 60), none, (.q (.ldc (.t 59))), []⟩, ⟨4, (some 61), none, (.q (.len (.t 60))), []⟩, ⟨5, (some 62), none, (.q (.bin .neq (.t 58) (.t 61))), []⟩]
@[simp] def b_TxCheck_39 (_ : Unit) : EB := reg0 (hid l_TxCheck_38) 6
@[simp] def l_TxCheck_40 (_ : Unit) : List EOp := [⟨0, (some 63), none, (.q (.mki 132 (.k (.int .i64 9)))), []⟩, ⟨1, (some 2), none, (.q (.mov (.t 63))), []⟩]
@[simp] def b_TxCheck_41 (_ : Unit) : EB := reg0 (hid l_TxCheck_40) 2
@[simp] def b_TxCheck_42 (_ : Unit) : EB := .seq (hid b_TxCheck_41) .ret
@[simp] def b_TxCheck_43 (_ : Unit) : EB := .cond (.t 62) (hid b_TxCheck_42) .skip
@[simp] def b_TxCheck_44 (_ : Unit) : EB := .seq (hid b_TxCheck_39) (hid b_TxCheck_43)
@[simp] def l_TxCheck_45 (_ : Unit) : List EOp := [⟨0, (some 64), none, (.q (.fad 2 (.t 1))), []⟩, ⟨1, (some 65), none, (.q (.ldc (.t 64))), []⟩, ⟨2, (some 66), none, (.q (.len (.t 65))), []⟩, ⟨3, (some 67), none, (.q (.mov (.k (.int .i64 0)))), []⟩]
@[simp] def b_TxCheck_46 (_ : Unit) : EB := reg0 (hid l_TxCheck_45) 4
@[simp] def l_TxCheck_47 (_ : Unit) : List EOp := [⟨0, (some 68), none, (.q (.bin .lss (.t 67) (.t 66))), []⟩]
@[simp] def b_TxCheck_48 (_ : Unit) : EB := reg0 (hid l_TxCheck_47) 1
@[simp] def b_TxCheck_49 (_ : Unit) : EB := .cond (.t 68) .skip (.exit 2)
@[simp] def l_TxCheck_50 (_ : Unit) : List EOp := [⟨0, (some 69), none, (.q (.isl 2 (.t 65) (.t 67))), []⟩, ⟨1, (some 70), none, (.q (.lda 2 (.t 69))), []⟩, ⟨2, (some 8), none, (.q (.alloc 112 [(.int .i64 0), (.slice none 0 0)])), []⟩, ⟨3, none, none, (.fz (.sto 2 (.t 8) (.t 70))), []⟩]
@[simp] def b_TxCheck_51 (_ : Unit) : EB := reg0 (hid l_TxCheck_50) 4
@[simp] def l_TxCheck_52 (_ : Unit) : List EOp := [⟨0, (some 71), none, (.q (.lda 2 (.t 8))), []⟩, ⟨1, (some 72), none, (.call 117 [(.t 71)]), []⟩, ⟨2, (some 9), none, (.q (.mov (.t 72))), []⟩]
@[simp] def b_TxCheck_53 (_ : Unit) : EB := reg0 (hid l_TxCheck_52) 3
@[simp] def l_TxCheck_54 (_ : Unit) : List EOp := [⟨0, (some 73), none, (.q (.mov (.t 9))), []⟩, ⟨1, (some 74), none, (.q (.eqi true (.t 73))), []⟩]
@[simp] def b_TxCheck_55 (_ : Unit) : EB := reg0 (hid l_TxCheck_54) 2
@[simp] def l_TxCheck_56 (_ : Unit) : List EOp := [⟨0, (some 75), none, (.q (.mov (.t 9))), []⟩, ⟨1, (some 2), none, (.q (.mov (.t 75))), []⟩]
@[simp] def b_TxCheck_57 (_ : Unit) : EB := reg0 (hid l_TxCheck_56) 2
@[simp] def b_TxCheck_58 (_ : Unit) : EB := .seq (hid b_TxCheck_57) .ret
@[simp] def b_TxCheck_59 (_ : Unit) : EB := .cond (.t 74) (hid b_TxCheck_58) .skip
@[simp] def b_TxCheck_60 (_ : Unit) : EB := .seq (hid b_TxCheck_55) (hid b_TxCheck_59)
@[simp] def b_TxCheck_61 (_ : Unit) : EB := .seq (hid b_TxCheck_53) (hid b_TxCheck_60)
@[simp] def b_TxCheck_62 (_ : Unit) : EB := .seq (hid b_TxCheck_51) (hid b_TxCheck_61)
@[simp] def b_TxCheck_63 (_ : Unit) : EB := .block 3 (hid b_TxCheck_62)
@[simp] def l_TxCheck_64 (_ : Unit) : List EOp := [⟨0, (some 76), none, (.q (.bin .add (.t 67) (.k (.int .i64 1)))), []⟩, ⟨1, (some 67), none, (.q (.mov (.t 76))), []⟩]
@[simp] def b_TxCheck_65 (_ : Unit) : EB := reg0 (hid l_TxCheck_64) 2
@[simp] def b_TxCheck_66 (_ : Unit) : EB := .seq (hid b_TxCheck_63) (hid b_TxCheck_65)
@[simp] def b_TxCheck_67 (_ : Unit) : EB := .seq (hid b_TxCheck_49) (hid b_TxCheck_66)
@[simp] def b_TxCheck_68 (_ : Unit) : EB := .seq (hid b_TxCheck_48) (hid b_TxCheck_67)
@[simp] def b_TxCheck_69 (_ : Unit) : EB := .loop (hid b_TxCheck_68)
@[simp] def b_TxCheck_70 (_ : Unit) : EB := .block 2 (hid b_TxCheck_69)
@[simp] def b_TxCheck_71 (_ : Unit) : EB := .seq (hid b_TxCheck_46) (hid b_TxCheck_70)
@[simp] def l_TxCheck_73 (_ : Unit) : List EOp := [⟨6, (some 11), none, (.q (.mov (.t 81))), []⟩]
@[simp] def l_TxCheck_72 (_ : Unit) : List EOp := ⟨0, (some 78), none, (.q (.lda 3 (.t 1))), []⟩ :: ⟨1, (some 79), none, (.call 118 [(.t 78)]), []⟩ :: ⟨2, (some 77), none, (.q (.mov (.t 79))), []⟩ :: ⟨3, (some 80), none, (.q (.ext 0 (.t 77))), []⟩ :: ⟨4, (some 81), none, (.q (.ext 1 (.t 77))), []⟩ :: ⟨5, (some 10), none, (.q (.mov (.t 80))), []⟩ :: hid l_TxCheck_73
@[simp] def b_TxCheck_74 (_ : Unit) : EB := reg0 (hid l_TxCheck_72) 7
@[simp] def l_TxCheck_75 (_ : Unit) : List EOp := [⟨0, (some 82), none, (.q (.mov (.t 11))), []⟩, ⟨1, (some 2), none, (.q (.mov (.t 82))), []⟩]
@[simp] def b_TxCheck_76 (_ : Unit) : EB := reg0 (hid l_TxCheck_75) 2
@[simp] def b_TxCheck_77 (_ : Unit) : EB := .seq (hid b_TxCheck_76) .ret
@[simp] def b_TxCheck_78 (_ : Unit) : EB := .seq (hid b_TxCheck_74) (hid b_TxCheck_77)
@[simp] def b_TxCheck_79 (_ : Unit) : EB := .seq (hid b_TxCheck_71) (hid b_TxCheck_78)
@[simp] def b_TxCheck_80 (_ : Unit) : EB := .seq (hid b_TxCheck_44) (hid b_TxCheck_79)
@[simp] def b_TxCheck_81 (_ : Unit) : EB := .seq (hid b_TxCheck_37) (hid b_TxCheck_80)
@[simp] def b_TxCheck_82 (_ : Unit) : EB := .seq (hid b_TxCheck_17) (hid b_TxCheck_81)
@[simp] def b_TxCheck_83 (_ : Unit) : EB := .seq (hid b_TxCheck_15) (hid b_TxCheck_82)
@[simp] def b_TxCheck_84 (_ : Unit) : EB := .seq (hid b_TxCheck_4) (hid b_TxCheck_83)
@[simp] def b_TxCheck_85 (_ : Unit) : EB := .seq (hid b_TxCheck_2) (hid b_TxCheck_84)
def c_TxCheck : EB × List QOp × Nat := ((hid b_TxCheck_85), [(.mov (.t 2))], 83)
theorem k_TxCheck : cfun Tryz.prog 57 = some c_TxCheck := by kernel_rfl


/-- What all outputs have; the error. -/
def totO : Int → List Outp → Int × Nat
  | n, [] => (n, 0)
  | n, o :: r => if o.am < 0 ∨ 1125899906842624 - n < o.am then (0, 5) else totO (n + o.am) r
def ptI (x : Inp) : List Int := x.tx.map (fun b => (b.toNat : Int)) ++ [x.n]
def ddp (l : List (List Int)) : List (List Int) := l.foldl (fun K p => if p ∈ K then K else K ++ [p]) []
def outsE : List Outp → Nat
  | [] => 0
  | o :: r => if ouE o ≠ 0 then ouE o else outsE r
/-- A transaction's error. -/
def chkT (t : Txn) : Nat :=
  if t.lk < 0 ∨ 1099511627776 < t.lk ∨ ¬ (1 ≤ t.ins.length ∧ t.ins.length ≤ 64) ∨ ¬ (1 ≤ t.outs.length ∧ t.outs.length ≤ 64) ∨ t.ins.all inM = false then 4
  else if ¬ (t.ins.map ptI).Nodup then 9
  else if outsE t.outs ≠ 0 then outsE t.outs
  else (totO 0 t.outs).2

/-- Induction from the end. -/
theorem revRec {α : Type} {C : List α → Prop} (h0 : C []) (h1 : ∀ l a, C l → C (l ++ [a])) (l : List α) : C l := by
  rw [← List.reverse_reverse l]
  generalize l.reverse = r
  induction r with
  | nil => exact h0
  | cons a r ih => rw [List.reverse_cons]; exact h1 _ _ ih
theorem ddp_snoc (l : List (List Int)) (p : List Int) : ddp (l ++ [p]) = if p ∈ ddp l then ddp l else ddp l ++ [p] := by
  unfold ddp
  rw [List.foldl_append]
  rfl
theorem mem_ddp (l : List (List Int)) : ∀ p, p ∈ ddp l ↔ p ∈ l := by
  refine revRec (C := fun l => ∀ p, p ∈ ddp l ↔ p ∈ l) (fun p => by simp [ddp]) ?_ l
  · intro l q ih p
    rw [ddp_snoc]
    split
    · rename_i h
      rw [ih p, List.mem_append, List.mem_singleton]
      constructor
      · exact .inl
      · rintro (h' | rfl)
        · exact h'
        · exact (ih p).1 h
    · rw [List.mem_append, List.mem_append, ih p]
theorem ddp_len (l : List (List Int)) : (ddp l).length ≤ l.length ∧ ((ddp l).length = l.length ↔ l.Nodup) := by
  refine revRec (C := fun l => (ddp l).length ≤ l.length ∧ ((ddp l).length = l.length ↔ l.Nodup)) (by simp [ddp]) ?_ l
  · intro l q ih
    rw [ddp_snoc]
    have hn : (l ++ [q]).Nodup ↔ l.Nodup ∧ q ∉ l := by
      rw [List.nodup_append]
      constructor
      · rintro ⟨h1, _, h3⟩
        exact ⟨h1, fun h => h3 q h q (by simp) rfl⟩
      · rintro ⟨h1, h2⟩
        refine ⟨h1, by simp, ?_⟩
        intro a ha b hb
        simp at hb; subst hb
        rintro rfl
        exact h2 ha
    rw [hn]
    split
    · rename_i h
      refine ⟨by simp; omega, ?_⟩
      constructor
      · intro e; simp at e; omega
      · rintro ⟨_, h2⟩; exact absurd ((mem_ddp l q).1 h) h2
    · rename_i h
      simp only [List.length_append, List.length_singleton]
      refine ⟨by omega, ?_⟩
      rw [← ih.2]
      constructor
      · intro e; exact ⟨by omega, fun h' => h ((mem_ddp l q).2 h')⟩
      · rintro ⟨e, _⟩; omega
theorem litK_app : ∀ {ks ks' : List IntKind} {cs cs' : List EC} {a b : List Int}, litK ks cs = some a → litK ks' cs' = some b → litK (ks ++ ks') (cs ++ cs') = some (a ++ b)
  | [], ks', [], cs', a, b, h1, h2 => by simp [litK] at h1; subst h1; exact h2
  | [], ks', c :: cs, cs', a, b, h1, h2 => by simp [litK] at h1
  | k :: ks, ks', [], cs', a, b, h1, h2 => by simp [litK] at h1
  | k :: ks, ks', c :: cs, cs', a, b, h1, h2 => by
    unfold litK at h1
    split at h1
    · simp at *
    · rename_i k1 ks1 k2 n r e1 e2
      simp only [List.cons.injEq] at e1 e2
      obtain ⟨rfl, rfl⟩ := e1
      obtain ⟨rfl, rfl⟩ := e2
      split at h1
      · rename_i hh
        obtain ⟨b', hb', rfl⟩ := Option.map_eq_some_iff.1 h1
        show litK (k :: (ks ++ ks')) (_ :: (cs ++ cs')) = _
        unfold litK
        rw [if_pos hh, litK_app hb' h2]
        rfl
      · simp at h1
    · simp at h1
theorem wf_u8 (b : UInt8) : (Lit.int .u8 (b.toNat : Int)).wf = true := by
  have := b.toNat_lt
  simp [Lit.wf, IntKind.min, IntKind.max, IntKind.signed, IntKind.bits]
  omega
theorem wf_i64 {n : Int} (h : i64 n) : (Lit.int .i64 n).wf = true := by
  unfold i64 at h
  simp [Lit.wf, IntKind.min, IntKind.max, IntKind.signed, IntKind.bits]
  omega
theorem litK_u8 : ∀ (l : List UInt8), litK (List.replicate l.length .u8) (hc l) = some (l.map fun b => (b.toNat : Int))
  | [] => rfl
  | b :: r => by
    show litK (.u8 :: List.replicate r.length .u8) (.fz (.lit (.int .u8 b.toNat)) :: hc r) = _
    unfold litK
    rw [if_pos ⟨rfl, wf_u8 b⟩, litK_u8 r]
    rfl
theorem litK_i64 {n : Int} (h : i64 n) : litK [.i64] [iC n] = some [n] := by
  simp [litK, iC, wf_i64 h]
theorem litK_pt {x : Inp} (h : x.ok) : litK (unrle [(32, .u8), (1, .i64)]) (hc x.tx ++ [iC x.n]) = some (ptI x) := by
  have e : unrle [(32, .u8), (1, .i64)] = List.replicate x.tx.length .u8 ++ [.i64] := by rw [h.1]; rfl
  rw [e]
  exact litK_app (litK_u8 x.tx) (litK_i64 h.2.1)
/-- A map's entries: how often each point was there. -/
def vI (E : List (List Int × Int)) : List (List Int × Value) := E.map fun p => (p.1, Value.int .i64 p.2)
theorem vI_get (k : List Int) : ∀ E, ∃ c, getM (.int .i64 0) k (vI E) = Value.int .i64 c
  | [] => ⟨0, rfl⟩
  | p :: r => by
    obtain ⟨c, hc⟩ := vI_get k r
    by_cases h : p.1 = k
    · exact ⟨p.2, by simp [vI, getM, h]⟩
    · refine ⟨c, ?_⟩
      show getM (.int .i64 0) k ((p.1, Value.int .i64 p.2) :: vI r) = _
      simp only [getM, if_neg h]
      exact hc
theorem vI_ent (k : List Int) : ∀ E, ∃ E', entM (.int .i64 0) k (vI E) = vI E' ∧ E'.map (·.1) = (if k ∈ E.map (·.1) then E.map (·.1) else E.map (·.1) ++ [k]) ∧ idxM k (vI E) < E'.length
  | [] => ⟨[(k, 0)], rfl, by simp, by simp [vI, idxM]⟩
  | p :: r => by
    by_cases h : p.1 = k
    · exact ⟨p :: r, by simp [vI, entM, h], by simp [h], by simp [vI, idxM, h]⟩
    · obtain ⟨E', h1, h2, h3⟩ := vI_ent k r
      refine ⟨p :: E', ?_, ?_, ?_⟩
      · show entM (.int .i64 0) k ((p.1, Value.int .i64 p.2) :: vI r) = _
        simp only [entM, if_neg h, h1]
        rfl
      · simp only [List.map_cons, List.mem_cons, h2, fun e : k = p.1 => h e.symm]
        by_cases hm : k ∈ r.map (·.1)
        · rw [if_pos hm, if_pos (.inr hm)]
        · rw [if_neg hm, if_neg (by rintro (e | e); exact h e.symm; exact hm e)]
          rfl
      · show idxM k ((p.1, Value.int .i64 p.2) :: vI r) < _
        simp only [idxM, if_neg h, List.length_cons]
        omega
theorem vI_put (s : Nat) (c : Int) (E : List (List Int × Int)) : ∃ E', putM s (.int .i64 c) (vI E) = vI E' ∧ E'.map (·.1) = E.map (·.1) := by
  refine ⟨E.modify s fun p => (p.1, c), ?_, ?_⟩
  · unfold putM vI
    apply List.ext_getElem?
    intro i
    simp only [List.getElem?_modify, List.getElem?_map]
    by_cases h : s = i
    · subst h; cases E[s]? <;> simp
    · cases E[i]? <;> simp [h]
  · apply List.ext_getElem?
    intro i
    simp only [List.getElem?_modify, List.getElem?_map]
    by_cases h : s = i
    · subst h; cases E[s]? <;> simp
    · cases E[i]? <;> simp [h]

set_option maxHeartbeats 4000000 in
theorem TxTotal_ok (t : Txn) (ht : t.ok) : ECalls Tryz.prog 118 [TXv t] [] fun y H' => H' = [] ∧ y = .tup [.c (iC (totO 0 t.outs).1), .c (.fz (.lit (errV (totO 0 t.outs).2)))] := by
  obtain ⟨h1, h2, h3, h4, h5⟩ := ht
  obtain ⟨F, hF⟩ : ∃ F, totO 0 t.outs = F := ⟨_, rfl⟩
  rw [hF]
  refine ecalls k_TxTotal ?_
  simp [c_TxTotal, TXv, txC, I, iC]
  refine eloop (α := Nat × Int) (fun a => a.1 ≤ t.outs.length ∧ totO a.2 (t.outs.drop a.1) = F ∧ 0 ≤ a.2 ∧ a.2 ≤ 1125899906842624) (fun a => t.outs.length - a.1)
    (fun a => [.any, .any, .any, .any, I .i64 a.2, .any, .any, .any, .v (.c (.fz (.sl 2 (outv t.outs)))), I .i64 t.outs.length, I .i64 a.1, .any, .any, .any, .any, .any, .any, .any, .any, .any, .any, .any, .any, .any, .any, .any, .any, .any, .any, .any, .any]) (fun _ => []) (0, 0) []
    ⟨by simp, by simpa using hF, by simp, by simp⟩ (by simp [I]) (by simp) (by simp) (by simp) (by simp) ?_
  rintro ⟨i, n⟩ ⟨hi1, hi2, hi3, hi4⟩
  dsimp only at hi1 hi2 hi3 hi4
  simp [I]
  refine alt (fun hlt => ?_) (fun hlt => ?_)
  · have hln : i < t.outs.length := by omega
    obtain ⟨p, hc⟩ : ∃ p, t.outs[i]? = some p := ⟨t.outs[i], by simp [hln]⟩
    have hge : (outv t.outs)[i]'(by simp [hln]) = outF p := by
      have e := outv_get hc
      rw [List.getElem?_eq_getElem (by simp [hln])] at e
      exact Option.some.inj e
    have hpo := h3 p (List.mem_of_getElem? hc)
    have hpa := hpo.1
    unfold i64 at hpa
    rw [drop_cons hc] at hi2
    have w1 : IntKind.i64.wrap ((i : Int) + 1) = ((i + 1 : Nat) : Int) := wrap_i64 (by omega) (by omega)
    have w2 : IntKind.i64.wrap (1125899906842624 - n) = 1125899906842624 - n := wrap_i64 (by omega) (by omega)
    simp [hln, hge, outF, iF]
    by_cases c1 : p.am < 0
    · have c1' : ¬ 0 ≤ p.am := by omega
      have hv : F = (0, 5) := by rw [← hi2]; exact if_pos (.inl c1)
      rw [hv]
      simp [c1, c1', w2]
      exact fin [] (by decide) rfl rfl rfl ⟨rfl, rfl⟩
    have c1' : 0 ≤ p.am := by omega
    by_cases c2 : 1125899906842624 - n < p.am
    · have c2' : ¬ p.am ≤ 1125899906842624 - n := by omega
      have hv : F = (0, 5) := by rw [← hi2]; exact if_pos (.inr c2)
      rw [hv]
      simp [c1, c1', w2, c2, c2']
      exact fin [] (by decide) rfl rfl rfl ⟨rfl, rfl⟩
    have c2' : p.am ≤ 1125899906842624 - n := by omega
    have w3 : IntKind.i64.wrap (n + p.am) = n + p.am := wrap_i64 (by omega) (by omega)
    have hn : totO (n + p.am) (t.outs.drop (i + 1)) = F := by rw [← hi2]; exact (if_neg (by omega)).symm
    simp [c1, c1', w2, c2, c2', w3, w1, -Int.natCast_add]
    exact round (i + 1, n + p.am) [] ⟨by dsimp only; omega, hn, by dsimp only; omega, by dsimp only; omega⟩ (by dsimp only; omega) (by simp [I]) (by simp) (by simp) (by simp) (by simp)
  · have hd : t.outs.drop i = [] := by rw [List.drop_eq_nil_iff]; omega
    rw [hd] at hi2
    rw [← hi2]
    simp
    exact fin [] (by decide) rfl rfl rfl ⟨rfl, rfl⟩

def seenO (E : List (List Int × Int)) : EO := .mp [(32, .u8), (1, .i64)] (vI E)
theorem drop35i (a b c : EC) : List.drop 35 (hc hz ++ [a, b, c]) = [] := by rw [List.drop_eq_nil_iff]; simp [hz]

set_option maxHeartbeats 8000000 in
theorem TxCheck_ok (t : Txn) (ht : t.ok) : ECalls Tryz.prog 57 [TXv t] [] fun y H' => H' = [] ∧ y = .lit (errV (chkT t)) := by
  obtain ⟨h1, h2, h3, h4, h5⟩ := id ht
  have hv4 : (t.lk < 0 ∨ 1099511627776 < t.lk ∨ ¬ (1 ≤ t.ins.length ∧ t.ins.length ≤ 64) ∨ ¬ (1 ≤ t.outs.length ∧ t.outs.length ≤ 64) ∨ t.ins.all inM = false) → chkT t = 4 := fun h => if_pos h
  refine ecalls k_TxCheck ?_
  simp [c_TxCheck, TXv, txC, I, iC]
  by_cases c1 : t.lk < 0
  · have c1' : ¬ 0 ≤ t.lk := by omega
    rw [hv4 (.inl c1)]
    simp [c1, c1']
    exact fin [] (by decide) rfl rfl rfl ⟨rfl, rfl⟩
  have c1' : 0 ≤ t.lk := by omega
  by_cases c2 : 1099511627776 < t.lk
  · have c2' : ¬ t.lk ≤ 1099511627776 := by omega
    rw [hv4 (.inr (.inl c2))]
    simp [c1, c1', c2, c2']
    exact fin [] (by decide) rfl rfl rfl ⟨rfl, rfl⟩
  have c2' : t.lk ≤ 1099511627776 := by omega
  simp [c1, c1', c2, c2', I]
  refine call0 (TxSome_ok (t.ins.length : Int)) (by simp [I]) ?_
  rintro y H' ⟨rfl, rfl⟩
  refine ⟨.inl (by simp), le_ok rfl, ?_⟩
  cases c3 : decide (1 ≤ (t.ins.length : Int) ∧ (t.ins.length : Int) ≤ 64)
  · have c3 := of_decide_eq_false c3
    rw [hv4 (.inr (.inr (.inl (by omega))))]
    simp [I]
    exact fin [] (by decide) rfl rfl rfl ⟨rfl, rfl⟩
  have c3 := of_decide_eq_true c3
  simp [I]
  refine call0 (TxSome_ok (t.outs.length : Int)) (by simp [I]) ?_
  rintro y H' ⟨rfl, rfl⟩
  refine ⟨.inl (by simp), le_ok rfl, ?_⟩
  cases c4 : decide (1 ≤ (t.outs.length : Int) ∧ (t.outs.length : Int) ≤ 64)
  · have c4 := of_decide_eq_false c4
    rw [hv4 (.inr (.inr (.inr (.inl (by omega)))))]
    simp [I]
    exact fin [] (by decide) rfl rfl rfl ⟨rfl, rfl⟩
  have c4 := of_decide_eq_true c4
  simp [I]
  refine call0 (ConIn_ok t.ins h2 h4) (by simp) ?_
  rintro y H' ⟨rfl, rfl⟩
  refine ⟨.inl (by simp), le_ok rfl, ?_⟩
  cases c5 : t.ins.all inM
  · rw [hv4 (.inr (.inr (.inr (.inr c5))))]
    simp [I]
    exact fin [] (by decide) rfl rfl rfl ⟨rfl, rfl⟩
  have hv9 : chkT t = if ¬ (t.ins.map ptI).Nodup then 9 else if outsE t.outs ≠ 0 then outsE t.outs else (totO 0 t.outs).2 := by
    unfold chkT
    rw [if_neg]
    rintro (h | h | h | h | h)
    · exact c1 h
    · exact c2 h
    · omega
    · omega
    · rw [c5] at h; simp at h
  simp [I]
  refine eloop (α := Nat × List (List Int × Int)) (fun a => a.1 ≤ t.ins.length ∧ a.2.map (·.1) = ddp ((t.ins.take a.1).map ptI)) (fun a => t.ins.length - a.1)
    (fun a => [.any, Ptr 0, .any, .any, .v (.c (.mp 1)), .any, .any, .any, .any, .any, .any, .any, .any, .any, .any, .any, .any, .any, .any, .any, .any, .any, .any, .any, .any, .any, .any, .any, .any, .any, .any, .any, .any, .any, .any, .any, .any, .any, .any, .any, .any, .any, .any, .v (.c (.fz (.sl 35 (inpv t.ins)))), I .i64 t.ins.length, I .i64 a.1, .any, .any, .any, .any, .any, .any, .any, .any, .any, .any, .any, .any, .any, .any, .any, .any, .any, .any, .any, .any, .any, .any, .any, .any, .any, .any, .any, .any, .any, .any, .any, .any, .any, .any, .any, .any, .any]) (fun a => [some (.box 71 (txC t)), some (seenO a.2)]) (0, []) [0, 496]
    ⟨by simp, by simp [ddp]⟩ (by simp [I, Ptr]) (by simp [txC, iC, seenO, vI]) (by simp) (by simp) (by simp) ?_
  rintro ⟨i, E⟩ ⟨hi1, hi2⟩
  dsimp only at hi1 hi2
  simp [I, Ptr, txC, iC, seenO]
  refine alt (fun hlt => ?_) (fun hlt => ?_)
  · have hln : i < t.ins.length := by omega
    obtain ⟨p, hcp⟩ : ∃ p, t.ins[i]? = some p := ⟨t.ins[i], by simp [hln]⟩
    have hge : (inpv t.ins)[i]'(by simp [hln]) = inpF p := by
      have e := inpv_get hcp
      rw [List.getElem?_eq_getElem (by simp [hln])] at e
      exact Option.some.inj e
    have hpo := h2 p (List.mem_of_getElem? hcp)
    have l0 := ic_len hpo.1
    have l1 := if_len hpo.1
    have tk := ic_take hpo.1
    have pt := ic_pt hpo.1
    have hkl : (hc p.tx ++ [EC.fz (FV.lit (Value.int IntKind.i64 p.n))]).length = 33 := by simp [hpo.1]
    have lk := litK_pt hpo
    have w1 : IntKind.i64.wrap ((i : Int) + 1) = ((i + 1 : Nat) : Int) := wrap_i64 (by omega) (by omega)
    simp [hln, hge, inpF_fz, l0, l1, tk, pt, drop35i, iC]
    have lk' : litK (unrle [(32, .u8), (1, .i64)]) (EW.hc p.tx ++ [EC.fz (FV.lit (Value.int IntKind.i64 p.n))]) = some (ptI p) := lk
    obtain ⟨c, hg⟩ := vI_get (ptI p) E
    obtain ⟨E', he1, he2, he3⟩ := vI_ent (ptI p) E
    obtain ⟨d, hd⟩ : ∃ d, IntKind.i64.wrap (c + 1) = d := ⟨_, rfl⟩
    obtain ⟨E2, hp1, hp2⟩ := vI_put (idxM (ptI p) (vI E)) d E'
    have hEl : (vI E').length = E'.length := by simp [vI]
    have hkeys : E2.map (·.1) = ddp ((t.ins.take (i + 1)).map ptI) := by
      rw [hp2, he2, hi2, take_s hcp, List.map_append, List.map_singleton, ddp_snoc]
    simp [lk', hg, hd, he1, he3, hEl, hp1, w1, -Int.natCast_add]
    exact round (i + 1, E2) [0, 1] ⟨by dsimp only; omega, by dsimp only; rw [← List.map_take]; exact hkeys⟩ (by dsimp only; omega) (by simp [I, Ptr]) (by simp) (by simp) (by simp) (by simp)
  have hil : i = t.ins.length := by omega
  subst hil
  rw [List.take_length] at hi2
  have hEl : E.length = (ddp (t.ins.map ptI)).length := by rw [← hi2]; simp
  have hvl : (vI E).length = E.length := by simp [vI]
  obtain ⟨d1, d2⟩ := ddp_len (t.ins.map ptI)
  rw [List.length_map] at d1 d2
  simp [hvl]
  by_cases c6 : (t.ins.map ptI).Nodup
  rotate_left
  · have hne : ¬ E.length = t.ins.length := by rw [hEl, d2]; exact c6
    have hne' : ¬ (E.length : Int) = (t.ins.length : Int) := by omega
    rw [hv9, if_pos c6]
    simp [hne, hne']
    exact fin [] (by decide) rfl rfl rfl ⟨rfl, rfl⟩
  have hne : E.length = t.ins.length := by rw [hEl, d2]; exact c6
  have hne' : (E.length : Int) = (t.ins.length : Int) := by omega
  rw [hv9, if_neg (by simpa using c6)]
  obtain ⟨V, hV⟩ : ∃ V, (if outsE t.outs ≠ 0 then outsE t.outs else (totO 0 t.outs).2) = V := ⟨_, rfl⟩
  rw [hV]
  simp [hne, hne', -errV_0]
  refine eloop (α := Nat) (fun i => i ≤ t.outs.length ∧ outsE t.outs = outsE (t.outs.drop i)) (fun i => t.outs.length - i)
    (fun i => [.any, Ptr 0, .any, .any, .any, .any, .any, .any, .any, .any, .any, .any, .any, .any, .any, .any, .any, .any, .any, .any, .any, .any, .any, .any, .any, .any, .any, .any, .any, .any, .any, .any, .any, .any, .any, .any, .any, .any, .any, .any, .any, .any, .any, .any, .any, .any, .any, .any, .any, .any, .any, .any, .any, .any, .any, .any, .any, .any, .any, .any, .any, .any, .any, .any, .any, .v (.c (.fz (.sl 2 (outv t.outs)))), I .i64 t.outs.length, I .i64 i, .any, .any, .any, .any, .any, .any, .any, .any, .any, .any, .any, .any, .any, .any, .any]) (fun _ => [some (.box 71 (txC t))]) 0 [0]
    ⟨by simp, by simp⟩ (by simp [I, Ptr]) (by simp [txC, iC]) (by simp) (by simp) (by simp) ?_
  clear hi1 hi2 hlt
  rintro i ⟨hi1, hi2⟩
  simp [I, Ptr, txC, iC, -errV_0]
  refine alt (fun hlt => ?_) (fun hlt => ?_)
  · have hln : i < t.outs.length := by omega
    obtain ⟨p, hcp⟩ : ∃ p, t.outs[i]? = some p := ⟨t.outs[i], by simp [hln]⟩
    have hge : (outv t.outs)[i]'(by simp [hln]) = outF p := by
      have e := outv_get hcp
      rw [List.getElem?_eq_getElem (by simp [hln])] at e
      exact Option.some.inj e
    have hpo := h3 p (List.mem_of_getElem? hcp)
    rw [drop_cons hcp] at hi2
    have w1 : IntKind.i64.wrap ((i : Int) + 1) = ((i + 1 : Nat) : Int) := wrap_i64 (by omega) (by omega)
    simp [hln, hge, outF, iF, -errV_0]
    refine call0 (OutChk_ok p hpo) (by simp [outC, iC]) ?_
    rintro y H' ⟨rfl, rfl⟩
    refine ⟨.inl (by simp), le_ok rfl, ?_⟩
    by_cases c7 : ouE p = 0
    · have hn : outsE t.outs = outsE (t.outs.drop (i + 1)) := by rw [hi2]; exact if_neg (by simpa using c7)
      simp [c7, w1, -errV_0, -Int.natCast_add]
      exact round (i + 1) [0] ⟨by omega, hn⟩ (by omega) (by simp [I, Ptr]) (by simp) (by simp) (by simp) (by simp)
    · have hn : outsE t.outs = ouE p := by rw [hi2]; exact if_pos c7
      rw [show V = ouE p by rw [← hV, if_pos (by rw [hn]; exact c7), hn]]
      simp [c7, -errV_0]
      exact fin [] (by decide) rfl rfl rfl ⟨rfl, rfl⟩
  have hil : i = t.outs.length := by omega
  subst hil
  rw [List.drop_length] at hi2
  have hz0 : outsE t.outs = 0 := hi2
  rw [show V = (totO 0 t.outs).2 by rw [← hV, if_neg (by simpa using hz0)]]
  simp [-errV_0]
  refine call0 (TxTotal_ok t ht) (by simp [TXv, txC, iC]) ?_
  rintro y H' ⟨rfl, rfl⟩
  refine ⟨.inl (by simp [iC]), le_ok rfl, ?_⟩
  simp [iC, -errV_0]
  exact fin [] (by decide) rfl rfl rfl ⟨rfl, rfl⟩

def zTx : Txn := ⟨0, [], []⟩
def donT (t : Txn) : Txn × Nat := if chkT t ≠ 0 then (zTx, chkT t) else (t, 0)

theorem drop33i (a b c : EC) : List.drop 33 (hc hz ++ [a, b, c]) = [b, c] := by
  rw [List.drop_append, List.drop_of_length_le (by simp [hz])]
  rfl

end Go.Proofs.YtejjhgdnmknejaaGreatDoor
