import Derived.Test.YtoomdgmggkcgfaaDoorTree2
namespace Go.Proofs.YtoomdgmggkcgfaaDoor
open Go Go.EW
set_option linter.unusedSimpArgs false
set_option linter.unusedVariables false

@[simp] def l_RTCheck_1 (_ : Unit) : List EOp := [⟨0, (some 1), none, (.q (.box 28 (.t 0))), []⟩, ⟨1, (some 2), none, (.q (.mov (.k (.int .i64 0)))), []⟩]
@[simp] def b_RTCheck_2 (_ : Unit) : EB := reg0 (hid l_RTCheck_1) 2
@[simp] def l_RTCheck_15 (_ : Unit) : List EOp := [⟨72, (some 76), (some (75, false)), (.q (.fad 33 (.t 1))), []⟩, ⟨73, (some 77), (some (75, false)), (.q (.ldc (.t 76))), []⟩, ⟨74, (some 78), (some (75, false)), (.q (.bin .gtr (.t 77) (.k (.int .i64 1125899906842624)))), []⟩, ⟨75, (some 79), none, (.q (.pick (.t 75) (.k (.bool true)) (.t 78))), []⟩]
@[simp] def l_RTCheck_14 (_ : Unit) : List EOp := ⟨66, (some 70), none, (.q (.mov (.t 69))), []⟩ :: ⟨67, (some 71), (some (70, false)), (.q (.fad 33 (.t 1))), []⟩ :: ⟨68, (some 72), (some (70, false)), (.q (.ldc (.t 71))), []⟩ :: ⟨69, (some 73), (some (70, false)), (.q (.bin .lss (.t 72) (.k (.int .i64 10)))), []⟩ :: ⟨70, (some 74), none, (.q (.pick (.t 70) (.k (.bool true)) (.t 73))), []⟩ :: ⟨71, (some 75), none, (.q (.mov (.t 74))), []⟩ :: hid l_RTCheck_15
@[simp] def l_RTCheck_13 (_ : Unit) : List EOp := ⟨60, (some 64), none, (.q (.pick (.t 60) (.k (.bool true)) (.t 63))), []⟩ :: ⟨61, (some 65), none, (.q (.mov (.t 64))), []⟩ :: ⟨62, (some 66), (some (65, false)), (.q (.fad 39 (.t 1))), []⟩ :: ⟨63, (some 67), (some (65, false)), (.q (.ldc (.t 66))), []⟩ :: ⟨64, (some 68), (some (65, false)), (.q (.bin .gtr (.t 67) (.k (.int .i64 1125899906842624)))), []⟩ :: ⟨65, (some 69), none, (.q (.pick (.t 65) (.k (.bool true)) (.t 68))), []⟩ :: hid l_RTCheck_14
@[simp] def l_RTCheck_12 (_ : Unit) : List EOp := ⟨54, (some 58), (some (49, false)), (.q (.bin .gtr (.t 57) (.k (.int .i64 255)))), []⟩ :: ⟨55, (some 59), none, (.q (.pick (.t 49) (.k (.bool true)) (.t 58))), []⟩ :: ⟨56, (some 60), none, (.q (.mov (.t 59))), []⟩ :: ⟨57, (some 61), (some (60, false)), (.q (.fad 39 (.t 1))), []⟩ :: ⟨58, (some 62), (some (60, false)), (.q (.ldc (.t 61))), []⟩ :: ⟨59, (some 63), (some (60, false)), (.q (.bin .lss (.t 62) (.k (.int .i64 0)))), []⟩ :: hid l_RTCheck_13
@[simp] def l_RTCheck_11 (_ : Unit) : List EOp := ⟨48, (some 52), (some (49, false)), (.q (.fad 37 (.t 1))), []⟩ :: ⟨49, (some 53), (some (49, false)), (.q (.ldc (.t 52))), []⟩ :: ⟨50, (some 54), (some (49, false)), (.q (.bin .sub (.t 51) (.t 53))), []⟩ :: ⟨51, (some 55), (some (49, false)), (.q (.fad 38 (.t 1))), []⟩ :: ⟨52, (some 56), (some (49, false)), (.q (.ldc (.t 55))), []⟩ :: ⟨53, (some 57), (some (49, false)), (.q (.bin .quo (.t 54) (.t 56))), []⟩ :: hid l_RTCheck_12
@[simp] def l_RTCheck_10 (_ : Unit) : List EOp := ⟨42, (some 46), (some (34, false)), (.q (.bin .add (.t 36) (.t 45))), []⟩ :: ⟨43, (some 47), (some (34, false)), (.q (.bin .gtr (.t 46) (.k (.int .i64 1099511627776)))), []⟩ :: ⟨44, (some 48), none, (.q (.pick (.t 34) (.k (.bool true)) (.t 47))), []⟩ :: ⟨45, (some 49), none, (.q (.mov (.t 48))), []⟩ :: ⟨46, (some 50), (some (49, false)), (.q (.fad 36 (.t 1))), []⟩ :: ⟨47, (some 51), (some (49, false)), (.q (.ldc (.t 50))), []⟩ :: hid l_RTCheck_11
@[simp] def l_RTCheck_9 (_ : Unit) : List EOp := ⟨36, (some 40), (some (34, false)), (.q (.ldc (.t 39))), []⟩ :: ⟨37, (some 41), (some (34, false)), (.q (.fad 37 (.t 1))), []⟩ :: ⟨38, (some 42), (some (34, false)), (.q (.ldc (.t 41))), []⟩ :: ⟨39, (some 43), (some (34, false)), (.q (.bin .sub (.t 40) (.t 42))), []⟩ :: ⟨40, (some 44), (some (34, false)), (.q (.bin .add (.t 43) (.k (.int .i64 1)))), []⟩ :: ⟨41, (some 45), (some (34, false)), (.q (.bin .mul (.t 38) (.t 44))), []⟩ :: hid l_RTCheck_10
@[simp] def l_RTCheck_8 (_ : Unit) : List EOp := ⟨30, (some 34), none, (.q (.mov (.t 33))), []⟩ :: ⟨31, (some 35), (some (34, false)), (.q (.fad 36 (.t 1))), []⟩ :: ⟨32, (some 36), (some (34, false)), (.q (.ldc (.t 35))), []⟩ :: ⟨33, (some 37), (some (34, false)), (.q (.fad 35 (.t 1))), []⟩ :: ⟨34, (some 38), (some (34, false)), (.q (.ldc (.t 37))), []⟩ :: ⟨35, (some 39), (some (34, false)), (.q (.fad 36 (.t 1))), []⟩ :: hid l_RTCheck_9
@[simp] def l_RTCheck_7 (_ : Unit) : List EOp := ⟨24, (some 28), none, (.q (.pick (.t 22) (.k (.bool true)) (.t 27))), []⟩ :: ⟨25, (some 29), none, (.q (.mov (.t 28))), []⟩ :: ⟨26, (some 30), (some (29, false)), (.q (.fad 36 (.t 1))), []⟩ :: ⟨27, (some 31), (some (29, false)), (.q (.ldc (.t 30))), []⟩ :: ⟨28, (some 32), (some (29, false)), (.q (.bin .gtr (.t 31) (.k (.int .i64 1099511627776)))), []⟩ :: ⟨29, (some 33), none, (.q (.pick (.t 29) (.k (.bool true)) (.t 32))), []⟩ :: hid l_RTCheck_8
@[simp] def l_RTCheck_6 (_ : Unit) : List EOp := ⟨18, (some 22), none, (.q (.mov (.t 21))), []⟩ :: ⟨19, (some 23), (some (22, false)), (.q (.fad 36 (.t 1))), []⟩ :: ⟨20, (some 24), (some (22, false)), (.q (.ldc (.t 23))), []⟩ :: ⟨21, (some 25), (some (22, false)), (.q (.fad 37 (.t 1))), []⟩ :: ⟨22, (some 26), (some (22, false)), (.q (.ldc (.t 25))), []⟩ :: ⟨23, (some 27), (some (22, false)), (.q (.bin .lss (.t 24) (.t 26))), []⟩ :: hid l_RTCheck_7
@[simp] def l_RTCheck_5 (_ : Unit) : List EOp := ⟨12, (some 16), none, (.q (.pick (.t 12) (.k (.bool true)) (.t 15))), []⟩ :: ⟨13, (some 17), none, (.q (.mov (.t 16))), []⟩ :: ⟨14, (some 18), (some (17, false)), (.q (.fad 37 (.t 1))), []⟩ :: ⟨15, (some 19), (some (17, false)), (.q (.ldc (.t 18))), []⟩ :: ⟨16, (some 20), (some (17, false)), (.q (.bin .lss (.t 19) (.k (.int .i64 1)))), []⟩ :: ⟨17, (some 21), none, (.q (.pick (.t 17) (.k (.bool true)) (.t 20))), []⟩ :: hid l_RTCheck_6
@[simp] def l_RTCheck_4 (_ : Unit) : List EOp := ⟨6, (some 10), (some (7, false)), (.q (.bin .gtr (.t 9) (.k (.int .i64 8)))), []⟩ :: ⟨7, (some 11), none, (.q (.pick (.t 7) (.k (.bool true)) (.t 10))), []⟩ :: ⟨8, (some 12), none, (.q (.mov (.t 11))), []⟩ :: ⟨9, (some 13), (some (12, false)), (.q (.fad 38 (.t 1))), []⟩ :: ⟨10, (some 14), (some (12, false)), (.q (.ldc (.t 13))), []⟩ :: ⟨11, (some 15), (some (12, false)), (.q (.bin .lss (.t 14) (.k (.int .i64 1)))), []⟩ :: hid l_RTCheck_5
@[simp] def l_RTCheck_3 (_ : Unit) : List EOp := ⟨0, (some 4), none, (.q (.fad 35 (.t 1))), []⟩ :: ⟨1, (some 5), none, (.q (.ldc (.t 4))), []⟩ :: ⟨2, (some 6), none, (.q (.bin .lss (.t 5) (.k (.int .i64 1)))), []⟩ :: ⟨3, (some 7), none, (.q (.mov (.t 6))), []⟩ :: ⟨4, (some 8), (some (7, false)), (.q (.fad 35 (.t 1))), []⟩ :: ⟨5, (some 9), (some (7, false)), (.q (.ldc (.t 8))), []⟩ :: hid l_RTCheck_4
@[simp] def b_RTCheck_16 (_ : Unit) : EB := reg0 (hid l_RTCheck_3) 76
@[simp] def l_RTCheck_17 (_ : Unit) : List EOp := [⟨0, (some 2), none, (.q (.mov (.k (.int .i64 1)))), []⟩]
@[simp] def b_RTCheck_18 (_ : Unit) : EB := reg0 (hid l_RTCheck_17) 1
@[simp] def b_RTCheck_19 (_ : Unit) : EB := .seq (hid b_RTCheck_18) .ret
@[simp] def b_RTCheck_20 (_ : Unit) : EB := .cond (.t 79) (hid b_RTCheck_19) .skip
@[simp] def b_RTCheck_21 (_ : Unit) : EB := .seq (hid b_RTCheck_16) (hid b_RTCheck_20)
@[simp] def l_RTCheck_22 (_ : Unit) : List EOp := [⟨0, (some 3), none, (.q (.mov (.k (.int .i64 0)))), []⟩]
@[simp] def b_RTCheck_23 (_ : Unit) : EB := reg0 (hid l_RTCheck_22) 1
@[simp] def l_RTCheck_24 (_ : Unit) : List EOp := [⟨0, (some 80), none, (.q (.mov (.t 3))), []⟩, ⟨1, (some 81), none, (.q (.fad 34 (.t 1))), []⟩, ⟨2, (some 82), none, (.q (.ldc (.t 81))), []⟩, ⟨3, (some 83), none, (.q (.len (.t 82))), []⟩, ⟨4, (some 84), none, (.q (.bin .lss (.t 80) (.t 83))), []⟩]
@[simp] def b_RTCheck_25 (_ : Unit) : EB := reg0 (hid l_RTCheck_24) 5
@[simp] def b_RTCheck_26 (_ : Unit) : EB := .cond (.t 84) .skip (.exit 0)
@[simp] def b_RTCheck_27 (_ : Unit) : EB := .seq (hid b_RTCheck_25) (hid b_RTCheck_26)
@[simp] def l_RTCheck_33 (_ : Unit) : List EOp := [⟨30, (some 117), (some (101, false)), (.q (.pick (.t 104) (.t 116) (.k (.bool false)))), []⟩, ⟨31, (some 118), none, (.q (.pick (.t 101) (.k (.bool true)) (.t 117))), []⟩]
@[simp] def l_RTCheck_32 (_ : Unit) : List EOp := ⟨24, (some 111), (some (104, true)), (.q (.ldc (.t 110))), []⟩ :: ⟨25, (some 112), (some (104, true)), (.q (.mov (.t 3))), []⟩ :: ⟨26, (some 113), (some (104, true)), (.q (.bin .sub (.t 112) (.k (.int .i64 1)))), []⟩ :: ⟨27, (some 114), (some (104, true)), (.q (.isl 1 (.t 111) (.t 113))), []⟩ :: ⟨28, (some 115), (some (104, true)), (.q (.ldc (.t 114))), []⟩ :: ⟨29, (some 116), (some (104, true)), (.q (.bin .leq (.t 109) (.t 115))), []⟩ :: hid l_RTCheck_33
@[simp] def l_RTCheck_31 (_ : Unit) : List EOp := ⟨18, (some 105), (some (104, true)), (.q (.fad 34 (.t 1))), []⟩ :: ⟨19, (some 106), (some (104, true)), (.q (.ldc (.t 105))), []⟩ :: ⟨20, (some 107), (some (104, true)), (.q (.mov (.t 3))), []⟩ :: ⟨21, (some 108), (some (104, true)), (.q (.isl 1 (.t 106) (.t 107))), []⟩ :: ⟨22, (some 109), (some (104, true)), (.q (.ldc (.t 108))), []⟩ :: ⟨23, (some 110), (some (104, true)), (.q (.fad 34 (.t 1))), []⟩ :: hid l_RTCheck_32
@[simp] def l_RTCheck_30 (_ : Unit) : List EOp := ⟨12, (some 99), (some (93, false)), (.q (.bin .gtr (.t 98) (.k (.int .i64 15)))), []⟩ :: ⟨13, (some 100), none, (.q (.pick (.t 93) (.k (.bool true)) (.t 99))), []⟩ :: ⟨14, (some 101), none, (.q (.mov (.t 100))), []⟩ :: ⟨15, (some 102), (some (101, false)), (.q (.mov (.t 3))), []⟩ :: ⟨16, (some 103), (some (101, false)), (.q (.bin .gtr (.t 102) (.k (.int .i64 0)))), []⟩ :: ⟨17, (some 104), (some (101, false)), (.q (.mov (.t 103))), []⟩ :: hid l_RTCheck_31
@[simp] def l_RTCheck_29 (_ : Unit) : List EOp := ⟨6, (some 93), none, (.q (.mov (.t 92))), []⟩ :: ⟨7, (some 94), (some (93, false)), (.q (.fad 34 (.t 1))), []⟩ :: ⟨8, (some 95), (some (93, false)), (.q (.ldc (.t 94))), []⟩ :: ⟨9, (some 96), (some (93, false)), (.q (.mov (.t 3))), []⟩ :: ⟨10, (some 97), (some (93, false)), (.q (.isl 1 (.t 95) (.t 96))), []⟩ :: ⟨11, (some 98), (some (93, false)), (.q (.ldc (.t 97))), []⟩ :: hid l_RTCheck_30
@[simp] def l_RTCheck_28 (_ : Unit) : List EOp := ⟨0, (some 87), none, (.q (.fad 34 (.t 1))), []⟩ :: ⟨1, (some 88), none, (.q (.ldc (.t 87))), []⟩ :: ⟨2, (some 89), none, (.q (.mov (.t 3))), []⟩ :: ⟨3, (some 90), none, (.q (.isl 1 (.t 88) (.t 89))), []⟩ :: ⟨4, (some 91), none, (.q (.ldc (.t 90))), []⟩ :: ⟨5, (some 92), none, (.q (.bin .lss (.t 91) (.k (.int .i64 0)))), []⟩ :: hid l_RTCheck_29
@[simp] def b_RTCheck_34 (_ : Unit) : EB := reg0 (hid l_RTCheck_28) 32
@[simp] def l_RTCheck_35 (_ : Unit) : List EOp := [⟨0, (some 2), none, (.q (.mov (.k (.int .i64 33)))), []⟩]
@[simp] def b_RTCheck_36 (_ : Unit) : EB := reg0 (hid l_RTCheck_35) 1
@[simp] def b_RTCheck_37 (_ : Unit) : EB := .seq (hid b_RTCheck_36) .ret
@[simp] def b_RTCheck_38 (_ : Unit) : EB := .cond (.t 118) (hid b_RTCheck_37) .skip
@[simp] def b_RTCheck_39 (_ : Unit) : EB := .seq (hid b_RTCheck_34) (hid b_RTCheck_38)
@[simp] def b_RTCheck_40 (_ : Unit) : EB := .block 1 (hid b_RTCheck_39)
@[simp] def l_RTCheck_41 (_ : Unit) : List EOp := [⟨0, (some 85), none, (.q (.mov (.t 3))), []⟩, ⟨1, (some 86), none, (.q (.bin .add (.t 85) (.k (.int .i64 1)))), []⟩, ⟨2, (some 3), none, (.q (.mov (.t 86))), []⟩]
@[simp] def b_RTCheck_42 (_ : Unit) : EB := reg0 (hid l_RTCheck_41) 3
@[simp] def b_RTCheck_43 (_ : Unit) : EB := .seq (hid b_RTCheck_40) (hid b_RTCheck_42)
@[simp] def b_RTCheck_44 (_ : Unit) : EB := .seq (hid b_RTCheck_27) (hid b_RTCheck_43)
@[simp] def b_RTCheck_45 (_ : Unit) : EB := .loop (hid b_RTCheck_44)
@[simp] def b_RTCheck_46 (_ : Unit) : EB := .block 0 (hid b_RTCheck_45)
@[simp] def b_RTCheck_47 (_ : Unit) : EB := .seq (hid b_RTCheck_23) (hid b_RTCheck_46)
@[simp] def l_RTCheck_48 (_ : Unit) : List EOp := [⟨0, (some 119), none, (.q (.fad 34 (.t 1))), []⟩, ⟨1, (some 120), none, (.q (.ldc (.t 119))), []⟩, ⟨2, (some 121), none, (.q (.len (.t 120))), []⟩, ⟨3, (some 122), none, (.q (.bin .lss (.t 121) (.k (.int .i64 2)))), []⟩]
@[simp] def b_RTCheck_49 (_ : Unit) : EB := reg0 (hid l_RTCheck_48) 4
@[simp] def l_RTCheck_50 (_ : Unit) : List EOp := [⟨0, (some 2), none, (.q (.mov (.k (.int .i64 33)))), []⟩]
@[simp] def b_RTCheck_51 (_ : Unit) : EB := reg0 (hid l_RTCheck_50) 1
@[simp] def b_RTCheck_52 (_ : Unit) : EB := .seq (hid b_RTCheck_51) .ret
@[simp] def b_RTCheck_53 (_ : Unit) : EB := .cond (.t 122) (hid b_RTCheck_52) .skip
@[simp] def b_RTCheck_54 (_ : Unit) : EB := .seq (hid b_RTCheck_49) (hid b_RTCheck_53)
@[simp] def l_RTCheck_56 (_ : Unit) : List EOp := [⟨6, (some 129), none, (.q (.bin .mul (.t 126) (.t 128))), []⟩, ⟨7, (some 130), none, (.q (.bin .sub (.t 124) (.t 129))), []⟩, ⟨8, (some 131), none, (.q (.bin .lss (.t 130) (.k (.int .i64 10)))), []⟩]
@[simp] def l_RTCheck_55 (_ : Unit) : List EOp := ⟨0, (some 123), none, (.q (.fad 33 (.t 1))), []⟩ :: ⟨1, (some 124), none, (.q (.ldc (.t 123))), []⟩ :: ⟨2, (some 125), none, (.q (.fad 35 (.t 1))), []⟩ :: ⟨3, (some 126), none, (.q (.ldc (.t 125))), []⟩ :: ⟨4, (some 127), none, (.q (.fad 39 (.t 1))), []⟩ :: ⟨5, (some 128), none, (.q (.ldc (.t 127))), []⟩ :: hid l_RTCheck_56
@[simp] def b_RTCheck_57 (_ : Unit) : EB := reg0 (hid l_RTCheck_55) 9
@[simp] def l_RTCheck_58 (_ : Unit) : List EOp := [⟨0, (some 2), none, (.q (.mov (.k (.int .i64 27)))), []⟩]
@[simp] def b_RTCheck_59 (_ : Unit) : EB := reg0 (hid l_RTCheck_58) 1
@[simp] def b_RTCheck_60 (_ : Unit) : EB := .seq (hid b_RTCheck_59) .ret
@[simp] def b_RTCheck_61 (_ : Unit) : EB := .cond (.t 131) (hid b_RTCheck_60) .skip
@[simp] def b_RTCheck_62 (_ : Unit) : EB := .seq (hid b_RTCheck_57) (hid b_RTCheck_61)
@[simp] def l_RTCheck_63 (_ : Unit) : List EOp := [⟨0, (some 2), none, (.q (.mov (.k (.int .i64 0)))), []⟩]
@[simp] def b_RTCheck_64 (_ : Unit) : EB := reg0 (hid l_RTCheck_63) 1
@[simp] def b_RTCheck_65 (_ : Unit) : EB := .seq (hid b_RTCheck_64) .ret
@[simp] def b_RTCheck_66 (_ : Unit) : EB := .seq (hid b_RTCheck_62) (hid b_RTCheck_65)
@[simp] def b_RTCheck_67 (_ : Unit) : EB := .seq (hid b_RTCheck_54) (hid b_RTCheck_66)
@[simp] def b_RTCheck_68 (_ : Unit) : EB := .seq (hid b_RTCheck_47) (hid b_RTCheck_67)
@[simp] def b_RTCheck_69 (_ : Unit) : EB := .seq (hid b_RTCheck_21) (hid b_RTCheck_68)
@[simp] def b_RTCheck_70 (_ : Unit) : EB := .seq (hid b_RTCheck_2) (hid b_RTCheck_69)
def c_RTCheck : EB × List QOp × Nat := ((hid b_RTCheck_70), [(.mov (.t 2))], 132)
theorem k_RTCheck : cfun Tryd.prog 21 = some c_RTCheck := by kernel_rfl


/-- The key ahead of one. -/
def prevK (l : List Int) (i : Nat) : Int := if i = 0 then -1 else (l[i - 1]?).getD 0

set_option maxRecDepth 8000 in
set_option maxHeartbeats 8000000 in
theorem RTCheck_ok (c : Cfg) (hc : c.ok) : ECalls Tryd.prog 21 [CV c] [] fun y H' => H' = [] ∧ y = I .i64 (chkT c) := by
  have h32 := hc.1
  have t40 := tk40 h32
  obtain ⟨-, -, ham, -, hdep, hfst, hlst, hstp, hfee, hkl⟩ := id hc
  unfold i64 at ham hdep hfst hlst hstp hfee
  refine ecalls k_RTCheck ?_
  simp [c_RTCheck, CV, cfgC, cfgT, h32]
  by_cases h1 : c.dep < 1
  · have n1 : ¬ 1 ≤ c.dep := by omega
    rw [chk_R (c := c) (fun h => by unfold okR at h; omega)]
    simp [h1, n1, h32]
    exact fin [] (by decide) rfl rfl rfl ⟨rfl, rfl⟩
  have n1 : 1 ≤ c.dep := by omega
  simp [h1, n1, h32]
  by_cases h2 : 8 < c.dep
  · have n2 : ¬ c.dep ≤ 8 := by omega
    rw [chk_R (c := c) (fun h => by unfold okR at h; omega)]
    simp [h2, n2, h32]
    exact fin [] (by decide) rfl rfl rfl ⟨rfl, rfl⟩
  have n2 : c.dep ≤ 8 := by omega
  simp [h2, n2, h32]
  by_cases h3 : c.stp < 1
  · have n3 : ¬ 1 ≤ c.stp := by omega
    rw [chk_R (c := c) (fun h => by unfold okR at h; omega)]
    simp [h3, n3, h32]
    exact fin [] (by decide) rfl rfl rfl ⟨rfl, rfl⟩
  have n3 : 1 ≤ c.stp := by omega
  simp [h3, n3, h32]
  by_cases h4 : c.lst < 1
  · have n4 : ¬ 1 ≤ c.lst := by omega
    rw [chk_R (c := c) (fun h => by unfold okR at h; omega)]
    simp [h4, n4, h32]
    exact fin [] (by decide) rfl rfl rfl ⟨rfl, rfl⟩
  have n4 : 1 ≤ c.lst := by omega
  simp [h4, n4, h32]
  by_cases h5 : c.fst < c.lst
  · have n5 : ¬ c.lst ≤ c.fst := by omega
    rw [chk_R (c := c) (fun h => by unfold okR at h; omega)]
    simp [h5, n5, h32]
    exact fin [] (by decide) rfl rfl rfl ⟨rfl, rfl⟩
  have n5 : c.lst ≤ c.fst := by omega
  simp [h5, n5, h32]
  by_cases h6 : 1099511627776 < c.fst
  · have n6 : ¬ c.fst ≤ 1099511627776 := by omega
    rw [chk_R (c := c) (fun h => by unfold okR at h; omega)]
    simp [h6, n6, h32]
    exact fin [] (by decide) rfl rfl rfl ⟨rfl, rfl⟩
  have n6 : c.fst ≤ 1099511627776 := by omega
  simp [h6, n6, h32]
  have hm : 0 ≤ c.dep * (c.fst - c.lst + 1) ∧ c.dep * (c.fst - c.lst + 1) ≤ 8 * 1099511627777 := ⟨Int.mul_nonneg (by omega) (by omega), Int.le_trans (Int.mul_le_mul_of_nonneg_right n2 (by omega)) (Int.mul_le_mul_of_nonneg_left (by omega) (by omega))⟩
  obtain ⟨q, hq⟩ : ∃ q, c.dep * (c.fst - c.lst + 1) = q := ⟨_, rfl⟩
  rw [hq] at hm
  have w3 : IntKind.i64.wrap (c.fst - c.lst) = c.fst - c.lst := wrap_i64 (by omega) (by omega)
  have w0 : IntKind.i64.wrap (c.fst - c.lst + 1) = c.fst - c.lst + 1 := wrap_i64 (by omega) (by omega)
  have w1 : IntKind.i64.wrap q = q := wrap_i64 (by omega) (by omega)
  have w2 : IntKind.i64.wrap (c.fst + q) = c.fst + q := wrap_i64 (by omega) (by omega)
  simp [w3, w0, hq, w1, w2, h32]
  by_cases h7 : 1099511627776 < c.fst + q
  · have n7 : ¬ c.fst + q ≤ 1099511627776 := by omega
    rw [chk_R (c := c) (fun h => by unfold okR at h; rw [hq] at h; omega)]
    simp [h7, n7]
    exact fin [] (by decide) rfl rfl rfl ⟨rfl, rfl⟩
  have n7 : c.fst + q ≤ 1099511627776 := by omega
  have hR : okR c := ⟨n1, n2, n3, n4, n5, n6, by rw [hq]; omega⟩
  have hd : (c.fst - c.lst).tdiv c.stp = (c.fst - c.lst) / c.stp := Int.tdiv_eq_ediv_of_nonneg (by omega)
  have hb : 0 ≤ (c.fst - c.lst) / c.stp ∧ (c.fst - c.lst) / c.stp ≤ 1099511627776 := ⟨Int.ediv_nonneg (by omega) (by omega), Int.le_trans (Int.ediv_le_self _ (by omega)) (by omega)⟩
  obtain ⟨v, hv⟩ : ∃ v, (c.fst - c.lst) / c.stp = v := ⟨_, rfl⟩
  rw [hv] at hd hb
  have w4 : IntKind.i64.wrap v = v := wrap_i64 (by omega) (by omega)
  have hz : ¬ c.stp = 0 := by omega
  simp [h7, n7, w3, hz, hd, w4, h32]
  by_cases h8 : 255 < v
  · have n8 : ¬ v ≤ 255 := by omega
    rw [chk_A (c := c) (fun h => by unfold okA at h; rw [hv] at h; omega)]
    simp [h8, n8]
    exact fin [] (by decide) rfl rfl rfl ⟨rfl, rfl⟩
  have n8 : v ≤ 255 := by omega
  simp [h8, n8, h32]
  by_cases h9 : c.fee < 0
  · have n9 : ¬ 0 ≤ c.fee := by omega
    rw [chk_A (c := c) (fun h => by unfold okA at h; omega)]
    simp [h9, n9, h32]
    exact fin [] (by decide) rfl rfl rfl ⟨rfl, rfl⟩
  have n9 : 0 ≤ c.fee := by omega
  simp [h9, n9, h32]
  by_cases h10 : 1125899906842624 < c.fee
  · have n10 : ¬ c.fee ≤ 1125899906842624 := by omega
    rw [chk_A (c := c) (fun h => by unfold okA at h; omega)]
    simp [h10, n10, h32]
    exact fin [] (by decide) rfl rfl rfl ⟨rfl, rfl⟩
  have n10 : c.fee ≤ 1125899906842624 := by omega
  simp [h10, n10, h32]
  by_cases h11 : c.am < 10
  · have n11 : ¬ 10 ≤ c.am := by omega
    rw [chk_A (c := c) (fun h => by unfold okA at h; omega)]
    simp [h11, n11, h32]
    exact fin [] (by decide) rfl rfl rfl ⟨rfl, rfl⟩
  have n11 : 10 ≤ c.am := by omega
  simp [h11, n11, h32]
  by_cases h12 : 1125899906842624 < c.am
  · have n12 : ¬ c.am ≤ 1125899906842624 := by omega
    rw [chk_A (c := c) (fun h => by unfold okA at h; omega)]
    simp [h12, n12, h32]
    exact fin [] (by decide) rfl rfl rfl ⟨rfl, rfl⟩
  have n12 : c.am ≤ 1125899906842624 := by omega
  simp [h12, n12, h32]
  have hA : okA c := ⟨by rw [hv]; exact n8, n9, n10, n11, n12⟩
  refine eloop (α := Nat) (fun i => i ≤ c.keys.length ∧ keysS (-1) c.keys = keysS (prevK c.keys i) (c.keys.drop i) ∧ -1 ≤ prevK c.keys i) (fun i => c.keys.length - i)
    (fun i => [.any, Ptr 0, .any, I .i64 i, .any, .any, .any, .any, .any, .any, .any, .any, .any, .any, .any, .any, .any, .any, .any, .any, .any, .any, .any, .any, .any, .any, .any, .any, .any, .any, .any, .any, .any, .any, .any, .any, .any, .any, .any, .any, .any, .any, .any, .any, .any, .any, .any, .any, .any, .any, .any, .any, .any, .any, .any, .any, .any, .any, .any, .any, .any, .any, .any, .any, .any, .any, .any, .any, .any, .any, .any, .any, .any, .any, .any, .any, .any, .any, .any, .any, .any, .any, .any, .any, .any, .any, .any, .any, .any, .any, .any, .any, .any, .any, .any, .any, .any, .any, .any, .any, .any, .any, .any, .any, .any, .any, .any, .any, .any, .any, .any, .any, .any, .any, .any, .any, .any, .any, .any, .any, .any, .any, .any, .any, .any, .any, .any, .any, .any, .any, .any, .any]) (fun i => [some (.box 28 (cfgC c))]) 0 [0]
    ⟨by simp, by simp [prevK], by simp [prevK]⟩ (by simp [Ptr, I]) (by simp [cfgC, cfgT]) (by simp) (by simp) (by simp) ?_
  rintro i ⟨hi1, hi2, hi3⟩
  simp [Ptr, I, cfgC, cfgT, h32]
  refine alt (fun hlt => ?_) (fun hlt => ?_)
  · obtain ⟨k, hci⟩ : ∃ k, c.keys[i]? = some k := ⟨c.keys[i], by simp [hlt]⟩
    have hcb := intv_get hci
    have hd : c.keys.drop i = k :: c.keys.drop (i + 1) := by
      have h := List.getElem?_eq_some_iff.1 hci
      rw [List.drop_eq_getElem_cons h.1, h.2]
    rw [hd] at hi2
    have hpk : prevK c.keys (i + 1) = k := by simp [prevK, hci]
    have w5 : IntKind.i64.wrap ((i : Int) + 1) = ((i + 1 : Nat) : Int) := wrap_i64 (by omega) (by omega)
    simp [hcb, h32]
    by_cases g0 : k < 0
    · have g0' : ¬ 0 ≤ k := by omega
      have hf : ¬ (keysS (-1) c.keys = true ∧ 2 ≤ c.keys.length) := by rw [hi2]; simp [keysS]; omega
      rw [chk_K hR hA hf]
      simp [g0, g0']
      exact fin [] (by decide) rfl rfl rfl ⟨rfl, rfl⟩
    have g0' : 0 ≤ k := by omega
    simp [g0, g0', hcb, h32]
    by_cases g1 : 15 < k
    · have g1' : ¬ k ≤ 15 := by omega
      have hf : ¬ (keysS (-1) c.keys = true ∧ 2 ≤ c.keys.length) := by rw [hi2]; simp [keysS]; omega
      rw [chk_K hR hA hf]
      simp [g1, g1']
      exact fin [] (by decide) rfl rfl rfl ⟨rfl, rfl⟩
    have g1' : k ≤ 15 := by omega
    simp [g1, g1', h32]
    by_cases hi0 : i = 0
    · have hp0 : prevK c.keys i = -1 := by simp [prevK, hi0]
      have hi0' : ¬ 0 < i := by omega
      have hg : prevK c.keys i < k ∧ k < 16 := by rw [hp0]; omega
      subst hi0
      have w50 : IntKind.i64.wrap 1 = 1 := rfl
      simp [w50]
      exact round 1 [0] ⟨by omega, by rw [hi2, hpk]; simp [keysS, hg], by rw [hpk]; omega⟩ (by omega) (by simp) (by simp [cfgC, cfgT]) (by simp) (by simp) (by simp)
    have hi0' : 0 < i := by omega
    obtain ⟨kp, hcp⟩ : ∃ kp, c.keys[i - 1]? = some kp := ⟨c.keys[i - 1]'(by omega), by simp⟩
    have hcpb := intv_get hcp
    have hpv : prevK c.keys i = kp := by simp [prevK, hi0, hcp]
    have w6 : IntKind.i64.wrap ((i : Int) - 1) = ((i - 1 : Nat) : Int) := by rw [wrap_i64 (by omega) (by omega)]; omega
    rw [hpv] at hi2 hi3
    simp [hi0', hi0, hcb, h32, w6, hcpb]
    by_cases g2 : k ≤ kp
    · have g2' : ¬ kp < k := by omega
      have hf : ¬ (keysS (-1) c.keys = true ∧ 2 ≤ c.keys.length) := by rw [hi2]; simp [keysS, g2']
      rw [chk_K hR hA hf]
      simp [g2, g2']
      exact fin [] (by decide) rfl rfl rfl ⟨rfl, rfl⟩
    have g2' : kp < k := by omega
    have hg : kp < k ∧ k < 16 := by omega
    simp [g2, g2', w5, -Int.natCast_add]
    exact round (i + 1) [0] ⟨by omega, by rw [hi2, hpk]; simp [keysS, hg], by rw [hpk]; omega⟩ (by omega) (by simp) (by simp [cfgC, cfgT]) (by simp) (by simp) (by simp)
  have hil : i = c.keys.length := by omega
  subst hil
  have hkt : keysS (-1) c.keys = true := by rw [hi2]; simp [keysS]
  simp [h32]
  by_cases g3 : c.keys.length < 2
  · have g3' : (c.keys.length : Int) < 2 := by omega
    have g3'' : ¬ 2 ≤ c.keys.length := by omega
    rw [chk_K hR hA (fun h => g3'' h.2)]
    simp [g3, g3', g3'']
    exact fin [] (by decide) rfl rfl rfl ⟨rfl, rfl⟩
  have g3' : ¬ (c.keys.length : Int) < 2 := by omega
  have g3'' : 2 ≤ c.keys.length := by omega
  have hK : keysS (-1) c.keys = true ∧ 2 ≤ c.keys.length := ⟨hkt, g3''⟩
  have hm2 : 0 ≤ c.dep * c.fee ∧ c.dep * c.fee ≤ 8 * 1125899906842624 := ⟨Int.mul_nonneg (by omega) n9, Int.le_trans (Int.mul_le_mul_of_nonneg_right n2 n9) (Int.mul_le_mul_of_nonneg_left n10 (by omega))⟩
  have w7 : IntKind.i64.wrap (c.dep * c.fee) = c.dep * c.fee := wrap_i64 (by omega) (by omega)
  have w8 : IntKind.i64.wrap (c.am - c.dep * c.fee) = c.am - c.dep * c.fee := wrap_i64 (by omega) (by omega)
  simp [g3, g3', g3'', h32, w7, w8]
  by_cases hD : c.am - c.dep * c.fee < 10
  · rw [chk_D hR hA hK hD]
    have nD : ¬ 10 ≤ c.am - c.dep * c.fee := by omega
    simp [hD, nD]
    exact fin [] (by decide) rfl rfl rfl ⟨rfl, rfl⟩
  · rw [chk_0 hR hA hK hD]
    have nD : 10 ≤ c.am - c.dep * c.fee := by omega
    simp [hD, nD]
    exact fin [] (by decide) rfl rfl rfl ⟨rfl, rfl⟩

end Go.Proofs.YtoomdgmggkcgfaaDoor
