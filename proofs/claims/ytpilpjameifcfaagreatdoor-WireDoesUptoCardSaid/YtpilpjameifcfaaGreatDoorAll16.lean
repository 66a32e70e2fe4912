import Derived.Test.YtpilpjameifcfaaGreatDoorAll14
import Derived.Test.YtpilpjameifcfaaGreatDoorAll15
namespace Go.Proofs.YtpilpjameifcfaaGreatDoor
open Go Go.EW
set_option linter.unusedSimpArgs false
set_option linter.unusedVariables false

@[simp] def l_RDo_1 (_ : Unit) : List EOp := [⟨0, (some 3), none, (.q (.box 26 (.t 0))), []⟩, ⟨1, (some 5), none, (.q (.box 33 (.t 2))), []⟩, ⟨2, (some 6), none, (.q (.alloc 26 [(.int .i64 0), (.int .i64 0), (.int .i64 0), (.slice none 0 0), (.slice none 0 0)])), []⟩, ⟨3, (some 7), none, (.q (.mov (.k (.int .i64 0)))), []⟩]
@[simp] def b_RDo_2 (_ : Unit) : EB := reg0 (hid l_RDo_1) 4
@[simp] def l_RDo_6 (_ : Unit) : List EOp := [⟨18, (some 27), (some (25, false)), (.q (.ldc (.t 26))), []⟩, ⟨19, (some 28), (some (25, false)), (.q (.bin .gtr (.t 27) (.k (.int .i64 4)))), []⟩, ⟨20, (some 29), none, (.q (.pick (.t 25) (.k (.bool true)) (.t 28))), []⟩]
@[simp] def l_RDo_5 (_ : Unit) : List EOp := ⟨12, (some 21), (some (20, false)), (.q (.fad 0 (.t 5))), []⟩ :: ⟨13, (some 22), (some (20, false)), (.q (.ldc (.t 21))), []⟩ :: ⟨14, (some 23), (some (20, false)), (.q (.bin .lss (.t 22) (.k (.int .i64 1)))), []⟩ :: ⟨15, (some 24), none, (.q (.pick (.t 20) (.k (.bool true)) (.t 23))), []⟩ :: ⟨16, (some 25), none, (.q (.mov (.t 24))), []⟩ :: ⟨17, (some 26), (some (25, false)), (.q (.fad 0 (.t 5))), []⟩ :: hid l_RDo_6
@[simp] def l_RDo_4 (_ : Unit) : List EOp := ⟨6, (some 15), (some (12, false)), (.q (.mov (.t 14))), []⟩ :: ⟨7, (some 16), (some (15, true)), (.q (.mov (.t 1))), []⟩ :: ⟨8, (some 17), (some (15, true)), (.q (.bin .neq (.t 16) (.k (.int .i64 1)))), []⟩ :: ⟨9, (some 18), (some (12, false)), (.q (.pick (.t 15) (.t 17) (.k (.bool false)))), []⟩ :: ⟨10, (some 19), none, (.q (.pick (.t 12) (.k (.bool true)) (.t 18))), []⟩ :: ⟨11, (some 20), none, (.q (.mov (.t 19))), []⟩ :: hid l_RDo_5
@[simp] def l_RDo_3 (_ : Unit) : List EOp := ⟨0, (some 9), none, (.q (.lda 5 (.t 3))), []⟩ :: ⟨1, (some 10), none, (.call 29 [(.t 9)]), []⟩ :: ⟨2, (some 11), none, (.q (.bin .neq (.t 10) (.k (.int .i64 0)))), []⟩ :: ⟨3, (some 12), none, (.q (.mov (.t 11))), []⟩ :: ⟨4, (some 13), (some (12, false)), (.q (.mov (.t 1))), []⟩ :: ⟨5, (some 14), (some (12, false)), (.q (.bin .neq (.t 13) (.k (.int .i64 0)))), []⟩ :: hid l_RDo_4
@[simp] def b_RDo_7 (_ : Unit) : EB := reg0 (hid l_RDo_3) 21
@[simp] def l_RDo_8 (_ : Unit) : List EOp := [⟨0, (some 30), none, (.q (.build [(.int .i64 0), (.int .i64 0), (.int .i64 0), (.slice none 0 0), (.slice none 0 0)] [])), []⟩, ⟨1, none, none, (.fz (.sto 5 (.t 6) (.t 30))), []⟩, ⟨2, (some 7), none, (.q (.mov (.k (.int .i64 1)))), []⟩]
@[simp] def b_RDo_9 (_ : Unit) : EB := reg0 (hid l_RDo_8) 3
@[simp] def b_RDo_10 (_ : Unit) : EB := .seq (hid b_RDo_9) .ret
@[simp] def b_RDo_11 (_ : Unit) : EB := .cond (.t 29) (hid b_RDo_10) .skip
@[simp] def b_RDo_12 (_ : Unit) : EB := .seq (hid b_RDo_7) (hid b_RDo_11)
@[simp] def l_RDo_13 (_ : Unit) : List EOp := [⟨0, (some 31), none, (.q (.fad 0 (.t 5))), []⟩, ⟨1, (some 32), none, (.q (.ldc (.t 31))), []⟩, ⟨2, (some 33), none, (.q (.bin .eql (.t 32) (.k (.int .i64 1)))), []⟩]
@[simp] def b_RDo_14 (_ : Unit) : EB := reg0 (hid l_RDo_13) 3
@[simp] def l_RDo_16 (_ : Unit) : List EOp := [⟨6, (some 40), none, (.q (.ext 1 (.t 38))), []⟩, ⟨7, none, none, (.fz (.sto 5 (.t 6) (.t 39))), []⟩, ⟨8, (some 7), none, (.q (.mov (.t 40))), []⟩]
@[simp] def l_RDo_15 (_ : Unit) : List EOp := ⟨0, (some 34), none, (.q (.lda 5 (.t 3))), []⟩ :: ⟨1, (some 35), none, (.q (.mov (.t 1))), []⟩ :: ⟨2, (some 36), none, (.q (.fad 1 (.t 5))), []⟩ :: ⟨3, (some 37), none, (.q (.ldc (.t 36))), []⟩ :: ⟨4, (some 38), none, (.call 30 [(.t 34), (.t 35), (.t 37)]), []⟩ :: ⟨5, (some 39), none, (.q (.ext 0 (.t 38))), []⟩ :: hid l_RDo_16
@[simp] def b_RDo_17 (_ : Unit) : EB := reg0 (hid l_RDo_15) 9
@[simp] def b_RDo_18 (_ : Unit) : EB := .seq (hid b_RDo_17) .ret
@[simp] def b_RDo_19 (_ : Unit) : EB := .cond (.t 33) (hid b_RDo_18) .skip
@[simp] def b_RDo_20 (_ : Unit) : EB := .seq (hid b_RDo_14) (hid b_RDo_19)
@[simp] def l_RDo_21 (_ : Unit) : List EOp := [⟨0, (some 41), none, (.q (.fad 0 (.t 5))), []⟩, ⟨1, (some 42), none, (.q (.ldc (.t 41))), []⟩, ⟨2, (some 43), none, (.q (.bin .eql (.t 42) (.k (.int .i64 2)))), []⟩]
@[simp] def b_RDo_22 (_ : Unit) : EB := reg0 (hid l_RDo_21) 3
@[simp] def l_RDo_23 (_ : Unit) : List EOp := [⟨0, (some 44), none, (.q (.fad 3 (.t 5))), []⟩, ⟨1, (some 45), none, (.q (.fad 1 (.t 44))), []⟩, ⟨2, (some 46), none, (.q (.ldc (.t 45))), []⟩, ⟨3, (some 47), none, (.q (.mov (.t 1))), []⟩, ⟨4, (some 48), none, (.q (.bin .neq (.t 46) (.t 47))), []⟩]
@[simp] def b_RDo_24 (_ : Unit) : EB := reg0 (hid l_RDo_23) 5
@[simp] def l_RDo_25 (_ : Unit) : List EOp := [⟨0, (some 49), none, (.q (.build [(.int .i64 0), (.int .i64 0), (.int .i64 0), (.slice none 0 0), (.slice none 0 0)] [])), []⟩, ⟨1, none, none, (.fz (.sto 5 (.t 6) (.t 49))), []⟩, ⟨2, (some 7), none, (.q (.mov (.k (.int .i64 33)))), []⟩]
@[simp] def b_RDo_26 (_ : Unit) : EB := reg0 (hid l_RDo_25) 3
@[simp] def b_RDo_27 (_ : Unit) : EB := .seq (hid b_RDo_26) .ret
@[simp] def b_RDo_28 (_ : Unit) : EB := .cond (.t 48) (hid b_RDo_27) .skip
@[simp] def b_RDo_29 (_ : Unit) : EB := .seq (hid b_RDo_24) (hid b_RDo_28)
@[simp] def l_RDo_31 (_ : Unit) : List EOp := [⟨6, none, none, (.fz (.sto 5 (.t 6) (.t 54))), []⟩, ⟨7, (some 7), none, (.q (.mov (.t 55))), []⟩]
@[simp] def l_RDo_30 (_ : Unit) : List EOp := ⟨0, (some 50), none, (.q (.lda 5 (.t 3))), []⟩ :: ⟨1, (some 51), none, (.q (.fad 3 (.t 5))), []⟩ :: ⟨2, (some 52), none, (.q (.lda 36 (.t 51))), []⟩ :: ⟨3, (some 53), none, (.call 31 [(.t 50), (.t 52)]), []⟩ :: ⟨4, (some 54), none, (.q (.ext 0 (.t 53))), []⟩ :: ⟨5, (some 55), none, (.q (.ext 1 (.t 53))), []⟩ :: hid l_RDo_31
@[simp] def b_RDo_32 (_ : Unit) : EB := reg0 (hid l_RDo_30) 8
@[simp] def b_RDo_33 (_ : Unit) : EB := .seq (hid b_RDo_32) .ret
@[simp] def b_RDo_34 (_ : Unit) : EB := .seq (hid b_RDo_29) (hid b_RDo_33)
@[simp] def b_RDo_35 (_ : Unit) : EB := .cond (.t 43) (hid b_RDo_34) .skip
@[simp] def b_RDo_36 (_ : Unit) : EB := .seq (hid b_RDo_22) (hid b_RDo_35)
@[simp] def l_RDo_37 (_ : Unit) : List EOp := [⟨0, (some 8), none, (.q (.mov (.k (.int .i64 0)))), []⟩]
@[simp] def b_RDo_38 (_ : Unit) : EB := reg0 (hid l_RDo_37) 1
@[simp] def l_RDo_39 (_ : Unit) : List EOp := [⟨0, (some 56), none, (.q (.mov (.t 8))), []⟩, ⟨1, (some 57), none, (.q (.fad 3 (.t 3))), []⟩, ⟨2, (some 58), none, (.q (.ldc (.t 57))), []⟩, ⟨3, (some 59), none, (.q (.len (.t 58))), []⟩, ⟨4, (some 60), none, (.q (.bin .lss (.t 56) (.t 59))), []⟩]
@[simp] def b_RDo_40 (_ : Unit) : EB := reg0 (hid l_RDo_39) 5
@[simp] def b_RDo_41 (_ : Unit) : EB := .cond (.t 60) .skip (.exit 0)
@[simp] def b_RDo_42 (_ : Unit) : EB := .seq (hid b_RDo_40) (hid b_RDo_41)
@[simp] def l_RDo_44 (_ : Unit) : List EOp := [⟨6, (some 69), none, (.q (.fad 2 (.t 5))), []⟩, ⟨7, (some 70), none, (.q (.ldc (.t 69))), []⟩, ⟨8, (some 71), none, (.q (.bin .neq (.t 68) (.t 70))), []⟩]
@[simp] def l_RDo_43 (_ : Unit) : List EOp := ⟨0, (some 63), none, (.q (.fad 3 (.t 3))), []⟩ :: ⟨1, (some 64), none, (.q (.ldc (.t 63))), []⟩ :: ⟨2, (some 65), none, (.q (.mov (.t 8))), []⟩ :: ⟨3, (some 66), none, (.q (.isl 36 (.t 64) (.t 65))), []⟩ :: ⟨4, (some 67), none, (.q (.fad 0 (.t 66))), []⟩ :: ⟨5, (some 68), none, (.q (.ldc (.t 67))), []⟩ :: hid l_RDo_44
@[simp] def b_RDo_45 (_ : Unit) : EB := reg0 (hid l_RDo_43) 9
@[simp] def b_RDo_46 (_ : Unit) : EB := .cond (.t 71) (.exit 1) .skip
@[simp] def b_RDo_47 (_ : Unit) : EB := .seq (hid b_RDo_45) (hid b_RDo_46)
@[simp] def l_RDo_49 (_ : Unit) : List EOp := [⟨6, (some 78), none, (.q (.mov (.t 1))), []⟩, ⟨7, (some 79), none, (.q (.bin .eql (.t 77) (.t 78))), []⟩]
@[simp] def l_RDo_48 (_ : Unit) : List EOp := ⟨0, (some 72), none, (.q (.fad 3 (.t 3))), []⟩ :: ⟨1, (some 73), none, (.q (.ldc (.t 72))), []⟩ :: ⟨2, (some 74), none, (.q (.mov (.t 8))), []⟩ :: ⟨3, (some 75), none, (.q (.isl 36 (.t 73) (.t 74))), []⟩ :: ⟨4, (some 76), none, (.q (.fad 1 (.t 75))), []⟩ :: ⟨5, (some 77), none, (.q (.ldc (.t 76))), []⟩ :: hid l_RDo_49
@[simp] def b_RDo_50 (_ : Unit) : EB := reg0 (hid l_RDo_48) 8
@[simp] def l_RDo_51 (_ : Unit) : List EOp := [⟨0, (some 80), none, (.q (.build [(.int .i64 0), (.int .i64 0), (.int .i64 0), (.slice none 0 0), (.slice none 0 0)] [])), []⟩, ⟨1, none, none, (.fz (.sto 5 (.t 6) (.t 80))), []⟩, ⟨2, (some 7), none, (.q (.mov (.k (.int .i64 33)))), []⟩]
@[simp] def b_RDo_52 (_ : Unit) : EB := reg0 (hid l_RDo_51) 3
@[simp] def b_RDo_53 (_ : Unit) : EB := .seq (hid b_RDo_52) .ret
@[simp] def b_RDo_54 (_ : Unit) : EB := .cond (.t 79) (hid b_RDo_53) .skip
@[simp] def b_RDo_55 (_ : Unit) : EB := .seq (hid b_RDo_50) (hid b_RDo_54)
@[simp] def l_RDo_56 (_ : Unit) : List EOp := [⟨0, (some 81), none, (.q (.fad 0 (.t 5))), []⟩, ⟨1, (some 82), none, (.q (.ldc (.t 81))), []⟩, ⟨2, (some 83), none, (.q (.bin .eql (.t 82) (.k (.int .i64 3)))), []⟩]
@[simp] def b_RDo_57 (_ : Unit) : EB := reg0 (hid l_RDo_56) 3
@[simp] def l_RDo_59 (_ : Unit) : List EOp := [⟨6, (some 90), none, (.q (.ext 0 (.t 89))), []⟩, ⟨7, (some 91), none, (.q (.ext 1 (.t 89))), []⟩, ⟨8, none, none, (.fz (.sto 5 (.t 6) (.t 90))), []⟩, ⟨9, (some 7), none, (.q (.mov (.t 91))), []⟩]
@[simp] def l_RDo_58 (_ : Unit) : List EOp := ⟨0, (some 84), none, (.q (.lda 5 (.t 3))), []⟩ :: ⟨1, (some 85), none, (.q (.fad 2 (.t 5))), []⟩ :: ⟨2, (some 86), none, (.q (.ldc (.t 85))), []⟩ :: ⟨3, (some 87), none, (.q (.fad 39 (.t 5))), []⟩ :: ⟨4, (some 88), none, (.q (.ldc (.t 87))), []⟩ :: ⟨5, (some 89), none, (.call 32 [(.t 84), (.t 86), (.t 88)]), []⟩ :: hid l_RDo_59
@[simp] def b_RDo_60 (_ : Unit) : EB := reg0 (hid l_RDo_58) 10
@[simp] def b_RDo_61 (_ : Unit) : EB := .seq (hid b_RDo_60) .ret
@[simp] def b_RDo_62 (_ : Unit) : EB := .cond (.t 83) (hid b_RDo_61) .skip
@[simp] def b_RDo_63 (_ : Unit) : EB := .seq (hid b_RDo_57) (hid b_RDo_62)
@[simp] def l_RDo_65 (_ : Unit) : List EOp := [⟨6, none, none, (.fz (.sto 5 (.t 6) (.t 96))), []⟩, ⟨7, (some 7), none, (.q (.mov (.t 97))), []⟩]
@[simp] def l_RDo_64 (_ : Unit) : List EOp := ⟨0, (some 92), none, (.q (.lda 5 (.t 3))), []⟩ :: ⟨1, (some 93), none, (.q (.fad 2 (.t 5))), []⟩ :: ⟨2, (some 94), none, (.q (.ldc (.t 93))), []⟩ :: ⟨3, (some 95), none, (.call 33 [(.t 92), (.t 94)]), []⟩ :: ⟨4, (some 96), none, (.q (.ext 0 (.t 95))), []⟩ :: ⟨5, (some 97), none, (.q (.ext 1 (.t 95))), []⟩ :: hid l_RDo_65
@[simp] def b_RDo_66 (_ : Unit) : EB := reg0 (hid l_RDo_64) 8
@[simp] def b_RDo_67 (_ : Unit) : EB := .seq (hid b_RDo_66) .ret
@[simp] def b_RDo_68 (_ : Unit) : EB := .seq (hid b_RDo_63) (hid b_RDo_67)
@[simp] def b_RDo_69 (_ : Unit) : EB := .seq (hid b_RDo_55) (hid b_RDo_68)
@[simp] def b_RDo_70 (_ : Unit) : EB := .seq (hid b_RDo_47) (hid b_RDo_69)
@[simp] def b_RDo_71 (_ : Unit) : EB := .block 1 (hid b_RDo_70)
@[simp] def l_RDo_72 (_ : Unit) : List EOp := [⟨0, (some 61), none, (.q (.mov (.t 8))), []⟩, ⟨1, (some 62), none, (.q (.bin .add (.t 61) (.k (.int .i64 1)))), []⟩, ⟨2, (some 8), none, (.q (.mov (.t 62))), []⟩]
@[simp] def b_RDo_73 (_ : Unit) : EB := reg0 (hid l_RDo_72) 3
@[simp] def b_RDo_74 (_ : Unit) : EB := .seq (hid b_RDo_71) (hid b_RDo_73)
@[simp] def b_RDo_75 (_ : Unit) : EB := .seq (hid b_RDo_42) (hid b_RDo_74)
@[simp] def b_RDo_76 (_ : Unit) : EB := .loop (hid b_RDo_75)
@[simp] def b_RDo_77 (_ : Unit) : EB := .block 0 (hid b_RDo_76)
@[simp] def b_RDo_78 (_ : Unit) : EB := .seq (hid b_RDo_38) (hid b_RDo_77)
@[simp] def l_RDo_79 (_ : Unit) : List EOp := [⟨0, (some 98), none, (.q (.build [(.int .i64 0), (.int .i64 0), (.int .i64 0), (.slice none 0 0), (.slice none 0 0)] [])), []⟩, ⟨1, none, none, (.fz (.sto 5 (.t 6) (.t 98))), []⟩, ⟨2, (some 7), none, (.q (.mov (.k (.int .i64 8)))), []⟩]
@[simp] def b_RDo_80 (_ : Unit) : EB := reg0 (hid l_RDo_79) 3
@[simp] def b_RDo_81 (_ : Unit) : EB := .seq (hid b_RDo_80) .ret
@[simp] def b_RDo_82 (_ : Unit) : EB := .seq (hid b_RDo_78) (hid b_RDo_81)
@[simp] def b_RDo_83 (_ : Unit) : EB := .seq (hid b_RDo_36) (hid b_RDo_82)
@[simp] def b_RDo_84 (_ : Unit) : EB := .seq (hid b_RDo_20) (hid b_RDo_83)
@[simp] def b_RDo_85 (_ : Unit) : EB := .seq (hid b_RDo_12) (hid b_RDo_84)
@[simp] def b_RDo_86 (_ : Unit) : EB := .seq (hid b_RDo_2) (hid b_RDo_85)
def c_RDo : EB × List QOp × Nat := ((hid b_RDo_86), [(.lda 5 (.t 6)), (.mov (.t 7))], 99)
theorem k_RDo : cfun Tryz.prog 10 = some c_RDo := by kernel_rfl


theorem ite_h {H : List Hol} {c : Prop} [Decidable c] {a b : Sta × Nat} (ha : a.2 ≠ 0) (hb : b.2 = 0 → b.1.holds = H) : (if c then a else b).2 = 0 → (if c then a else b).1.holds = H := by
  split
  · exact fun h => absurd h ha
  · exact hb
theorem nxt_1 {s : Sta} : (nxt s).2 = 0 ∨ (nxt s).2 = 1 := by
  unfold nxt
  split
  · exact .inl rfl
  · exact .inr rfl
theorem moveS_h {s : Sta} {a n : Int} : (moveS s a n).2 = 0 → (moveS s a n).1.holds = s.holds := by
  unfold moveS
  split
  · rename_i h1; exact fun h => absurd h h1
  refine ite_h (by simp) (ite_h (by simp) (ite_h (by simp) ?_))
  split <;> exact fun _ => rfl
theorem doS_h {s : Sta} {side : Int} {o : WOp} : (doS s side o).2 = 0 → (doS s side o).1.holds = s.holds := by
  unfold doS
  refine ite_h (by simp) ?_
  split
  · exact moveS_h
  split
  · exact ite_h (by simp) fun h => (addP_h h).1
  split
  · exact fun h => absurd h (by simp)
  refine ite_h (by simp) ?_
  split
  · exact fun h => (setS_h h).1
  · exact fun h => (falS_h h).1
theorem zSta_sml : zSta.ok ∧ zSta.small := by simp [zSta, Sta.ok, Sta.small, i64]
theorem doS_sm {s : Sta} {side : Int} {o : WOp} (hs : s.ok) (hm : s.small) (ho : o.pay.ok) : (doS s side o).1.ok ∧ (doS s side o).1.small := by
  by_cases h : (doS s side o).2 = 0
  · obtain ⟨⟨g1, g2, g3, g4⟩, _⟩ := doS_gd hs ho h
    obtain ⟨⟨_, _, _, _, _, _, h7, h8⟩, _⟩ := mayS_t g1
    exact ⟨g4, by omega, by rw [doS_h h]; exact hm.2.1, by rw [doS_h h]; exact hm.2.2⟩
  · rw [doS_z h]; exact zSta_sml
theorem num_e (e : Nat) : ECalls Tryz.prog 11 [.lit (errV e)] [] fun y H' => H' = [] ∧ y = I .i64 e := by
  have h := num_ok (e : Int)
  have e1 : EN (e : Int) = .lit (errV e) := by
    unfold EN errV
    by_cases h : e = 0
    · subst h; rfl
    · rw [if_neg (by omega), if_neg h]
  rw [e1] at h
  exact h

set_option maxHeartbeats 8000000 in
set_option maxRecDepth 8000 in
theorem RDo_ok (s : Sta) (side : Int) (o : WOp) (hs : s.ok) (hsd : i64 side) (ho : o.ok) : ECalls Tryz.prog 10 [SV s, I .i64 side, OpV o] [] fun y H' => H' = [] ∧ y = RE (doS s side o) := by
  obtain ⟨⟨o1, o1'⟩, ⟨o2, o2'⟩, ⟨o3, o3'⟩, op, osl⟩ := id ho
  obtain ⟨ok1, ok2, ok3, ok4, ok5, ok6, ok7⟩ := id hs
  have h32 := op.2.2.2.2
  have t32 : o.pay.lock.take 32 = o.pay.lock := List.take_of_length_le (by omega)
  have hcl : (Go.EW.hc o.pay.lock).length = 32 := by rw [hc_len]; exact h32
  have hth : ∀ e : EC, List.take 32 (Go.EW.hc o.pay.lock ++ [e]) = Go.EW.hc o.pay.lock := fun e => by rw [List.take_append_of_le_length (by omega), List.take_of_length_le (by omega)]
  have hat : ∀ e : EC, (Go.EW.hc o.pay.lock ++ [e])[32]? = some e := fun e => by rw [List.getElem?_append_right (by omega), hcl]; rfl
  refine ecalls k_RDo ?_
  simp [c_RDo, SV, staC, I, OpV, wopC, t32, h32, tk33 h32, dr33 h32]
  refine call0 (RCheck_ok s hs) (by simp [SV, staC]) ?_
  rintro y H' ⟨rfl, rfl⟩
  refine ⟨.inl (by simp [I]), le_ok rfl, ?_⟩
  by_cases hm : mayS s = true
  rotate_left
  · have hm' : mayS s = false := by simpa using hm
    have hck : chkS s = 1 := chk_f hm'
    have hd : doS s side o = (zSta, 1) := by unfold doS; rw [if_pos (fun h => hm h.1)]
    simp [I, hck]
    rw [hd]
    simp [RE, staC, zSta]
    refine finW _ (weak_nlB (o := 32) (k := 3) 36 rfl rfl) (finW _ (weak_nlB (o := 32) (k := 4) 3 rfl rfl) ?_)
    exact fin [] (by decide) rfl rfl rfl ⟨rfl, rfl⟩
  have hck : chkS s = 0 := by simp [chkS, hm]
  by_cases hsid : side = 0 ∨ side = 1
  rotate_left
  · have h0 : ¬ side = 0 := fun h => hsid (.inl h)
    have h1 : ¬ side = 1 := fun h => hsid (.inr h)
    have hd : doS s side o = (zSta, 1) := by unfold doS; rw [if_pos (fun h => hsid h.2.1)]
    simp [I, hck, h0, h1]
    rw [hd]
    simp [RE, staC, zSta]
    refine finW _ (weak_nlB (o := 32) (k := 3) 36 rfl rfl) (finW _ (weak_nlB (o := 32) (k := 4) 3 rfl rfl) ?_)
    exact fin [] (by decide) rfl rfl rfl ⟨rfl, rfl⟩
  have hsi : (side ≠ 0 ∧ side ≠ 1) = False := by simp; omega
  by_cases h2 : o.kind < 1
  · have hd : doS s side o = (zSta, 1) := by unfold doS; rw [if_pos (fun h => by omega)]
    rcases hsid with e | e
    · subst e
      simp [I, hck, h2]
      rw [hd]
      simp [RE, staC, zSta]
      refine finW _ (weak_nlB (o := 32) (k := 3) 36 rfl rfl) (finW _ (weak_nlB (o := 32) (k := 4) 3 rfl rfl) ?_)
      exact fin [] (by decide) rfl rfl rfl ⟨rfl, rfl⟩
    · subst e
      simp [I, hck, h2]
      rw [hd]
      simp [RE, staC, zSta]
      refine finW _ (weak_nlB (o := 32) (k := 3) 36 rfl rfl) (finW _ (weak_nlB (o := 32) (k := 4) 3 rfl rfl) ?_)
      exact fin [] (by decide) rfl rfl rfl ⟨rfl, rfl⟩
  by_cases h3 : 4 < o.kind
  · have hd : doS s side o = (zSta, 1) := by unfold doS; rw [if_pos (fun h => by omega)]
    rcases hsid with e | e
    · subst e
      simp [I, hck, h2, h3]
      rw [hd]
      simp [RE, staC, zSta]
      refine finW _ (weak_nlB (o := 32) (k := 3) 36 rfl rfl) (finW _ (weak_nlB (o := 32) (k := 4) 3 rfl rfl) ?_)
      exact fin [] (by decide) rfl rfl rfl ⟨rfl, rfl⟩
    · subst e
      simp [I, hck, h2, h3]
      rw [hd]
      simp [RE, staC, zSta]
      refine finW _ (weak_nlB (o := 32) (k := 3) 36 rfl rfl) (finW _ (weak_nlB (o := 32) (k := 4) 3 rfl rfl) ?_)
      exact fin [] (by decide) rfl rfl rfl ⟨rfl, rfl⟩
  have hg : ¬ ¬ (mayS s = true ∧ (side = 0 ∨ side = 1) ∧ 1 ≤ o.kind ∧ o.kind ≤ 4) := fun h => h ⟨hm, hsid, by omega, by omega⟩
  rcases hsid with e | e
  · have hw : doS s side o = if o.kind = 1 then moveS s side o.am else if o.kind = 2 then if o.pay.fr ≠ side then (zSta, 33) else addP s o.pay else match layI s.pays o.id with
      | none => (zSta, 8)
      | some p => if p.fr = side then (zSta, 33) else if o.kind = 3 then setS s o.id o.sec else falS s o.id := by
      unfold doS
      rw [if_neg hg]
      rfl
    rw [hw]
    by_cases k1 : o.kind = 1
    · rw [if_pos k1]
      simp [I, hck, h2, h3, k1, e]
      refine call0 (RMove_ok s 0 o.am hs (by unfold i64; omega) ⟨o2, o2'⟩) (by simp [SV, staC, I, Bs]) ?_
      rintro y H' ⟨rfl, rfl⟩
      refine ⟨.inl (by simp), le_ok rfl, ?_⟩
      simp [RE, staC]
      exact fin [] (by decide) rfl rfl rfl ⟨rfl, rfl⟩
    rw [if_neg k1]
    by_cases k2 : o.kind = 2
    · rw [if_pos k2]
      by_cases kf : o.pay.fr = side
      · have he : (if o.pay.fr ≠ side then (zSta, 33) else addP s o.pay) = addP s o.pay := if_neg (by simpa using kf)
        rw [he]
        have kf' : o.pay.fr = 0 := by omega
        have hpa : payC o.pay = .fz (.lit (.int .i64 o.pay.id)) :: .fz (.lit (.int .i64 0)) :: .fz (.lit (.int .i64 o.pay.am)) :: .fz (.lit (.int .i64 o.pay.af)) :: Go.EW.hc o.pay.lock := by rw [← kf']; rfl
        simp [I, hck, h2, h3, k1, k2, e, kf', hth]
        rw [← hpa]
        refine ⟨by omega, ?_⟩
        refine call0 (RAdd_ok s o.pay hs op) (by simp [SV, staC, I, Bs]) ?_
        rintro y H' ⟨rfl, rfl⟩
        refine ⟨.inl (by simp), le_ok rfl, ?_⟩
        simp [RE, staC]
        exact fin [] (by decide) rfl rfl rfl ⟨rfl, rfl⟩
      · have he : (if o.pay.fr ≠ side then (zSta, 33) else addP s o.pay) = (zSta, 33) := if_pos kf
        rw [he]
        have kf' : ¬ o.pay.fr = 0 := by omega
        simp [I, hck, h2, h3, k1, k2, e, kf']
        simp [RE, staC, zSta]
        refine finW _ (weak_nlB (o := 32) (k := 3) 36 rfl rfl) (finW _ (weak_nlB (o := 32) (k := 4) 3 rfl rfl) ?_)
        exact fin [] (by decide) rfl rfl rfl ⟨rfl, rfl⟩
    rw [if_neg k2]
    obtain ⟨Q, hQ⟩ : ∃ Q, (match layI s.pays o.id with
      | none => (zSta, 8)
      | some p => if p.fr = side then (zSta, 33) else if o.kind = 3 then setS s o.id o.sec else falS s o.id) = Q := ⟨_, rfl⟩
    rw [hQ]
    simp [I, hck, h2, h3, k1, k2, e]
    refine eloop (α := Nat) (fun i => i ≤ s.pays.length ∧ ∀ (k : Nat) (q : Pay), k < i → s.pays[k]? = some q → q.id ≠ o.id) (fun i => s.pays.length - i)
      (fun i => [.any, I .i64 0, .any, .v (.c (.ptr 0 0)), .any, .v (.c (.ptr 1 0)), .v (.c (.ptr 2 0)), .any, I .i64 i, .any, .any, .any, .any, .any, .any, .any, .any, .any, .any, .any, .any, .any, .any, .any, .any, .any, .any, .any, .any, .any, .any, .any, .any, .any, .any, .any, .any, .any, .any, .any, .any, .any, .any, .any, .any, .any, .any, .any, .any, .any, .any, .any, .any, .any, .any, .any, .any, .any, .any, .any, .any, .any, .any, .any, .any, .any, .any, .any, .any, .any, .any, .any, .any, .any, .any, .any, .any, .any, .any, .any, .any, .any, .any, .any, .any, .any, .any, .any, .any, .any, .any, .any, .any, .any, .any, .any, .any, .any, .any])
      (fun _ => [some (.box 26 (staC s)), some (.box 33 (wopC o)), some (.box 26 [.fz (.lit (.int .i64 0)), .fz (.lit (.int .i64 0)), .fz (.lit (.int .i64 0)), .fz (.lit (.slice none 0 0)), .fz (.lit (.slice none 0 0))])]) 0 [0, 16, 32]
      ⟨Nat.zero_le _, fun k q h => by omega⟩ (by simp [I]) (by simp [staC, wopC]) (by simp [staC, wopC]) (by simp) (by simp) ?_
    rintro i ⟨hi, hno⟩
    simp [I, staC, wopC]
    refine alt (fun hlt => ?_) (fun hlt => ?_)
    rotate_left
    · have hln : i = s.pays.length := by omega
      subst hln
      have hl0 : layI s.pays o.id = none := layI_no fun k q hq => hno k q (lt_len hq) hq
      rw [hl0] at hQ
      rw [← hQ]
      simp [RE, staC, zSta]
      refine finW _ (weak_nlB (o := 2) (k := 3) 36 rfl rfl) (finW _ (weak_nlB (o := 2) (k := 4) 3 rfl rfl) ?_)
      exact fin [] (by decide) rfl rfl rfl ⟨rfl, rfl⟩
    have hln : i < s.pays.length := by omega
    obtain ⟨p, hc⟩ : ∃ p, s.pays[i]? = some p := ⟨s.pays[i], by simp [hln]⟩
    have hge : (payv s.pays)[i]'(by simp [hln]) = payF p := by
      have e := payv_get hc
      rw [List.getElem?_eq_getElem (by simp [hln])] at e
      exact Option.some.inj e
    have hpo := ok4 p (List.mem_of_getElem? hc)
    have hfl := payF_len hpo.2.2.2.2
    have w4 : IntKind.i64.wrap ((i : Int) + 1) = ((i + 1 : Nat) : Int) := wrap_i64 (by omega) (by omega)
    by_cases hid : p.id = o.id
    rotate_left
    · have hid' : ¬ o.id = p.id := fun h => hid h.symm
      simp [hln, hge, hfl, payF, hid, hid', w4, -Int.natCast_add]
      refine round (i + 1) [0, 1, 2] ⟨by omega, ?_⟩ (by omega) (by simp) (by simp) (by simp) (by simp) (by simp)
      intro k q hk hq
      rcases Nat.lt_or_ge k i with h1 | h1
      · exact hno k q h1 hq
      · obtain rfl : k = i := by omega
        rw [hc] at hq
        obtain rfl := Option.some.inj hq
        exact hid
    have hl1 : layI s.pays o.id = some p := layI_at hno hc hid
    rw [hl1] at hQ
    dsimp only at hQ
    by_cases ks : p.fr = side
    · rw [if_pos ks] at hQ
      rw [← hQ]
      have ks' : p.fr = 0 := by omega
      simp [hln, hge, hfl, payF, hid, ks']
      simp [RE, staC, zSta]
      refine finW _ (weak_nlB (o := 2) (k := 3) 36 rfl rfl) (finW _ (weak_nlB (o := 2) (k := 4) 3 rfl rfl) ?_)
      exact fin [] (by decide) rfl rfl rfl ⟨rfl, rfl⟩
    rw [if_neg ks] at hQ
    have ks' : ¬ p.fr = 0 := by omega
    by_cases k3 : o.kind = 3
    · rw [if_pos k3] at hQ
      rw [← hQ]
      simp [hln, hge, hfl, payF, hid, ks', k3, hat]
      refine call0 (RSettle_ok s o.id o.sec hs ⟨o3, o3'⟩ (by omega)) (by simp [SV, staC, I, Bs]) ?_
      rintro y H' ⟨rfl, rfl⟩
      refine ⟨.inl (by simp), le_ok rfl, ?_⟩
      simp [RE, staC]
      exact fin [] (by decide) rfl rfl rfl ⟨rfl, rfl⟩
    · rw [if_neg k3] at hQ
      rw [← hQ]
      simp [hln, hge, hfl, payF, hid, ks', k3]
      refine call0 (RFail_ok s o.id hs ⟨o3, o3'⟩) (by simp [SV, staC, I, Bs]) ?_
      rintro y H' ⟨rfl, rfl⟩
      refine ⟨.inl (by simp), le_ok rfl, ?_⟩
      simp [RE, staC]
      exact fin [] (by decide) rfl rfl rfl ⟨rfl, rfl⟩
  · have hw : doS s side o = if o.kind = 1 then moveS s side o.am else if o.kind = 2 then if o.pay.fr ≠ side then (zSta, 33) else addP s o.pay else match layI s.pays o.id with
      | none => (zSta, 8)
      | some p => if p.fr = side then (zSta, 33) else if o.kind = 3 then setS s o.id o.sec else falS s o.id := by
      unfold doS
      rw [if_neg hg]
      rfl
    rw [hw]
    by_cases k1 : o.kind = 1
    · rw [if_pos k1]
      simp [I, hck, h2, h3, k1, e]
      refine call0 (RMove_ok s 1 o.am hs (by unfold i64; omega) ⟨o2, o2'⟩) (by simp [SV, staC, I, Bs]) ?_
      rintro y H' ⟨rfl, rfl⟩
      refine ⟨.inl (by simp), le_ok rfl, ?_⟩
      simp [RE, staC]
      exact fin [] (by decide) rfl rfl rfl ⟨rfl, rfl⟩
    rw [if_neg k1]
    by_cases k2 : o.kind = 2
    · rw [if_pos k2]
      by_cases kf : o.pay.fr = side
      · have he : (if o.pay.fr ≠ side then (zSta, 33) else addP s o.pay) = addP s o.pay := if_neg (by simpa using kf)
        rw [he]
        have kf' : o.pay.fr = 1 := by omega
        have hpa : payC o.pay = .fz (.lit (.int .i64 o.pay.id)) :: .fz (.lit (.int .i64 1)) :: .fz (.lit (.int .i64 o.pay.am)) :: .fz (.lit (.int .i64 o.pay.af)) :: Go.EW.hc o.pay.lock := by rw [← kf']; rfl
        simp [I, hck, h2, h3, k1, k2, e, kf', hth]
        rw [← hpa]
        refine ⟨by omega, ?_⟩
        refine call0 (RAdd_ok s o.pay hs op) (by simp [SV, staC, I, Bs]) ?_
        rintro y H' ⟨rfl, rfl⟩
        refine ⟨.inl (by simp), le_ok rfl, ?_⟩
        simp [RE, staC]
        exact fin [] (by decide) rfl rfl rfl ⟨rfl, rfl⟩
      · have he : (if o.pay.fr ≠ side then (zSta, 33) else addP s o.pay) = (zSta, 33) := if_pos kf
        rw [he]
        have kf' : ¬ o.pay.fr = 1 := by omega
        simp [I, hck, h2, h3, k1, k2, e, kf']
        simp [RE, staC, zSta]
        refine finW _ (weak_nlB (o := 32) (k := 3) 36 rfl rfl) (finW _ (weak_nlB (o := 32) (k := 4) 3 rfl rfl) ?_)
        exact fin [] (by decide) rfl rfl rfl ⟨rfl, rfl⟩
    rw [if_neg k2]
    obtain ⟨Q, hQ⟩ : ∃ Q, (match layI s.pays o.id with
      | none => (zSta, 8)
      | some p => if p.fr = side then (zSta, 33) else if o.kind = 3 then setS s o.id o.sec else falS s o.id) = Q := ⟨_, rfl⟩
    rw [hQ]
    simp [I, hck, h2, h3, k1, k2, e]
    refine eloop (α := Nat) (fun i => i ≤ s.pays.length ∧ ∀ (k : Nat) (q : Pay), k < i → s.pays[k]? = some q → q.id ≠ o.id) (fun i => s.pays.length - i)
      (fun i => [.any, I .i64 1, .any, .v (.c (.ptr 0 0)), .any, .v (.c (.ptr 1 0)), .v (.c (.ptr 2 0)), .any, I .i64 i, .any, .any, .any, .any, .any, .any, .any, .any, .any, .any, .any, .any, .any, .any, .any, .any, .any, .any, .any, .any, .any, .any, .any, .any, .any, .any, .any, .any, .any, .any, .any, .any, .any, .any, .any, .any, .any, .any, .any, .any, .any, .any, .any, .any, .any, .any, .any, .any, .any, .any, .any, .any, .any, .any, .any, .any, .any, .any, .any, .any, .any, .any, .any, .any, .any, .any, .any, .any, .any, .any, .any, .any, .any, .any, .any, .any, .any, .any, .any, .any, .any, .any, .any, .any, .any, .any, .any, .any, .any, .any])
      (fun _ => [some (.box 26 (staC s)), some (.box 33 (wopC o)), some (.box 26 [.fz (.lit (.int .i64 0)), .fz (.lit (.int .i64 0)), .fz (.lit (.int .i64 0)), .fz (.lit (.slice none 0 0)), .fz (.lit (.slice none 0 0))])]) 0 [0, 16, 32]
      ⟨Nat.zero_le _, fun k q h => by omega⟩ (by simp [I]) (by simp [staC, wopC]) (by simp [staC, wopC]) (by simp) (by simp) ?_
    rintro i ⟨hi, hno⟩
    simp [I, staC, wopC]
    refine alt (fun hlt => ?_) (fun hlt => ?_)
    rotate_left
    · have hln : i = s.pays.length := by omega
      subst hln
      have hl0 : layI s.pays o.id = none := layI_no fun k q hq => hno k q (lt_len hq) hq
      rw [hl0] at hQ
      rw [← hQ]
      simp [RE, staC, zSta]
      refine finW _ (weak_nlB (o := 2) (k := 3) 36 rfl rfl) (finW _ (weak_nlB (o := 2) (k := 4) 3 rfl rfl) ?_)
      exact fin [] (by decide) rfl rfl rfl ⟨rfl, rfl⟩
    have hln : i < s.pays.length := by omega
    obtain ⟨p, hc⟩ : ∃ p, s.pays[i]? = some p := ⟨s.pays[i], by simp [hln]⟩
    have hge : (payv s.pays)[i]'(by simp [hln]) = payF p := by
      have e := payv_get hc
      rw [List.getElem?_eq_getElem (by simp [hln])] at e
      exact Option.some.inj e
    have hpo := ok4 p (List.mem_of_getElem? hc)
    have hfl := payF_len hpo.2.2.2.2
    have w4 : IntKind.i64.wrap ((i : Int) + 1) = ((i + 1 : Nat) : Int) := wrap_i64 (by omega) (by omega)
    by_cases hid : p.id = o.id
    rotate_left
    · have hid' : ¬ o.id = p.id := fun h => hid h.symm
      simp [hln, hge, hfl, payF, hid, hid', w4, -Int.natCast_add]
      refine round (i + 1) [0, 1, 2] ⟨by omega, ?_⟩ (by omega) (by simp) (by simp) (by simp) (by simp) (by simp)
      intro k q hk hq
      rcases Nat.lt_or_ge k i with h1 | h1
      · exact hno k q h1 hq
      · obtain rfl : k = i := by omega
        rw [hc] at hq
        obtain rfl := Option.some.inj hq
        exact hid
    have hl1 : layI s.pays o.id = some p := layI_at hno hc hid
    rw [hl1] at hQ
    dsimp only at hQ
    by_cases ks : p.fr = side
    · rw [if_pos ks] at hQ
      rw [← hQ]
      have ks' : p.fr = 1 := by omega
      simp [hln, hge, hfl, payF, hid, ks']
      simp [RE, staC, zSta]
      refine finW _ (weak_nlB (o := 2) (k := 3) 36 rfl rfl) (finW _ (weak_nlB (o := 2) (k := 4) 3 rfl rfl) ?_)
      exact fin [] (by decide) rfl rfl rfl ⟨rfl, rfl⟩
    rw [if_neg ks] at hQ
    have ks' : ¬ p.fr = 1 := by omega
    by_cases k3 : o.kind = 3
    · rw [if_pos k3] at hQ
      rw [← hQ]
      simp [hln, hge, hfl, payF, hid, ks', k3, hat]
      refine call0 (RSettle_ok s o.id o.sec hs ⟨o3, o3'⟩ (by omega)) (by simp [SV, staC, I, Bs]) ?_
      rintro y H' ⟨rfl, rfl⟩
      refine ⟨.inl (by simp), le_ok rfl, ?_⟩
      simp [RE, staC]
      exact fin [] (by decide) rfl rfl rfl ⟨rfl, rfl⟩
    · rw [if_neg k3] at hQ
      rw [← hQ]
      simp [hln, hge, hfl, payF, hid, ks', k3]
      refine call0 (RFail_ok s o.id hs ⟨o3, o3'⟩) (by simp [SV, staC, I, Bs]) ?_
      rintro y H' ⟨rfl, rfl⟩
      refine ⟨.inl (by simp), le_ok rfl, ?_⟩
      simp [RE, staC]
      exact fin [] (by decide) rfl rfl rfl ⟨rfl, rfl⟩

end Go.Proofs.YtpilpjameifcfaaGreatDoor

namespace Go.Proofs.YtpilpjameifcfaaGreatDoor
open Go Go.EW
set_option linter.unusedSimpArgs false
set_option linter.unusedVariables false

@[simp] def l_WireDoes_1 (_ : Unit) : List EOp := [⟨0, (some 3), none, (.q (.box 26 (.t 0))), []⟩, ⟨1, (some 5), none, (.q (.box 33 (.t 2))), []⟩, ⟨2, (some 6), none, (.q (.mov (.k (.bool false)))), []⟩]
@[simp] def b_WireDoes_2 (_ : Unit) : EB := reg0 (hid l_WireDoes_1) 3
@[simp] def l_WireDoes_4 (_ : Unit) : List EOp := [⟨6, (some 17), (some (13, false)), (.q (.bin .gtr (.t 16) (.k (.int .i64 1000)))), []⟩, ⟨7, (some 18), none, (.q (.pick (.t 13) (.k (.bool true)) (.t 17))), []⟩]
@[simp] def l_WireDoes_3 (_ : Unit) : List EOp := ⟨0, (some 11), none, (.q (.lda 5 (.t 3))), []⟩ :: ⟨1, (some 12), none, (.call 5 [(.t 11)]), []⟩ :: ⟨2, (some 13), none, (.q (.mov (.t 12))), []⟩ :: ⟨3, (some 14), (some (13, false)), (.q (.fad 39 (.t 5))), []⟩ :: ⟨4, (some 15), (some (13, false)), (.q (.ldc (.t 14))), []⟩ :: ⟨5, (some 16), (some (13, false)), (.q (.len (.t 15))), []⟩ :: hid l_WireDoes_4
@[simp] def b_WireDoes_5 (_ : Unit) : EB := reg0 (hid l_WireDoes_3) 8
@[simp] def l_WireDoes_6 (_ : Unit) : List EOp := [⟨0, (some 19), none, (.call 6 []), []⟩, ⟨1, (some 6), none, (.q (.mov (.t 19))), []⟩]
@[simp] def b_WireDoes_7 (_ : Unit) : EB := reg0 (hid l_WireDoes_6) 2
@[simp] def b_WireDoes_8 (_ : Unit) : EB := .seq (hid b_WireDoes_7) .ret
@[simp] def b_WireDoes_9 (_ : Unit) : EB := .cond (.t 18) (hid b_WireDoes_8) .skip
@[simp] def b_WireDoes_10 (_ : Unit) : EB := .seq (hid b_WireDoes_5) (hid b_WireDoes_9)
@[simp] def l_WireDoes_12 (_ : Unit) : List EOp := [⟨5, (some 26), none, (.call 7 [(.t 22), (.t 23), (.t 25)]), [9]⟩, ⟨6, (some 20), none, (.q (.mov (.t 26))), []⟩, ⟨7, (some 27), none, (.q (.ext 0 (.t 20))), []⟩, ⟨8, (some 28), none, (.q (.ext 1 (.t 20))), []⟩, ⟨10, none, none, (.fz (.sto 5 (.t 7) (.t 27))), [8]⟩, ⟨11, (some 8), none, (.q (.mov (.t 28))), []⟩]
@[simp] def l_WireDoes_11 (_ : Unit) : List EOp := ⟨0, (some 21), none, (.q (.lda 5 (.t 3))), []⟩ :: ⟨2, (some 23), none, (.q (.mov (.t 1))), []⟩ :: ⟨3, (some 24), none, (.q (.lda 40 (.t 5))), []⟩ :: ⟨9, (some 7), none, (.q (.alloc 39 [(.int .i64 0), (.int .i64 0), (.int .i64 0), (.slice none 0 0), (.slice none 0 0)])), []⟩ :: ⟨1, (some 22), none, (.call 8 [(.t 21)]), [2, 3, 9]⟩ :: ⟨4, (some 25), none, (.call 9 [(.t 24)]), [2, 9]⟩ :: hid l_WireDoes_12
@[simp] def b_WireDoes_13 (_ : Unit) : EB := reg1 (hid l_WireDoes_11) 12
@[simp] def l_WireDoes_15 (_ : Unit) : List EOp := [⟨6, (some 35), none, (.q (.ext 1 (.t 29))), []⟩, ⟨7, (some 9), none, (.q (.alloc 26 [(.int .i64 0), (.int .i64 0), (.int .i64 0), (.slice none 0 0), (.slice none 0 0)])), []⟩, ⟨8, none, none, (.fz (.sto 5 (.t 9) (.t 34))), []⟩, ⟨9, (some 10), none, (.q (.mov (.t 35))), []⟩]
@[simp] def l_WireDoes_14 (_ : Unit) : List EOp := ⟨0, (some 30), none, (.q (.lda 5 (.t 3))), []⟩ :: ⟨1, (some 31), none, (.q (.mov (.t 1))), []⟩ :: ⟨2, (some 32), none, (.q (.lda 40 (.t 5))), []⟩ :: ⟨3, (some 33), none, (.call 10 [(.t 30), (.t 31), (.t 32)]), []⟩ :: ⟨4, (some 29), none, (.q (.mov (.t 33))), []⟩ :: ⟨5, (some 34), none, (.q (.ext 0 (.t 29))), []⟩ :: hid l_WireDoes_15
@[simp] def b_WireDoes_16 (_ : Unit) : EB := reg0 (hid l_WireDoes_14) 10
@[simp] def l_WireDoes_19 (_ : Unit) : List EOp := [⟨12, (some 48), none, (.q (.pick (.t 40) (.t 47) (.k (.bool false)))), []⟩, ⟨13, (some 49), none, (.q (.mov (.t 48))), []⟩, ⟨14, (some 50), (some (49, true)), (.call 6 []), []⟩, ⟨15, (some 51), none, (.q (.pick (.t 49) (.t 50) (.k (.bool false)))), []⟩, ⟨16, (some 6), none, (.q (.mov (.t 51))), []⟩]
@[simp] def l_WireDoes_18 (_ : Unit) : List EOp := ⟨8, (some 44), (some (40, true)), (.q (.lda 5 (.t 9))), []⟩ :: ⟨6, (some 42), (some (40, true)), (.call 12 [(.t 41)]), [8]⟩ :: ⟨7, (some 43), (some (40, true)), (.q (.b2s (.t 42))), []⟩ :: ⟨9, (some 45), (some (40, true)), (.call 13 [(.t 44)]), [7]⟩ :: ⟨10, (some 46), (some (40, true)), (.q (.b2s (.t 45))), []⟩ :: ⟨11, (some 47), (some (40, true)), (.q (.bin .eql (.t 43) (.t 46))), []⟩ :: hid l_WireDoes_19
@[simp] def l_WireDoes_17 (_ : Unit) : List EOp := ⟨0, (some 36), none, (.q (.mov (.t 8))), []⟩ :: ⟨2, (some 38), none, (.q (.mov (.t 10))), []⟩ :: ⟨1, (some 37), none, (.call 11 [(.t 36)]), [2]⟩ :: ⟨3, (some 39), none, (.q (.bin .eql (.t 37) (.t 38))), []⟩ :: ⟨4, (some 40), none, (.q (.mov (.t 39))), []⟩ :: ⟨5, (some 41), (some (40, true)), (.q (.lda 5 (.t 7))), []⟩ :: hid l_WireDoes_18
@[simp] def b_WireDoes_20 (_ : Unit) : EB := reg1 (hid l_WireDoes_17) 17
@[simp] def b_WireDoes_21 (_ : Unit) : EB := .seq (hid b_WireDoes_20) .ret
@[simp] def b_WireDoes_22 (_ : Unit) : EB := .seq (hid b_WireDoes_16) (hid b_WireDoes_21)
@[simp] def b_WireDoes_23 (_ : Unit) : EB := .seq (hid b_WireDoes_13) (hid b_WireDoes_22)
@[simp] def b_WireDoes_24 (_ : Unit) : EB := .seq (hid b_WireDoes_10) (hid b_WireDoes_23)
@[simp] def b_WireDoes_25 (_ : Unit) : EB := .seq (hid b_WireDoes_2) (hid b_WireDoes_24)
def c_WireDoes : EB × List QOp × Nat := ((hid b_WireDoes_25), [(.mov (.t 6))], 52)
theorem k_WireDoes : cfun Tryz.prog 3 = some c_WireDoes := by kernel_rfl


set_option maxHeartbeats 8000000 in
set_option maxRecDepth 8000 in
theorem WireDoes_ok (s : Sta) (side : Int) (o : WOp) (hs : s.ok) (hsd : i64 side) (ho : o.ok) : ECalls Tryz.prog 3 [SV s, I .i64 side, OpV o] [] fun y H' => H' = [] ∧ y = .lit (.bool true) := by
  obtain ⟨⟨o1, o1'⟩, ⟨o2, o2'⟩, ⟨o3, o3'⟩, op, osl⟩ := id ho
  have h32 := op.2.2.2.2
  have t32 : o.pay.lock.take 32 = o.pay.lock := List.take_of_length_le (by omega)
  have hcl : (Go.EW.hc o.pay.lock).length = 32 := by rw [hc_len]; exact h32
  have hat : ∀ e : EC, (Go.EW.hc o.pay.lock ++ [e])[32]? = some e := fun e => by rw [List.getElem?_append_right (by omega), hcl]; rfl
  refine ecalls k_WireDoes ?_
  simp [c_WireDoes, SV, staC, I, OpV, wopC, t32, h32, tk33 h32, dr33 h32]
  refine call0 (longState_ok s hs) (by simp [SV, staC]) ?_
  rintro y H' ⟨rfl, rfl⟩
  refine ⟨.inl (by simp), le_ok rfl, ?_⟩
  by_cases hl : longS s = true
  · simp [hl]
    refine call0 (sure_ok) (by simp [Ptr, I, EV.lit, Bs, SV, staC, SE, RE, OpV, wopC]) ?_
    rintro y H' ⟨rfl, rfl⟩
    refine ⟨.inl (by simp [Ptr, I, EV.lit, Bs, SV, staC, SE, RE, OpV, wopC]), le_ok rfl, ?_⟩
    simp [Ptr, I, EV.lit, Bs, SV, staC, SE, RE, OpV, wopC]
    exact fin [] (by decide) rfl rfl rfl ⟨rfl, rfl⟩
  have hl' : longS s = false := by simpa using hl
  have hsm := (longS_small hl').1
  by_cases h1000 : (1000 : Int) < (o.sec.length : Int)
  · simp [hl', hat, h1000]
    refine call0 (sure_ok) (by simp [Ptr, I, EV.lit, Bs, SV, staC, SE, RE, OpV, wopC]) ?_
    rintro y H' ⟨rfl, rfl⟩
    refine ⟨.inl (by simp [Ptr, I, EV.lit, Bs, SV, staC, SE, RE, OpV, wopC]), le_ok rfl, ?_⟩
    simp [Ptr, I, EV.lit, Bs, SV, staC, SE, RE, OpV, wopC]
    exact fin [] (by decide) rfl rfl rfl ⟨rfl, rfl⟩
  simp [hl', hat, h1000]
  refine ⟨by omega, ?_⟩
  refine call0 (giveState_ok s hs hsm) (by simp [SV, staC]) ?_
  rintro y H' ⟨rfl, rfl⟩
  refine ⟨.inl (by simp), le_ok rfl, ?_⟩
  simp [SV, staC, t32, h32, tk33 h32, dr33 h32]
  refine call0 (giveOp_ok o ho) (by simp [OpV, wopC]) ?_
  rintro y H' ⟨rfl, rfl⟩
  refine ⟨.inl (by simp [OpV, wopC]), le_ok rfl, ?_⟩
  simp [OpV, wopC]
  refine call0 (WDo_ok s side o hs hsd ho) (by simp [SV, staC, I, OpV, wopC]) ?_
  rintro y H' ⟨rfl, rfl⟩
  refine ⟨.inl (by simp), le_ok rfl, ?_⟩
  have hRD := RDo_ok s side o hs hsd ho
  obtain ⟨q1, q2⟩ := doS_sm (side := side) hs hsm op
  obtain ⟨r, hr⟩ : ∃ r, doS s side o = r := ⟨_, rfl⟩
  rw [hr] at hRD q1 q2 ⊢
  simp [SE, staC, t32, h32, tk33 h32, dr33 h32, -errV_0]
  refine call0 hRD (by simp [SV, staC, I, OpV, wopC]) ?_
  rintro y H' ⟨rfl, rfl⟩
  refine ⟨.inl (by simp), le_ok rfl, ?_⟩
  simp [RE, staC, -errV_0]
  refine call0 (num_e r.2) (by simp [EV.lit]) ?_
  rintro y H' ⟨rfl, rfl⟩
  refine ⟨.inl (by simp [I]), le_ok rfl, ?_⟩
  simp [I, staC]
  refine call0 (Encode_ok r.1 q1 q2) (by simp [SV, staC]) ?_
  rintro y H' ⟨rfl, rfl⟩
  refine ⟨.inl (by simp [Bs]), le_ok rfl, ?_⟩
  simp [Bs, staC]
  refine call0 (REncode_ok r.1 q1 q2) (by simp [SV, staC]) ?_
  rintro y H' ⟨rfl, rfl⟩
  refine ⟨.inl (by simp [Bs]), le_ok rfl, ?_⟩
  simp [Bs, staC]
  refine call0 (sure_ok) (by simp [Ptr, I, EV.lit, Bs, SV, staC, SE, RE, OpV, wopC]) ?_
  rintro y H' ⟨rfl, rfl⟩
  refine ⟨.inl (by simp [Ptr, I, EV.lit, Bs, SV, staC, SE, RE, OpV, wopC]), le_ok rfl, ?_⟩
  simp [Ptr, I, EV.lit, Bs, SV, staC, SE, RE, OpV, wopC]
  exact fin [] (by decide) rfl rfl rfl ⟨rfl, rfl⟩

end Go.Proofs.YtpilpjameifcfaaGreatDoor
