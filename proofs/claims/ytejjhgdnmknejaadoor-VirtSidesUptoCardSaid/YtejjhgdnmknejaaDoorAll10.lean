import Derived.Test.YtejjhgdnmknejaaDoorAll8
import Derived.Test.YtejjhgdnmknejaaDoorAll6
import Derived.Test.YtejjhgdnmknejaaDoorProg
import Derived.Test.YtejjhgdnmknejaaDoorAll7
namespace Go.Proofs.YtejjhgdnmknejaaDoor
open Go Go.EW
set_option linter.unusedSimpArgs false
set_option linter.unusedVariables false

@[simp] def l_VCheck_1 (_ : Unit) : List EOp := [⟨0, (some 1), none, (.q (.box 45 (.t 0))), []⟩, ⟨1, (some 2), none, (.q (.mov (.k .nilIface))), []⟩]
@[simp] def b_VCheck_2 (_ : Unit) : EB := reg0 (hid l_VCheck_1) 2
@[simp] def l_VCheck_4 (_ : Unit) : List EOp := [⟨6, (some 12), none, (.q (.fad 76 (.t 1))), []⟩, ⟨7, (some 13), none, (.q (.iad 3 1 (.t 12) (.k (.int .i64 2)))), []⟩, ⟨8, (some 14), none, (.q (.ldc (.t 13))), []⟩, ⟨9, (some 3), none, (.q (.mov (.t 8))), []⟩, ⟨10, (some 4), none, (.q (.mov (.t 11))), []⟩, ⟨11, (some 5), none, (.q (.mov (.t 14))), []⟩]
@[simp] def l_VCheck_3 (_ : Unit) : List EOp := ⟨0, (some 6), none, (.q (.fad 76 (.t 1))), []⟩ :: ⟨1, (some 7), none, (.q (.iad 3 1 (.t 6) (.k (.int .i64 0)))), []⟩ :: ⟨2, (some 8), none, (.q (.ldc (.t 7))), []⟩ :: ⟨3, (some 9), none, (.q (.fad 76 (.t 1))), []⟩ :: ⟨4, (some 10), none, (.q (.iad 3 1 (.t 9) (.k (.int .i64 1)))), []⟩ :: ⟨5, (some 11), none, (.q (.ldc (.t 10))), []⟩ :: hid l_VCheck_4
@[simp] def b_VCheck_5 (_ : Unit) : EB := reg0 (hid l_VCheck_3) 12
@[simp] def l_VCheck_13 (_ : Unit) : List EOp := [⟨42, (some 58), (some (52, false)), (.q (.un .not (.t 57))), []⟩, ⟨43, (some 59), none, (.q (.pick (.t 52) (.k (.bool true)) (.t 58))), []⟩, ⟨44, (some 15), none, (.q (.mov (.t 59))), []⟩]
@[simp] def l_VCheck_12 (_ : Unit) : List EOp := ⟨36, (some 52), none, (.q (.mov (.t 51))), []⟩ :: ⟨37, (some 53), (some (52, false)), (.q (.fad 38 (.t 1))), []⟩ :: ⟨38, (some 54), (some (52, false)), (.q (.lda 38 (.t 53))), []⟩ :: ⟨39, (some 55), (some (52, false)), (.q (.mov (.t 4))), []⟩ :: ⟨40, (some 56), (some (52, false)), (.q (.mov (.t 5))), []⟩ :: ⟨41, (some 57), (some (52, false)), (.call 15 [(.t 54), (.t 55), (.t 56)]), []⟩ :: hid l_VCheck_13
@[simp] def l_VCheck_11 (_ : Unit) : List EOp := ⟨30, (some 46), (some (44, false)), (.q (.lda 38 (.t 45))), []⟩ :: ⟨31, (some 47), (some (44, false)), (.q (.mov (.t 3))), []⟩ :: ⟨32, (some 48), (some (44, false)), (.q (.mov (.t 4))), []⟩ :: ⟨33, (some 49), (some (44, false)), (.call 15 [(.t 46), (.t 47), (.t 48)]), []⟩ :: ⟨34, (some 50), (some (44, false)), (.q (.un .not (.t 49))), []⟩ :: ⟨35, (some 51), none, (.q (.pick (.t 44) (.k (.bool true)) (.t 50))), []⟩ :: hid l_VCheck_12
@[simp] def l_VCheck_10 (_ : Unit) : List EOp := ⟨24, (some 40), (some (39, false)), (.q (.mov (.t 3))), []⟩ :: ⟨25, (some 41), (some (39, false)), (.q (.mov (.t 5))), []⟩ :: ⟨26, (some 42), (some (39, false)), (.q (.bin .eql (.t 40) (.t 41))), []⟩ :: ⟨27, (some 43), none, (.q (.pick (.t 39) (.k (.bool true)) (.t 42))), []⟩ :: ⟨28, (some 44), none, (.q (.mov (.t 43))), []⟩ :: ⟨29, (some 45), (some (44, false)), (.q (.fad 0 (.t 1))), []⟩ :: hid l_VCheck_11
@[simp] def l_VCheck_9 (_ : Unit) : List EOp := ⟨18, (some 34), none, (.q (.mov (.t 33))), []⟩ :: ⟨19, (some 35), (some (34, false)), (.q (.mov (.t 4))), []⟩ :: ⟨20, (some 36), (some (34, false)), (.q (.mov (.t 5))), []⟩ :: ⟨21, (some 37), (some (34, false)), (.q (.bin .eql (.t 35) (.t 36))), []⟩ :: ⟨22, (some 38), none, (.q (.pick (.t 34) (.k (.bool true)) (.t 37))), []⟩ :: ⟨23, (some 39), none, (.q (.mov (.t 38))), []⟩ :: hid l_VCheck_10
@[simp] def l_VCheck_8 (_ : Unit) : List EOp := ⟨12, (some 28), none, (.q (.pick (.t 24) (.k (.bool true)) (.t 27))), []⟩ :: ⟨13, (some 29), none, (.q (.mov (.t 28))), []⟩ :: ⟨14, (some 30), (some (29, false)), (.q (.mov (.t 3))), []⟩ :: ⟨15, (some 31), (some (29, false)), (.q (.mov (.t 4))), []⟩ :: ⟨16, (some 32), (some (29, false)), (.q (.bin .eql (.t 30) (.t 31))), []⟩ :: ⟨17, (some 33), none, (.q (.pick (.t 29) (.k (.bool true)) (.t 32))), []⟩ :: hid l_VCheck_9
@[simp] def l_VCheck_7 (_ : Unit) : List EOp := ⟨6, (some 22), (some (19, false)), (.q (.un .not (.t 21))), []⟩ :: ⟨7, (some 23), none, (.q (.pick (.t 19) (.k (.bool true)) (.t 22))), []⟩ :: ⟨8, (some 24), none, (.q (.mov (.t 23))), []⟩ :: ⟨9, (some 25), (some (24, false)), (.q (.mov (.t 5))), []⟩ :: ⟨10, (some 26), (some (24, false)), (.call 14 [(.t 25)]), []⟩ :: ⟨11, (some 27), (some (24, false)), (.q (.un .not (.t 26))), []⟩ :: hid l_VCheck_8
@[simp] def l_VCheck_6 (_ : Unit) : List EOp := ⟨0, (some 16), none, (.q (.mov (.t 3))), []⟩ :: ⟨1, (some 17), none, (.call 14 [(.t 16)]), []⟩ :: ⟨2, (some 18), none, (.q (.un .not (.t 17))), []⟩ :: ⟨3, (some 19), none, (.q (.mov (.t 18))), []⟩ :: ⟨4, (some 20), (some (19, false)), (.q (.mov (.t 4))), []⟩ :: ⟨5, (some 21), (some (19, false)), (.call 14 [(.t 20)]), []⟩ :: hid l_VCheck_7
@[simp] def b_VCheck_14 (_ : Unit) : EB := reg0 (hid l_VCheck_6) 45
@[simp] def l_VCheck_15 (_ : Unit) : List EOp := [⟨0, (some 60), none, (.q (.mki 52 (.k (.int .i64 33)))), []⟩, ⟨1, (some 2), none, (.q (.mov (.t 60))), []⟩]
@[simp] def b_VCheck_16 (_ : Unit) : EB := reg0 (hid l_VCheck_15) 2
@[simp] def b_VCheck_17 (_ : Unit) : EB := .seq (hid b_VCheck_16) .ret
@[simp] def l_VCheck_20 (_ : Unit) : List EOp := [⟨12, (some 74), none, (.q (.pick (.t 70) (.k (.bool true)) (.t 73))), []⟩, ⟨13, (some 61), none, (.q (.mov (.t 74))), []⟩]
@[simp] def l_VCheck_19 (_ : Unit) : List EOp := ⟨6, (some 68), (some (65, false)), (.q (.bin .gtr (.t 67) (.k (.int .i64 1125899906842624)))), []⟩ :: ⟨7, (some 69), none, (.q (.pick (.t 65) (.k (.bool true)) (.t 68))), []⟩ :: ⟨8, (some 70), none, (.q (.mov (.t 69))), []⟩ :: ⟨9, (some 71), (some (70, false)), (.q (.fad 79 (.t 1))), []⟩ :: ⟨10, (some 72), (some (70, false)), (.q (.ldc (.t 71))), []⟩ :: ⟨11, (some 73), (some (70, false)), (.q (.bin .gtr (.t 72) (.k (.int .i64 1125899906842624)))), []⟩ :: hid l_VCheck_20
@[simp] def l_VCheck_18 (_ : Unit) : List EOp := ⟨0, (some 62), none, (.q (.fad 80 (.t 1))), []⟩ :: ⟨1, (some 63), none, (.q (.ldc (.t 62))), []⟩ :: ⟨2, (some 64), none, (.q (.bin .lss (.t 63) (.k (.int .i64 0)))), []⟩ :: ⟨3, (some 65), none, (.q (.mov (.t 64))), []⟩ :: ⟨4, (some 66), (some (65, false)), (.q (.fad 80 (.t 1))), []⟩ :: ⟨5, (some 67), (some (65, false)), (.q (.ldc (.t 66))), []⟩ :: hid l_VCheck_19
@[simp] def b_VCheck_21 (_ : Unit) : EB := reg0 (hid l_VCheck_18) 14
@[simp] def l_VCheck_22 (_ : Unit) : List EOp := [⟨0, (some 75), none, (.q (.mki 52 (.k (.int .i64 1)))), []⟩, ⟨1, (some 2), none, (.q (.mov (.t 75))), []⟩]
@[simp] def b_VCheck_23 (_ : Unit) : EB := reg0 (hid l_VCheck_22) 2
@[simp] def b_VCheck_24 (_ : Unit) : EB := .seq (hid b_VCheck_23) .ret
@[simp] def l_VCheck_26 (_ : Unit) : List EOp := [⟨6, (some 76), none, (.q (.mov (.t 82))), []⟩]
@[simp] def l_VCheck_25 (_ : Unit) : List EOp := ⟨0, (some 77), none, (.q (.fad 79 (.t 1))), []⟩ :: ⟨1, (some 78), none, (.q (.ldc (.t 77))), []⟩ :: ⟨2, (some 79), none, (.q (.fad 80 (.t 1))), []⟩ :: ⟨3, (some 80), none, (.q (.ldc (.t 79))), []⟩ :: ⟨4, (some 81), none, (.q (.bin .add (.k (.int .i64 10)) (.t 80))), []⟩ :: ⟨5, (some 82), none, (.q (.bin .lss (.t 78) (.t 81))), []⟩ :: hid l_VCheck_26
@[simp] def b_VCheck_27 (_ : Unit) : EB := reg0 (hid l_VCheck_25) 7
@[simp] def l_VCheck_28 (_ : Unit) : List EOp := [⟨0, (some 83), none, (.q (.mki 52 (.k (.int .i64 27)))), []⟩, ⟨1, (some 2), none, (.q (.mov (.t 83))), []⟩]
@[simp] def b_VCheck_29 (_ : Unit) : EB := reg0 (hid l_VCheck_28) 2
@[simp] def b_VCheck_30 (_ : Unit) : EB := .seq (hid b_VCheck_29) .ret
@[simp] def b_VCheck_31 (_ : Unit) : EB := .cond (.t 76) (hid b_VCheck_30) .skip
@[simp] def b_VCheck_32 (_ : Unit) : EB := .seq (hid b_VCheck_27) (hid b_VCheck_31)
@[simp] def b_VCheck_33 (_ : Unit) : EB := .cond (.t 61) (hid b_VCheck_24) (hid b_VCheck_32)
@[simp] def b_VCheck_34 (_ : Unit) : EB := .seq (hid b_VCheck_21) (hid b_VCheck_33)
@[simp] def b_VCheck_35 (_ : Unit) : EB := .cond (.t 15) (hid b_VCheck_17) (hid b_VCheck_34)
@[simp] def b_VCheck_36 (_ : Unit) : EB := .seq (hid b_VCheck_14) (hid b_VCheck_35)
@[simp] def b_VCheck_37 (_ : Unit) : EB := .block 0 (hid b_VCheck_36)
@[simp] def l_VCheck_38 (_ : Unit) : List EOp := [⟨0, (some 2), none, (.q (.mov (.k .nilIface))), []⟩]
@[simp] def b_VCheck_39 (_ : Unit) : EB := reg0 (hid l_VCheck_38) 1
@[simp] def b_VCheck_40 (_ : Unit) : EB := .seq (hid b_VCheck_39) .ret
@[simp] def b_VCheck_41 (_ : Unit) : EB := .seq (hid b_VCheck_37) (hid b_VCheck_40)
@[simp] def b_VCheck_42 (_ : Unit) : EB := .seq (hid b_VCheck_5) (hid b_VCheck_41)
@[simp] def b_VCheck_43 (_ : Unit) : EB := .seq (hid b_VCheck_2) (hid b_VCheck_42)
def c_VCheck : EB × List QOp × Nat := ((hid b_VCheck_43), [(.mov (.t 2))], 84)
theorem k_VCheck : cfun Tryd.prog 8 = some c_VCheck := by kernel_rfl


def prtV (r : Rte) : Prop := (0 ≤ r.a ∧ r.a < 16) ∧ (0 ≤ r.b ∧ r.b < 16) ∧ (0 ≤ r.c ∧ r.c < 16) ∧ ¬ r.a = r.b ∧ ¬ r.b = r.c ∧ ¬ r.a = r.c ∧ ofV r.f r.a r.b = true ∧ ofV r.s r.b r.c = true
instance (r : Rte) : Decidable (prtV r) := by unfold prtV; infer_instance
/-- Whether a route can be: the error. -/
def chkV (r : Rte) : Nat := if ¬ prtV r then 33 else if r.fe < 0 ∨ 1125899906842624 < r.fe ∨ 1125899906842624 < r.am then 1 else if r.am < 10 + r.fe then 27 else 0
@[simp] theorem errV_33v : Value.iface 52 (.int .i64 33) = errV 33 := rfl
@[simp] theorem errV_27v : Value.iface 52 (.int .i64 27) = errV 27 := rfl

set_option maxHeartbeats 8000000 in
theorem VCheck_ok (r : Rte) (hr : r.ok) : ECalls Tryd.prog 8 [RVv r] [] fun y H' => H' = [] ∧ y = .lit (errV (chkV r)) := by
  obtain ⟨⟨h1, _⟩, ⟨h2, _⟩, ⟨ha0, ha1⟩, ⟨hb0, hb1⟩, ⟨hc0, hc1⟩, ⟨hm0, hm1⟩, ⟨hf0, hf1⟩⟩ := id hr
  have l0 := rteC_len h1 h2
  have t0 := rt_take h1 h2
  have g76 := rt_76 h1 h2
  have g77 := rt_77 h1 h2
  have g78 := rt_78 h1 h2
  have g79 := rt_79 h1 h2
  have g80 := rt_80 h1 h2
  have t38 := rt_t38 h1
  have s38 := rt_s38 h1 h2
  have e76 := idx_of g76 (by omega)
  have e77 := idx_of g77 (by omega)
  have e78 := idx_of g78 (by omega)
  have e79 := idx_of g79 (by omega)
  have e80 := idx_of g80 (by omega)
  refine ecalls k_VCheck ?_
  simp [c_VCheck, RVv, I, l0, t0, e76, e77, e78, e79, e80, iC, -errV_0]
  refine call0 (Vparty_ok r.a) (by simp [I]) ?_
  rintro y H' ⟨rfl, rfl⟩
  refine ⟨.inl (by simp), le_ok rfl, ?_⟩
  by_cases q0 : 0 ≤ r.a ∧ r.a < 16
  rotate_left
  · have hv : chkV r = 33 := by unfold chkV; rw [if_pos (fun h => q0 h.1)]
    rw [hv, decide_eq_false q0]
    simp [l0, t0, e76, e77, e78, e79, e80, t38, s38, iC, -errV_0]
    exact fin [] (by decide) rfl rfl rfl ⟨rfl, rfl⟩
  rw [decide_eq_true q0]
  simp [l0, t0, e76, e77, e78, e79, e80, t38, s38, iC, -errV_0]
  refine call0 (Vparty_ok r.b) (by simp [I]) ?_
  rintro y H' ⟨rfl, rfl⟩
  refine ⟨.inl (by simp), le_ok rfl, ?_⟩
  by_cases q1 : 0 ≤ r.b ∧ r.b < 16
  rotate_left
  · have hv : chkV r = 33 := by unfold chkV; rw [if_pos (fun h => q1 h.2.1)]
    rw [hv, decide_eq_false q1]
    simp [l0, t0, e76, e77, e78, e79, e80, t38, s38, iC, -errV_0]
    exact fin [] (by decide) rfl rfl rfl ⟨rfl, rfl⟩
  rw [decide_eq_true q1]
  simp [l0, t0, e76, e77, e78, e79, e80, t38, s38, iC, -errV_0]
  refine call0 (Vparty_ok r.c) (by simp [I]) ?_
  rintro y H' ⟨rfl, rfl⟩
  refine ⟨.inl (by simp), le_ok rfl, ?_⟩
  by_cases q2 : 0 ≤ r.c ∧ r.c < 16
  rotate_left
  · have hv : chkV r = 33 := by unfold chkV; rw [if_pos (fun h => q2 h.2.2.1)]
    rw [hv, decide_eq_false q2]
    simp [l0, t0, e76, e77, e78, e79, e80, t38, s38, iC, -errV_0]
    exact fin [] (by decide) rfl rfl rfl ⟨rfl, rfl⟩
  rw [decide_eq_true q2]
  simp [l0, t0, e76, e77, e78, e79, e80, t38, s38, iC, -errV_0]
  by_cases q3 : r.a = r.b
  · have hv : chkV r = 33 := by unfold chkV; rw [if_pos (fun h => h.2.2.2.1 q3)]
    rw [hv]
    simp [l0, t0, e76, e77, e78, e79, e80, t38, s38, iC, q3, -errV_0]
    exact fin [] (by decide) rfl rfl rfl ⟨rfl, rfl⟩
  simp [l0, t0, e76, e77, e78, e79, e80, t38, s38, iC, q3, -errV_0]
  by_cases q4 : r.b = r.c
  · have hv : chkV r = 33 := by unfold chkV; rw [if_pos (fun h => h.2.2.2.2.1 q4)]
    rw [hv]
    simp [l0, t0, e76, e77, e78, e79, e80, t38, s38, iC, q3, q4, -errV_0]
    exact fin [] (by decide) rfl rfl rfl ⟨rfl, rfl⟩
  simp [l0, t0, e76, e77, e78, e79, e80, t38, s38, iC, q3, q4, -errV_0]
  by_cases q5 : r.a = r.c
  · have hv : chkV r = 33 := by unfold chkV; rw [if_pos (fun h => h.2.2.2.2.2.1 q5)]
    rw [hv]
    simp [l0, t0, e76, e77, e78, e79, e80, t38, s38, iC, q3, q4, q5, -errV_0]
    exact fin [] (by decide) rfl rfl rfl ⟨rfl, rfl⟩
  simp [l0, t0, e76, e77, e78, e79, e80, t38, s38, iC, q3, q4, q5, -errV_0]
  refine call0 (Vof_ok r.f r.a r.b h1) (by simp [PVv, I]) ?_
  rintro y H' ⟨rfl, rfl⟩
  refine ⟨.inl (by simp), le_ok rfl, ?_⟩
  by_cases q6 : ofV r.f r.a r.b = true
  rotate_left
  · have hv : chkV r = 33 := by unfold chkV; rw [if_pos (fun h => q6 h.2.2.2.2.2.2.1)]
    have q6' : ofV r.f r.a r.b = false := by simpa using q6
    rw [hv, q6']
    simp [l0, t0, e76, e77, e78, e79, e80, t38, s38, iC, q3, q4, q5, -errV_0]
    exact fin [] (by decide) rfl rfl rfl ⟨rfl, rfl⟩
  rw [q6]
  simp [l0, t0, e76, e77, e78, e79, e80, t38, s38, iC, q3, q4, q5, -errV_0]
  refine call0 (Vof_ok r.s r.b r.c h2) (by simp [PVv, I]) ?_
  rintro y H' ⟨rfl, rfl⟩
  refine ⟨.inl (by simp), le_ok rfl, ?_⟩
  by_cases q7 : ofV r.s r.b r.c = true
  rotate_left
  · have hv : chkV r = 33 := by unfold chkV; rw [if_pos (fun h => q7 h.2.2.2.2.2.2.2)]
    have q7' : ofV r.s r.b r.c = false := by simpa using q7
    rw [hv, q7']
    simp [l0, t0, e76, e77, e78, e79, e80, t38, s38, iC, q3, q4, q5, -errV_0]
    exact fin [] (by decide) rfl rfl rfl ⟨rfl, rfl⟩
  rw [q7]
  simp [l0, t0, e76, e77, e78, e79, e80, t38, s38, iC, q3, q4, q5, -errV_0]
  have hp : ¬ ¬ prtV r := fun h => h ⟨q0, q1, q2, q3, q4, q5, q6, q7⟩
  by_cases z0 : r.fe < 0
  · have hv : chkV r = 1 := by unfold chkV; rw [if_neg hp, if_pos (.inl z0)]
    have z0n : ¬ 0 ≤ r.fe := by omega
    rw [hv]
    simp [l0, t0, e76, e77, e78, e79, e80, t38, s38, iC, z0, z0n, -errV_0]
    exact fin [] (by decide) rfl rfl rfl ⟨rfl, rfl⟩
  have z0p : 0 ≤ r.fe := by omega
  by_cases z1 : 1125899906842624 < r.fe
  · have hv : chkV r = 1 := by unfold chkV; rw [if_neg hp, if_pos (.inr (.inl z1))]
    rw [hv]
    simp [l0, t0, e76, e77, e78, e79, e80, t38, s38, iC, z0, z0p, z1, -errV_0]
    exact fin [] (by decide) rfl rfl rfl ⟨rfl, rfl⟩
  have z1p : r.fe ≤ 1125899906842624 := by omega
  by_cases z2 : 1125899906842624 < r.am
  · have hv : chkV r = 1 := by unfold chkV; rw [if_neg hp, if_pos (.inr (.inr z2))]
    rw [hv]
    simp [l0, t0, e76, e77, e78, e79, e80, t38, s38, iC, z0, z0p, z1, z1p, z2, -errV_0]
    exact fin [] (by decide) rfl rfl rfl ⟨rfl, rfl⟩
  have z2p : r.am ≤ 1125899906842624 := by omega
  have w1 : IntKind.i64.wrap (10 + r.fe) = 10 + r.fe := wrap_i64 (by omega) (by omega)
  by_cases z3 : r.am < 10 + r.fe
  · have hv : chkV r = 27 := by unfold chkV; rw [if_neg hp, if_neg (by omega), if_pos z3]
    rw [hv]
    simp [l0, t0, e76, e77, e78, e79, e80, t38, s38, iC, z0, z0p, z1, z1p, z2, z2p, w1, z3, -errV_0]
    exact fin [] (by decide) rfl rfl rfl ⟨rfl, rfl⟩
  have z3p : 10 + r.fe ≤ r.am := by omega
  have hv : chkV r = 0 := by unfold chkV; rw [if_neg hp, if_neg (by omega), if_neg z3]
  rw [hv]
  simp [l0, t0, e76, e77, e78, e79, e80, t38, s38, iC, z0, z0p, z1, z1p, z2, z2p, w1, z3, z3p, -errV_0]
  exact fin [] (by decide) rfl rfl rfl ⟨rfl, rfl⟩

end Go.Proofs.YtejjhgdnmknejaaDoor

namespace Go.Proofs.YtejjhgdnmknejaaDoor
open Go Go.EW
set_option linter.unusedSimpArgs false
set_option linter.unusedVariables false

@[simp] def l_IdxI_1 (_ : Unit) : List EOp := [⟨0, (some 4), none, (.q (.mov (.k (.int .i64 0)))), []⟩]
@[simp] def b_IdxI_2 (_ : Unit) : EB := reg0 (hid l_IdxI_1) 1
@[simp] def l_IdxI_3 (_ : Unit) : List EOp := [⟨0, (some 6), none, (.q (.mov (.t 0))), []⟩, ⟨1, (some 7), none, (.q (.len (.t 6))), []⟩, ⟨2, (some 8), none, (.q (.mov (.k (.int .i64 0)))), []⟩]
@[simp] def b_IdxI_4 (_ : Unit) : EB := reg0 (hid l_IdxI_3) 3
@[simp] def l_IdxI_5 (_ : Unit) : List EOp := [⟨0, (some 9), none, (.q (.bin .lss (.t 8) (.t 7))), []⟩]
@[simp] def b_IdxI_6 (_ : Unit) : EB := reg0 (hid l_IdxI_5) 1
@[simp] def b_IdxI_7 (_ : Unit) : EB := .cond (.t 9) .skip (.exit 0)
@[simp] def l_IdxI_8 (_ : Unit) : List EOp := [⟨0, (some 10), none, (.q (.mov (.t 8))), []⟩, ⟨1, (some 5), none, (.q (.mov (.t 10))), []⟩]
@[simp] def b_IdxI_9 (_ : Unit) : EB := reg0 (hid l_IdxI_8) 2
@[simp] def l_IdxI_10 (_ : Unit) : List EOp := [⟨0, (some 11), none, (.q (.mov (.t 1))), []⟩, ⟨1, (some 12), none, (.q (.mov (.t 0))), []⟩, ⟨2, (some 13), none, (.q (.mov (.t 5))), []⟩, ⟨3, (some 14), none, (.q (.isl 1 (.t 12) (.t 13))), []⟩, ⟨4, (some 15), none, (.q (.ldc (.t 14))), []⟩, ⟨5, (some 16), none, (.q (.bin .eql (.t 11) (.t 15))), []⟩]
@[simp] def b_IdxI_11 (_ : Unit) : EB := reg0 (hid l_IdxI_10) 6
@[simp] def l_IdxI_12 (_ : Unit) : List EOp := [⟨0, (some 17), none, (.q (.mov (.t 5))), []⟩, ⟨1, (some 4), none, (.q (.mov (.t 17))), []⟩]
@[simp] def b_IdxI_13 (_ : Unit) : EB := reg0 (hid l_IdxI_12) 2
@[simp] def b_IdxI_14 (_ : Unit) : EB := .seq (hid b_IdxI_13) .ret
@[simp] def b_IdxI_15 (_ : Unit) : EB := .cond (.t 16) (hid b_IdxI_14) .skip
@[simp] def b_IdxI_16 (_ : Unit) : EB := .seq (hid b_IdxI_11) (hid b_IdxI_15)
@[simp] def b_IdxI_17 (_ : Unit) : EB := .seq (hid b_IdxI_9) (hid b_IdxI_16)
@[simp] def b_IdxI_18 (_ : Unit) : EB := .block 1 (hid b_IdxI_17)
@[simp] def l_IdxI_19 (_ : Unit) : List EOp := [⟨0, (some 18), none, (.q (.bin .add (.t 8) (.k (.int .i64 1)))), []⟩, ⟨1, (some 8), none, (.q (.mov (.t 18))), []⟩]
@[simp] def b_IdxI_20 (_ : Unit) : EB := reg0 (hid l_IdxI_19) 2
@[simp] def b_IdxI_21 (_ : Unit) : EB := .seq (hid b_IdxI_18) (hid b_IdxI_20)
@[simp] def b_IdxI_22 (_ : Unit) : EB := .seq (hid b_IdxI_7) (hid b_IdxI_21)
@[simp] def b_IdxI_23 (_ : Unit) : EB := .seq (hid b_IdxI_6) (hid b_IdxI_22)
@[simp] def b_IdxI_24 (_ : Unit) : EB := .loop (hid b_IdxI_23)
@[simp] def b_IdxI_25 (_ : Unit) : EB := .block 0 (hid b_IdxI_24)
@[simp] def b_IdxI_26 (_ : Unit) : EB := .seq (hid b_IdxI_4) (hid b_IdxI_25)
@[simp] def l_IdxI_27 (_ : Unit) : List EOp := [⟨0, (some 4), none, (.q (.mov (.k (.int .i64 (-1))))), []⟩]
@[simp] def b_IdxI_28 (_ : Unit) : EB := reg0 (hid l_IdxI_27) 1
@[simp] def b_IdxI_29 (_ : Unit) : EB := .seq (hid b_IdxI_28) .ret
@[simp] def b_IdxI_30 (_ : Unit) : EB := .seq (hid b_IdxI_26) (hid b_IdxI_29)
@[simp] def b_IdxI_31 (_ : Unit) : EB := .seq (hid b_IdxI_2) (hid b_IdxI_30)
def c_IdxI : EB × List QOp × Nat := ((hid b_IdxI_31), [(.mov (.t 4))], 19)
theorem k_IdxI : cfun Tryd.prog 12 = some c_IdxI := by kernel_rfl

@[simp] def l_VSide_1 (_ : Unit) : List EOp := [⟨0, (some 2), none, (.q (.box 38 (.t 0))), []⟩, ⟨1, (some 4), none, (.q (.mov (.k (.int .i64 0)))), []⟩, ⟨2, (some 5), none, (.q (.mov (.k .nilIface))), []⟩]
@[simp] def b_VSide_2 (_ : Unit) : EB := reg0 (hid l_VSide_1) 3
@[simp] def l_VSide_3 (_ : Unit) : List EOp := [⟨0, (some 7), none, (.q (.fad 34 (.t 2))), []⟩, ⟨1, (some 8), none, (.q (.sar 2 (.t 7) none none)), []⟩, ⟨2, (some 9), none, (.q (.mov (.t 1))), []⟩, ⟨3, (some 10), none, (.call 12 [(.t 8), (.t 9)]), []⟩, ⟨4, (some 6), none, (.q (.mov (.t 10))), []⟩]
@[simp] def b_VSide_4 (_ : Unit) : EB := reg0 (hid l_VSide_3) 5
@[simp] def l_VSide_5 (_ : Unit) : List EOp := [⟨0, (some 11), none, (.q (.mov (.t 6))), []⟩, ⟨1, (some 12), none, (.q (.bin .lss (.t 11) (.k (.int .i64 0)))), []⟩]
@[simp] def b_VSide_6 (_ : Unit) : EB := reg0 (hid l_VSide_5) 2
@[simp] def l_VSide_7 (_ : Unit) : List EOp := [⟨0, (some 13), none, (.q (.mki 52 (.k (.int .i64 33)))), []⟩, ⟨1, (some 4), none, (.q (.mov (.k (.int .i64 0)))), []⟩, ⟨2, (some 5), none, (.q (.mov (.t 13))), []⟩]
@[simp] def b_VSide_8 (_ : Unit) : EB := reg0 (hid l_VSide_7) 3
@[simp] def b_VSide_9 (_ : Unit) : EB := .seq (hid b_VSide_8) .ret
@[simp] def b_VSide_10 (_ : Unit) : EB := .cond (.t 12) (hid b_VSide_9) .skip
@[simp] def b_VSide_11 (_ : Unit) : EB := .seq (hid b_VSide_6) (hid b_VSide_10)
@[simp] def l_VSide_12 (_ : Unit) : List EOp := [⟨0, (some 14), none, (.q (.mov (.t 6))), []⟩, ⟨1, (some 4), none, (.q (.mov (.t 14))), []⟩, ⟨2, (some 5), none, (.q (.mov (.k .nilIface))), []⟩]
@[simp] def b_VSide_13 (_ : Unit) : EB := reg0 (hid l_VSide_12) 3
@[simp] def b_VSide_14 (_ : Unit) : EB := .seq (hid b_VSide_13) .ret
@[simp] def b_VSide_15 (_ : Unit) : EB := .seq (hid b_VSide_11) (hid b_VSide_14)
@[simp] def b_VSide_16 (_ : Unit) : EB := .seq (hid b_VSide_4) (hid b_VSide_15)
@[simp] def b_VSide_17 (_ : Unit) : EB := .seq (hid b_VSide_2) (hid b_VSide_16)
def c_VSide : EB × List QOp × Nat := ((hid b_VSide_17), [(.mov (.t 4)), (.mov (.t 5))], 15)
theorem k_VSide : cfun Tryd.prog 4 = some c_VSide := by kernel_rfl

@[simp] def l_Vsides_1 (_ : Unit) : List EOp := [⟨0, (some 1), none, (.q (.box 45 (.t 0))), []⟩, ⟨1, (some 2), none, (.q (.mov (.k (.int .i64 0)))), []⟩, ⟨2, (some 3), none, (.q (.mov (.k (.int .i64 0)))), []⟩]
@[simp] def b_Vsides_2 (_ : Unit) : EB := reg0 (hid l_Vsides_1) 3
@[simp] def l_Vsides_5 (_ : Unit) : List EOp := [⟨6, (some 10), none, (.call 12 [(.t 6), (.t 9)]), [7, 8, 9, 10, 11, 12]⟩, ⟨13, (some 17), none, (.call 12 [(.t 13), (.t 16)]), []⟩, ⟨14, (some 2), none, (.q (.mov (.t 10))), []⟩, ⟨15, (some 3), none, (.q (.mov (.t 17))), []⟩]
@[simp] def l_Vsides_4 (_ : Unit) : List EOp := ⟨7, (some 11), none, (.q (.fad 38 (.t 1))), []⟩ :: ⟨8, (some 12), none, (.q (.fad 34 (.t 11))), []⟩ :: ⟨9, (some 13), none, (.q (.sar 2 (.t 12) none none)), []⟩ :: ⟨10, (some 14), none, (.q (.fad 76 (.t 1))), []⟩ :: ⟨11, (some 15), none, (.q (.iad 3 1 (.t 14) (.k (.int .i64 1)))), []⟩ :: ⟨12, (some 16), none, (.q (.ldc (.t 15))), []⟩ :: hid l_Vsides_5
@[simp] def l_Vsides_3 (_ : Unit) : List EOp := ⟨0, (some 4), none, (.q (.fad 0 (.t 1))), []⟩ :: ⟨1, (some 5), none, (.q (.fad 34 (.t 4))), []⟩ :: ⟨2, (some 6), none, (.q (.sar 2 (.t 5) none none)), []⟩ :: ⟨3, (some 7), none, (.q (.fad 76 (.t 1))), []⟩ :: ⟨4, (some 8), none, (.q (.iad 3 1 (.t 7) (.k (.int .i64 0)))), []⟩ :: ⟨5, (some 9), none, (.q (.ldc (.t 8))), []⟩ :: hid l_Vsides_4
@[simp] def b_Vsides_6 (_ : Unit) : EB := reg1 (hid l_Vsides_3) 16
@[simp] def b_Vsides_7 (_ : Unit) : EB := .seq (hid b_Vsides_6) .ret
@[simp] def b_Vsides_8 (_ : Unit) : EB := .seq (hid b_Vsides_2) (hid b_Vsides_7)
def c_Vsides : EB × List QOp × Nat := ((hid b_Vsides_8), [(.mov (.t 2)), (.mov (.t 3))], 18)
theorem k_Vsides : cfun Tryd.prog 23 = some c_Vsides := by kernel_rfl

@[simp] def l_Vhold_1 (_ : Unit) : List EOp := [⟨0, (some 2), none, (.q (.box 45 (.t 0))), []⟩, ⟨1, (some 4), none, (.q (.alloc 81 [(.int .i64 0), (.int .i64 0), (.slice none 0 0)])), []⟩]
@[simp] def b_Vhold_2 (_ : Unit) : EB := reg0 (hid l_Vhold_1) 2
@[simp] def l_Vhold_3 (_ : Unit) : List EOp := [⟨0, (some 6), none, (.q (.fad 76 (.t 2))), []⟩, ⟨1, (some 7), none, (.q (.sar 3 (.t 6) none none)), []⟩, ⟨2, (some 8), none, (.call 37 [(.t 7)]), []⟩, ⟨3, (some 5), none, (.q (.mov (.t 8))), []⟩]
@[simp] def b_Vhold_4 (_ : Unit) : EB := reg0 (hid l_Vhold_3) 4
@[simp] def l_Vhold_5 (_ : Unit) : List EOp := [⟨0, (some 9), none, (.q (.mov (.t 5))), []⟩, ⟨1, (some 10), none, (.call 39 [(.t 9)]), []⟩]
@[simp] def b_Vhold_6 (_ : Unit) : EB := reg0 (hid l_Vhold_5) 2
@[simp] def l_Vhold_7 (_ : Unit) : List EOp := [⟨0, (some 11), none, (.q (.mov (.t 1))), []⟩, ⟨1, (some 12), none, (.q (.fad 79 (.t 2))), []⟩, ⟨2, (some 13), none, (.q (.ldc (.t 12))), []⟩, ⟨3, (some 14), none, (.q (.mov (.t 5))), []⟩, ⟨4, (some 15), none, (.q (.build [(.int .i64 0), (.int .i64 0), (.slice none 0 0)] [(0, 1, (.t 11)), (1, 1, (.t 13)), (2, 1, (.t 14))])), []⟩, ⟨5, none, none, (.fz (.sto 3 (.t 4) (.t 15))), []⟩]
@[simp] def b_Vhold_8 (_ : Unit) : EB := reg0 (hid l_Vhold_7) 6
@[simp] def b_Vhold_9 (_ : Unit) : EB := .seq (hid b_Vhold_8) .ret
@[simp] def b_Vhold_10 (_ : Unit) : EB := .seq (hid b_Vhold_6) (hid b_Vhold_9)
@[simp] def b_Vhold_11 (_ : Unit) : EB := .seq (hid b_Vhold_4) (hid b_Vhold_10)
@[simp] def b_Vhold_12 (_ : Unit) : EB := .seq (hid b_Vhold_2) (hid b_Vhold_11)
def c_Vhold : EB × List QOp × Nat := ((hid b_Vhold_12), [(.lda 3 (.t 4))], 16)
theorem k_Vhold : cfun Tryd.prog 25 = some c_Vhold := by kernel_rfl


def sid (a b x : Int) : Int := if a = x then 0 else if b = x then 1 else -1
theorem IdxI_ok (a b x : Int) : ECalls Tryd.prog 12 [IL [a, b], I .i64 x] [] fun y H' => H' = [] ∧ y = I .i64 (sid a b x) := by
  refine ecalls k_IdxI ?_
  simp [c_IdxI, IL, I]
  refine eloop (α := Nat) (fun i => i ≤ 2 ∧ (0 < i → ¬ a = x) ∧ (1 < i → ¬ b = x)) (fun i => 2 - i) (fun i => [IL [a, b], I .i64 x, .any, .any, .any, .any, .any, I .i64 2, I .i64 i, .any, .any, .any, .any, .any, .any, .any, .any, .any, .any]) (fun _ => []) 0 []
    ⟨by omega, by omega, by omega⟩ (by simp [I, IL]) (by simp) (by simp) (by simp) (by simp) ?_
  rintro i ⟨hi, h0, h1⟩
  rcases (by omega : i = 0 ∨ i = 1 ∨ i = 2) with rfl | rfl | rfl
  · by_cases ha : a = x
    · have hv : sid a b x = 0 := if_pos ha
      rw [hv]
      subst ha
      simp [I, IL, intv]
      exact fin [] (by decide) rfl rfl rfl ⟨rfl, rfl⟩
    · have ha' : ¬ x = a := fun h => ha h.symm
      have w : IntKind.i64.wrap 1 = 1 := by decide +kernel
      simp [I, IL, intv, ha', w]
      exact round 1 [] ⟨by omega, fun _ => ha, by omega⟩ (by omega) (by simp [I, IL, intv]) (by simp) (by simp) (by simp) (by simp)
  · have ha := h0 (by omega)
    by_cases hb : b = x
    · have hv : sid a b x = 1 := by unfold sid; rw [if_neg ha, if_pos hb]
      rw [hv]
      subst hb
      simp [I, IL, intv]
      exact fin [] (by decide) rfl rfl rfl ⟨rfl, rfl⟩
    · have hb' : ¬ x = b := fun h => hb h.symm
      have w : IntKind.i64.wrap (1 + 1) = 2 := by decide +kernel
      have w2 : IntKind.i64.wrap 2 = 2 := by decide +kernel
      simp [I, IL, intv, hb', w, w2]
      exact round 2 [] ⟨by omega, fun _ => ha, fun _ => hb⟩ (by omega) (by simp [I, IL, intv]) (by simp) (by simp) (by simp) (by simp)
  · have ha := h0 (by omega)
    have hb := h1 (by omega)
    have hv : sid a b x = -1 := by unfold sid; rw [if_neg ha, if_neg hb]
    rw [hv]
    simp [I, IL]
    exact fin [] (by decide) rfl rfl rfl ⟨rfl, rfl⟩
def sidV (p : Prm) (who : Int) : Int × Nat := if p.k0 = who then (0, 0) else if p.k1 = who then (1, 0) else (0, 33)
theorem frz2 (a b : Int) : frzAll [iC a, iC b] = some [iF a, iF b] := rfl
theorem VSide_ok (p : Prm) (who : Int) (hp : p.tx.length = 32) : ECalls Tryd.prog 4 [PVv p, I .i64 who] [] fun y H' => H' = [] ∧ y = .tup [.c (iC (sidV p who).1), .c (.fz (.lit (errV (sidV p who).2)))] := by
  have h1 := prmC_len hp
  have h2 := pm_take hp
  have h3 := pm_d34 hp
  refine ecalls k_VSide ?_
  simp [c_VSide, PVv, I, h1, h2, -errV_0]
  refine call0 (IdxI_ok p.k0 p.k1 who) (by simp [IL, I, h1, h3, iC, intv]) ?_
  rintro y H' ⟨rfl, rfl⟩
  refine ⟨.inr ⟨rfl, by simp⟩, le_ok rfl, ?_⟩
  unfold sidV sid
  by_cases c1 : p.k0 = who
  · simp [I, c1, -errV_0]
    exact fin [] (by decide) rfl rfl rfl ⟨rfl, rfl⟩
  by_cases c2 : p.k1 = who
  · simp [I, c1, c2, -errV_0]
    exact fin [] (by decide) rfl rfl rfl ⟨rfl, rfl⟩
  · simp [I, c1, c2, -errV_0]
    exact fin [] (by decide) rfl rfl rfl ⟨rfl, rfl⟩

theorem Vsides_ok (r : Rte) (hr : r.ok) : ECalls Tryd.prog 23 [RVv r] [] fun y H' => H' = [] ∧ y = .tup [.c (iC (sid r.f.k0 r.f.k1 r.a)), .c (iC (sid r.s.k0 r.s.k1 r.b))] := by
  obtain ⟨⟨h1, _⟩, ⟨h2, _⟩, _⟩ := id hr
  have l0 := rteC_len h1 h2
  have t0 := rt_take h1 h2
  have e76 := idx_of (rt_76 h1 h2) (by omega)
  have e77 := idx_of (rt_77 h1 h2) (by omega)
  have k1 := rt_k1 h1
  have k2 := rt_k2 h1 h2
  refine ecalls k_Vsides ?_
  simp [c_Vsides, RVv, I, l0, t0, e76, e77, iC]
  refine call0 (IdxI_ok r.f.k0 r.f.k1 r.a) (by simp [IL, I, l0, k1, iC, intv]) ?_
  rintro y H' ⟨rfl, rfl⟩
  refine ⟨.inr ⟨rfl, by simp⟩, le_ok rfl, ?_⟩
  simp [I, l0, t0, e76, e77, iC]
  refine call0 (IdxI_ok r.s.k0 r.s.k1 r.b) (by simp [IL, I, l0, k2, iC, intv]) ?_
  rintro y H' ⟨rfl, rfl⟩
  refine ⟨.inr ⟨rfl, by simp⟩, le_ok rfl, ?_⟩
  simp [I]
  exact fin [] (by decide) rfl rfl rfl ⟨rfl, rfl⟩

/-- What is held. -/
def holV (r : Rte) (id' : Int) : Hol := ⟨id', r.am, srt [r.a, r.b, r.c]⟩
theorem Vhold_ok (r : Rte) (id' : Int) (hr : r.ok) : ECalls Tryd.prog 25 [RVv r, I .i64 id'] [] fun y H' => H' = [some (.row 3 1 (intv (srt [r.a, r.b, r.c])))] ∧ y = .v (.agg [iC id', iC r.am, .row 0 3]) := by
  obtain ⟨⟨h1, _⟩, ⟨h2, _⟩, _⟩ := id hr
  have l0 := rteC_len h1 h2
  have t0 := rt_take h1 h2
  have e79 := idx_of (rt_79 h1 h2) (by omega)
  have d76 := rt_d76 h1 h2
  have hso := SortI_ok [r.a, r.b, r.c] rfl
  have hcl := cloneI_ok [r.a, r.b, r.c] (by simp)
  refine ecalls k_Vhold ?_
  simp [c_Vhold, RVv, I, l0, t0, e79, iC]
  refine call0 hcl (by simp [IL, l0, d76, frzAll, frz, iC, intv]) ?_
  rintro y H' ⟨rfl, rfl⟩
  refine ⟨.inr ⟨rfl, by simp [intv]⟩, by simp, ?_⟩
  simp
  refine callH [64] hso (by simp) (by simp) (by simp) (by simp) (by simp) ?_
  rintro y H' ⟨rfl, rfl⟩
  refine ⟨.inl (by simp), by simp, ?_⟩
  simp [e79, l0, iC]
  exact fin [64] (by decide) rfl rfl rfl ⟨rfl, rfl⟩

end Go.Proofs.YtejjhgdnmknejaaDoor

set_option linter.unusedVariables false
set_option linter.unusedSimpArgs false
namespace Go.Proofs.YtejjhgdnmknejaaDoor
open Go.RowKit Go.Lib Go.EW
namespace InsH

theorem elem : ∃ ti z, ElemT Tryd.prog 59 81 3 40 ti z := elemT_of (by kernel_rfl) (by kernel_rfl) (by kernel_rfl) (by kernel_rfl) (by decide)
theorem fov (w : World) (a b : Value) : (callFunc 49 #[a, b]).run Tryd.prog w = ((Extern.SlicesOverlaps.overlaps #[59, 59] #[4] #[a, b]).run Tryd.prog w).andThen fun v w' => .ok (.value v) w' := by
  rw [run_callFunc_extern Tryd.func49 (by kernel_rfl) (by kernel_rfl) (by kernel_rfl) (e := Extern.SlicesOverlaps.overlaps #[59, 59] #[4]) (by kernel_rfl)]

set_option maxHeartbeats 4000000 in
set_option maxRecDepth 100000 in
theorem shift : InsShift Tryd.prog 38 49 59 3 := by
  intro g n c i vb mc W1 W2 w hi hroom hc63 hov hc1 hc2
  have hz2 : ¬ ((i : Int) = (n : Int)) := by omega
  have hw1 : IntKind.i64.wrap ((i : Int) + 1) = (i : Int) + 1 := by rw [IntKind.wrap_i64]; omega
  have hw2 : IntKind.i64.wrap ((n : Int) + 1) = (n : Int) + 1 := by rw [IntKind.wrap_i64]; omega
  have hb1 : (0 : Int) ≤ (i : Int) + 1 := by omega
  have hin : i ≤ n := by omega
  have htn : ((i : Int) + 1).toNat = i + 1 := by omega
  have hb2 : ¬ (c = i + 1) := by omega
  have hb3 : (i : Int) ≤ (n : Int) + 1 := by omega
  have hb4 : ¬ (c = i) := by omega
  go_enter Tryd.func38, Tryd.ntmps38
  go_wp2_with (simp only [hov])
  go_region_law (refine step_copy_runI rfl _ _ 59 59 rfl _ _ (by simp [Act.eval, Act.put]) (by simp [Act.eval, Act.put]) (hc1 _) ?_)
  go_wp2_with (at_builtin; refine wpList_copy_runI _ rfl _ _ 59 59 rfl _ _ rfl rfl (hc2 _) ?_)
  go_ret
  exact ⟨rfl, rfl⟩

set_option maxHeartbeats 4000000 in
set_option maxRecDepth 100000 in
theorem atEnd : InsEnd Tryd.prog 38 59 := by
  intro base n c vb m mc v' w W1 hnc hm hap
  have hz1 : ¬ ((m : Int) = 0) := by omega
  go_enter Tryd.func38, Tryd.ntmps38
  cases base with
  | none =>
    go_wp2_with (at_builtin; refine Lib.wpList_append_run _ rfl _ _ _ _ rfl _ _ rfl rfl _ _ hap ?_)
    go_ret
    exact ⟨rfl, rfl⟩
  | some a =>
    obtain ⟨ab, ao, asp⟩ := a
    go_wp2_with (at_builtin; refine Lib.wpList_append_run _ rfl _ _ _ _ rfl _ _ rfl rfl _ _ hap ?_)
    all_goals (go_ret; exact ⟨rfl, rfl⟩)

set_option maxHeartbeats 4000000 in
set_option maxRecDepth 100000 in
theorem grow : InsGrow Tryd.prog 38 59 3 3 := by
  intro g n c i vb mc g2 C W1 W2 W3 w hi hnc hroom hc63 hC hC63 hap hc1 hc2
  have hz2 : ¬ ((i : Int) = (n : Int)) := by omega
  have hz3 : (c : Int) < (n : Int) + 1 := by omega
  have hw1 : IntKind.i64.wrap ((i : Int) + 1) = (i : Int) + 1 := by rw [IntKind.wrap_i64]; omega
  have hw2 : IntKind.i64.wrap ((n : Int) + 1) = (n : Int) + 1 := by rw [IntKind.wrap_i64]; omega
  have hw3 : IntKind.i64.wrap ((n : Int) + 1 - (i : Int)) = (n : Int) + 1 - (i : Int) := by rw [IntKind.wrap_i64]; omega
  have hb1 : (0 : Int) ≤ (i : Int) + 1 := by omega
  have hin : i ≤ n := by omega
  have htn : ((i : Int) + 1).toNat = i + 1 := by omega
  have hb2 : ¬ (C = i + 1) := by omega
  have hb3 : (i : Int) ≤ (n : Int) := by omega
  have hb4 : ¬ (C = i) := by omega
  have hb5 : ¬ (c = i) := by omega
  have hb6 : (i : Int) ≤ (n : Int) + 1 := by omega
  go_enter Tryd.func38, Tryd.ntmps38
  go_wp2_with (first
    | (at_builtin; refine Lib.wpList_append_run _ rfl _ _ _ _ rfl _ _ rfl rfl _ _ (hap _) ?_)
    | (at_builtin; refine wpList_copy_runI _ rfl _ _ 59 59 rfl _ _ rfl rfl (hc1 _) ?_))
  go_region_law (refine step_copy_runI rfl _ _ 59 59 rfl _ _ (by simp [Act.eval, Act.put]) (by simp [Act.eval, Act.put]) (hc2 _) ?_)
  go_wp2
  go_ret
  exact ⟨rfl, rfl⟩

/-- slices.Insert of one element. -/
theorem ins_ok (xs : List (List FV)) (x : List FV) (i : Nat) (hin : i ≤ xs.length) (hn : xs.length + 1 ≤ 10000000) :
    ECalls Tryd.prog 38 [.v (.c (.row 0 xs.length)), .lit (.int .i64 i), .v (.c (.row 1 1))] [.row 81 3 xs, .row 81 3 [x]] fun y H' =>
      H' = [none, some (.row 81 3 [x]), some (.row 81 3 (xs.take i ++ x :: xs.drop i))] ∧ y = .v (.c (.row 2 (xs.length + 1))) := by
  obtain ⟨ti, z, E⟩ := elem
  exact ins_ecalls E (by kernel_rfl) shift atEnd grow fov xs x i hin (by omega) (by omega)

set_option maxHeartbeats 4000000 in
set_option maxRecDepth 100000 in
theorem del1 : DelOne Tryd.prog 54 59 3 := by
  intro g n c i j k A W1 W2 w hj hk hi hnc hc63 hA hap hcl
  have hz2 : ¬ ((i : Int) = (j : Int)) := by omega
  have hb1 : (i : Int) ≤ (j : Int) := by omega
  have hb2 : (j : Int) ≤ (n : Int) := by omega
  have hin : i ≤ n := by omega
  have hic : i ≤ c := by omega
  have hjc : j ≤ c := by omega
  have hb3 : (k : Int) ≤ (n : Int) := by omega
  have hb4 : ¬ (c = k) := by omega
  have hb5 : (n : Int) ≤ (c : Int) := by omega
  clear hj hk
  go_enter Tryd.func54, Tryd.ntmps54
  go_wp2_with fail
  go_region_law (refine step_append_runI rfl _ _ 59 59 rfl _ _ (by simp [Act.eval, Act.put]) (by simp [Act.eval, Act.put, hA]) (hap _) ?_)
  go_wp2
  go_ret
  exact ⟨rfl, rfl⟩

/-- slices.Delete of one element. -/
theorem del_ok (xs : List (List FV)) (i : Nat) (hin : i < xs.length) :
    ECalls Tryd.prog 54 [.v (.c (.row 0 xs.length)), .lit (.int .i64 i), .lit (.int .i64 ((i : Int) + 1))] [.row 81 3 xs] fun y H' =>
      H' = [none, some (.row 81 3 (xs.take i ++ xs.drop (i + 1)))] ∧ y = .v (.c (.row 1 (xs.length - 1))) := by
  obtain ⟨ti, z, E⟩ := elem
  exact del_ecalls E del1 xs i hin

end InsH
end Go.Proofs.YtejjhgdnmknejaaDoor

namespace Go.Proofs.YtejjhgdnmknejaaDoor
open Go Go.EW
set_option linter.unusedSimpArgs false
set_option linter.unusedVariables false

@[simp] def l_byHold_1 (_ : Unit) : List EOp := [⟨0, (some 2), none, (.q (.box 81 (.t 0))), []⟩, ⟨1, (some 4), none, (.q (.mov (.k (.int .i64 0)))), []⟩]
@[simp] def b_byHold_2 (_ : Unit) : EB := reg0 (hid l_byHold_1) 2
@[simp] def l_byHold_3 (_ : Unit) : List EOp := [⟨0, (some 5), none, (.q (.fad 0 (.t 2))), []⟩, ⟨1, (some 6), none, (.q (.ldc (.t 5))), []⟩, ⟨2, (some 7), none, (.q (.mov (.t 1))), []⟩, ⟨3, (some 8), none, (.call 47 [(.t 6), (.t 7)]), []⟩, ⟨4, (some 4), none, (.q (.mov (.t 8))), []⟩]
@[simp] def b_byHold_4 (_ : Unit) : EB := reg0 (hid l_byHold_3) 5
@[simp] def b_byHold_5 (_ : Unit) : EB := .seq (hid b_byHold_4) .ret
@[simp] def b_byHold_6 (_ : Unit) : EB := .seq (hid b_byHold_2) (hid b_byHold_5)
def c_byHold : EB × List QOp × Nat := ((hid b_byHold_6), [(.mov (.t 4))], 9)
theorem k_byHold : cfun Tryd.prog 33 = some c_byHold := by kernel_rfl

@[simp] def l_BinH_1 (_ : Unit) : List EOp := [⟨0, (some 6), none, (.q (.mov (.k (.int .i64 0)))), []⟩, ⟨1, (some 7), none, (.q (.mov (.k (.bool false)))), []⟩]
@[simp] def b_BinH_2 (_ : Unit) : EB := reg0 (hid l_BinH_1) 2
@[simp] def l_BinH_3 (_ : Unit) : List EOp := [⟨0, (some 12), none, (.q (.mov (.t 0))), []⟩, ⟨1, (some 13), none, (.q (.len (.t 12))), []⟩, ⟨2, (some 8), none, (.q (.mov (.t 13))), []⟩]
@[simp] def b_BinH_4 (_ : Unit) : EB := reg0 (hid l_BinH_3) 3
@[simp] def l_BinH_5 (_ : Unit) : List EOp := [⟨0, (some 14), none, (.q (.mov (.t 8))), []⟩, ⟨1, (some 9), none, (.q (.mov (.k (.int .i64 0)))), []⟩, ⟨2, (some 10), none, (.q (.mov (.t 14))), []⟩]
@[simp] def b_BinH_6 (_ : Unit) : EB := reg0 (hid l_BinH_5) 3
@[simp] def l_BinH_7 (_ : Unit) : List EOp := [⟨0, (some 15), none, (.q (.mov (.t 9))), []⟩, ⟨1, (some 16), none, (.q (.mov (.t 10))), []⟩, ⟨2, (some 17), none, (.q (.bin .lss (.t 15) (.t 16))), []⟩]
@[simp] def b_BinH_8 (_ : Unit) : EB := reg0 (hid l_BinH_7) 3
@[simp] def b_BinH_9 (_ : Unit) : EB := .cond (.t 17) .skip (.exit 0)
@[simp] def b_BinH_10 (_ : Unit) : EB := .seq (hid b_BinH_8) (hid b_BinH_9)
@[simp] def l_BinH_12 (_ : Unit) : List EOp := [⟨6, (some 11), none, (.q (.mov (.t 23))), []⟩]
@[simp] def l_BinH_11 (_ : Unit) : List EOp := ⟨0, (some 18), none, (.q (.mov (.t 9))), []⟩ :: ⟨1, (some 19), none, (.q (.mov (.t 10))), []⟩ :: ⟨2, (some 20), none, (.q (.bin .add (.t 18) (.t 19))), []⟩ :: ⟨3, (some 21), none, (.q (.cnv .u64 (.t 20))), []⟩ :: ⟨4, (some 22), none, (.q (.bin .shr (.t 21) (.k (.int .u64 1)))), []⟩ :: ⟨5, (some 23), none, (.q (.cnv .i64 (.t 22))), []⟩ :: hid l_BinH_12
@[simp] def b_BinH_13 (_ : Unit) : EB := reg0 (hid l_BinH_11) 7
@[simp] def l_BinH_15 (_ : Unit) : List EOp := [⟨6, (some 30), none, (.clo (.t 24) [(.t 28), (.t 29)]), []⟩, ⟨7, (some 31), none, (.q (.bin .lss (.t 30) (.k (.int .i64 0)))), []⟩]
@[simp] def l_BinH_14 (_ : Unit) : List EOp := ⟨0, (some 24), none, (.q (.mov (.t 2))), []⟩ :: ⟨1, (some 25), none, (.q (.mov (.t 0))), []⟩ :: ⟨2, (some 26), none, (.q (.mov (.t 11))), []⟩ :: ⟨3, (some 27), none, (.q (.isl 3 (.t 25) (.t 26))), []⟩ :: ⟨4, (some 28), none, (.q (.lda 3 (.t 27))), []⟩ :: ⟨5, (some 29), none, (.q (.mov (.t 1))), []⟩ :: hid l_BinH_15
@[simp] def b_BinH_16 (_ : Unit) : EB := reg0 (hid l_BinH_14) 8
@[simp] def l_BinH_17 (_ : Unit) : List EOp := [⟨0, (some 32), none, (.q (.mov (.t 11))), []⟩, ⟨1, (some 33), none, (.q (.bin .add (.t 32) (.k (.int .i64 1)))), []⟩, ⟨2, (some 9), none, (.q (.mov (.t 33))), []⟩]
@[simp] def b_BinH_18 (_ : Unit) : EB := reg0 (hid l_BinH_17) 3
@[simp] def l_BinH_19 (_ : Unit) : List EOp := [⟨0, (some 34), none, (.q (.mov (.t 11))), []⟩, ⟨1, (some 10), none, (.q (.mov (.t 34))), []⟩]
@[simp] def b_BinH_20 (_ : Unit) : EB := reg0 (hid l_BinH_19) 2
@[simp] def b_BinH_21 (_ : Unit) : EB := .cond (.t 31) (hid b_BinH_18) (hid b_BinH_20)
@[simp] def b_BinH_22 (_ : Unit) : EB := .seq (hid b_BinH_16) (hid b_BinH_21)
@[simp] def b_BinH_23 (_ : Unit) : EB := .seq (hid b_BinH_13) (hid b_BinH_22)
@[simp] def b_BinH_24 (_ : Unit) : EB := .block 1 (hid b_BinH_23)
@[simp] def b_BinH_25 (_ : Unit) : EB := .seq (hid b_BinH_10) (hid b_BinH_24)
@[simp] def b_BinH_26 (_ : Unit) : EB := .loop (hid b_BinH_25)
@[simp] def b_BinH_27 (_ : Unit) : EB := .block 0 (hid b_BinH_26)
@[simp] def l_BinH_30 (_ : Unit) : List EOp := [⟨12, (some 47), (some (39, true)), (.q (.bin .eql (.t 46) (.k (.int .i64 0)))), []⟩, ⟨13, (some 48), none, (.q (.pick (.t 39) (.t 47) (.k (.bool false)))), []⟩, ⟨14, (some 6), none, (.q (.mov (.t 35))), []⟩, ⟨15, (some 7), none, (.q (.mov (.t 48))), []⟩]
@[simp] def l_BinH_29 (_ : Unit) : List EOp := ⟨6, (some 41), (some (39, true)), (.q (.mov (.t 0))), []⟩ :: ⟨7, (some 42), (some (39, true)), (.q (.mov (.t 9))), []⟩ :: ⟨8, (some 43), (some (39, true)), (.q (.isl 3 (.t 41) (.t 42))), []⟩ :: ⟨9, (some 44), (some (39, true)), (.q (.lda 3 (.t 43))), []⟩ :: ⟨10, (some 45), (some (39, true)), (.q (.mov (.t 1))), []⟩ :: ⟨11, (some 46), (some (39, true)), (.clo (.t 40) [(.t 44), (.t 45)]), []⟩ :: hid l_BinH_30
@[simp] def l_BinH_28 (_ : Unit) : List EOp := ⟨0, (some 35), none, (.q (.mov (.t 9))), []⟩ :: ⟨1, (some 36), none, (.q (.mov (.t 9))), []⟩ :: ⟨2, (some 37), none, (.q (.mov (.t 8))), []⟩ :: ⟨3, (some 38), none, (.q (.bin .lss (.t 36) (.t 37))), []⟩ :: ⟨4, (some 39), none, (.q (.mov (.t 38))), []⟩ :: ⟨5, (some 40), (some (39, true)), (.q (.mov (.t 2))), []⟩ :: hid l_BinH_29
@[simp] def b_BinH_31 (_ : Unit) : EB := reg0 (hid l_BinH_28) 16
@[simp] def b_BinH_32 (_ : Unit) : EB := .seq (hid b_BinH_31) .ret
@[simp] def b_BinH_33 (_ : Unit) : EB := .seq (hid b_BinH_27) (hid b_BinH_32)
@[simp] def b_BinH_34 (_ : Unit) : EB := .seq (hid b_BinH_6) (hid b_BinH_33)
@[simp] def b_BinH_35 (_ : Unit) : EB := .seq (hid b_BinH_4) (hid b_BinH_34)
@[simp] def b_BinH_36 (_ : Unit) : EB := .seq (hid b_BinH_2) (hid b_BinH_35)
def c_BinH : EB × List QOp × Nat := ((hid b_BinH_36), [(.mov (.t 6)), (.mov (.t 7))], 49)
theorem k_BinH : cfun Tryd.prog 32 = some c_BinH := by kernel_rfl

@[simp] def l_SKeep_1 (_ : Unit) : List EOp := [⟨0, (some 3), none, (.q (.box 61 (.t 0))), []⟩, ⟨1, (some 5), none, (.q (.box 81 (.t 2))), []⟩, ⟨2, (some 6), none, (.q (.alloc 61 [(.int .i64 0), (.int .i64 0), (.int .i64 0), (.slice none 0 0), (.slice none 0 0)])), []⟩, ⟨3, (some 7), none, (.q (.mov (.k .nilIface))), []⟩]
@[simp] def b_SKeep_2 (_ : Unit) : EB := reg0 (hid l_SKeep_1) 4
@[simp] def l_SKeep_4 (_ : Unit) : List EOp := [⟨6, none, none, (.fz (.sto 5 (.t 8) (.t 15))), []⟩, ⟨7, (some 9), none, (.q (.mov (.t 16))), []⟩]
@[simp] def l_SKeep_3 (_ : Unit) : List EOp := ⟨0, (some 13), none, (.q (.lda 5 (.t 3))), []⟩ :: ⟨1, (some 14), none, (.call 31 [(.t 13)]), []⟩ :: ⟨2, (some 12), none, (.q (.mov (.t 14))), []⟩ :: ⟨3, (some 15), none, (.q (.ext 0 (.t 12))), []⟩ :: ⟨4, (some 16), none, (.q (.ext 1 (.t 12))), []⟩ :: ⟨5, (some 8), none, (.q (.alloc 61 [(.int .i64 0), (.int .i64 0), (.int .i64 0), (.slice none 0 0), (.slice none 0 0)])), []⟩ :: hid l_SKeep_4
@[simp] def b_SKeep_5 (_ : Unit) : EB := reg0 (hid l_SKeep_3) 8
@[simp] def l_SKeep_6 (_ : Unit) : List EOp := [⟨0, (some 17), none, (.q (.mov (.t 9))), []⟩, ⟨1, (some 18), none, (.q (.eqi true (.t 17))), []⟩]
@[simp] def b_SKeep_7 (_ : Unit) : EB := reg0 (hid l_SKeep_6) 2
@[simp] def l_SKeep_8 (_ : Unit) : List EOp := [⟨0, (some 19), none, (.q (.build [(.int .i64 0), (.int .i64 0), (.int .i64 0), (.slice none 0 0), (.slice none 0 0)] [])), []⟩, ⟨1, (some 20), none, (.q (.mov (.t 9))), []⟩, ⟨2, none, none, (.fz (.sto 5 (.t 6) (.t 19))), []⟩, ⟨3, (some 7), none, (.q (.mov (.t 20))), []⟩]
@[simp] def b_SKeep_9 (_ : Unit) : EB := reg0 (hid l_SKeep_8) 4
@[simp] def b_SKeep_10 (_ : Unit) : EB := .seq (hid b_SKeep_9) .ret
@[simp] def b_SKeep_11 (_ : Unit) : EB := .cond (.t 18) (hid b_SKeep_10) .skip
@[simp] def b_SKeep_12 (_ : Unit) : EB := .seq (hid b_SKeep_7) (hid b_SKeep_11)
@[simp] def l_SKeep_14 (_ : Unit) : List EOp := [⟨6, (some 27), none, (.q (.ext 0 (.t 21))), []⟩, ⟨7, (some 28), none, (.q (.ext 1 (.t 21))), []⟩, ⟨8, (some 10), none, (.q (.mov (.t 27))), []⟩, ⟨9, (some 11), none, (.q (.mov (.t 28))), []⟩]
@[simp] def l_SKeep_13 (_ : Unit) : List EOp := ⟨0, (some 22), none, (.q (.fad 4 (.t 8))), []⟩ :: ⟨1, (some 23), none, (.q (.ldc (.t 22))), []⟩ :: ⟨2, (some 24), none, (.q (.fad 0 (.t 5))), []⟩ :: ⟨3, (some 25), none, (.q (.ldc (.t 24))), []⟩ :: ⟨4, (some 26), none, (.call 32 [(.t 23), (.t 25), (.k (.func (.func 33) #[] #[]))]), []⟩ :: ⟨5, (some 21), none, (.q (.mov (.t 26))), []⟩ :: hid l_SKeep_14
@[simp] def b_SKeep_15 (_ : Unit) : EB := reg0 (hid l_SKeep_13) 10
@[simp] def l_SKeep_16 (_ : Unit) : List EOp := [⟨0, (some 30), none, (.q (.mov (.t 1))), []⟩, ⟨1, (some 31), none, (.call 34 [(.t 30)]), []⟩, ⟨2, (some 32), none, (.q (.un .not (.t 31))), []⟩, ⟨3, (some 29), none, (.q (.mov (.t 32))), []⟩]
@[simp] def b_SKeep_17 (_ : Unit) : EB := reg0 (hid l_SKeep_16) 4
@[simp] def l_SKeep_18 (_ : Unit) : List EOp := [⟨0, (some 33), none, (.q (.build [(.int .i64 0), (.int .i64 0), (.int .i64 0), (.slice none 0 0), (.slice none 0 0)] [])), []⟩, ⟨1, (some 34), none, (.q (.mki 52 (.k (.int .i64 33)))), []⟩, ⟨2, none, none, (.fz (.sto 5 (.t 6) (.t 33))), []⟩, ⟨3, (some 7), none, (.q (.mov (.t 34))), []⟩]
@[simp] def b_SKeep_19 (_ : Unit) : EB := reg0 (hid l_SKeep_18) 4
@[simp] def b_SKeep_20 (_ : Unit) : EB := .seq (hid b_SKeep_19) .ret
@[simp] def l_SKeep_21 (_ : Unit) : List EOp := [⟨0, (some 36), none, (.q (.fad 1 (.t 5))), []⟩, ⟨1, (some 37), none, (.q (.ldc (.t 36))), []⟩, ⟨2, (some 38), none, (.q (.bin .lss (.t 37) (.k (.int .i64 10)))), []⟩, ⟨3, (some 35), none, (.q (.mov (.t 38))), []⟩]
@[simp] def b_SKeep_22 (_ : Unit) : EB := reg0 (hid l_SKeep_21) 4
@[simp] def l_SKeep_23 (_ : Unit) : List EOp := [⟨0, (some 39), none, (.q (.build [(.int .i64 0), (.int .i64 0), (.int .i64 0), (.slice none 0 0), (.slice none 0 0)] [])), []⟩, ⟨1, (some 40), none, (.q (.mki 52 (.k (.int .i64 27)))), []⟩, ⟨2, none, none, (.fz (.sto 5 (.t 6) (.t 39))), []⟩, ⟨3, (some 7), none, (.q (.mov (.t 40))), []⟩]
@[simp] def b_SKeep_24 (_ : Unit) : EB := reg0 (hid l_SKeep_23) 4
@[simp] def b_SKeep_25 (_ : Unit) : EB := .seq (hid b_SKeep_24) .ret
@[simp] def l_SKeep_26 (_ : Unit) : List EOp := [⟨0, (some 42), none, (.q (.lda 3 (.t 5))), []⟩, ⟨1, (some 43), none, (.call 35 [(.t 42)]), []⟩, ⟨2, (some 44), none, (.q (.un .not (.t 43))), []⟩, ⟨3, (some 41), none, (.q (.mov (.t 44))), []⟩]
@[simp] def b_SKeep_27 (_ : Unit) : EB := reg0 (hid l_SKeep_26) 4
@[simp] def l_SKeep_28 (_ : Unit) : List EOp := [⟨0, (some 45), none, (.q (.build [(.int .i64 0), (.int .i64 0), (.int .i64 0), (.slice none 0 0), (.slice none 0 0)] [])), []⟩, ⟨1, (some 46), none, (.q (.mki 52 (.k (.int .i64 1)))), []⟩, ⟨2, none, none, (.fz (.sto 5 (.t 6) (.t 45))), []⟩, ⟨3, (some 7), none, (.q (.mov (.t 46))), []⟩]
@[simp] def b_SKeep_29 (_ : Unit) : EB := reg0 (hid l_SKeep_28) 4
@[simp] def b_SKeep_30 (_ : Unit) : EB := .seq (hid b_SKeep_29) .ret
@[simp] def l_SKeep_31 (_ : Unit) : List EOp := [⟨0, (some 48), none, (.q (.mov (.t 11))), []⟩, ⟨1, (some 47), none, (.q (.mov (.t 48))), []⟩]
@[simp] def b_SKeep_32 (_ : Unit) : EB := reg0 (hid l_SKeep_31) 2
@[simp] def l_SKeep_33 (_ : Unit) : List EOp := [⟨0, (some 49), none, (.q (.build [(.int .i64 0), (.int .i64 0), (.int .i64 0), (.slice none 0 0), (.slice none 0 0)] [])), []⟩, ⟨1, (some 50), none, (.q (.mki 52 (.k (.int .i64 9)))), []⟩, ⟨2, none, none, (.fz (.sto 5 (.t 6) (.t 49))), []⟩, ⟨3, (some 7), none, (.q (.mov (.t 50))), []⟩]
@[simp] def b_SKeep_34 (_ : Unit) : EB := reg0 (hid l_SKeep_33) 4
@[simp] def b_SKeep_35 (_ : Unit) : EB := .seq (hid b_SKeep_34) .ret
@[simp] def l_SKeep_36 (_ : Unit) : List EOp := [⟨0, (some 52), none, (.q (.lda 5 (.t 8))), []⟩, ⟨1, (some 53), none, (.call 36 [(.t 52)]), []⟩, ⟨2, (some 54), none, (.q (.bin .geq (.t 53) (.k (.int .i64 8)))), []⟩, ⟨3, (some 51), none, (.q (.mov (.t 54))), []⟩]
@[simp] def b_SKeep_37 (_ : Unit) : EB := reg0 (hid l_SKeep_36) 4
@[simp] def l_SKeep_38 (_ : Unit) : List EOp := [⟨0, (some 55), none, (.q (.build [(.int .i64 0), (.int .i64 0), (.int .i64 0), (.slice none 0 0), (.slice none 0 0)] [])), []⟩, ⟨1, (some 56), none, (.q (.mki 52 (.k (.int .i64 30)))), []⟩, ⟨2, none, none, (.fz (.sto 5 (.t 6) (.t 55))), []⟩, ⟨3, (some 7), none, (.q (.mov (.t 56))), []⟩]
@[simp] def b_SKeep_39 (_ : Unit) : EB := reg0 (hid l_SKeep_38) 4
@[simp] def b_SKeep_40 (_ : Unit) : EB := .seq (hid b_SKeep_39) .ret
@[simp] def l_SKeep_42 (_ : Unit) : List EOp := [⟨6, (some 64), none, (.q (.bin .lss (.t 61) (.t 63))), []⟩, ⟨7, (some 57), none, (.q (.mov (.t 64))), []⟩]
@[simp] def l_SKeep_41 (_ : Unit) : List EOp := ⟨0, (some 58), none, (.q (.mov (.t 1))), []⟩ :: ⟨1, (some 59), none, (.q (.fad 1 (.t 8))), []⟩ :: ⟨2, (some 60), none, (.q (.iad 2 1 (.t 59) (.t 58))), []⟩ :: ⟨3, (some 61), none, (.q (.ldc (.t 60))), []⟩ :: ⟨4, (some 62), none, (.q (.fad 1 (.t 5))), []⟩ :: ⟨5, (some 63), none, (.q (.ldc (.t 62))), []⟩ :: hid l_SKeep_42
@[simp] def b_SKeep_43 (_ : Unit) : EB := reg0 (hid l_SKeep_41) 8
@[simp] def l_SKeep_44 (_ : Unit) : List EOp := [⟨0, (some 65), none, (.q (.build [(.int .i64 0), (.int .i64 0), (.int .i64 0), (.slice none 0 0), (.slice none 0 0)] [])), []⟩, ⟨1, (some 66), none, (.q (.mki 52 (.k (.int .i64 20)))), []⟩, ⟨2, none, none, (.fz (.sto 5 (.t 6) (.t 65))), []⟩, ⟨3, (some 7), none, (.q (.mov (.t 66))), []⟩]
@[simp] def b_SKeep_45 (_ : Unit) : EB := reg0 (hid l_SKeep_44) 4
@[simp] def b_SKeep_46 (_ : Unit) : EB := .seq (hid b_SKeep_45) .ret
@[simp] def b_SKeep_47 (_ : Unit) : EB := .cond (.t 57) (hid b_SKeep_46) .skip
@[simp] def b_SKeep_48 (_ : Unit) : EB := .seq (hid b_SKeep_43) (hid b_SKeep_47)
@[simp] def b_SKeep_49 (_ : Unit) : EB := .cond (.t 51) (hid b_SKeep_40) (hid b_SKeep_48)
@[simp] def b_SKeep_50 (_ : Unit) : EB := .seq (hid b_SKeep_37) (hid b_SKeep_49)
@[simp] def b_SKeep_51 (_ : Unit) : EB := .cond (.t 47) (hid b_SKeep_35) (hid b_SKeep_50)
@[simp] def b_SKeep_52 (_ : Unit) : EB := .seq (hid b_SKeep_32) (hid b_SKeep_51)
@[simp] def b_SKeep_53 (_ : Unit) : EB := .cond (.t 41) (hid b_SKeep_30) (hid b_SKeep_52)
@[simp] def b_SKeep_54 (_ : Unit) : EB := .seq (hid b_SKeep_27) (hid b_SKeep_53)
@[simp] def b_SKeep_55 (_ : Unit) : EB := .cond (.t 35) (hid b_SKeep_25) (hid b_SKeep_54)
@[simp] def b_SKeep_56 (_ : Unit) : EB := .seq (hid b_SKeep_22) (hid b_SKeep_55)
@[simp] def b_SKeep_57 (_ : Unit) : EB := .cond (.t 29) (hid b_SKeep_20) (hid b_SKeep_56)
@[simp] def b_SKeep_58 (_ : Unit) : EB := .seq (hid b_SKeep_17) (hid b_SKeep_57)
@[simp] def b_SKeep_59 (_ : Unit) : EB := .block 0 (hid b_SKeep_58)
@[simp] def l_SKeep_61 (_ : Unit) : List EOp := [⟨6, (some 73), none, (.q (.bin .sub (.t 70) (.t 72))), []⟩, ⟨7, (some 74), none, (.q (.fad 1 (.t 8))), []⟩, ⟨8, (some 75), none, (.q (.iad 2 1 (.t 74) (.t 67))), []⟩, ⟨9, none, none, (.sto 1 (.t 75) (.t 73)), []⟩]
@[simp] def l_SKeep_60 (_ : Unit) : List EOp := ⟨0, (some 67), none, (.q (.mov (.t 1))), []⟩ :: ⟨1, (some 68), none, (.q (.fad 1 (.t 8))), []⟩ :: ⟨2, (some 69), none, (.q (.iad 2 1 (.t 68) (.t 67))), []⟩ :: ⟨3, (some 70), none, (.q (.ldc (.t 69))), []⟩ :: ⟨4, (some 71), none, (.q (.fad 1 (.t 5))), []⟩ :: ⟨5, (some 72), none, (.q (.ldc (.t 71))), []⟩ :: hid l_SKeep_61
@[simp] def b_SKeep_62 (_ : Unit) : EB := reg0 (hid l_SKeep_60) 10
@[simp] def l_SKeep_63 (_ : Unit) : List EOp := [⟨0, (some 76), none, (.q (.fad 2 (.t 5))), []⟩, ⟨1, (some 77), none, (.q (.ldc (.t 76))), []⟩, ⟨2, (some 78), none, (.call 37 [(.t 77)]), []⟩, ⟨3, (some 79), none, (.q (.fad 2 (.t 5))), []⟩, ⟨4, none, none, (.fz (.sto 1 (.t 79) (.t 78))), []⟩]
@[simp] def b_SKeep_64 (_ : Unit) : EB := reg0 (hid l_SKeep_63) 5
@[simp] def l_SKeep_66 (_ : Unit) : List EOp := [⟨6, (some 86), none, (.q (.fad 4 (.t 8))), []⟩, ⟨7, none, none, (.fz (.sto 1 (.t 86) (.t 85))), []⟩]
@[simp] def l_SKeep_65 (_ : Unit) : List EOp := ⟨0, (some 80), none, (.q (.fad 4 (.t 8))), []⟩ :: ⟨1, (some 81), none, (.q (.ldc (.t 80))), []⟩ :: ⟨2, (some 82), none, (.q (.mov (.t 10))), []⟩ :: ⟨3, (some 83), none, (.q (.lda 3 (.t 5))), []⟩ :: ⟨4, (some 84), none, (.q (.bsr 81 3 [(.int .i64 0), (.int .i64 0), (.slice none 0 0)] 1 [(0, (.t 83))])), []⟩ :: ⟨5, (some 85), none, (.call 38 [(.t 81), (.t 82), (.t 84)]), []⟩ :: hid l_SKeep_66
@[simp] def b_SKeep_67 (_ : Unit) : EB := reg0 (hid l_SKeep_65) 8
@[simp] def l_SKeep_68 (_ : Unit) : List EOp := [⟨0, (some 87), none, (.q (.lda 5 (.t 8))), []⟩, ⟨1, none, none, (.fz (.sto 5 (.t 6) (.t 87))), []⟩, ⟨2, (some 7), none, (.q (.mov (.k .nilIface))), []⟩]
@[simp] def b_SKeep_69 (_ : Unit) : EB := reg0 (hid l_SKeep_68) 3
@[simp] def b_SKeep_70 (_ : Unit) : EB := .seq (hid b_SKeep_69) .ret
@[simp] def b_SKeep_71 (_ : Unit) : EB := .seq (hid b_SKeep_67) (hid b_SKeep_70)
@[simp] def b_SKeep_72 (_ : Unit) : EB := .seq (hid b_SKeep_64) (hid b_SKeep_71)
@[simp] def b_SKeep_73 (_ : Unit) : EB := .seq (hid b_SKeep_62) (hid b_SKeep_72)
@[simp] def b_SKeep_74 (_ : Unit) : EB := .seq (hid b_SKeep_59) (hid b_SKeep_73)
@[simp] def b_SKeep_75 (_ : Unit) : EB := .seq (hid b_SKeep_15) (hid b_SKeep_74)
@[simp] def b_SKeep_76 (_ : Unit) : EB := .seq (hid b_SKeep_12) (hid b_SKeep_75)
@[simp] def b_SKeep_77 (_ : Unit) : EB := .seq (hid b_SKeep_5) (hid b_SKeep_76)
@[simp] def b_SKeep_78 (_ : Unit) : EB := .seq (hid b_SKeep_2) (hid b_SKeep_77)
def c_SKeep : EB × List QOp × Nat := ((hid b_SKeep_78), [(.lda 5 (.t 6)), (.mov (.t 7))], 88)
theorem k_SKeep : cfun Tryd.prog 24 = some c_SKeep := by kernel_rfl

@[simp] def l_SFree_1 (_ : Unit) : List EOp := [⟨0, (some 3), none, (.q (.box 61 (.t 0))), []⟩, ⟨1, (some 6), none, (.q (.alloc 61 [(.int .i64 0), (.int .i64 0), (.int .i64 0), (.slice none 0 0), (.slice none 0 0)])), []⟩, ⟨2, (some 7), none, (.q (.mov (.k .nilIface))), []⟩]
@[simp] def b_SFree_2 (_ : Unit) : EB := reg0 (hid l_SFree_1) 3
@[simp] def l_SFree_4 (_ : Unit) : List EOp := [⟨6, none, none, (.fz (.sto 5 (.t 8) (.t 15))), []⟩, ⟨7, (some 9), none, (.q (.mov (.t 16))), []⟩]
@[simp] def l_SFree_3 (_ : Unit) : List EOp := ⟨0, (some 13), none, (.q (.lda 5 (.t 3))), []⟩ :: ⟨1, (some 14), none, (.call 31 [(.t 13)]), []⟩ :: ⟨2, (some 12), none, (.q (.mov (.t 14))), []⟩ :: ⟨3, (some 15), none, (.q (.ext 0 (.t 12))), []⟩ :: ⟨4, (some 16), none, (.q (.ext 1 (.t 12))), []⟩ :: ⟨5, (some 8), none, (.q (.alloc 61 [(.int .i64 0), (.int .i64 0), (.int .i64 0), (.slice none 0 0), (.slice none 0 0)])), []⟩ :: hid l_SFree_4
@[simp] def b_SFree_5 (_ : Unit) : EB := reg0 (hid l_SFree_3) 8
@[simp] def l_SFree_6 (_ : Unit) : List EOp := [⟨0, (some 17), none, (.q (.mov (.t 9))), []⟩, ⟨1, (some 18), none, (.q (.eqi true (.t 17))), []⟩]
@[simp] def b_SFree_7 (_ : Unit) : EB := reg0 (hid l_SFree_6) 2
@[simp] def l_SFree_8 (_ : Unit) : List EOp := [⟨0, (some 19), none, (.q (.build [(.int .i64 0), (.int .i64 0), (.int .i64 0), (.slice none 0 0), (.slice none 0 0)] [])), []⟩, ⟨1, (some 20), none, (.q (.mov (.t 9))), []⟩, ⟨2, none, none, (.fz (.sto 5 (.t 6) (.t 19))), []⟩, ⟨3, (some 7), none, (.q (.mov (.t 20))), []⟩]
@[simp] def b_SFree_9 (_ : Unit) : EB := reg0 (hid l_SFree_8) 4
@[simp] def b_SFree_10 (_ : Unit) : EB := .seq (hid b_SFree_9) .ret
@[simp] def b_SFree_11 (_ : Unit) : EB := .cond (.t 18) (hid b_SFree_10) .skip
@[simp] def b_SFree_12 (_ : Unit) : EB := .seq (hid b_SFree_7) (hid b_SFree_11)
@[simp] def l_SFree_14 (_ : Unit) : List EOp := [⟨6, (some 27), none, (.q (.ext 1 (.t 21))), []⟩, ⟨7, (some 10), none, (.q (.mov (.t 26))), []⟩, ⟨8, (some 11), none, (.q (.mov (.t 27))), []⟩]
@[simp] def l_SFree_13 (_ : Unit) : List EOp := ⟨0, (some 22), none, (.q (.fad 4 (.t 8))), []⟩ :: ⟨1, (some 23), none, (.q (.ldc (.t 22))), []⟩ :: ⟨2, (some 24), none, (.q (.mov (.t 1))), []⟩ :: ⟨3, (some 25), none, (.call 32 [(.t 23), (.t 24), (.k (.func (.func 33) #[] #[]))]), []⟩ :: ⟨4, (some 21), none, (.q (.mov (.t 25))), []⟩ :: ⟨5, (some 26), none, (.q (.ext 0 (.t 21))), []⟩ :: hid l_SFree_14
@[simp] def b_SFree_15 (_ : Unit) : EB := reg0 (hid l_SFree_13) 9
@[simp] def l_SFree_16 (_ : Unit) : List EOp := [⟨0, (some 29), none, (.q (.mov (.t 11))), []⟩, ⟨1, (some 30), none, (.q (.un .not (.t 29))), []⟩, ⟨2, (some 28), none, (.q (.mov (.t 30))), []⟩]
@[simp] def b_SFree_17 (_ : Unit) : EB := reg0 (hid l_SFree_16) 3
@[simp] def l_SFree_18 (_ : Unit) : List EOp := [⟨0, (some 31), none, (.q (.build [(.int .i64 0), (.int .i64 0), (.int .i64 0), (.slice none 0 0), (.slice none 0 0)] [])), []⟩, ⟨1, (some 32), none, (.q (.mki 52 (.k (.int .i64 8)))), []⟩, ⟨2, none, none, (.fz (.sto 5 (.t 6) (.t 31))), []⟩, ⟨3, (some 7), none, (.q (.mov (.t 32))), []⟩]
@[simp] def b_SFree_19 (_ : Unit) : EB := reg0 (hid l_SFree_18) 4
@[simp] def b_SFree_20 (_ : Unit) : EB := .seq (hid b_SFree_19) .ret
@[simp] def l_SFree_23 (_ : Unit) : List EOp := [⟨12, (some 33), none, (.q (.mov (.t 45))), []⟩]
@[simp] def l_SFree_22 (_ : Unit) : List EOp := ⟨6, (some 40), (some (36, false)), (.q (.mov (.t 10))), []⟩ :: ⟨7, (some 41), (some (36, false)), (.q (.isl 3 (.t 39) (.t 40))), []⟩ :: ⟨8, (some 42), (some (36, false)), (.q (.fad 1 (.t 41))), []⟩ :: ⟨9, (some 43), (some (36, false)), (.q (.ldc (.t 42))), []⟩ :: ⟨10, (some 44), (some (36, false)), (.q (.bin .gtr (.t 37) (.t 43))), []⟩ :: ⟨11, (some 45), none, (.q (.pick (.t 36) (.k (.bool true)) (.t 44))), []⟩ :: hid l_SFree_23
@[simp] def l_SFree_21 (_ : Unit) : List EOp := ⟨0, (some 34), none, (.q (.mov (.t 2))), []⟩ :: ⟨1, (some 35), none, (.q (.bin .lss (.t 34) (.k (.int .i64 0)))), []⟩ :: ⟨2, (some 36), none, (.q (.mov (.t 35))), []⟩ :: ⟨3, (some 37), (some (36, false)), (.q (.mov (.t 2))), []⟩ :: ⟨4, (some 38), (some (36, false)), (.q (.fad 4 (.t 8))), []⟩ :: ⟨5, (some 39), (some (36, false)), (.q (.ldc (.t 38))), []⟩ :: hid l_SFree_22
@[simp] def b_SFree_24 (_ : Unit) : EB := reg0 (hid l_SFree_21) 13
@[simp] def l_SFree_25 (_ : Unit) : List EOp := [⟨0, (some 46), none, (.q (.build [(.int .i64 0), (.int .i64 0), (.int .i64 0), (.slice none 0 0), (.slice none 0 0)] [])), []⟩, ⟨1, (some 47), none, (.q (.mki 52 (.k (.int .i64 20)))), []⟩, ⟨2, none, none, (.fz (.sto 5 (.t 6) (.t 46))), []⟩, ⟨3, (some 7), none, (.q (.mov (.t 47))), []⟩]
@[simp] def b_SFree_26 (_ : Unit) : EB := reg0 (hid l_SFree_25) 4
@[simp] def b_SFree_27 (_ : Unit) : EB := .seq (hid b_SFree_26) .ret
@[simp] def b_SFree_28 (_ : Unit) : EB := .cond (.t 33) (hid b_SFree_27) .skip
@[simp] def b_SFree_29 (_ : Unit) : EB := .seq (hid b_SFree_24) (hid b_SFree_28)
@[simp] def b_SFree_30 (_ : Unit) : EB := .cond (.t 28) (hid b_SFree_20) (hid b_SFree_29)
@[simp] def b_SFree_31 (_ : Unit) : EB := .seq (hid b_SFree_17) (hid b_SFree_30)
@[simp] def b_SFree_32 (_ : Unit) : EB := .block 0 (hid b_SFree_31)
@[simp] def l_SFree_34 (_ : Unit) : List EOp := [⟨6, (some 54), none, (.q (.iad 2 1 (.t 53) (.k (.int .i64 0)))), []⟩, ⟨7, none, none, (.sto 1 (.t 54) (.t 52)), []⟩]
@[simp] def l_SFree_33 (_ : Unit) : List EOp := ⟨0, (some 48), none, (.q (.fad 1 (.t 8))), []⟩ :: ⟨1, (some 49), none, (.q (.iad 2 1 (.t 48) (.k (.int .i64 0)))), []⟩ :: ⟨2, (some 50), none, (.q (.ldc (.t 49))), []⟩ :: ⟨3, (some 51), none, (.q (.mov (.t 2))), []⟩ :: ⟨4, (some 52), none, (.q (.bin .add (.t 50) (.t 51))), []⟩ :: ⟨5, (some 53), none, (.q (.fad 1 (.t 8))), []⟩ :: hid l_SFree_34
@[simp] def b_SFree_35 (_ : Unit) : EB := reg0 (hid l_SFree_33) 8
@[simp] def l_SFree_38 (_ : Unit) : List EOp := [⟨12, (some 67), none, (.q (.fad 1 (.t 8))), []⟩, ⟨13, (some 68), none, (.q (.iad 2 1 (.t 67) (.k (.int .i64 1)))), []⟩, ⟨14, none, none, (.sto 1 (.t 68) (.t 66)), []⟩]
@[simp] def l_SFree_37 (_ : Unit) : List EOp := ⟨6, (some 61), none, (.q (.isl 3 (.t 59) (.t 60))), []⟩ :: ⟨7, (some 62), none, (.q (.fad 1 (.t 61))), []⟩ :: ⟨8, (some 63), none, (.q (.ldc (.t 62))), []⟩ :: ⟨9, (some 64), none, (.q (.mov (.t 2))), []⟩ :: ⟨10, (some 65), none, (.q (.bin .sub (.t 63) (.t 64))), []⟩ :: ⟨11, (some 66), none, (.q (.bin .add (.t 57) (.t 65))), []⟩ :: hid l_SFree_38
@[simp] def l_SFree_36 (_ : Unit) : List EOp := ⟨0, (some 55), none, (.q (.fad 1 (.t 8))), []⟩ :: ⟨1, (some 56), none, (.q (.iad 2 1 (.t 55) (.k (.int .i64 1)))), []⟩ :: ⟨2, (some 57), none, (.q (.ldc (.t 56))), []⟩ :: ⟨3, (some 58), none, (.q (.fad 4 (.t 8))), []⟩ :: ⟨4, (some 59), none, (.q (.ldc (.t 58))), []⟩ :: ⟨5, (some 60), none, (.q (.mov (.t 10))), []⟩ :: hid l_SFree_37
@[simp] def b_SFree_39 (_ : Unit) : EB := reg0 (hid l_SFree_36) 15
@[simp] def l_SFree_41 (_ : Unit) : List EOp := [⟨6, (some 75), none, (.q (.fad 4 (.t 8))), []⟩, ⟨7, none, none, (.fz (.sto 1 (.t 75) (.t 74))), []⟩]
@[simp] def l_SFree_40 (_ : Unit) : List EOp := ⟨0, (some 69), none, (.q (.fad 4 (.t 8))), []⟩ :: ⟨1, (some 70), none, (.q (.ldc (.t 69))), []⟩ :: ⟨2, (some 71), none, (.q (.mov (.t 10))), []⟩ :: ⟨3, (some 72), none, (.q (.mov (.t 10))), []⟩ :: ⟨4, (some 73), none, (.q (.bin .add (.t 72) (.k (.int .i64 1)))), []⟩ :: ⟨5, (some 74), none, (.call 54 [(.t 70), (.t 71), (.t 73)]), []⟩ :: hid l_SFree_41
@[simp] def b_SFree_42 (_ : Unit) : EB := reg0 (hid l_SFree_40) 8
@[simp] def l_SFree_43 (_ : Unit) : List EOp := [⟨0, (some 76), none, (.q (.lda 5 (.t 8))), []⟩, ⟨1, none, none, (.fz (.sto 5 (.t 6) (.t 76))), []⟩, ⟨2, (some 7), none, (.q (.mov (.k .nilIface))), []⟩]
@[simp] def b_SFree_44 (_ : Unit) : EB := reg0 (hid l_SFree_43) 3
@[simp] def b_SFree_45 (_ : Unit) : EB := .seq (hid b_SFree_44) .ret
@[simp] def b_SFree_46 (_ : Unit) : EB := .seq (hid b_SFree_42) (hid b_SFree_45)
@[simp] def b_SFree_47 (_ : Unit) : EB := .seq (hid b_SFree_39) (hid b_SFree_46)
@[simp] def b_SFree_48 (_ : Unit) : EB := .seq (hid b_SFree_35) (hid b_SFree_47)
@[simp] def b_SFree_49 (_ : Unit) : EB := .seq (hid b_SFree_32) (hid b_SFree_48)
@[simp] def b_SFree_50 (_ : Unit) : EB := .seq (hid b_SFree_15) (hid b_SFree_49)
@[simp] def b_SFree_51 (_ : Unit) : EB := .seq (hid b_SFree_12) (hid b_SFree_50)
@[simp] def b_SFree_52 (_ : Unit) : EB := .seq (hid b_SFree_5) (hid b_SFree_51)
@[simp] def b_SFree_53 (_ : Unit) : EB := .seq (hid b_SFree_2) (hid b_SFree_52)
def c_SFree : EB × List QOp × Nat := ((hid b_SFree_53), [(.lda 5 (.t 6)), (.mov (.t 7))], 77)
theorem k_SFree : cfun Tryd.prog 43 = some c_SFree := by kernel_rfl


theorem cloneI_fz (l : List Int) (hl : l.length ≤ 100000000) : ECalls Tryd.prog 37 [IL l] [] fun y H' => H' = [] ∧ y = IL l := by
  have h := cloneI_ok l hl
  rw [show l.length = (intv l).length by simp] at h
  exact ecalls_frz h

theorem byHold_ok (p : Hol) (x : Int) : ECalls Tryd.prog 33 [.v (.agg (holC p)), I .i64 x] [] fun y H' => H' = [] ∧ y = I .i64 (cmpI p.id x) := by
  refine ecalls k_byHold ?_
  simp [c_byHold, I, holC]
  refine call0 (CmpI_ok p.id x) (by simp [Ptr, I, EV.lit]) ?_
  rintro y H' ⟨rfl, rfl⟩
  refine ⟨.inl (by simp [Ptr, I, EV.lit]), le_ok rfl, ?_⟩
  simp [Ptr, I, EV.lit]
  exact fin [] (by decide) rfl rfl rfl ⟨rfl, rfl⟩
theorem byHold_body : bodyOK Tryd.prog 33 = true := by kernel_rfl

set_option maxHeartbeats 4000000 in
theorem BinH_ok (l : List Hol) (x : Int) (hl : ∀ p ∈ l, p.ok) (hn : l.length ≤ 100000000) (hs : (l.map (·.id)).Pairwise (· < ·)) :
    ECalls Tryd.prog 32 [HL l, I .i64 x, .v (.c (.clo 33 []))] [] fun y H' => H' = [] ∧ y = .tup [.c (.fz (.lit (.int .i64 (posI (l.map (·.id)) x)))), .c (.fz (.lit (.bool (fndI (l.map (·.id)) x))))] := by
  obtain ⟨ids, hids⟩ : ∃ ids, l.map (·.id) = ids := ⟨_, rfl⟩
  rw [hids] at hs ⊢
  have idl : ids.length = l.length := by rw [← hids]; simp
  have hget : ∀ (k : Nat) (p : Hol), l[k]? = some p → ids[k]? = some p.id := fun k p h => by rw [← hids, List.getElem?_map, h]; rfl
  refine ecalls k_BinH ?_
  simp [c_BinH, I, HL]
  refine eloop (α := Nat × Nat) (fun a => a.1 ≤ a.2 ∧ a.2 ≤ l.length ∧ (∀ k y, k < a.1 → ids[k]? = some y → y < x) ∧ ∀ k y, a.2 ≤ k → ids[k]? = some y → x ≤ y) (fun a => a.2 - a.1)
    (fun a => [HL l, I .i64 x, .v (.c (.clo 33 [])), .any, .any, .any, .any, .any, I .i64 l.length, I .i64 a.1, I .i64 a.2, .any, .any, .any, .any, .any, .any, .any, .any, .any, .any, .any, .any, .any, .any, .any, .any, .any, .any, .any, .any, .any, .any, .any, .any, .any, .any, .any, .any, .any, .any, .any, .any, .any, .any, .any, .any, .any, .any]) (fun _ => []) (0, l.length) []
    ⟨by simp, Nat.le_refl _, by intro k y h; simp at h, by
      intro k y h hk
      have := lt_len hk
      simp at h; omega⟩ (by simp [I, HL]) (by simp) (by simp) (by simp) (by simp) ?_
  rintro ⟨i, j⟩ ⟨h1, h2, h3, h4⟩
  dsimp only at h1 h2 h3 h4
  simp [I, HL]
  refine alt (fun hlt => ?_) (fun hlt => ?_)
  · have hij : i < j := by omega
    obtain ⟨h, hh⟩ : ∃ h, (i + j) / 2 = h := ⟨_, rfl⟩
    have hl1 : i ≤ h := by omega
    have hl2 : h < j := by omega
    have hln : h < l.length := by omega
    obtain ⟨p, hc⟩ : ∃ p, l[h]? = some p := ⟨l[h], by simp [hln]⟩
    have hpo := hl p (List.mem_of_getElem? hc)
    have hcb := holv_get hc
    have hge : (holv l)[h]'(by simp [hln]) = holF p := by
      have e := hcb
      rw [List.getElem?_eq_getElem (by simp [hln])] at e
      exact Option.some.inj e
    have hpt := holC_take p
    have hpl : (holC p).length = 3 := rfl
    have hfl : (holF p).length = 3 := rfl
    have w0 : IntKind.i64.wrap ((i : Int) + (j : Int)) = ((i + j : Nat) : Int) := by rw [wrap_i64 (by omega) (by omega)]; omega
    have w1 : IntKind.u64.wrap ((i + j : Nat) : Int) = ((i + j : Nat) : Int) := wrap_u64 (by omega) (by omega)
    have w2 : ishr .u64 ((i + j : Nat) : Int) 1 = (h : Int) := by
      have e := ishr_nat .u64 (i + j) 1 (by decide)
      rw [show ((1 : Nat) : Int) = 1 from rfl] at e
      rw [e, ← hh]
    have w3 : IntKind.i64.wrap (h : Int) = (h : Int) := wrap_i64 (by omega) (by omega)
    have w4 : IntKind.i64.wrap ((h : Int) + 1) = ((h + 1 : Nat) : Int) := wrap_i64 (by omega) (by omega)
    simp [w0, w1, w2, w3, hln, hge, holF_fz, hpt, hpl, hfl, -Int.natCast_add]
    refine ⟨byHold_body, ?_⟩
    refine call0 (byHold_ok p x) (by simp [I]) ?_
    rintro y H' ⟨rfl, rfl⟩
    refine ⟨.inl (by simp [-List.flatMap_eq_nil_iff, I]), le_ok rfl, ?_⟩
    simp [I]
    have hcm : cmpI p.id x < 0 ↔ p.id < x := by unfold cmpI; split <;> (try split) <;> omega
    refine alt (fun hneg => ?_) (fun hneg => ?_)
    · have hpx := hcm.1 hneg
      simp [w4, -Int.natCast_add]
      refine round (h + 1, j) [] ⟨by dsimp only; omega, h2, ?_, h4⟩ (by dsimp only; omega) (by simp) (by simp) (by simp) (by simp) (by simp)
      intro k y hk hy
      dsimp only at hk
      rcases Nat.lt_or_ge k h with hkh | hkh
      · have := pw_get hs hkh hy (hget h p hc)
        omega
      · obtain rfl : k = h := by omega
        rw [hget k p hc] at hy
        obtain rfl := Option.some.inj hy
        exact hpx
    · have hpx : x ≤ p.id := by
        rcases Int.lt_or_le p.id x with q | q
        · exact absurd (hcm.2 q) hneg
        · exact q
      simp [-Int.natCast_add]
      refine round (i, h) [] ⟨hl1, by dsimp only; omega, h3, ?_⟩ (by dsimp only; omega) (by simp) (by simp) (by simp) (by simp) (by simp)
      intro k y hk hy
      dsimp only at hk
      rcases Nat.lt_or_ge h k with hkh | hkh
      · have := pw_get hs hkh (hget h p hc) hy
        omega
      · obtain rfl : k = h := by omega
        rw [hget k p hc] at hy
        obtain rfl := Option.some.inj hy
        exact hpx
  · obtain rfl : i = j := by omega
    have hpos : posI ids x = i := posI_eq (by omega) h3 fun y hy => h4 i y (Nat.le_refl _) hy
    rw [show fndI ids x = decide (ids[i]? = some x) by unfold fndI; rw [hpos], hpos]
    simp
    refine alt (fun hi => ?_) (fun hi => ?_)
    · have hln : i < l.length := by omega
      obtain ⟨p, hc⟩ : ∃ p, l[i]? = some p := ⟨l[i], by simp [hln]⟩
      have hpo := hl p (List.mem_of_getElem? hc)
      have hcb := holv_get hc
      have hge : (holv l)[i]'(by simp [hln]) = holF p := by
        have e := hcb
        rw [List.getElem?_eq_getElem (by simp [hln])] at e
        exact Option.some.inj e
      have hpt := holC_take p
      have hpl : (holC p).length = 3 := rfl
      have hfl : (holF p).length = 3 := rfl
      simp [hln, hge, holF_fz, hpt, hpl, hfl]
      refine ⟨byHold_body, ?_⟩
      refine call0 (byHold_ok p x) (by simp [I]) ?_
      rintro y H' ⟨rfl, rfl⟩
      refine ⟨.inl (by simp [-List.flatMap_eq_nil_iff, I]), le_ok rfl, ?_⟩
      simp [I]
      have hcm : cmpI p.id x = 0 ↔ ids[i]? = some x := by
        rw [hget i p hc]
        unfold cmpI
        simp only [Option.some.injEq]
        split <;> (try split) <;> omega
      rw [show decide (cmpI p.id x = 0) = decide (ids[i]? = some x) from decide_eq_decide.2 hcm]
      exact fin [] (by decide) rfl rfl rfl ⟨rfl, rfl⟩
    · have hnone : ids[i]? = none := List.getElem?_eq_none (by omega)
      simp [hi, hnone]
      exact fin [] (by decide) rfl rfl rfl ⟨rfl, rfl⟩

set_option maxHeartbeats 4000000 in
theorem SKeep_ok (s : Sta) (who : Int) (h : Hol) (hs : s.ok) (hw : i64 who) (hh : h.ok) : ECalls Tryd.prog 24 [SV s, I .i64 who, .v (.agg (holC h))] [] fun y H' => H' = [] ∧ y = SE (keeS s who h) := by
  obtain ⟨ok1, ok2, ok3, ok4, ok5, ok6, ok7⟩ := id hs
  obtain ⟨⟨p1, p1'⟩, ⟨p2, p2'⟩, p3, p4⟩ := id hh
  refine ecalls k_SKeep ?_
  simp [c_SKeep, SV, staC, hc0', I, -errV_0]
  by_cases h0 : mayS s = true ∧ s.num ≠ 1099511627776
  rotate_left
  · have hx : nxt s = (zSta, 1) := by simp only [nxt, if_neg h0]
    have ha : keeS s who h = (zSta, 1) := by simp [keeS, hx]
    rw [ha]
    refine call0 (next_ok s hs) (by simp [SV, staC]) ?_
    rintro y H' ⟨rfl, rfl⟩
    refine ⟨.inl (by simp), le_ok rfl, ?_⟩
    rw [hx]
    simp [SE, staC, zSta]
    refine finW _ (weak_nlB (o := 32) (k := 3) 36 rfl rfl) (finW _ (weak_nlB (o := 32) (k := 4) 3 rfl rfl) ?_)
    exact fin [] (by decide) rfl rfl rfl ⟨rfl, rfl⟩
  have hx : nxt s = (⟨s.num + 1, s.h0, s.h1, s.pays, s.holds⟩, 0) := by simp only [nxt, if_pos h0]
  obtain ⟨hr, hpl', hhl, htot⟩ := mayS_t h0.1
  have hpw := holL_pw hhl
  have tpv : List.take s.holds.length (holv s.holds) = holv s.holds := List.take_of_length_le (by simp)
  have hadd : keeS s who h = if ¬ (who = 0 ∨ who = 1) then (zSta, 33) else if h.am < 10 then (zSta, 27) else if mayH h = false then (zSta, 1)
      else if fndI (s.holds.map (·.id)) h.id = true then (zSta, 9) else if 8 ≤ s.pays.length + s.holds.length then (zSta, 30) else if sideS s who < h.am then (zSta, 20)
      else (⟨s.num + 1, if who = 0 then s.h0 - h.am else s.h0, if who = 0 then s.h1 else s.h1 - h.am, s.pays, insA Hol.id s.holds h⟩, 0) := by
    simp only [keeS, hx]
    rw [if_neg (by simp)]
  refine call0 (nextH_ok s hs h0) (by simp [SV, staC]) ?_
  rintro y H' ⟨rfl, rfl⟩
  refine ⟨.inl (by simp), le_ok rfl, ?_⟩
  simp [-errV_0]
  refine call0 (BinH_ok s.holds h.id ok5 ok7 hpw) (by simp [HL, I, tpv]) ?_
  rintro y H' ⟨rfl, rfl⟩
  refine ⟨.inr ⟨rfl, by simp⟩, le_ok rfl, ?_⟩
  obtain ⟨pos, hpos⟩ : ∃ pos, posI (s.holds.map (·.id)) h.id = pos := ⟨_, rfl⟩
  have hple : pos ≤ s.holds.length := by have := posI_le (s.holds.map (·.id)) h.id; rw [hpos] at this; simpa using this
  obtain ⟨fnd, hfnd⟩ : ∃ fnd, fndI (s.holds.map (·.id)) h.id = fnd := ⟨_, rfl⟩
  rw [hpos, hfnd]
  simp [-errV_0]
  refine call0 (side_ok who) (by simp [I]) ?_
  rintro y H' ⟨rfl, rfl⟩
  refine ⟨.inl (by simp), le_ok rfl, ?_⟩
  cases hb : decide (who = 0 ∨ who = 1)
  · have hb' := of_decide_eq_false hb
    rw [hadd, if_pos hb']
    simp [EV.lit, SE, staC, zSta]
    refine finW _ (weak_nlB (o := 32) (k := 3) 36 rfl rfl) (finW _ (weak_nlB (o := 32) (k := 4) 3 rfl rfl) ?_)
    exact fin [] (by decide) rfl rfl rfl ⟨rfl, rfl⟩
  have hb' := of_decide_eq_true hb
  rw [hadd, if_neg (by simp [hb']), hfnd]
  simp [EV.lit, -errV_0]
  refine alt (fun c1 => ?_) (fun c1 => ?_)
  · rw [if_pos c1]
    simp [EV.lit, SE, staC, zSta]
    refine finW _ (weak_nlB (o := 32) (k := 3) 36 rfl rfl) (finW _ (weak_nlB (o := 32) (k := 4) 3 rfl rfl) ?_)
    exact fin [] (by decide) rfl rfl rfl ⟨rfl, rfl⟩
  rw [if_neg c1]
  simp [-errV_0]
  refine call0 (Hmay_ok h p4) (by simp [hc0']) ?_
  rintro y H' ⟨rfl, rfl⟩
  refine ⟨.inl (by simp [-List.flatMap_eq_nil_iff]), le_ok rfl, ?_⟩
  cases hm : mayH h
  · rw [if_pos rfl]
    simp [EV.lit, SE, staC, zSta]
    refine finW _ (weak_nlB (o := 32) (k := 3) 36 rfl rfl) (finW _ (weak_nlB (o := 32) (k := 4) 3 rfl rfl) ?_)
    exact fin [] (by decide) rfl rfl rfl ⟨rfl, rfl⟩
  rw [if_neg (by simp)]
  cases fnd
  rotate_left
  · rw [if_pos rfl]
    simp [EV.lit, SE, staC, zSta]
    refine finW _ (weak_nlB (o := 32) (k := 3) 36 rfl rfl) (finW _ (weak_nlB (o := 32) (k := 4) 3 rfl rfl) ?_)
    exact fin [] (by decide) rfl rfl rfl ⟨rfl, rfl⟩
  rw [if_neg (by simp)]
  simp [EV.lit, -errV_0]
  refine call0 (Sslots_ok ⟨s.num + 1, s.h0, s.h1, s.pays, s.holds⟩ (nxt_ok hs h0.1)) (by simp [SV, staC, tpv]) ?_
  rintro y H' ⟨rfl, rfl⟩
  refine ⟨.inr ⟨rfl, by simp⟩, le_ok rfl, ?_⟩
  simp [I, -errV_0]
  refine alt (fun c2 => ?_) (fun c2 => ?_)
  · rw [if_pos (by omega)]
    simp [EV.lit, SE, staC, zSta]
    refine finW _ (weak_nlB (o := 32) (k := 3) 36 rfl rfl) (finW _ (weak_nlB (o := 32) (k := 4) 3 rfl rfl) ?_)
    exact fin [] (by decide) rfl rfl rfl ⟨rfl, rfl⟩
  rw [if_neg (by omega)]
  have hins := InsH.ins_ok (holv s.holds) (holF h) pos (by simpa using hple) (by simp; omega)
  simp [holF] at hins
  have hpv : holv (insA Hol.id s.holds h) = (holv s.holds).take pos ++ holF h :: (holv s.holds).drop pos := by rw [holv_ins, hpos]
  have hpl1 : (insA Hol.id s.holds h).length = s.holds.length + 1 := len_ins Hol.id s.holds h
  have hpt2 : List.take (s.holds.length + 1) (holv (insA Hol.id s.holds h)) = holv (insA Hol.id s.holds h) := List.take_of_length_le (by simp [hpl1])
  rcases hb' with rfl | rfl
  · simp [EV.lit, -errV_0]
    refine alt (fun c3 => ?_) (fun c3 => ?_)
    · rw [if_pos (by simpa [sideS] using c3)]
      simp [EV.lit, SE, staC, zSta]
      refine finW _ (weak_nlB (o := 32) (k := 3) 36 rfl rfl) (finW _ (weak_nlB (o := 32) (k := 4) 3 rfl rfl) ?_)
      exact fin [] (by decide) rfl rfl rfl ⟨rfl, rfl⟩
    rw [if_neg (by simpa [sideS] using c3)]
    have w1 : IntKind.i64.wrap (s.h0 - h.am) = s.h0 - h.am := wrap_i64 (by omega) (by omega)
    simp [EV.lit, w1, -errV_0]
    refine call0 (cloneI_fz h.keys p4) (by simp [IL]) ?_
    rintro y H' ⟨rfl, rfl⟩
    refine ⟨.inl (by simp), le_ok rfl, ?_⟩
    simp [IL, -errV_0]
    refine callH [80, 1104] hins (by simp) (by simp) (by simp) (by simp) (by simp) ?_
    rintro y H' ⟨rfl, rfl⟩
    refine ⟨.inl (by simp), by simp, ?_⟩
    simp [-errV_0]
    refine finW _ (weak_frz (o := 1120) (ty := 81) (es := 3) (xs := holv (insA Hol.id s.holds h)) (by rw [hpv]; rfl)) ?_
    exact fin [] (by decide) rfl rfl rfl ⟨rfl, by simp [SE, staC, hpl1, hpt2, errV, -errV_0]⟩
  · simp [EV.lit, -errV_0]
    refine alt (fun c3 => ?_) (fun c3 => ?_)
    · rw [if_pos (by simpa [sideS] using c3)]
      simp [EV.lit, SE, staC, zSta]
      refine finW _ (weak_nlB (o := 32) (k := 3) 36 rfl rfl) (finW _ (weak_nlB (o := 32) (k := 4) 3 rfl rfl) ?_)
      exact fin [] (by decide) rfl rfl rfl ⟨rfl, rfl⟩
    rw [if_neg (by simpa [sideS] using c3)]
    have w1 : IntKind.i64.wrap (s.h1 - h.am) = s.h1 - h.am := wrap_i64 (by omega) (by omega)
    simp [EV.lit, w1, -errV_0]
    refine call0 (cloneI_fz h.keys p4) (by simp [IL]) ?_
    rintro y H' ⟨rfl, rfl⟩
    refine ⟨.inl (by simp), le_ok rfl, ?_⟩
    simp [IL, -errV_0]
    refine callH [80, 1104] hins (by simp) (by simp) (by simp) (by simp) (by simp) ?_
    rintro y H' ⟨rfl, rfl⟩
    refine ⟨.inl (by simp), by simp, ?_⟩
    simp [-errV_0]
    refine finW _ (weak_frz (o := 1120) (ty := 81) (es := 3) (xs := holv (insA Hol.id s.holds h)) (by rw [hpv]; rfl)) ?_
    exact fin [] (by decide) rfl rfl rfl ⟨rfl, by simp [SE, staC, hpl1, hpt2, errV, -errV_0]⟩

set_option maxHeartbeats 4000000 in
theorem SFree_ok (s : Sta) (x a : Int) (hs : s.ok) (hx64 : i64 x) (ha64 : i64 a) : ECalls Tryd.prog 43 [SV s, I .i64 x, I .i64 a] [] fun y H' => H' = [] ∧ y = SE (freS s x a) := by
  obtain ⟨ok1, ok2, ok3, ok4, ok5, ok6, ok7⟩ := id hs
  refine ecalls k_SFree ?_
  simp [c_SFree, SV, staC, I, -errV_0]
  by_cases h0 : mayS s = true ∧ s.num ≠ 1099511627776
  rotate_left
  · have hx : nxt s = (zSta, 1) := by simp only [nxt, if_neg h0]
    have ha : freS s x a = (zSta, 1) := by simp [freS, hx]
    rw [ha]
    refine call0 (next_ok s hs) (by simp [SV, staC]) ?_
    rintro y H' ⟨rfl, rfl⟩
    refine ⟨.inl (by simp), le_ok rfl, ?_⟩
    rw [hx]
    simp [SE, staC, zSta]
    refine finW _ (weak_nlB (o := 16) (k := 3) 36 rfl rfl) (finW _ (weak_nlB (o := 16) (k := 4) 3 rfl rfl) ?_)
    exact fin [] (by decide) rfl rfl rfl ⟨rfl, rfl⟩
  have hx : nxt s = (⟨s.num + 1, s.h0, s.h1, s.pays, s.holds⟩, 0) := by simp only [nxt, if_pos h0]
  obtain ⟨hr, hpl', hhl, htot⟩ := mayS_t h0.1
  have hpw := holL_pw hhl
  have tpv : List.take s.holds.length (holv s.holds) = holv s.holds := List.take_of_length_le (by simp)
  refine call0 (nextH_ok s hs h0) (by simp [SV, staC]) ?_
  rintro y H' ⟨rfl, rfl⟩
  refine ⟨.inl (by simp), le_ok rfl, ?_⟩
  simp [-errV_0]
  refine call0 (BinH_ok s.holds x ok5 ok7 hpw) (by simp [HL, I, tpv]) ?_
  rintro y H' ⟨rfl, rfl⟩
  refine ⟨.inr ⟨rfl, by simp⟩, le_ok rfl, ?_⟩
  simp [-errV_0]
  cases hf : fndI (s.holds.map (·.id)) x
  · have hne : (s.holds.map (·.id))[posI (s.holds.map (·.id)) x]? ≠ some x := of_decide_eq_false hf
    have ha : freS s x a = (zSta, 8) := by
      simp only [freS, hx]
      rw [if_neg (by simp)]
      split
      · rfl
      · rename_i h hc
        rw [List.getElem?_map, hc] at hne
        rw [if_pos (by simpa using hne)]
    rw [ha]
    simp [SE, staC, zSta]
    refine finW _ (weak_nlB (o := 16) (k := 3) 36 rfl rfl) (finW _ (weak_nlB (o := 16) (k := 4) 3 rfl rfl) ?_)
    exact fin [] (by decide) rfl rfl rfl ⟨rfl, rfl⟩
  obtain ⟨h, hc, hid⟩ := fnd_get (f := Hol.id) hf
  have hfr : freS s x a = if a < 0 ∨ h.am < a then (zSta, 20) else (⟨s.num + 1, s.h0 + a, s.h1 + (h.am - a), s.pays, delA Hol.id s.holds x⟩, 0) := by
    simp only [freS, hx, hc]
    rw [if_neg (by simp), if_neg (by simp [hid])]
  have hpv0 := holv_del s.holds x
  have hpl1 : (delA Hol.id s.holds x).length = s.holds.length - 1 := len_del hc
  obtain ⟨pos, hpos⟩ : ∃ pos, posI (s.holds.map (·.id)) x = pos := ⟨_, rfl⟩
  rw [hpos] at hc hpv0 ⊢
  have hlt : pos < s.holds.length := lt_len hc
  have hge : (holv s.holds)[pos]'(by simp [hlt]) = holF h := by
    have e := holv_get hc
    rw [List.getElem?_eq_getElem (by simp [hlt])] at e
    exact Option.some.inj e
  have hpt2 : List.take (s.holds.length - 1) (holv (delA Hol.id s.holds x)) = holv (delA Hol.id s.holds x) := List.take_of_length_le (by simp [hpl1])
  have hdel := InsH.del_ok (holv s.holds) pos (by simpa using hlt)
  simp at hdel
  have w1 : IntKind.i64.wrap ((pos : Int) + 1) = (pos : Int) + 1 := wrap_i64 (by omega) (by omega)
  have hle := holL_sum hhl h (List.mem_of_getElem? hc)
  have hma := mayH_am (holL_mem hhl h (List.mem_of_getElem? hc))
  have hnn := sumP_nn hpl'
  have hto : total s = s.h0 + s.h1 + sumP s.pays + sumH s.holds := rfl
  rw [hfr]
  by_cases c1 : a < 0
  · rw [if_pos (.inl c1)]
    simp [c1, show ¬ 0 ≤ a by omega, -errV_0]
    refine finW _ (weak_nlB (o := 16) (k := 3) 36 rfl rfl) (finW _ (weak_nlB (o := 16) (k := 4) 3 rfl rfl) ?_)
    exact fin [] (by decide) rfl rfl rfl ⟨rfl, rfl⟩
  by_cases c2 : h.am < a
  · rw [if_pos (.inr c2)]
    simp [c1, show 0 ≤ a by omega, c2, hlt, hge, holF, -errV_0]
    refine finW _ (weak_nlB (o := 16) (k := 3) 36 rfl rfl) (finW _ (weak_nlB (o := 16) (k := 4) 3 rfl rfl) ?_)
    exact fin [] (by decide) rfl rfl rfl ⟨rfl, rfl⟩
  rw [if_neg (by omega)]
  have w2 : IntKind.i64.wrap (s.h0 + a) = s.h0 + a := wrap_i64 (by omega) (by omega)
  have w3 : IntKind.i64.wrap (h.am - a) = h.am - a := wrap_i64 (by omega) (by omega)
  have w4 : IntKind.i64.wrap (s.h1 + (h.am - a)) = s.h1 + (h.am - a) := wrap_i64 (by omega) (by omega)
  simp [c1, c2, show 0 ≤ a by omega, hlt, hge, holF, w1, w2, w3, w4, -errV_0]
  refine callH [64] hdel (by simp) (by simp) (by simp) (by simp) (by simp) ?_
  rintro y H' ⟨rfl, rfl⟩
  refine ⟨.inl (by simp), by simp, ?_⟩
  simp [-errV_0]
  refine finW _ (weak_frz (o := 1056) (ty := 81) (es := 3) (xs := holv (delA Hol.id s.holds x)) (by rw [hpv0]; rfl)) ?_
  exact fin [] (by decide) rfl rfl rfl ⟨rfl, by simp [SE, staC, hpl1, hpt2, errV, -errV_0]⟩

end Go.Proofs.YtejjhgdnmknejaaDoor

namespace Go.Proofs.YtejjhgdnmknejaaDoor
open Go Go.EW
set_option linter.unusedSimpArgs false
set_option linter.unusedVariables false

@[simp] def l_VOpen_1 (_ : Unit) : List EOp := [⟨0, (some 4), none, (.q (.box 45 (.t 0))), []⟩, ⟨1, (some 6), none, (.q (.box 61 (.t 2))), []⟩, ⟨2, (some 7), none, (.q (.box 61 (.t 3))), []⟩, ⟨3, (some 8), none, (.q (.alloc 61 [(.int .i64 0), (.int .i64 0), (.int .i64 0), (.slice none 0 0), (.slice none 0 0)])), []⟩, ⟨4, (some 9), none, (.q (.alloc 61 [(.int .i64 0), (.int .i64 0), (.int .i64 0), (.slice none 0 0), (.slice none 0 0)])), []⟩, ⟨5, (some 10), none, (.q (.mov (.k .nilIface))), []⟩]
@[simp] def b_VOpen_2 (_ : Unit) : EB := reg0 (hid l_VOpen_1) 6
@[simp] def l_VOpen_3 (_ : Unit) : List EOp := [⟨0, (some 17), none, (.q (.lda 81 (.t 4))), []⟩, ⟨1, (some 18), none, (.call 8 [(.t 17)]), []⟩, ⟨2, (some 11), none, (.q (.mov (.t 18))), []⟩]
@[simp] def b_VOpen_4 (_ : Unit) : EB := reg0 (hid l_VOpen_3) 3
@[simp] def l_VOpen_5 (_ : Unit) : List EOp := [⟨0, (some 19), none, (.q (.mov (.t 11))), []⟩, ⟨1, (some 20), none, (.q (.eqi true (.t 19))), []⟩]
@[simp] def b_VOpen_6 (_ : Unit) : EB := reg0 (hid l_VOpen_5) 2
@[simp] def l_VOpen_7 (_ : Unit) : List EOp := [⟨0, (some 21), none, (.q (.build [(.int .i64 0), (.int .i64 0), (.int .i64 0), (.slice none 0 0), (.slice none 0 0)] [])), []⟩, ⟨1, (some 22), none, (.q (.build [(.int .i64 0), (.int .i64 0), (.int .i64 0), (.slice none 0 0), (.slice none 0 0)] [])), []⟩, ⟨2, (some 23), none, (.q (.mov (.t 11))), []⟩, ⟨3, none, none, (.fz (.sto 5 (.t 8) (.t 21))), []⟩, ⟨4, none, none, (.fz (.sto 5 (.t 9) (.t 22))), []⟩, ⟨5, (some 10), none, (.q (.mov (.t 23))), []⟩]
@[simp] def b_VOpen_8 (_ : Unit) : EB := reg0 (hid l_VOpen_7) 6
@[simp] def b_VOpen_9 (_ : Unit) : EB := .seq (hid b_VOpen_8) .ret
@[simp] def b_VOpen_10 (_ : Unit) : EB := .cond (.t 20) (hid b_VOpen_9) .skip
@[simp] def b_VOpen_11 (_ : Unit) : EB := .seq (hid b_VOpen_6) (hid b_VOpen_10)
@[simp] def b_VOpen_12 (_ : Unit) : EB := .seq (hid b_VOpen_4) (hid b_VOpen_11)
@[simp] def l_VOpen_14 (_ : Unit) : List EOp := [⟨6, (some 13), none, (.q (.mov (.t 28))), []⟩]
@[simp] def l_VOpen_13 (_ : Unit) : List EOp := ⟨0, (some 25), none, (.q (.lda 81 (.t 4))), []⟩ :: ⟨1, (some 26), none, (.call 23 [(.t 25)]), []⟩ :: ⟨2, (some 24), none, (.q (.mov (.t 26))), []⟩ :: ⟨3, (some 27), none, (.q (.ext 0 (.t 24))), []⟩ :: ⟨4, (some 28), none, (.q (.ext 1 (.t 24))), []⟩ :: ⟨5, (some 12), none, (.q (.mov (.t 27))), []⟩ :: hid l_VOpen_14
@[simp] def b_VOpen_15 (_ : Unit) : EB := reg0 (hid l_VOpen_13) 7
@[simp] def l_VOpen_17 (_ : Unit) : List EOp := [⟨5, (some 35), none, (.call 24 [(.t 30), (.t 31), (.t 34)]), [9]⟩, ⟨6, (some 29), none, (.q (.mov (.t 35))), []⟩, ⟨7, (some 36), none, (.q (.ext 0 (.t 29))), []⟩, ⟨8, (some 37), none, (.q (.ext 1 (.t 29))), []⟩, ⟨10, none, none, (.fz (.sto 5 (.t 14) (.t 36))), [8]⟩, ⟨11, (some 15), none, (.q (.mov (.t 37))), []⟩]
@[simp] def l_VOpen_16 (_ : Unit) : List EOp := ⟨0, (some 30), none, (.q (.lda 5 (.t 6))), []⟩ :: ⟨1, (some 31), none, (.q (.mov (.t 12))), []⟩ :: ⟨2, (some 32), none, (.q (.lda 81 (.t 4))), []⟩ :: ⟨3, (some 33), none, (.q (.mov (.t 1))), []⟩ :: ⟨9, (some 14), none, (.q (.alloc 61 [(.int .i64 0), (.int .i64 0), (.int .i64 0), (.slice none 0 0), (.slice none 0 0)])), []⟩ :: ⟨4, (some 34), none, (.call 25 [(.t 32), (.t 33)]), [0, 1, 9]⟩ :: hid l_VOpen_17
@[simp] def b_VOpen_18 (_ : Unit) : EB := reg1 (hid l_VOpen_16) 12
@[simp] def l_VOpen_19 (_ : Unit) : List EOp := [⟨0, (some 38), none, (.q (.mov (.t 15))), []⟩, ⟨1, (some 39), none, (.q (.eqi true (.t 38))), []⟩]
@[simp] def b_VOpen_20 (_ : Unit) : EB := reg0 (hid l_VOpen_19) 2
@[simp] def l_VOpen_21 (_ : Unit) : List EOp := [⟨0, (some 40), none, (.q (.build [(.int .i64 0), (.int .i64 0), (.int .i64 0), (.slice none 0 0), (.slice none 0 0)] [])), []⟩, ⟨1, (some 41), none, (.q (.build [(.int .i64 0), (.int .i64 0), (.int .i64 0), (.slice none 0 0), (.slice none 0 0)] [])), []⟩, ⟨2, (some 42), none, (.q (.mov (.t 15))), []⟩, ⟨3, none, none, (.fz (.sto 5 (.t 8) (.t 40))), []⟩, ⟨4, none, none, (.fz (.sto 5 (.t 9) (.t 41))), []⟩, ⟨5, (some 10), none, (.q (.mov (.t 42))), []⟩]
@[simp] def b_VOpen_22 (_ : Unit) : EB := reg0 (hid l_VOpen_21) 6
@[simp] def b_VOpen_23 (_ : Unit) : EB := .seq (hid b_VOpen_22) .ret
@[simp] def b_VOpen_24 (_ : Unit) : EB := .cond (.t 39) (hid b_VOpen_23) .skip
@[simp] def b_VOpen_25 (_ : Unit) : EB := .seq (hid b_VOpen_20) (hid b_VOpen_24)
@[simp] def l_VOpen_27 (_ : Unit) : List EOp := [⟨5, (some 49), none, (.call 24 [(.t 44), (.t 45), (.t 48)]), [9]⟩, ⟨6, (some 43), none, (.q (.mov (.t 49))), []⟩, ⟨7, (some 50), none, (.q (.ext 0 (.t 43))), []⟩, ⟨8, (some 51), none, (.q (.ext 1 (.t 43))), []⟩, ⟨10, none, none, (.fz (.sto 5 (.t 16) (.t 50))), [8]⟩, ⟨11, (some 15), none, (.q (.mov (.t 51))), []⟩]
@[simp] def l_VOpen_26 (_ : Unit) : List EOp := ⟨0, (some 44), none, (.q (.lda 5 (.t 7))), []⟩ :: ⟨1, (some 45), none, (.q (.mov (.t 13))), []⟩ :: ⟨2, (some 46), none, (.q (.lda 81 (.t 4))), []⟩ :: ⟨3, (some 47), none, (.q (.mov (.t 1))), []⟩ :: ⟨9, (some 16), none, (.q (.alloc 61 [(.int .i64 0), (.int .i64 0), (.int .i64 0), (.slice none 0 0), (.slice none 0 0)])), []⟩ :: ⟨4, (some 48), none, (.call 25 [(.t 46), (.t 47)]), [0, 1, 9]⟩ :: hid l_VOpen_27
@[simp] def b_VOpen_28 (_ : Unit) : EB := reg1 (hid l_VOpen_26) 12
@[simp] def l_VOpen_29 (_ : Unit) : List EOp := [⟨0, (some 52), none, (.q (.mov (.t 15))), []⟩, ⟨1, (some 53), none, (.q (.eqi true (.t 52))), []⟩]
@[simp] def b_VOpen_30 (_ : Unit) : EB := reg0 (hid l_VOpen_29) 2
@[simp] def l_VOpen_31 (_ : Unit) : List EOp := [⟨0, (some 54), none, (.q (.build [(.int .i64 0), (.int .i64 0), (.int .i64 0), (.slice none 0 0), (.slice none 0 0)] [])), []⟩, ⟨1, (some 55), none, (.q (.build [(.int .i64 0), (.int .i64 0), (.int .i64 0), (.slice none 0 0), (.slice none 0 0)] [])), []⟩, ⟨2, (some 56), none, (.q (.mov (.t 15))), []⟩, ⟨3, none, none, (.fz (.sto 5 (.t 8) (.t 54))), []⟩, ⟨4, none, none, (.fz (.sto 5 (.t 9) (.t 55))), []⟩, ⟨5, (some 10), none, (.q (.mov (.t 56))), []⟩]
@[simp] def b_VOpen_32 (_ : Unit) : EB := reg0 (hid l_VOpen_31) 6
@[simp] def b_VOpen_33 (_ : Unit) : EB := .seq (hid b_VOpen_32) .ret
@[simp] def b_VOpen_34 (_ : Unit) : EB := .cond (.t 53) (hid b_VOpen_33) .skip
@[simp] def b_VOpen_35 (_ : Unit) : EB := .seq (hid b_VOpen_30) (hid b_VOpen_34)
@[simp] def l_VOpen_36 (_ : Unit) : List EOp := [⟨0, (some 57), none, (.q (.lda 5 (.t 14))), []⟩, ⟨1, (some 58), none, (.q (.lda 5 (.t 16))), []⟩, ⟨2, none, none, (.fz (.sto 5 (.t 8) (.t 57))), [1]⟩, ⟨3, none, none, (.fz (.sto 5 (.t 9) (.t 58))), []⟩, ⟨4, (some 10), none, (.q (.mov (.k .nilIface))), []⟩]
@[simp] def b_VOpen_37 (_ : Unit) : EB := reg1 (hid l_VOpen_36) 5
@[simp] def b_VOpen_38 (_ : Unit) : EB := .seq (hid b_VOpen_37) .ret
@[simp] def b_VOpen_39 (_ : Unit) : EB := .seq (hid b_VOpen_35) (hid b_VOpen_38)
@[simp] def b_VOpen_40 (_ : Unit) : EB := .seq (hid b_VOpen_28) (hid b_VOpen_39)
@[simp] def b_VOpen_41 (_ : Unit) : EB := .seq (hid b_VOpen_25) (hid b_VOpen_40)
@[simp] def b_VOpen_42 (_ : Unit) : EB := .seq (hid b_VOpen_18) (hid b_VOpen_41)
@[simp] def b_VOpen_43 (_ : Unit) : EB := .seq (hid b_VOpen_15) (hid b_VOpen_42)
@[simp] def b_VOpen_44 (_ : Unit) : EB := .seq (hid b_VOpen_12) (hid b_VOpen_43)
@[simp] def b_VOpen_45 (_ : Unit) : EB := .seq (hid b_VOpen_2) (hid b_VOpen_44)
def c_VOpen : EB × List QOp × Nat := ((hid b_VOpen_45), [(.lda 5 (.t 8)), (.lda 5 (.t 9)), (.mov (.t 10))], 59)
theorem k_VOpen : cfun Tryd.prog 17 = some c_VOpen := by kernel_rfl


theorem swS_i64 {l : List Int} {j : Nat} (h : ∀ x ∈ l, i64 x) : ∀ x ∈ swS l j, i64 x := by
  have hz : i64 0 := by simp [i64]
  have hd : ∀ k : Nat, i64 ((l[k]?).getD 0) := by
    intro k
    cases hk : l[k]? with
    | none => exact hz
    | some y => exact h y (List.mem_of_getElem? hk)
  intro x hx
  unfold swS at hx
  rcases List.mem_or_eq_of_mem_set hx with hx | rfl
  · rcases List.mem_or_eq_of_mem_set hx with hx | rfl
    · exact h x hx
    · exact hd _
  · exact hd _
theorem sinkS_i64 : ∀ (j : Nat) {l : List Int}, (∀ x ∈ l, i64 x) → ∀ x ∈ sinkS j l, i64 x
  | 0, l, h => h
  | j + 1, l, h => by
    unfold sinkS
    split
    · exact sinkS_i64 j (swS_i64 h)
    · exact h
theorem srt_i64 {l : List Int} (h : ∀ x ∈ l, i64 x) : ∀ x ∈ srt l, i64 x := sinkS_i64 2 (sinkS_i64 1 h)
theorem holV_ok {r : Rte} {id' : Int} (hr : r.ok) (hi : i64 id') : (holV r id').ok := by
  obtain ⟨_, _, ha, hb, hc, hm, _⟩ := hr
  refine ⟨hi, hm, ?_, ?_⟩
  · refine srt_i64 (l := [r.a, r.b, r.c]) ?_
    intro x hx
    simp only [List.mem_cons, List.mem_nil_iff, or_false] at hx
    rcases hx with rfl | rfl | rfl
    · exact ha
    · exact hb
    · exact hc
  · show (srt [r.a, r.b, r.c]).length ≤ _
    rw [srt_len]
    simp
theorem sid_i64 (a b x : Int) : i64 (sid a b x) := by
  unfold sid
  split
  · simp [i64]
  · split <;> simp [i64]
/-- Both channels' states behind a route is opened; the error. -/
def opnS (r : Rte) (id' : Int) (s t : Sta) : Sta × Sta × Nat :=
  if chkV r ≠ 0 then (zSta, zSta, chkV r)
  else if (keeS s (sid r.f.k0 r.f.k1 r.a) (holV r id')).2 ≠ 0 then (zSta, zSta, (keeS s (sid r.f.k0 r.f.k1 r.a) (holV r id')).2)
  else if (keeS t (sid r.s.k0 r.s.k1 r.b) (holV r id')).2 ≠ 0 then (zSta, zSta, (keeS t (sid r.s.k0 r.s.k1 r.b) (holV r id')).2)
  else ((keeS s (sid r.f.k0 r.f.k1 r.a) (holV r id')).1, (keeS t (sid r.s.k0 r.s.k1 r.b) (holV r id')).1, 0)
def SSE (q : Sta × Sta × Nat) : EV := .tup [.agg (staC q.1), .agg (staC q.2.1), .c (.fz (.lit (errV q.2.2)))]
theorem hke (s : Sta) (k : Int) (r : Rte) (id' : Int) (hs : s.ok) (hk : i64 k) (hr : r.ok) (hi : i64 id') : ECalls Tryd.prog 24 [SV s, I .i64 k, .v (.agg [iC id', iC r.am, .row 0 3])] [.row 3 1 (intv (srt [r.a, r.b, r.c]))] fun y H' => H' = [none] ∧ y = SE (keeS s k (holV r id')) := by
  have hl : List.take 3 (intv (srt [r.a, r.b, r.c])) = intv (srt [r.a, r.b, r.c]) := List.take_of_length_le (by simp [srt_len])
  exact ecalls_thaw (SKeep_ok s k (holV r id') hs hk (holV_ok hr hi)) (by simp [SV, staC, I, hc0', holV, iC, hl])

set_option maxHeartbeats 8000000 in
theorem VOpen_ok (r : Rte) (id' : Int) (s t : Sta) (hr : r.ok) (hi : i64 id') (hs : s.ok) (ht : t.ok) : ECalls Tryd.prog 17 [RVv r, I .i64 id', SV s, SV t] [] fun y H' => H' = [] ∧ y = SSE (opnS r id' s t) := by
  obtain ⟨⟨h1, _⟩, ⟨h2, _⟩, _⟩ := id hr
  have l0 := rteC_len h1 h2
  have t0 := rt_take h1 h2
  refine ecalls k_VOpen ?_
  simp [c_VOpen, RVv, I, SV, staC, l0, t0, -errV_0]
  refine call0 (VCheck_ok r hr) (by simp [RVv]) ?_
  rintro y H' ⟨rfl, rfl⟩
  refine ⟨.inl (by simp), le_ok rfl, ?_⟩
  by_cases c0 : chkV r = 0
  rotate_left
  · have hv : opnS r id' s t = (zSta, zSta, chkV r) := by unfold opnS; rw [if_pos c0]
    rw [hv]
    simp [SSE, staC, zSta, c0, -errV_0]
    refine finW _ (weak_nlB (o := 48) (k := 3) 36 rfl rfl) (finW _ (weak_nlB (o := 48) (k := 4) 3 rfl rfl) (finW _ (weak_nlB (o := 64) (k := 3) 36 rfl rfl) (finW _ (weak_nlB (o := 64) (k := 4) 3 rfl rfl) ?_)))
    exact fin [] (by decide) rfl rfl rfl ⟨rfl, rfl⟩
  simp [c0, l0, t0, -errV_0]
  refine call0 (Vsides_ok r hr) (by simp [RVv]) ?_
  rintro y H' ⟨rfl, rfl⟩
  refine ⟨.inl (by simp [iC]), le_ok rfl, ?_⟩
  simp [iC, l0, t0, -errV_0]
  refine call0 (Vhold_ok r id' hr) (by simp [RVv, I]) ?_
  rintro y H' ⟨rfl, rfl⟩
  refine ⟨.inl (by simp), by simp, ?_⟩
  simp [iC, -errV_0]
  have hk1 := hke s (sid r.f.k0 r.f.k1 r.a) r id' hs (sid_i64 _ _ _) hr hi
  have hk2 := hke t (sid r.s.k0 r.s.k1 r.b) r id' ht (sid_i64 _ _ _) hr hi
  obtain ⟨A, hA⟩ : ∃ A, keeS s (sid r.f.k0 r.f.k1 r.a) (holV r id') = A := ⟨_, rfl⟩
  obtain ⟨B, hB⟩ : ∃ B, keeS t (sid r.s.k0 r.s.k1 r.b) (holV r id') = B := ⟨_, rfl⟩
  rw [hA] at hk1
  rw [hB] at hk2
  have ho : opnS r id' s t = if A.2 ≠ 0 then (zSta, zSta, A.2) else if B.2 ≠ 0 then (zSta, zSta, B.2) else (A.1, B.1, 0) := by unfold opnS; rw [if_neg (by simpa using c0), hA, hB]
  rw [ho]
  refine callH [352] hk1 (by simp [SV, staC, I, iC]) (by simp) (by simp) (by simp) (by simp) ?_
  rintro y H' ⟨rfl, rfl⟩
  refine ⟨.inl (by simp), by simp, ?_⟩
  by_cases c1 : A.2 = 0
  rotate_left
  · rw [if_pos c1]
    simp [SE, SSE, staC, zSta, c1, -errV_0]
    refine finW _ (weak_nlB (o := 48) (k := 3) 36 rfl rfl) (finW _ (weak_nlB (o := 48) (k := 4) 3 rfl rfl) (finW _ (weak_nlB (o := 64) (k := 3) 36 rfl rfl) (finW _ (weak_nlB (o := 64) (k := 4) 3 rfl rfl) ?_)))
    exact fin [] (by decide) rfl rfl rfl ⟨rfl, rfl⟩
  rw [if_neg (by simpa using c1)]
  obtain ⟨Q, hQ⟩ : ∃ Q, (if B.2 ≠ 0 then (zSta, zSta, B.2) else (A.1, B.1, 0)) = Q := ⟨_, rfl⟩
  rw [hQ]
  simp [SE, staC, c1, l0, t0, -errV_0]
  refine call0 (Vhold_ok r id' hr) (by simp [RVv, I]) ?_
  rintro y H' ⟨rfl, rfl⟩
  refine ⟨.inl (by simp), by simp, ?_⟩
  simp [iC, -errV_0]
  refine callH [576] hk2 (by simp [SV, staC, I, iC]) (by simp) (by simp) (by simp) (by simp) ?_
  rintro y H' ⟨rfl, rfl⟩
  refine ⟨.inl (by simp), by simp, ?_⟩
  by_cases c2 : B.2 = 0
  rotate_left
  · rw [if_pos c2] at hQ
    rw [← hQ]
    simp [SE, SSE, staC, zSta, c2, -errV_0]
    refine finW _ (weak_nlB (o := 48) (k := 3) 36 rfl rfl) (finW _ (weak_nlB (o := 48) (k := 4) 3 rfl rfl) (finW _ (weak_nlB (o := 64) (k := 3) 36 rfl rfl) (finW _ (weak_nlB (o := 64) (k := 4) 3 rfl rfl) ?_)))
    exact fin [] (by decide) rfl rfl rfl ⟨rfl, rfl⟩
  rw [if_neg (by simpa using c2)] at hQ
  rw [← hQ]
  simp [SE, SSE, staC, c2, -errV_0]
  exact fin [] (by decide) rfl rfl rfl ⟨rfl, rfl⟩

end Go.Proofs.YtejjhgdnmknejaaDoor

namespace Go.Proofs.YtejjhgdnmknejaaDoor
open Go Go.EW
set_option linter.unusedSimpArgs false
set_option linter.unusedVariables false

@[simp] def l_EqI_1 (_ : Unit) : List EOp := [⟨0, (some 4), none, (.q (.mov (.k (.bool false)))), []⟩]
@[simp] def b_EqI_2 (_ : Unit) : EB := reg0 (hid l_EqI_1) 1
@[simp] def l_EqI_3 (_ : Unit) : List EOp := [⟨0, (some 6), none, (.q (.mov (.t 0))), []⟩, ⟨1, (some 7), none, (.q (.len (.t 6))), []⟩, ⟨2, (some 8), none, (.q (.mov (.t 1))), []⟩, ⟨3, (some 9), none, (.q (.len (.t 8))), []⟩, ⟨4, (some 10), none, (.q (.bin .neq (.t 7) (.t 9))), []⟩]
@[simp] def b_EqI_4 (_ : Unit) : EB := reg0 (hid l_EqI_3) 5
@[simp] def l_EqI_5 (_ : Unit) : List EOp := [⟨0, (some 4), none, (.q (.mov (.k (.bool false)))), []⟩]
@[simp] def b_EqI_6 (_ : Unit) : EB := reg0 (hid l_EqI_5) 1
@[simp] def b_EqI_7 (_ : Unit) : EB := .seq (hid b_EqI_6) .ret
@[simp] def b_EqI_8 (_ : Unit) : EB := .cond (.t 10) (hid b_EqI_7) .skip
@[simp] def b_EqI_9 (_ : Unit) : EB := .seq (hid b_EqI_4) (hid b_EqI_8)
@[simp] def l_EqI_10 (_ : Unit) : List EOp := [⟨0, (some 11), none, (.q (.mov (.t 0))), []⟩, ⟨1, (some 12), none, (.q (.len (.t 11))), []⟩, ⟨2, (some 13), none, (.q (.mov (.k (.int .i64 0)))), []⟩]
@[simp] def b_EqI_11 (_ : Unit) : EB := reg0 (hid l_EqI_10) 3
@[simp] def l_EqI_12 (_ : Unit) : List EOp := [⟨0, (some 14), none, (.q (.bin .lss (.t 13) (.t 12))), []⟩]
@[simp] def b_EqI_13 (_ : Unit) : EB := reg0 (hid l_EqI_12) 1
@[simp] def b_EqI_14 (_ : Unit) : EB := .cond (.t 14) .skip (.exit 0)
@[simp] def l_EqI_15 (_ : Unit) : List EOp := [⟨0, (some 15), none, (.q (.mov (.t 13))), []⟩, ⟨1, (some 5), none, (.q (.mov (.t 15))), []⟩]
@[simp] def b_EqI_16 (_ : Unit) : EB := reg0 (hid l_EqI_15) 2
@[simp] def l_EqI_18 (_ : Unit) : List EOp := [⟨6, (some 22), none, (.q (.isl 1 (.t 20) (.t 21))), []⟩, ⟨7, (some 23), none, (.q (.ldc (.t 22))), []⟩, ⟨8, (some 24), none, (.q (.bin .neq (.t 19) (.t 23))), []⟩]
@[simp] def l_EqI_17 (_ : Unit) : List EOp := ⟨0, (some 16), none, (.q (.mov (.t 0))), []⟩ :: ⟨1, (some 17), none, (.q (.mov (.t 5))), []⟩ :: ⟨2, (some 18), none, (.q (.isl 1 (.t 16) (.t 17))), []⟩ :: ⟨3, (some 19), none, (.q (.ldc (.t 18))), []⟩ :: ⟨4, (some 20), none, (.q (.mov (.t 1))), []⟩ :: ⟨5, (some 21), none, (.q (.mov (.t 5))), []⟩ :: hid l_EqI_18
@[simp] def b_EqI_19 (_ : Unit) : EB := reg0 (hid l_EqI_17) 9
@[simp] def l_EqI_20 (_ : Unit) : List EOp := [⟨0, (some 4), none, (.q (.mov (.k (.bool false)))), []⟩]
@[simp] def b_EqI_21 (_ : Unit) : EB := reg0 (hid l_EqI_20) 1
@[simp] def b_EqI_22 (_ : Unit) : EB := .seq (hid b_EqI_21) .ret
@[simp] def b_EqI_23 (_ : Unit) : EB := .cond (.t 24) (hid b_EqI_22) .skip
@[simp] def b_EqI_24 (_ : Unit) : EB := .seq (hid b_EqI_19) (hid b_EqI_23)
@[simp] def b_EqI_25 (_ : Unit) : EB := .seq (hid b_EqI_16) (hid b_EqI_24)
@[simp] def b_EqI_26 (_ : Unit) : EB := .block 1 (hid b_EqI_25)
@[simp] def l_EqI_27 (_ : Unit) : List EOp := [⟨0, (some 25), none, (.q (.bin .add (.t 13) (.k (.int .i64 1)))), []⟩, ⟨1, (some 13), none, (.q (.mov (.t 25))), []⟩]
@[simp] def b_EqI_28 (_ : Unit) : EB := reg0 (hid l_EqI_27) 2
@[simp] def b_EqI_29 (_ : Unit) : EB := .seq (hid b_EqI_26) (hid b_EqI_28)
@[simp] def b_EqI_30 (_ : Unit) : EB := .seq (hid b_EqI_14) (hid b_EqI_29)
@[simp] def b_EqI_31 (_ : Unit) : EB := .seq (hid b_EqI_13) (hid b_EqI_30)
@[simp] def b_EqI_32 (_ : Unit) : EB := .loop (hid b_EqI_31)
@[simp] def b_EqI_33 (_ : Unit) : EB := .block 0 (hid b_EqI_32)
@[simp] def b_EqI_34 (_ : Unit) : EB := .seq (hid b_EqI_11) (hid b_EqI_33)
@[simp] def l_EqI_35 (_ : Unit) : List EOp := [⟨0, (some 4), none, (.q (.mov (.k (.bool true)))), []⟩]
@[simp] def b_EqI_36 (_ : Unit) : EB := reg0 (hid l_EqI_35) 1
@[simp] def b_EqI_37 (_ : Unit) : EB := .seq (hid b_EqI_36) .ret
@[simp] def b_EqI_38 (_ : Unit) : EB := .seq (hid b_EqI_34) (hid b_EqI_37)
@[simp] def b_EqI_39 (_ : Unit) : EB := .seq (hid b_EqI_9) (hid b_EqI_38)
@[simp] def b_EqI_40 (_ : Unit) : EB := .seq (hid b_EqI_2) (hid b_EqI_39)
def c_EqI : EB × List QOp × Nat := ((hid b_EqI_40), [(.mov (.t 4))], 26)
theorem k_EqI : cfun Tryd.prog 42 = some c_EqI := by kernel_rfl

@[simp] def l_Vh1_1 (_ : Unit) : List EOp := [⟨0, (some 3), none, (.q (.box 81 (.t 0))), []⟩, ⟨1, (some 4), none, (.q (.mov (.k (.bool false)))), []⟩]
@[simp] def b_Vh1_2 (_ : Unit) : EB := reg0 (hid l_Vh1_1) 2
@[simp] def l_Vh1_6 (_ : Unit) : List EOp := [⟨18, (some 4), none, (.q (.mov (.t 22))), []⟩]
@[simp] def l_Vh1_5 (_ : Unit) : List EOp := ⟨12, (some 17), (some (16, true)), (.q (.fad 2 (.t 3))), []⟩ :: ⟨13, (some 18), (some (16, true)), (.q (.ldc (.t 17))), []⟩ :: ⟨14, (some 19), (some (16, true)), (.q (.fad 2 (.t 2))), []⟩ :: ⟨15, (some 20), (some (16, true)), (.q (.ldc (.t 19))), []⟩ :: ⟨16, (some 21), (some (16, true)), (.call 42 [(.t 18), (.t 20)]), []⟩ :: ⟨17, (some 22), none, (.q (.pick (.t 16) (.t 21) (.k (.bool false)))), []⟩ :: hid l_Vh1_6
@[simp] def l_Vh1_4 (_ : Unit) : List EOp := ⟨6, (some 11), (some (9, true)), (.q (.ldc (.t 10))), []⟩ :: ⟨7, (some 12), (some (9, true)), (.q (.fad 1 (.t 2))), []⟩ :: ⟨8, (some 13), (some (9, true)), (.q (.ldc (.t 12))), []⟩ :: ⟨9, (some 14), (some (9, true)), (.q (.bin .eql (.t 11) (.t 13))), []⟩ :: ⟨10, (some 15), none, (.q (.pick (.t 9) (.t 14) (.k (.bool false)))), []⟩ :: ⟨11, (some 16), none, (.q (.mov (.t 15))), []⟩ :: hid l_Vh1_5
@[simp] def l_Vh1_3 (_ : Unit) : List EOp := ⟨0, (some 5), none, (.q (.fad 0 (.t 3))), []⟩ :: ⟨1, (some 6), none, (.q (.ldc (.t 5))), []⟩ :: ⟨2, (some 7), none, (.q (.ldc (.t 1))), []⟩ :: ⟨3, (some 8), none, (.q (.bin .eql (.t 6) (.t 7))), []⟩ :: ⟨4, (some 9), none, (.q (.mov (.t 8))), []⟩ :: ⟨5, (some 10), (some (9, true)), (.q (.fad 1 (.t 3))), []⟩ :: hid l_Vh1_4
@[simp] def b_Vh1_7 (_ : Unit) : EB := reg0 (hid l_Vh1_3) 19
@[simp] def b_Vh1_8 (_ : Unit) : EB := .seq (hid b_Vh1_7) .ret
@[simp] def b_Vh1_9 (_ : Unit) : EB := .seq (hid b_Vh1_2) (hid b_Vh1_8)
def c_Vh1 : EB × List QOp × Nat := ((hid b_Vh1_9), [(.mov (.t 4))], 23)
theorem k_Vh1 : cfun Tryd.prog 41 = some c_Vh1 := by kernel_rfl


theorem EqI_ok (a b : List Int) (ha : a.length ≤ 100000000) : ECalls Tryd.prog 42 [IL a, IL b] [] fun y H' => H' = [] ∧ y = .lit (.bool (decide (a = b))) := by
  refine ecalls k_EqI ?_
  simp [c_EqI, IL, I]
  by_cases hl : a.length = b.length
  rotate_left
  · have hl' : ¬ (a.length : Int) = (b.length : Int) := by omega
    rw [decide_eq_false (fun h => hl (by rw [h]))]
    simp [hl, hl']
    exact fin [] (by decide) rfl rfl rfl ⟨rfl, rfl⟩
  obtain ⟨D, hD⟩ : ∃ D, decide (a = b) = D := ⟨_, rfl⟩
  rw [hD]
  simp [hl]
  refine eloop (α := Nat) (fun i => i ≤ a.length ∧ ∀ k, k < i → (a[k]?).getD 0 = (b[k]?).getD 0) (fun i => a.length - i) (fun i => [IL a, IL b, .any, .any, .any, .any, .any, .any, .any, .any, .any, .any, I .i64 b.length, I .i64 i, .any, .any, .any, .any, .any, .any, .any, .any, .any, .any, .any, .any]) (fun _ => []) 0 []
    ⟨Nat.zero_le _, fun k h => by omega⟩ (by simp [I, IL]) (by simp) (by simp) (by simp) (by simp) ?_
  rintro i ⟨hi, hno⟩
  by_cases hlt : i < a.length
  · have hlb : i < b.length := by omega
    have hli : (i : Int) < (b.length : Int) := by omega
    have w4 : IntKind.i64.wrap ((i : Int) + 1) = ((i + 1 : Nat) : Int) := wrap_i64 (by omega) (by omega)
    obtain ⟨A, hA⟩ : ∃ A, (a[i]?).getD 0 = A := ⟨_, rfl⟩
    obtain ⟨B, hB⟩ : ∃ B, (b[i]?).getD 0 = B := ⟨_, rfl⟩
    have ga : ∀ h2, (intv a)[i]'h2 = [.lit (.int .i64 A)] := fun h2 => by rw [intv_at hlt, hA]
    have gb : ∀ h2, (intv b)[i]'h2 = [.lit (.int .i64 B)] := fun h2 => by rw [intv_at hlb, hB]
    by_cases he : A = B
    · simp [I, IL, hlt, hlb, hli, ga, gb, he, w4, -Int.natCast_add]
      refine round (i + 1) [] ⟨by omega, ?_⟩ (by omega) (by simp [I, IL]) (by simp) (by simp) (by simp) (by simp)
      intro k hk
      rcases Nat.lt_or_ge k i with h1 | h1
      · exact hno k h1
      · obtain rfl : k = i := by omega
        rw [hA, hB, he]
    · have hDf : D = false := by
        rw [← hD]
        refine decide_eq_false fun h => he ?_
        rw [← hA, ← hB, h]
      subst hDf
      simp [I, IL, hlt, hlb, hli, ga, gb, he]
      exact fin [] (by decide) rfl rfl rfl ⟨rfl, rfl⟩
  · have hie : i = a.length := by omega
    subst hie
    have hDt : D = true := by
      rw [← hD]
      refine decide_eq_true (List.ext_getElem hl fun k h1 h2 => ?_)
      have := hno k h1
      simpa [h1, h2] using this
    subst hDt
    have hll : (a.length : Int) = (b.length : Int) := by omega
    simp [I, IL, hl]
    exact fin [] (by decide) rfl rfl rfl ⟨rfl, rfl⟩

def BXI (x : Int) : EO := .box 3 [.fz (.lit (.int .i64 x))]
def BHo (id' am : Int) : EO := .box 81 [.fz (.lit (.int .i64 id')), .fz (.lit (.int .i64 am)), .row 2 3]
def RKo (K : List Int) : EO := .row 3 1 (intv K)
def hitV (id' am : Int) (K : List Int) (h : Hol) : Bool := decide (h.id = id') && (decide (h.am = am) && decide (h.keys = K))

set_option maxHeartbeats 2000000 in
theorem Vh1_ok (h : Hol) (id' am : Int) (K : List Int) (hh : h.ok) (hK : K.length = 3) : ECalls Tryd.prog 41 [.v (.agg (holC h)), .v (.c (.ptr 0 0)), .v (.c (.ptr 1 0))] [BXI id', BHo id' am, RKo K] fun y H' => H' = [some (BXI id'), some (BHo id' am), some (RKo K)] ∧ y = .lit (.bool (hitV id' am K h)) := by
  obtain ⟨_, _, _, hkl⟩ := id hh
  have tK : List.take 3 (intv K) = intv K := List.take_of_length_le (by simp [hK])
  refine ecalls k_Vh1 ?_
  simp [c_Vh1, holC, BXI, BHo, RKo]
  unfold hitV
  by_cases c1 : h.id = id'
  rotate_left
  · simp [c1]
    exact fin [] (by decide) rfl rfl (by simp [objsOut, show List.range 3 = [0, 1, 2] from rfl]) ⟨rfl, rfl⟩
  by_cases c2 : h.am = am
  rotate_left
  · simp [c1, c2]
    exact fin [] (by decide) rfl rfl (by simp [objsOut, show List.range 3 = [0, 1, 2] from rfl]) ⟨rfl, rfl⟩
  simp [c1, c2]
  refine call0 (EqI_ok h.keys K hkl) (by simp [IL, tK]) ?_
  rintro y H' ⟨rfl, rfl⟩
  refine ⟨.inr ⟨rfl, by simp⟩, le_ok rfl, ?_⟩
  simp
  exact fin [] (by decide) rfl rfl (by simp [objsOut, show List.range 3 = [0, 1, 2] from rfl]) ⟨rfl, rfl⟩
theorem Vh1_body : bodyOK Tryd.prog 41 = true := by kernel_rfl

end Go.Proofs.YtejjhgdnmknejaaDoor
