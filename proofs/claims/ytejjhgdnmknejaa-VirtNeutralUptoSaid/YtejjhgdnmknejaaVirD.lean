import Derived.Test.YtejjhgdnmknejaaVirC
namespace Go.Proofs.Ytejjhgdnmknejaa
open Go Go.EW
set_option linter.unusedSimpArgs false
set_option linter.unusedVariables false

@[simp] def l_VCheck_1 (_ : Unit) : List EOp := [⟨0, (some 1), none, (.q (.box 33 (.t 0))), []⟩, ⟨1, (some 2), none, (.q (.mov (.k .nilIface))), []⟩]
@[simp] def b_VCheck_2 (_ : Unit) : EB := reg0 (hid l_VCheck_1) 2
@[simp] def l_VCheck_4 (_ : Unit) : List EOp := [⟨6, (some 12), none, (.q (.fad 76 (.t 1))), []⟩, ⟨7, (some 13), none, (.q (.iad 3 1 (.t 12) (.k (.int .i64 2)))), []⟩, ⟨8, (some 14), none, (.q (.ldc (.t 13))), []⟩, ⟨9, (some 3), none, (.q (.mov (.t 8))), []⟩, ⟨10, (some 4), none, (.q (.mov (.t 11))), []⟩, ⟨11, (some 5), none, (.q (.mov (.t 14))), []⟩]
@[simp] def l_VCheck_3 (_ : Unit) : List EOp := ⟨0, (some 6), none, (.q (.fad 76 (.t 1))), []⟩ :: ⟨1, (some 7), none, (.q (.iad 3 1 (.t 6) (.k (.int .i64 0)))), []⟩ :: ⟨2, (some 8), none, (.q (.ldc (.t 7))), []⟩ :: ⟨3, (some 9), none, (.q (.fad 76 (.t 1))), []⟩ :: ⟨4, (some 10), none, (.q (.iad 3 1 (.t 9) (.k (.int .i64 1)))), []⟩ :: ⟨5, (some 11), none, (.q (.ldc (.t 10))), []⟩ :: hid l_VCheck_4
@[simp] def b_VCheck_5 (_ : Unit) : EB := reg0 (hid l_VCheck_3) 12
@[simp] def l_VCheck_13 (_ : Unit) : List EOp := [⟨42, (some 58), (some (52, false)), (.q (.un .not (.t 57))), []⟩, ⟨43, (some 59), none, (.q (.pick (.t 52) (.k (.bool true)) (.t 58))), []⟩, ⟨44, (some 15), none, (.q (.mov (.t 59))), []⟩]
@[simp] def l_VCheck_12 (_ : Unit) : List EOp := ⟨36, (some 52), none, (.q (.mov (.t 51))), []⟩ :: ⟨37, (some 53), (some (52, false)), (.q (.fad 38 (.t 1))), []⟩ :: ⟨38, (some 54), (some (52, false)), (.q (.lda 38 (.t 53))), []⟩ :: ⟨39, (some 55), (some (52, false)), (.q (.mov (.t 4))), []⟩ :: ⟨40, (some 56), (some (52, false)), (.q (.mov (.t 5))), []⟩ :: ⟨41, (some 57), (some (52, false)), (.call 18 [(.t 54), (.t 55), (.t 56)]), []⟩ :: hid l_VCheck_13
@[simp] def l_VCheck_11 (_ : Unit) : List EOp := ⟨30, (some 46), (some (44, false)), (.q (.lda 38 (.t 45))), []⟩ :: ⟨31, (some 47), (some (44, false)), (.q (.mov (.t 3))), []⟩ :: ⟨32, (some 48), (some (44, false)), (.q (.mov (.t 4))), []⟩ :: ⟨33, (some 49), (some (44, false)), (.call 18 [(.t 46), (.t 47), (.t 48)]), []⟩ :: ⟨34, (some 50), (some (44, false)), (.q (.un .not (.t 49))), []⟩ :: ⟨35, (some 51), none, (.q (.pick (.t 44) (.k (.bool true)) (.t 50))), []⟩ :: hid l_VCheck_12
@[simp] def l_VCheck_10 (_ : Unit) : List EOp := ⟨24, (some 40), (some (39, false)), (.q (.mov (.t 3))), []⟩ :: ⟨25, (some 41), (some (39, false)), (.q (.mov (.t 5))), []⟩ :: ⟨26, (some 42), (some (39, false)), (.q (.bin .eql (.t 40) (.t 41))), []⟩ :: ⟨27, (some 43), none, (.q (.pick (.t 39) (.k (.bool true)) (.t 42))), []⟩ :: ⟨28, (some 44), none, (.q (.mov (.t 43))), []⟩ :: ⟨29, (some 45), (some (44, false)), (.q (.fad 0 (.t 1))), []⟩ :: hid l_VCheck_11
@[simp] def l_VCheck_9 (_ : Unit) : List EOp := ⟨18, (some 34), none, (.q (.mov (.t 33))), []⟩ :: ⟨19, (some 35), (some (34, false)), (.q (.mov (.t 4))), []⟩ :: ⟨20, (some 36), (some (34, false)), (.q (.mov (.t 5))), []⟩ :: ⟨21, (some 37), (some (34, false)), (.q (.bin .eql (.t 35) (.t 36))), []⟩ :: ⟨22, (some 38), none, (.q (.pick (.t 34) (.k (.bool true)) (.t 37))), []⟩ :: ⟨23, (some 39), none, (.q (.mov (.t 38))), []⟩ :: hid l_VCheck_10
@[simp] def l_VCheck_8 (_ : Unit) : List EOp := ⟨12, (some 28), none, (.q (.pick (.t 24) (.k (.bool true)) (.t 27))), []⟩ :: ⟨13, (some 29), none, (.q (.mov (.t 28))), []⟩ :: ⟨14, (some 30), (some (29, false)), (.q (.mov (.t 3))), []⟩ :: ⟨15, (some 31), (some (29, false)), (.q (.mov (.t 4))), []⟩ :: ⟨16, (some 32), (some (29, false)), (.q (.bin .eql (.t 30) (.t 31))), []⟩ :: ⟨17, (some 33), none, (.q (.pick (.t 29) (.k (.bool true)) (.t 32))), []⟩ :: hid l_VCheck_9
@[simp] def l_VCheck_7 (_ : Unit) : List EOp := ⟨6, (some 22), (some (19, false)), (.q (.un .not (.t 21))), []⟩ :: ⟨7, (some 23), none, (.q (.pick (.t 19) (.k (.bool true)) (.t 22))), []⟩ :: ⟨8, (some 24), none, (.q (.mov (.t 23))), []⟩ :: ⟨9, (some 25), (some (24, false)), (.q (.mov (.t 5))), []⟩ :: ⟨10, (some 26), (some (24, false)), (.call 17 [(.t 25)]), []⟩ :: ⟨11, (some 27), (some (24, false)), (.q (.un .not (.t 26))), []⟩ :: hid l_VCheck_8
@[simp] def l_VCheck_6 (_ : Unit) : List EOp := ⟨0, (some 16), none, (.q (.mov (.t 3))), []⟩ :: ⟨1, (some 17), none, (.call 17 [(.t 16)]), []⟩ :: ⟨2, (some 18), none, (.q (.un .not (.t 17))), []⟩ :: ⟨3, (some 19), none, (.q (.mov (.t 18))), []⟩ :: ⟨4, (some 20), (some (19, false)), (.q (.mov (.t 4))), []⟩ :: ⟨5, (some 21), (some (19, false)), (.call 17 [(.t 20)]), []⟩ :: hid l_VCheck_7
@[simp] def b_VCheck_14 (_ : Unit) : EB := reg0 (hid l_VCheck_6) 45
@[simp] def l_VCheck_15 (_ : Unit) : List EOp := [⟨0, (some 60), none, (.q (.mki 59 (.k (.int .i64 33)))), []⟩, ⟨1, (some 2), none, (.q (.mov (.t 60))), []⟩]
@[simp] def b_VCheck_16 (_ : Unit) : EB := reg0 (hid l_VCheck_15) 2
@[simp] def b_VCheck_17 (_ : Unit) : EB := .seq (hid b_VCheck_16) .ret
@[simp] def l_VCheck_20 (_ : Unit) : List EOp := [⟨12, (some 74), none, (.q (.pick (.t 70) (.k (.bool true)) (.t 73))), []⟩, ⟨13, (some 61), none, (.q (.mov (.t 74))), []⟩]
@[simp] def l_VCheck_19 (_ : Unit) : List EOp := ⟨6, (some 68), (some (65, false)), (.q (.bin .gtr (.t 67) (.k (.int .i64 1125899906842624)))), []⟩ :: ⟨7, (some 69), none, (.q (.pick (.t 65) (.k (.bool true)) (.t 68))), []⟩ :: ⟨8, (some 70), none, (.q (.mov (.t 69))), []⟩ :: ⟨9, (some 71), (some (70, false)), (.q (.fad 79 (.t 1))), []⟩ :: ⟨10, (some 72), (some (70, false)), (.q (.ldc (.t 71))), []⟩ :: ⟨11, (some 73), (some (70, false)), (.q (.bin .gtr (.t 72) (.k (.int .i64 1125899906842624)))), []⟩ :: hid l_VCheck_20
@[simp] def l_VCheck_18 (_ : Unit) : List EOp := ⟨0, (some 62), none, (.q (.fad 80 (.t 1))), []⟩ :: ⟨1, (some 63), none, (.q (.ldc (.t 62))), []⟩ :: ⟨2, (some 64), none, (.q (.bin .lss (.t 63) (.k (.int .i64 0)))), []⟩ :: ⟨3, (some 65), none, (.q (.mov (.t 64))), []⟩ :: ⟨4, (some 66), (some (65, false)), (.q (.fad 80 (.t 1))), []⟩ :: ⟨5, (some 67), (some (65, false)), (.q (.ldc (.t 66))), []⟩ :: hid l_VCheck_19
@[simp] def b_VCheck_21 (_ : Unit) : EB := reg0 (hid l_VCheck_18) 14
@[simp] def l_VCheck_22 (_ : Unit) : List EOp := [⟨0, (some 75), none, (.q (.mki 59 (.k (.int .i64 1)))), []⟩, ⟨1, (some 2), none, (.q (.mov (.t 75))), []⟩]
@[simp] def b_VCheck_23 (_ : Unit) : EB := reg0 (hid l_VCheck_22) 2
@[simp] def b_VCheck_24 (_ : Unit) : EB := .seq (hid b_VCheck_23) .ret
@[simp] def l_VCheck_26 (_ : Unit) : List EOp := [⟨6, (some 76), none, (.q (.mov (.t 82))), []⟩]
@[simp] def l_VCheck_25 (_ : Unit) : List EOp := ⟨0, (some 77), none, (.q (.fad 79 (.t 1))), []⟩ :: ⟨1, (some 78), none, (.q (.ldc (.t 77))), []⟩ :: ⟨2, (some 79), none, (.q (.fad 80 (.t 1))), []⟩ :: ⟨3, (some 80), none, (.q (.ldc (.t 79))), []⟩ :: ⟨4, (some 81), none, (.q (.bin .add (.k (.int .i64 10)) (.t 80))), []⟩ :: ⟨5, (some 82), none, (.q (.bin .lss (.t 78) (.t 81))), []⟩ :: hid l_VCheck_26
@[simp] def b_VCheck_27 (_ : Unit) : EB := reg0 (hid l_VCheck_25) 7
@[simp] def l_VCheck_28 (_ : Unit) : List EOp := [⟨0, (some 83), none, (.q (.mki 59 (.k (.int .i64 27)))), []⟩, ⟨1, (some 2), none, (.q (.mov (.t 83))), []⟩]
@[simp] def b_VCheck_29 (_ : Unit) : EB := reg0 (hid l_VCheck_28) 2
@[simp] def b_VCheck_30 (_ : Unit) : EB := .seq (hid b_VCheck_29) .ret
@[simp] def b_VCheck_31 (_ : Unit) : EB := .cond (.t 76) (hid b_VCheck_30) .skip
@[simp] def b_VCheck_32 (_ : Unit) : EB := .seq (hid b_VCheck_27) (hid b_VCheck_31)
@[simp] def b_VCheck_33 (_ : Unit) : EB := .cond (.t 61) (hid b_VCheck_24) (hid b_VCheck_32)
@[simp] def b_VCheck_34 (_ : Unit) : EB := .seq (hid b_VCheck_21) (hid b_VCheck_33)
@[simp] def b_VCheck_35 (_ : Unit) : EB := .cond (.t 15) (hid b_VCheck_17) (hid b_VCheck_34)
@[simp] def b_VCheck_36 (_ : Unit) : EB := .seq (hid b_VCheck_14) (hid b_VCheck_35)
@[simp] def b_VCheck_37 (_ : Unit) : EB := .block 0 (hid b_VCheck_36)
@[simp] def l_VCheck_38 (_ : Unit) : List EOp := [⟨0, (some 2), none, (.q (.mov (.k .nilIface))), []⟩]
@[simp] def b_VCheck_39 (_ : Unit) : EB := reg0 (hid l_VCheck_38) 1
@[simp] def b_VCheck_40 (_ : Unit) : EB := .seq (hid b_VCheck_39) .ret
@[simp] def b_VCheck_41 (_ : Unit) : EB := .seq (hid b_VCheck_37) (hid b_VCheck_40)
@[simp] def b_VCheck_42 (_ : Unit) : EB := .seq (hid b_VCheck_5) (hid b_VCheck_41)
@[simp] def b_VCheck_43 (_ : Unit) : EB := .seq (hid b_VCheck_2) (hid b_VCheck_42)
def c_VCheck : EB × List QOp × Nat := ((hid b_VCheck_43), [(.mov (.t 2))], 84)
theorem k_VCheck : cfun Try.prog 10 = some c_VCheck := by kernel_rfl


def prtV (r : Rte) : Prop := (0 ≤ r.a ∧ r.a < 16) ∧ (0 ≤ r.b ∧ r.b < 16) ∧ (0 ≤ r.c ∧ r.c < 16) ∧ ¬ r.a = r.b ∧ ¬ r.b = r.c ∧ ¬ r.a = r.c ∧ ofV r.f r.a r.b = true ∧ ofV r.s r.b r.c = true
instance (r : Rte) : Decidable (prtV r) := by unfold prtV; infer_instance
/-- Whether a route can be: the error. -/
def chkV (r : Rte) : Nat := if ¬ prtV r then 33 else if r.fe < 0 ∨ 1125899906842624 < r.fe ∨ 1125899906842624 < r.am then 1 else if r.am < 10 + r.fe then 27 else 0
@[simp] theorem errV_33v : Value.iface 59 (.int .i64 33) = errV 33 := rfl
@[simp] theorem errV_27v : Value.iface 59 (.int .i64 27) = errV 27 := rfl

set_option maxHeartbeats 8000000 in
theorem VCheck_ok (r : Rte) (hr : r.ok) : ECalls Try.prog 10 [RVv r] [] fun y H' => H' = [] ∧ y = .lit (errV (chkV r)) := by
  obtain ⟨⟨h1, _⟩, ⟨h2, _⟩, ⟨ha0, ha1⟩, ⟨hb0, hb1⟩, ⟨hc0, hc1⟩, ⟨hm0, hm1⟩, ⟨hf0, hf1⟩⟩ := id hr
  have l0 := rteC_len h1 h2
  have t0 := rt_take h1 h2
  have g76 := rt_76 h1 h2
  have g77 := rt_77 h1 h2
  have g78 := rt_78 h1 h2
  have g79 := rt_79 h1 h2
  have g80 := rt_80 h1 h2
  have t38 := rt_t38 h1
  have s38 := rt_s38 h1 h2
  have e76 := idx_of g76 (by omega)
  have e77 := idx_of g77 (by omega)
  have e78 := idx_of g78 (by omega)
  have e79 := idx_of g79 (by omega)
  have e80 := idx_of g80 (by omega)
  refine ecalls k_VCheck ?_
  simp [c_VCheck, RVv, I, l0, t0, e76, e77, e78, e79, e80, iC, -errV_0]
  refine call0 (Vparty_ok r.a) (by simp [I]) ?_
  rintro y H' ⟨rfl, rfl⟩
  refine ⟨.inl (by simp), le_ok rfl, ?_⟩
  by_cases q0 : 0 ≤ r.a ∧ r.a < 16
  rotate_left
  · have hv : chkV r = 33 := by unfold chkV; rw [if_pos (fun h => q0 h.1)]
    rw [hv, decide_eq_false q0]
    simp [l0, t0, e76, e77, e78, e79, e80, t38, s38, iC, -errV_0]
    exact fin [] (by decide) rfl rfl rfl ⟨rfl, rfl⟩
  rw [decide_eq_true q0]
  simp [l0, t0, e76, e77, e78, e79, e80, t38, s38, iC, -errV_0]
  refine call0 (Vparty_ok r.b) (by simp [I]) ?_
  rintro y H' ⟨rfl, rfl⟩
  refine ⟨.inl (by simp), le_ok rfl, ?_⟩
  by_cases q1 : 0 ≤ r.b ∧ r.b < 16
  rotate_left
  · have hv : chkV r = 33 := by unfold chkV; rw [if_pos (fun h => q1 h.2.1)]
    rw [hv, decide_eq_false q1]
    simp [l0, t0, e76, e77, e78, e79, e80, t38, s38, iC, -errV_0]
    exact fin [] (by decide) rfl rfl rfl ⟨rfl, rfl⟩
  rw [decide_eq_true q1]
  simp [l0, t0, e76, e77, e78, e79, e80, t38, s38, iC, -errV_0]
  refine call0 (Vparty_ok r.c) (by simp [I]) ?_
  rintro y H' ⟨rfl, rfl⟩
  refine ⟨.inl (by simp), le_ok rfl, ?_⟩
  by_cases q2 : 0 ≤ r.c ∧ r.c < 16
  rotate_left
  · have hv : chkV r = 33 := by unfold chkV; rw [if_pos (fun h => q2 h.2.2.1)]
    rw [hv, decide_eq_false q2]
    simp [l0, t0, e76, e77, e78, e79, e80, t38, s38, iC, -errV_0]
    exact fin [] (by decide) rfl rfl rfl ⟨rfl, rfl⟩
  rw [decide_eq_true q2]
  simp [l0, t0, e76, e77, e78, e79, e80, t38, s38, iC, -errV_0]
  by_cases q3 : r.a = r.b
  · have hv : chkV r = 33 := by unfold chkV; rw [if_pos (fun h => h.2.2.2.1 q3)]
    rw [hv]
    simp [l0, t0, e76, e77, e78, e79, e80, t38, s38, iC, q3, -errV_0]
    exact fin [] (by decide) rfl rfl rfl ⟨rfl, rfl⟩
  simp [l0, t0, e76, e77, e78, e79, e80, t38, s38, iC, q3, -errV_0]
  by_cases q4 : r.b = r.c
  · have hv : chkV r = 33 := by unfold chkV; rw [if_pos (fun h => h.2.2.2.2.1 q4)]
    rw [hv]
    simp [l0, t0, e76, e77, e78, e79, e80, t38, s38, iC, q3, q4, -errV_0]
    exact fin [] (by decide) rfl rfl rfl ⟨rfl, rfl⟩
  simp [l0, t0, e76, e77, e78, e79, e80, t38, s38, iC, q3, q4, -errV_0]
  by_cases q5 : r.a = r.c
  · have hv : chkV r = 33 := by unfold chkV; rw [if_pos (fun h => h.2.2.2.2.2.1 q5)]
    rw [hv]
    simp [l0, t0, e76, e77, e78, e79, e80, t38, s38, iC, q3, q4, q5, -errV_0]
    exact fin [] (by decide) rfl rfl rfl ⟨rfl, rfl⟩
  simp [l0, t0, e76, e77, e78, e79, e80, t38, s38, iC, q3, q4, q5, -errV_0]
  refine call0 (Vof_ok r.f r.a r.b h1) (by simp [PVv, I]) ?_
  rintro y H' ⟨rfl, rfl⟩
  refine ⟨.inl (by simp), le_ok rfl, ?_⟩
  by_cases q6 : ofV r.f r.a r.b = true
  rotate_left
  · have hv : chkV r = 33 := by unfold chkV; rw [if_pos (fun h => q6 h.2.2.2.2.2.2.1)]
    have q6' : ofV r.f r.a r.b = false := by simpa using q6
    rw [hv, q6']
    simp [l0, t0, e76, e77, e78, e79, e80, t38, s38, iC, q3, q4, q5, -errV_0]
    exact fin [] (by decide) rfl rfl rfl ⟨rfl, rfl⟩
  rw [q6]
  simp [l0, t0, e76, e77, e78, e79, e80, t38, s38, iC, q3, q4, q5, -errV_0]
  refine call0 (Vof_ok r.s r.b r.c h2) (by simp [PVv, I]) ?_
  rintro y H' ⟨rfl, rfl⟩
  refine ⟨.inl (by simp), le_ok rfl, ?_⟩
  by_cases q7 : ofV r.s r.b r.c = true
  rotate_left
  · have hv : chkV r = 33 := by unfold chkV; rw [if_pos (fun h => q7 h.2.2.2.2.2.2.2)]
    have q7' : ofV r.s r.b r.c = false := by simpa using q7
    rw [hv, q7']
    simp [l0, t0, e76, e77, e78, e79, e80, t38, s38, iC, q3, q4, q5, -errV_0]
    exact fin [] (by decide) rfl rfl rfl ⟨rfl, rfl⟩
  rw [q7]
  simp [l0, t0, e76, e77, e78, e79, e80, t38, s38, iC, q3, q4, q5, -errV_0]
  have hp : ¬ ¬ prtV r := fun h => h ⟨q0, q1, q2, q3, q4, q5, q6, q7⟩
  by_cases z0 : r.fe < 0
  · have hv : chkV r = 1 := by unfold chkV; rw [if_neg hp, if_pos (.inl z0)]
    have z0n : ¬ 0 ≤ r.fe := by omega
    rw [hv]
    simp [l0, t0, e76, e77, e78, e79, e80, t38, s38, iC, z0, z0n, -errV_0]
    exact fin [] (by decide) rfl rfl rfl ⟨rfl, rfl⟩
  have z0p : 0 ≤ r.fe := by omega
  by_cases z1 : 1125899906842624 < r.fe
  · have hv : chkV r = 1 := by unfold chkV; rw [if_neg hp, if_pos (.inr (.inl z1))]
    rw [hv]
    simp [l0, t0, e76, e77, e78, e79, e80, t38, s38, iC, z0, z0p, z1, -errV_0]
    exact fin [] (by decide) rfl rfl rfl ⟨rfl, rfl⟩
  have z1p : r.fe ≤ 1125899906842624 := by omega
  by_cases z2 : 1125899906842624 < r.am
  · have hv : chkV r = 1 := by unfold chkV; rw [if_neg hp, if_pos (.inr (.inr z2))]
    rw [hv]
    simp [l0, t0, e76, e77, e78, e79, e80, t38, s38, iC, z0, z0p, z1, z1p, z2, -errV_0]
    exact fin [] (by decide) rfl rfl rfl ⟨rfl, rfl⟩
  have z2p : r.am ≤ 1125899906842624 := by omega
  have w1 : IntKind.i64.wrap (10 + r.fe) = 10 + r.fe := wrap_i64 (by omega) (by omega)
  by_cases z3 : r.am < 10 + r.fe
  · have hv : chkV r = 27 := by unfold chkV; rw [if_neg hp, if_neg (by omega), if_pos z3]
    rw [hv]
    simp [l0, t0, e76, e77, e78, e79, e80, t38, s38, iC, z0, z0p, z1, z1p, z2, z2p, w1, z3, -errV_0]
    exact fin [] (by decide) rfl rfl rfl ⟨rfl, rfl⟩
  have z3p : 10 + r.fe ≤ r.am := by omega
  have hv : chkV r = 0 := by unfold chkV; rw [if_neg hp, if_neg (by omega), if_neg z3]
  rw [hv]
  simp [l0, t0, e76, e77, e78, e79, e80, t38, s38, iC, z0, z0p, z1, z1p, z2, z2p, w1, z3, z3p, -errV_0]
  exact fin [] (by decide) rfl rfl rfl ⟨rfl, rfl⟩

end Go.Proofs.Ytejjhgdnmknejaa
