import Derived.Test.YtoomdgmggkcgfaaDoorTree1
namespace Go.Proofs.YtoomdgmggkcgfaaDoor
open Go Go.EW
set_option linter.unusedSimpArgs false
set_option linter.unusedVariables false

@[simp] def l_TCheck_1 (_ : Unit) : List EOp := [⟨0, (some 1), none, (.q (.box 31 (.t 0))), []⟩, ⟨1, (some 2), none, (.q (.mov (.k .nilIface))), []⟩]
@[simp] def b_TCheck_2 (_ : Unit) : EB := reg0 (hid l_TCheck_1) 2
@[simp] def l_TCheck_9 (_ : Unit) : List EOp := [⟨36, (some 40), (some (34, false)), (.call 36 [(.t 39)]), [31, 32, 33, 34]⟩, ⟨37, (some 41), (some (34, false)), (.q (.bin .mul (.t 38) (.t 40))), []⟩, ⟨38, (some 42), (some (34, false)), (.q (.bin .sub (.k (.int .i64 1099511627776)) (.t 41))), []⟩, ⟨39, (some 43), (some (34, false)), (.q (.bin .gtr (.t 36) (.t 42))), []⟩, ⟨40, (some 44), none, (.q (.pick (.t 34) (.k (.bool true)) (.t 43))), []⟩, ⟨41, (some 3), none, (.q (.mov (.t 44))), []⟩]
@[simp] def l_TCheck_8 (_ : Unit) : List EOp := ⟨30, (some 34), none, (.q (.mov (.t 33))), []⟩ :: ⟨31, (some 35), (some (34, false)), (.q (.fad 36 (.t 1))), []⟩ :: ⟨32, (some 36), (some (34, false)), (.q (.ldc (.t 35))), []⟩ :: ⟨33, (some 37), (some (34, false)), (.q (.fad 35 (.t 1))), []⟩ :: ⟨34, (some 38), (some (34, false)), (.q (.ldc (.t 37))), []⟩ :: ⟨35, (some 39), (some (34, false)), (.q (.lda 40 (.t 1))), []⟩ :: hid l_TCheck_9
@[simp] def l_TCheck_7 (_ : Unit) : List EOp := ⟨24, (some 28), none, (.q (.pick (.t 22) (.k (.bool true)) (.t 27))), []⟩ :: ⟨25, (some 29), none, (.q (.mov (.t 28))), []⟩ :: ⟨26, (some 30), (some (29, false)), (.q (.fad 36 (.t 1))), []⟩ :: ⟨27, (some 31), (some (29, false)), (.q (.ldc (.t 30))), []⟩ :: ⟨28, (some 32), (some (29, false)), (.q (.bin .gtr (.t 31) (.k (.int .i64 1099511627776)))), []⟩ :: ⟨29, (some 33), none, (.q (.pick (.t 29) (.k (.bool true)) (.t 32))), []⟩ :: hid l_TCheck_8
@[simp] def l_TCheck_6 (_ : Unit) : List EOp := ⟨18, (some 22), none, (.q (.mov (.t 21))), []⟩ :: ⟨19, (some 23), (some (22, false)), (.q (.fad 36 (.t 1))), []⟩ :: ⟨20, (some 24), (some (22, false)), (.q (.ldc (.t 23))), []⟩ :: ⟨21, (some 25), (some (22, false)), (.q (.fad 37 (.t 1))), []⟩ :: ⟨22, (some 26), (some (22, false)), (.q (.ldc (.t 25))), []⟩ :: ⟨23, (some 27), (some (22, false)), (.q (.bin .lss (.t 24) (.t 26))), []⟩ :: hid l_TCheck_7
@[simp] def l_TCheck_5 (_ : Unit) : List EOp := ⟨12, (some 16), none, (.q (.pick (.t 12) (.k (.bool true)) (.t 15))), []⟩ :: ⟨13, (some 17), none, (.q (.mov (.t 16))), []⟩ :: ⟨14, (some 18), (some (17, false)), (.q (.fad 37 (.t 1))), []⟩ :: ⟨15, (some 19), (some (17, false)), (.q (.ldc (.t 18))), []⟩ :: ⟨16, (some 20), (some (17, false)), (.q (.bin .lss (.t 19) (.k (.int .i64 1)))), []⟩ :: ⟨17, (some 21), none, (.q (.pick (.t 17) (.k (.bool true)) (.t 20))), []⟩ :: hid l_TCheck_6
@[simp] def l_TCheck_4 (_ : Unit) : List EOp := ⟨6, (some 10), (some (7, false)), (.q (.bin .gtr (.t 9) (.k (.int .i64 8)))), []⟩ :: ⟨7, (some 11), none, (.q (.pick (.t 7) (.k (.bool true)) (.t 10))), []⟩ :: ⟨8, (some 12), none, (.q (.mov (.t 11))), []⟩ :: ⟨9, (some 13), (some (12, false)), (.q (.fad 38 (.t 1))), []⟩ :: ⟨10, (some 14), (some (12, false)), (.q (.ldc (.t 13))), []⟩ :: ⟨11, (some 15), (some (12, false)), (.q (.bin .lss (.t 14) (.k (.int .i64 1)))), []⟩ :: hid l_TCheck_5
@[simp] def l_TCheck_3 (_ : Unit) : List EOp := ⟨0, (some 4), none, (.q (.fad 35 (.t 1))), []⟩ :: ⟨1, (some 5), none, (.q (.ldc (.t 4))), []⟩ :: ⟨2, (some 6), none, (.q (.bin .lss (.t 5) (.k (.int .i64 1)))), []⟩ :: ⟨3, (some 7), none, (.q (.mov (.t 6))), []⟩ :: ⟨4, (some 8), (some (7, false)), (.q (.fad 35 (.t 1))), []⟩ :: ⟨5, (some 9), (some (7, false)), (.q (.ldc (.t 8))), []⟩ :: hid l_TCheck_4
@[simp] def b_TCheck_10 (_ : Unit) : EB := reg1 (hid l_TCheck_3) 42
@[simp] def l_TCheck_11 (_ : Unit) : List EOp := [⟨0, (some 45), none, (.q (.mki 80 (.k (.int .i64 1)))), []⟩, ⟨1, (some 2), none, (.q (.mov (.t 45))), []⟩]
@[simp] def b_TCheck_12 (_ : Unit) : EB := reg0 (hid l_TCheck_11) 2
@[simp] def b_TCheck_13 (_ : Unit) : EB := .seq (hid b_TCheck_12) .ret
@[simp] def l_TCheck_18 (_ : Unit) : List EOp := [⟨24, (some 71), none, (.q (.mov (.t 70))), []⟩, ⟨25, (some 72), (some (71, false)), (.q (.fad 33 (.t 1))), []⟩, ⟨26, (some 73), (some (71, false)), (.q (.ldc (.t 72))), []⟩, ⟨27, (some 74), (some (71, false)), (.q (.bin .gtr (.t 73) (.k (.int .i64 1125899906842624)))), []⟩, ⟨28, (some 75), none, (.q (.pick (.t 71) (.k (.bool true)) (.t 74))), []⟩, ⟨29, (some 46), none, (.q (.mov (.t 75))), []⟩]
@[simp] def l_TCheck_17 (_ : Unit) : List EOp := ⟨18, (some 65), none, (.q (.pick (.t 61) (.k (.bool true)) (.t 64))), []⟩ :: ⟨19, (some 66), none, (.q (.mov (.t 65))), []⟩ :: ⟨20, (some 67), (some (66, false)), (.q (.fad 33 (.t 1))), []⟩ :: ⟨21, (some 68), (some (66, false)), (.q (.ldc (.t 67))), []⟩ :: ⟨22, (some 69), (some (66, false)), (.q (.bin .lss (.t 68) (.k (.int .i64 10)))), []⟩ :: ⟨23, (some 70), none, (.q (.pick (.t 66) (.k (.bool true)) (.t 69))), []⟩ :: hid l_TCheck_18
@[simp] def l_TCheck_16 (_ : Unit) : List EOp := ⟨12, (some 59), (some (56, false)), (.q (.bin .lss (.t 58) (.k (.int .i64 0)))), []⟩ :: ⟨13, (some 60), none, (.q (.pick (.t 56) (.k (.bool true)) (.t 59))), []⟩ :: ⟨14, (some 61), none, (.q (.mov (.t 60))), []⟩ :: ⟨15, (some 62), (some (61, false)), (.q (.fad 39 (.t 1))), []⟩ :: ⟨16, (some 63), (some (61, false)), (.q (.ldc (.t 62))), []⟩ :: ⟨17, (some 64), (some (61, false)), (.q (.bin .gtr (.t 63) (.k (.int .i64 1125899906842624)))), []⟩ :: hid l_TCheck_17
@[simp] def l_TCheck_15 (_ : Unit) : List EOp := ⟨6, (some 53), none, (.q (.ldc (.t 52))), []⟩ :: ⟨7, (some 54), none, (.q (.bin .quo (.t 51) (.t 53))), []⟩ :: ⟨8, (some 55), none, (.q (.bin .gtr (.t 54) (.k (.int .i64 255)))), []⟩ :: ⟨9, (some 56), none, (.q (.mov (.t 55))), []⟩ :: ⟨10, (some 57), (some (56, false)), (.q (.fad 39 (.t 1))), []⟩ :: ⟨11, (some 58), (some (56, false)), (.q (.ldc (.t 57))), []⟩ :: hid l_TCheck_16
@[simp] def l_TCheck_14 (_ : Unit) : List EOp := ⟨0, (some 47), none, (.q (.fad 36 (.t 1))), []⟩ :: ⟨1, (some 48), none, (.q (.ldc (.t 47))), []⟩ :: ⟨2, (some 49), none, (.q (.fad 37 (.t 1))), []⟩ :: ⟨3, (some 50), none, (.q (.ldc (.t 49))), []⟩ :: ⟨4, (some 51), none, (.q (.bin .sub (.t 48) (.t 50))), []⟩ :: ⟨5, (some 52), none, (.q (.fad 38 (.t 1))), []⟩ :: hid l_TCheck_15
@[simp] def b_TCheck_19 (_ : Unit) : EB := reg0 (hid l_TCheck_14) 30
@[simp] def l_TCheck_20 (_ : Unit) : List EOp := [⟨0, (some 76), none, (.q (.mki 80 (.k (.int .i64 1)))), []⟩, ⟨1, (some 2), none, (.q (.mov (.t 76))), []⟩]
@[simp] def b_TCheck_21 (_ : Unit) : EB := reg0 (hid l_TCheck_20) 2
@[simp] def b_TCheck_22 (_ : Unit) : EB := .seq (hid b_TCheck_21) .ret
@[simp] def l_TCheck_23 (_ : Unit) : List EOp := [⟨0, (some 78), none, (.q (.fad 34 (.t 1))), []⟩, ⟨1, (some 79), none, (.q (.ldc (.t 78))), []⟩, ⟨2, (some 80), none, (.call 37 [(.t 79)]), []⟩, ⟨3, (some 81), none, (.q (.un .not (.t 80))), []⟩, ⟨4, (some 77), none, (.q (.mov (.t 81))), []⟩]
@[simp] def b_TCheck_24 (_ : Unit) : EB := reg0 (hid l_TCheck_23) 5
@[simp] def l_TCheck_25 (_ : Unit) : List EOp := [⟨0, (some 82), none, (.q (.mki 80 (.k (.int .i64 33)))), []⟩, ⟨1, (some 2), none, (.q (.mov (.t 82))), []⟩]
@[simp] def b_TCheck_26 (_ : Unit) : EB := reg0 (hid l_TCheck_25) 2
@[simp] def b_TCheck_27 (_ : Unit) : EB := .seq (hid b_TCheck_26) .ret
@[simp] def l_TCheck_28 (_ : Unit) : List EOp := [⟨0, (some 84), none, (.q (.lda 40 (.t 1))), []⟩, ⟨1, (some 85), none, (.call 35 [(.t 84)]), []⟩, ⟨2, (some 86), none, (.q (.bin .lss (.t 85) (.k (.int .i64 10)))), []⟩, ⟨3, (some 83), none, (.q (.mov (.t 86))), []⟩]
@[simp] def b_TCheck_29 (_ : Unit) : EB := reg0 (hid l_TCheck_28) 4
@[simp] def l_TCheck_30 (_ : Unit) : List EOp := [⟨0, (some 87), none, (.q (.mki 80 (.k (.int .i64 27)))), []⟩, ⟨1, (some 2), none, (.q (.mov (.t 87))), []⟩]
@[simp] def b_TCheck_31 (_ : Unit) : EB := reg0 (hid l_TCheck_30) 2
@[simp] def b_TCheck_32 (_ : Unit) : EB := .seq (hid b_TCheck_31) .ret
@[simp] def b_TCheck_33 (_ : Unit) : EB := .cond (.t 83) (hid b_TCheck_32) .skip
@[simp] def b_TCheck_34 (_ : Unit) : EB := .seq (hid b_TCheck_29) (hid b_TCheck_33)
@[simp] def b_TCheck_35 (_ : Unit) : EB := .cond (.t 77) (hid b_TCheck_27) (hid b_TCheck_34)
@[simp] def b_TCheck_36 (_ : Unit) : EB := .seq (hid b_TCheck_24) (hid b_TCheck_35)
@[simp] def b_TCheck_37 (_ : Unit) : EB := .cond (.t 46) (hid b_TCheck_22) (hid b_TCheck_36)
@[simp] def b_TCheck_38 (_ : Unit) : EB := .seq (hid b_TCheck_19) (hid b_TCheck_37)
@[simp] def b_TCheck_39 (_ : Unit) : EB := .cond (.t 3) (hid b_TCheck_13) (hid b_TCheck_38)
@[simp] def b_TCheck_40 (_ : Unit) : EB := .seq (hid b_TCheck_10) (hid b_TCheck_39)
@[simp] def b_TCheck_41 (_ : Unit) : EB := .block 0 (hid b_TCheck_40)
@[simp] def l_TCheck_42 (_ : Unit) : List EOp := [⟨0, (some 2), none, (.q (.mov (.k .nilIface))), []⟩]
@[simp] def b_TCheck_43 (_ : Unit) : EB := reg0 (hid l_TCheck_42) 1
@[simp] def b_TCheck_44 (_ : Unit) : EB := .seq (hid b_TCheck_43) .ret
@[simp] def b_TCheck_45 (_ : Unit) : EB := .seq (hid b_TCheck_41) (hid b_TCheck_44)
@[simp] def b_TCheck_46 (_ : Unit) : EB := .seq (hid b_TCheck_2) (hid b_TCheck_45)
def c_TCheck : EB × List QOp × Nat := ((hid b_TCheck_46), [(.mov (.t 2))], 88)
theorem k_TCheck : cfun Tryd.prog 22 = some c_TCheck := by kernel_rfl


theorem chk_R {c : Cfg} (h : ¬ okR c) : chkT c = 1 := by simp [chkT, h]
theorem chk_A {c : Cfg} (h : ¬ okA c) : chkT c = 1 := by unfold chkT; split <;> simp [h]
theorem chk_K {c : Cfg} (h : okR c) (h2 : okA c) (h3 : ¬ (keysS (-1) c.keys = true ∧ 2 ≤ c.keys.length)) : chkT c = 33 := by simp only [chkT, not_true_eq_false, if_false, h, h2, h3, not_false_eq_true, if_true]
theorem chk_D {c : Cfg} (h : okR c) (h2 : okA c) (h3 : keysS (-1) c.keys = true ∧ 2 ≤ c.keys.length) (h4 : c.am - c.dep * c.fee < 10) : chkT c = 27 := by simp only [chkT, not_true_eq_false, if_false, h, h2, h3, h4, if_true, and_self]
theorem chk_0 {c : Cfg} (h : okR c) (h2 : okA c) (h3 : keysS (-1) c.keys = true ∧ 2 ≤ c.keys.length) (h4 : ¬ c.am - c.dep * c.fee < 10) : chkT c = 0 := by simp only [chkT, not_true_eq_false, if_false, h, h2, h3, h4, and_self]
@[simp] theorem errV_27 : Value.iface 80 (.int .i64 27) = errV 27 := rfl
@[simp] theorem errV_30 : Value.iface 80 (.int .i64 30) = errV 30 := rfl
@[simp] theorem errV_33 : Value.iface 80 (.int .i64 33) = errV 33 := rfl

set_option maxRecDepth 8000 in
set_option maxHeartbeats 8000000 in
theorem TCheck_ok (c : Cfg) (hc : c.ok) : ECalls Tryd.prog 22 [CV c] [] fun y H' => H' = [] ∧ y = .lit (errV (chkT c)) := by
  have h32 := hc.1
  have t40 := tk40 h32
  obtain ⟨-, -, ham, -, hdep, hfst, hlst, hstp, hfee, hkl⟩ := id hc
  unfold i64 at ham hdep hfst hlst hstp hfee
  refine ecalls k_TCheck ?_
  simp [c_TCheck, CV, cfgC, cfgT, h32]
  by_cases h1 : c.dep < 1
  · have n1 : ¬ 1 ≤ c.dep := by omega
    rw [chk_R (c := c) (fun h => by unfold okR at h; omega)]
    simp [h1, n1, h32]
    exact fin [] (by decide) rfl rfl rfl ⟨rfl, rfl⟩
  have n1 : 1 ≤ c.dep := by omega
  simp [h1, n1, h32]
  by_cases h2 : 8 < c.dep
  · have n2 : ¬ c.dep ≤ 8 := by omega
    rw [chk_R (c := c) (fun h => by unfold okR at h; omega)]
    simp [h2, n2, h32]
    exact fin [] (by decide) rfl rfl rfl ⟨rfl, rfl⟩
  have n2 : c.dep ≤ 8 := by omega
  simp [h2, n2, h32]
  by_cases h3 : c.stp < 1
  · have n3 : ¬ 1 ≤ c.stp := by omega
    rw [chk_R (c := c) (fun h => by unfold okR at h; omega)]
    simp [h3, n3, h32]
    exact fin [] (by decide) rfl rfl rfl ⟨rfl, rfl⟩
  have n3 : 1 ≤ c.stp := by omega
  simp [h3, n3, h32]
  by_cases h4 : c.lst < 1
  · have n4 : ¬ 1 ≤ c.lst := by omega
    rw [chk_R (c := c) (fun h => by unfold okR at h; omega)]
    simp [h4, n4, h32]
    exact fin [] (by decide) rfl rfl rfl ⟨rfl, rfl⟩
  have n4 : 1 ≤ c.lst := by omega
  simp [h4, n4, h32]
  by_cases h5 : c.fst < c.lst
  · have n5 : ¬ c.lst ≤ c.fst := by omega
    rw [chk_R (c := c) (fun h => by unfold okR at h; omega)]
    simp [h5, n5, h32]
    exact fin [] (by decide) rfl rfl rfl ⟨rfl, rfl⟩
  have n5 : c.lst ≤ c.fst := by omega
  simp [h5, n5, h32]
  by_cases h6 : 1099511627776 < c.fst
  · have n6 : ¬ c.fst ≤ 1099511627776 := by omega
    rw [chk_R (c := c) (fun h => by unfold okR at h; omega)]
    simp [h6, n6, h32]
    exact fin [] (by decide) rfl rfl rfl ⟨rfl, rfl⟩
  have n6 : c.fst ≤ 1099511627776 := by omega
  simp [h6, n6, h32]
  refine call0 (Tspan_ok c hc (by omega) ⟨n6, n4⟩) (by simp [CV, cfgC, cfgT, t40]) ?_
  rintro y H' ⟨rfl, rfl⟩
  refine ⟨.inl (by simp [t40]), le_ok rfl, ?_⟩
  have hm : 0 ≤ c.dep * (c.fst - c.lst + 1) ∧ c.dep * (c.fst - c.lst + 1) ≤ 8 * 1099511627777 := ⟨Int.mul_nonneg (by omega) (by omega), Int.le_trans (Int.mul_le_mul_of_nonneg_right n2 (by omega)) (Int.mul_le_mul_of_nonneg_left (by omega) (by omega))⟩
  obtain ⟨q, hq⟩ : ∃ q, c.dep * (c.fst - c.lst + 1) = q := ⟨_, rfl⟩
  rw [hq] at hm
  have w1 : IntKind.i64.wrap q = q := wrap_i64 (by omega) (by omega)
  have w2 : IntKind.i64.wrap (1099511627776 - q) = 1099511627776 - q := wrap_i64 (by omega) (by omega)
  simp [I, hq, w1, w2]
  by_cases h7 : 1099511627776 - q < c.fst
  · have n7 : ¬ c.fst ≤ 1099511627776 - q := by omega
    rw [chk_R (c := c) (fun h => by unfold okR at h; rw [hq] at h; omega)]
    simp [h7, n7]
    exact fin [] (by decide) rfl rfl rfl ⟨rfl, rfl⟩
  have n7 : c.fst ≤ 1099511627776 - q := by omega
  have hR : okR c := ⟨n1, n2, n3, n4, n5, n6, by rw [hq]; omega⟩
  have w3 : IntKind.i64.wrap (c.fst - c.lst) = c.fst - c.lst := wrap_i64 (by omega) (by omega)
  have hd : (c.fst - c.lst).tdiv c.stp = (c.fst - c.lst) / c.stp := Int.tdiv_eq_ediv_of_nonneg (by omega)
  have hb : 0 ≤ (c.fst - c.lst) / c.stp ∧ (c.fst - c.lst) / c.stp ≤ 1099511627776 := ⟨Int.ediv_nonneg (by omega) (by omega), Int.le_trans (Int.ediv_le_self _ (by omega)) (by omega)⟩
  obtain ⟨v, hv⟩ : ∃ v, (c.fst - c.lst) / c.stp = v := ⟨_, rfl⟩
  rw [hv] at hd hb
  have w4 : IntKind.i64.wrap v = v := wrap_i64 (by omega) (by omega)
  have hz : ¬ c.stp = 0 := by omega
  simp [h7, n7, w3, hz, hd, w4, h32]
  by_cases h8 : 255 < v
  · have n8 : ¬ v ≤ 255 := by omega
    rw [chk_A (c := c) (fun h => by unfold okA at h; rw [hv] at h; omega)]
    simp [h8, n8]
    exact fin [] (by decide) rfl rfl rfl ⟨rfl, rfl⟩
  have n8 : v ≤ 255 := by omega
  simp [h8, n8, h32]
  by_cases h9 : c.fee < 0
  · have n9 : ¬ 0 ≤ c.fee := by omega
    rw [chk_A (c := c) (fun h => by unfold okA at h; omega)]
    simp [h9, n9, h32]
    exact fin [] (by decide) rfl rfl rfl ⟨rfl, rfl⟩
  have n9 : 0 ≤ c.fee := by omega
  simp [h9, n9, h32]
  by_cases h10 : 1125899906842624 < c.fee
  · have n10 : ¬ c.fee ≤ 1125899906842624 := by omega
    rw [chk_A (c := c) (fun h => by unfold okA at h; omega)]
    simp [h10, n10, h32]
    exact fin [] (by decide) rfl rfl rfl ⟨rfl, rfl⟩
  have n10 : c.fee ≤ 1125899906842624 := by omega
  simp [h10, n10, h32]
  by_cases h11 : c.am < 10
  · have n11 : ¬ 10 ≤ c.am := by omega
    rw [chk_A (c := c) (fun h => by unfold okA at h; omega)]
    simp [h11, n11, h32]
    exact fin [] (by decide) rfl rfl rfl ⟨rfl, rfl⟩
  have n11 : 10 ≤ c.am := by omega
  simp [h11, n11, h32]
  by_cases h12 : 1125899906842624 < c.am
  · have n12 : ¬ c.am ≤ 1125899906842624 := by omega
    rw [chk_A (c := c) (fun h => by unfold okA at h; omega)]
    simp [h12, n12, h32]
    exact fin [] (by decide) rfl rfl rfl ⟨rfl, rfl⟩
  have n12 : c.am ≤ 1125899906842624 := by omega
  simp [h12, n12, h32]
  have hA : okA c := ⟨by rw [hv]; exact n8, n9, n10, n11, n12⟩
  refine call0 (Tparties_ok c.keys hkl) (by simp [IL]) ?_
  rintro y H' ⟨rfl, rfl⟩
  refine ⟨.inl (by simp), le_ok rfl, ?_⟩
  by_cases hK : keysS (-1) c.keys = true ∧ 2 ≤ c.keys.length
  rotate_left
  · rw [chk_K hR hA hK]
    simp only [hK]
    simp [EV.lit]
    exact fin [] (by decide) rfl rfl rfl ⟨rfl, rfl⟩
  simp only [hK]
  simp [EV.lit, h32]
  refine call0 (Troom_ok c hc ⟨n1, n2, n9, n10, n11, n12⟩) (by simp [CV, cfgC, cfgT, t40]) ?_
  rintro y H' ⟨rfl, rfl⟩
  refine ⟨.inl (by simp [t40]), le_ok rfl, ?_⟩
  by_cases hD : c.am - c.dep * c.fee < 10
  · rw [chk_D hR hA hK hD]
    have nD : ¬ 10 ≤ c.am - c.dep * c.fee := by omega
    simp [I, hD, nD]
    exact fin [] (by decide) rfl rfl rfl ⟨rfl, rfl⟩
  · rw [chk_0 hR hA hK hD]
    have nD : 10 ≤ c.am - c.dep * c.fee := by omega
    simp [I, hD, nD]
    exact fin [] (by decide) rfl rfl rfl ⟨rfl, rfl⟩

end Go.Proofs.YtoomdgmggkcgfaaDoor
