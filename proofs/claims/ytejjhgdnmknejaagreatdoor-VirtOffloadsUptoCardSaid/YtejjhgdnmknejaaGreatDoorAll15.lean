import Derived.Test.YtejjhgdnmknejaaGreatDoorAll8
import Derived.Test.YtejjhgdnmknejaaGreatDoorAll14
import Derived.Test.YtejjhgdnmknejaaGreatDoorAll13
import Derived.Test.YtejjhgdnmknejaaGreatDoorAll11
import Derived.Test.YtejjhgdnmknejaaGreatDoorAll12
namespace Go.Proofs.YtejjhgdnmknejaaGreatDoor
open Go Go.EW
set_option linter.unusedSimpArgs false
set_option linter.unusedVariables false

@[simp] def l_giveP_1 (_ : Unit) : List EOp := [⟨0, (some 1), none, (.q (.box 28 (.t 0))), []⟩, ⟨1, (some 2), none, (.q (.alloc 42 (zU8 ++ [(.int .i64 0), (.int .i64 0), (.int .i64 0), (.int .i64 0), (.int .i64 0), (.int .i64 0)]))), []⟩]
@[simp] def b_giveP_2 (_ : Unit) : EB := reg0 (hid l_giveP_1) 2
@[simp] def l_giveP_4 (_ : Unit) : List EOp := [⟨6, (some 9), none, (.q (.fad 36 (.t 1))), []⟩, ⟨7, (some 10), none, (.q (.ldc (.t 9))), []⟩, ⟨8, (some 11), none, (.q (.fad 37 (.t 1))), []⟩, ⟨9, (some 12), none, (.q (.ldc (.t 11))), []⟩, ⟨10, (some 13), none, (.q (.build (zU8 ++ [(.int .i64 0), (.int .i64 0), (.int .i64 0), (.int .i64 0), (.int .i64 0), (.int .i64 0)]) [(0, 33, (.t 4)), (33, 1, (.t 6)), (34, 2, (.t 8)), (36, 1, (.t 10)), (37, 1, (.t 12))])), []⟩, ⟨11, none, none, (.sto 38 (.t 2) (.t 13)), []⟩]
@[simp] def l_giveP_3 (_ : Unit) : List EOp := ⟨0, (some 3), none, (.q (.fad 0 (.t 1))), []⟩ :: ⟨1, (some 4), none, (.q (.lda 33 (.t 3))), []⟩ :: ⟨2, (some 5), none, (.q (.fad 33 (.t 1))), []⟩ :: ⟨3, (some 6), none, (.q (.ldc (.t 5))), []⟩ :: ⟨4, (some 7), none, (.q (.fad 34 (.t 1))), []⟩ :: ⟨5, (some 8), none, (.q (.lda 2 (.t 7))), []⟩ :: hid l_giveP_4
@[simp] def b_giveP_5 (_ : Unit) : EB := reg0 (hid l_giveP_3) 12
@[simp] def b_giveP_6 (_ : Unit) : EB := .seq (hid b_giveP_5) .ret
@[simp] def b_giveP_7 (_ : Unit) : EB := .seq (hid b_giveP_2) (hid b_giveP_6)
def c_giveP : EB × List QOp × Nat := ((hid b_giveP_7), [(.lda 38 (.t 2))], 14)
theorem k_giveP : cfun Tryz.prog 26 = some c_giveP := by kernel_rfl


theorem pm_33 {p : Prm} (h : p.tx.length = 32) : (prmC p).take 33 = hc p.tx ++ [iC p.n] := by
  have e : (hc p.tx).length = 32 := by rw [hc_len, h]
  unfold prmC
  rw [List.take_append, e, List.take_of_length_le (by omega)]
  rfl
theorem pm_at {p : Prm} (h : p.tx.length = 32) (i : Nat) : (prmC p)[32 + i]? = [iC p.n, iC p.am, iC p.k0, iC p.k1, iC p.dl, iC p.fe][i]? := by
  have e : (hc p.tx).length = 32 := by rw [hc_len, h]
  unfold prmC
  rw [List.getElem?_append_right (by omega), e]
  congr 1
  omega

theorem list32 (l : List EC) (h : l.length = 32) : ∃ c0 c1 c2 c3 c4 c5 c6 c7 c8 c9 c10 c11 c12 c13 c14 c15 c16 c17 c18 c19 c20 c21 c22 c23 c24 c25 c26 c27 c28 c29 c30 c31, l = [c0, c1, c2, c3, c4, c5, c6, c7, c8, c9, c10, c11, c12, c13, c14, c15, c16, c17, c18, c19, c20, c21, c22, c23, c24, c25, c26, c27, c28, c29, c30, c31] := by
  match l, h with
  | [c0, c1, c2, c3, c4, c5, c6, c7, c8, c9, c10, c11, c12, c13, c14, c15, c16, c17, c18, c19, c20, c21, c22, c23, c24, c25, c26, c27, c28, c29, c30, c31], _ => exact ⟨c0, c1, c2, c3, c4, c5, c6, c7, c8, c9, c10, c11, c12, c13, c14, c15, c16, c17, c18, c19, c20, c21, c22, c23, c24, c25, c26, c27, c28, c29, c30, c31, rfl⟩

set_option maxRecDepth 8000 in
set_option maxHeartbeats 4000000 in
theorem giveP_ok (p : Prm) (hp : p.tx.length = 32) : ECalls Tryz.prog 26 [PVv p] [] fun y H' => H' = [] ∧ y = PVv p := by
  have h1 := prmC_len hp
  have h2 := pm_take hp
  have h3 := pm_d34 hp
  have h4 := pm_33 hp
  have e33 := idx_of (pm_at hp 1) (by omega)
  have e36 := idx_of (pm_at hp 4) (by omega)
  have e37 := idx_of (pm_at hp 5) (by omega)
  have e : (hc p.tx).length = 32 := by rw [hc_len, hp]
  refine ecalls k_giveP ?_
  simp [c_giveP, PVv, h1, h2, h3, h4, e33, e36, e37, e, hp, iC]
  obtain ⟨c0, c1, c2, c3, c4, c5, c6, c7, c8, c9, c10, c11, c12, c13, c14, c15, c16, c17, c18, c19, c20, c21, c22, c23, c24, c25, c26, c27, c28, c29, c30, c31, hX⟩ := list32 (hc p.tx) e
  have hP : prmC p = [c0, c1, c2, c3, c4, c5, c6, c7, c8, c9, c10, c11, c12, c13, c14, c15, c16, c17, c18, c19, c20, c21, c22, c23, c24, c25, c26, c27, c28, c29, c30, c31, iC p.n, iC p.am, iC p.k0, iC p.k1, iC p.dl, iC p.fe] := by unfold prmC; rw [hX]; rfl
  rw [hX]
  exact fin [] (by decide) (v := .v (.agg [c0, c1, c2, c3, c4, c5, c6, c7, c8, c9, c10, c11, c12, c13, c14, c15, c16, c17, c18, c19, c20, c21, c22, c23, c24, c25, c26, c27, c28, c29, c30, c31, iC p.n, iC p.am, iC p.k0, iC p.k1, iC p.dl, iC p.fe])) rfl (y := PVv p) (by rw [← hP]; simp [conR, conTs, conT, PVv]) rfl ⟨rfl, rfl⟩

end Go.Proofs.YtejjhgdnmknejaaGreatDoor

namespace Go.Proofs.YtejjhgdnmknejaaGreatDoor
open Go Go.EW
set_option linter.unusedSimpArgs false
set_option linter.unusedVariables false

@[simp] def l_Rpair_1 (_ : Unit) : List EOp := [⟨0, (some 3), none, (.q (.box 28 (.t 0))), []⟩, ⟨1, (some 6), none, (.q (.mov (.k (.bool false)))), []⟩]
@[simp] def b_Rpair_2 (_ : Unit) : EB := reg0 (hid l_Rpair_1) 2
@[simp] def l_Rpair_7 (_ : Unit) : List EOp := [⟨24, (some 31), (some (19, false)), (.q (.pick (.t 25) (.t 30) (.k (.bool false)))), []⟩, ⟨25, (some 32), none, (.q (.pick (.t 19) (.k (.bool true)) (.t 31))), []⟩, ⟨26, (some 6), none, (.q (.mov (.t 32))), []⟩]
@[simp] def l_Rpair_6 (_ : Unit) : List EOp := ⟨18, (some 25), (some (19, false)), (.q (.mov (.t 24))), []⟩ :: ⟨19, (some 26), (some (25, true)), (.q (.fad 34 (.t 3))), []⟩ :: ⟨20, (some 27), (some (25, true)), (.q (.iad 2 1 (.t 26) (.k (.int .i64 1)))), []⟩ :: ⟨21, (some 28), (some (25, true)), (.q (.ldc (.t 27))), []⟩ :: ⟨22, (some 29), (some (25, true)), (.q (.mov (.t 1))), []⟩ :: ⟨23, (some 30), (some (25, true)), (.q (.bin .eql (.t 28) (.t 29))), []⟩ :: hid l_Rpair_7
@[simp] def l_Rpair_5 (_ : Unit) : List EOp := ⟨12, (some 19), none, (.q (.mov (.t 18))), []⟩ :: ⟨13, (some 20), (some (19, false)), (.q (.fad 34 (.t 3))), []⟩ :: ⟨14, (some 21), (some (19, false)), (.q (.iad 2 1 (.t 20) (.k (.int .i64 0)))), []⟩ :: ⟨15, (some 22), (some (19, false)), (.q (.ldc (.t 21))), []⟩ :: ⟨16, (some 23), (some (19, false)), (.q (.mov (.t 2))), []⟩ :: ⟨17, (some 24), (some (19, false)), (.q (.bin .eql (.t 22) (.t 23))), []⟩ :: hid l_Rpair_6
@[simp] def l_Rpair_4 (_ : Unit) : List EOp := ⟨6, (some 13), (some (12, true)), (.q (.fad 34 (.t 3))), []⟩ :: ⟨7, (some 14), (some (12, true)), (.q (.iad 2 1 (.t 13) (.k (.int .i64 1)))), []⟩ :: ⟨8, (some 15), (some (12, true)), (.q (.ldc (.t 14))), []⟩ :: ⟨9, (some 16), (some (12, true)), (.q (.mov (.t 2))), []⟩ :: ⟨10, (some 17), (some (12, true)), (.q (.bin .eql (.t 15) (.t 16))), []⟩ :: ⟨11, (some 18), none, (.q (.pick (.t 12) (.t 17) (.k (.bool false)))), []⟩ :: hid l_Rpair_5
@[simp] def l_Rpair_3 (_ : Unit) : List EOp := ⟨0, (some 7), none, (.q (.fad 34 (.t 3))), []⟩ :: ⟨1, (some 8), none, (.q (.iad 2 1 (.t 7) (.k (.int .i64 0)))), []⟩ :: ⟨2, (some 9), none, (.q (.ldc (.t 8))), []⟩ :: ⟨3, (some 10), none, (.q (.mov (.t 1))), []⟩ :: ⟨4, (some 11), none, (.q (.bin .eql (.t 9) (.t 10))), []⟩ :: ⟨5, (some 12), none, (.q (.mov (.t 11))), []⟩ :: hid l_Rpair_4
@[simp] def b_Rpair_8 (_ : Unit) : EB := reg0 (hid l_Rpair_3) 27
@[simp] def b_Rpair_9 (_ : Unit) : EB := .seq (hid b_Rpair_8) .ret
@[simp] def b_Rpair_10 (_ : Unit) : EB := .seq (hid b_Rpair_2) (hid b_Rpair_9)
def c_Rpair : EB × List QOp × Nat := ((hid b_Rpair_10), [(.mov (.t 6))], 33)
theorem k_Rpair : cfun Tryz.prog 51 = some c_Rpair := by kernel_rfl


theorem ofV_f {p : Prm} {a b : Int} (c1 : ¬ (p.k0 = a ∧ p.k1 = b)) : ofV p a b = (decide (p.k0 = b) && decide (p.k1 = a)) := by
  unfold ofV
  by_cases c2 : p.k0 = b ∧ p.k1 = a
  · rw [decide_eq_true (.inr c2), decide_eq_true c2.1, decide_eq_true c2.2]; rfl
  · rw [decide_eq_false (by omega)]
    by_cases c3 : p.k0 = b
    · rw [decide_eq_true c3, decide_eq_false (fun h => c2 ⟨c3, h⟩)]; rfl
    · rw [decide_eq_false c3]; rfl

set_option maxHeartbeats 2000000 in
theorem Rpair_ok (p : Prm) (a b : Int) (hp : p.tx.length = 32) : ECalls Tryz.prog 51 [PVv p, I .i64 a, I .i64 b] [] fun y H' => H' = [] ∧ y = .lit (.bool (ofV p a b)) := by
  have h1 := prmC_len hp
  have h2 := pm_take hp
  have e34 := idx_of (pm_34 hp) (by omega)
  have e35 := idx_of (pm_35 hp) (by omega)
  refine ecalls k_Rpair ?_
  simp [c_Rpair, I, PVv, h1, h2, e34, e35, iC]
  by_cases c1 : p.k0 = a
  · by_cases c2 : p.k1 = b
    · have hv : ofV p a b = true := decide_eq_true (.inl ⟨c1, c2⟩)
      rw [hv]
      simp [c1, c2, h1, e34, e35, iC]
      exact fin [] (by decide) rfl rfl rfl ⟨rfl, rfl⟩
    · have hv : ofV p a b = (decide (p.k0 = b) && decide (p.k1 = a)) := ofV_f (fun h => c2 h.2)
      rw [hv]
      simp [c1, c2, h1, e34, e35, iC]
      refine alt (fun c3 => ?_) (fun c3 => ?_)
      · simp [c3, h1, e34, e35, iC]
        exact fin [] (by decide) rfl rfl rfl ⟨rfl, rfl⟩
      · simp [c3]
        exact fin [] (by decide) rfl rfl rfl ⟨rfl, rfl⟩
  · have hv : ofV p a b = (decide (p.k0 = b) && decide (p.k1 = a)) := ofV_f (fun h => c1 h.1)
    rw [hv]
    simp [c1, h1, e34, e35, iC]
    refine alt (fun c3 => ?_) (fun c3 => ?_)
    · simp [c3, h1, e34, e35, iC]
      exact fin [] (by decide) rfl rfl rfl ⟨rfl, rfl⟩
    · simp [c3]
      exact fin [] (by decide) rfl rfl rfl ⟨rfl, rfl⟩

end Go.Proofs.YtejjhgdnmknejaaGreatDoor

namespace Go.Proofs.YtejjhgdnmknejaaGreatDoor
open Go Go.EW
set_option linter.unusedSimpArgs false
set_option linter.unusedVariables false

@[simp] def l_giveR_1 (_ : Unit) : List EOp := [⟨0, (some 1), none, (.q (.box 31 (.t 0))), []⟩, ⟨1, (some 2), none, (.q (.alloc 44 (zU8 ++ (([(.int .i64 0), (.int .i64 0), (.int .i64 0), (.int .i64 0), (.int .i64 0), (.int .i64 0)] : List Value) ++ zU8 ++ [(.int .i64 0), (.int .i64 0), (.int .i64 0), (.int .i64 0), (.int .i64 0), (.int .i64 0), (.int .i64 0), (.int .i64 0), (.int .i64 0), (.int .i64 0), (.int .i64 0)])))), []⟩]
@[simp] def b_giveR_2 (_ : Unit) : EB := reg0 (hid l_giveR_1) 2
@[simp] def l_giveR_5 (_ : Unit) : List EOp := [⟨12, (some 15), none, (.q (.build (zU8 ++ (([(.int .i64 0), (.int .i64 0), (.int .i64 0), (.int .i64 0), (.int .i64 0), (.int .i64 0)] : List Value) ++ zU8 ++ [(.int .i64 0), (.int .i64 0), (.int .i64 0), (.int .i64 0), (.int .i64 0), (.int .i64 0), (.int .i64 0), (.int .i64 0), (.int .i64 0), (.int .i64 0), (.int .i64 0)])) [(0, 38, (.t 5)), (38, 38, (.t 8)), (76, 3, (.t 10)), (79, 1, (.t 12)), (80, 1, (.t 14))])), []⟩, ⟨13, none, none, (.sto 81 (.t 2) (.t 15)), []⟩]
@[simp] def l_giveR_4 (_ : Unit) : List EOp := ⟨8, (some 11), none, (.q (.fad 79 (.t 1))), []⟩ :: ⟨9, (some 12), none, (.q (.ldc (.t 11))), []⟩ :: ⟨10, (some 13), none, (.q (.fad 80 (.t 1))), []⟩ :: ⟨11, (some 14), none, (.q (.ldc (.t 13))), []⟩ :: ⟨2, (some 5), none, (.call 26 [(.t 4)]), [3, 4, 6, 7, 8, 9, 10, 11]⟩ :: ⟨5, (some 8), none, (.call 26 [(.t 7)]), [6, 7, 8, 9, 10, 11]⟩ :: hid l_giveR_5
@[simp] def l_giveR_3 (_ : Unit) : List EOp := ⟨0, (some 3), none, (.q (.fad 0 (.t 1))), []⟩ :: ⟨1, (some 4), none, (.q (.lda 38 (.t 3))), []⟩ :: ⟨3, (some 6), none, (.q (.fad 38 (.t 1))), []⟩ :: ⟨4, (some 7), none, (.q (.lda 38 (.t 6))), []⟩ :: ⟨6, (some 9), none, (.q (.fad 76 (.t 1))), []⟩ :: ⟨7, (some 10), none, (.q (.lda 3 (.t 9))), []⟩ :: hid l_giveR_4
@[simp] def b_giveR_6 (_ : Unit) : EB := reg1 (hid l_giveR_3) 14
@[simp] def b_giveR_7 (_ : Unit) : EB := .seq (hid b_giveR_6) .ret
@[simp] def b_giveR_8 (_ : Unit) : EB := .seq (hid b_giveR_2) (hid b_giveR_7)
def c_giveR : EB × List QOp × Nat := ((hid b_giveR_8), [(.lda 81 (.t 2))], 16)
theorem k_giveR : cfun Tryz.prog 9 = some c_giveR := by kernel_rfl

@[simp] def l_RSide_1 (_ : Unit) : List EOp := [⟨0, (some 2), none, (.q (.box 28 (.t 0))), []⟩, ⟨1, (some 4), none, (.q (.mov (.k (.int .i64 0)))), []⟩, ⟨2, (some 5), none, (.q (.mov (.k (.int .i64 0)))), []⟩]
@[simp] def b_RSide_2 (_ : Unit) : EB := reg0 (hid l_RSide_1) 3
@[simp] def l_RSide_3 (_ : Unit) : List EOp := [⟨0, (some 6), none, (.q (.mov (.k (.int .i64 0)))), []⟩]
@[simp] def b_RSide_4 (_ : Unit) : EB := reg0 (hid l_RSide_3) 1
@[simp] def l_RSide_5 (_ : Unit) : List EOp := [⟨0, (some 7), none, (.q (.mov (.t 6))), []⟩, ⟨1, (some 8), none, (.q (.bin .lss (.t 7) (.k (.int .i64 2)))), []⟩]
@[simp] def b_RSide_6 (_ : Unit) : EB := reg0 (hid l_RSide_5) 2
@[simp] def b_RSide_7 (_ : Unit) : EB := .cond (.t 8) .skip (.exit 0)
@[simp] def b_RSide_8 (_ : Unit) : EB := .seq (hid b_RSide_6) (hid b_RSide_7)
@[simp] def l_RSide_9 (_ : Unit) : List EOp := [⟨0, (some 11), none, (.q (.mov (.t 6))), []⟩, ⟨1, (some 12), none, (.q (.fad 34 (.t 2))), []⟩, ⟨2, (some 13), none, (.q (.iad 2 1 (.t 12) (.t 11))), []⟩, ⟨3, (some 14), none, (.q (.ldc (.t 13))), []⟩, ⟨4, (some 15), none, (.q (.mov (.t 1))), []⟩, ⟨5, (some 16), none, (.q (.bin .eql (.t 14) (.t 15))), []⟩]
@[simp] def b_RSide_10 (_ : Unit) : EB := reg0 (hid l_RSide_9) 6
@[simp] def l_RSide_11 (_ : Unit) : List EOp := [⟨0, (some 17), none, (.q (.mov (.t 6))), []⟩, ⟨1, (some 4), none, (.q (.mov (.t 17))), []⟩, ⟨2, (some 5), none, (.q (.mov (.k (.int .i64 0)))), []⟩]
@[simp] def b_RSide_12 (_ : Unit) : EB := reg0 (hid l_RSide_11) 3
@[simp] def b_RSide_13 (_ : Unit) : EB := .seq (hid b_RSide_12) .ret
@[simp] def b_RSide_14 (_ : Unit) : EB := .cond (.t 16) (hid b_RSide_13) .skip
@[simp] def b_RSide_15 (_ : Unit) : EB := .seq (hid b_RSide_10) (hid b_RSide_14)
@[simp] def b_RSide_16 (_ : Unit) : EB := .block 1 (hid b_RSide_15)
@[simp] def l_RSide_17 (_ : Unit) : List EOp := [⟨0, (some 9), none, (.q (.mov (.t 6))), []⟩, ⟨1, (some 10), none, (.q (.bin .add (.t 9) (.k (.int .i64 1)))), []⟩, ⟨2, (some 6), none, (.q (.mov (.t 10))), []⟩]
@[simp] def b_RSide_18 (_ : Unit) : EB := reg0 (hid l_RSide_17) 3
@[simp] def b_RSide_19 (_ : Unit) : EB := .seq (hid b_RSide_16) (hid b_RSide_18)
@[simp] def b_RSide_20 (_ : Unit) : EB := .seq (hid b_RSide_8) (hid b_RSide_19)
@[simp] def b_RSide_21 (_ : Unit) : EB := .loop (hid b_RSide_20)
@[simp] def b_RSide_22 (_ : Unit) : EB := .block 0 (hid b_RSide_21)
@[simp] def b_RSide_23 (_ : Unit) : EB := .seq (hid b_RSide_4) (hid b_RSide_22)
@[simp] def l_RSide_24 (_ : Unit) : List EOp := [⟨0, (some 4), none, (.q (.mov (.k (.int .i64 0)))), []⟩, ⟨1, (some 5), none, (.q (.mov (.k (.int .i64 33)))), []⟩]
@[simp] def b_RSide_25 (_ : Unit) : EB := reg0 (hid l_RSide_24) 2
@[simp] def b_RSide_26 (_ : Unit) : EB := .seq (hid b_RSide_25) .ret
@[simp] def b_RSide_27 (_ : Unit) : EB := .seq (hid b_RSide_23) (hid b_RSide_26)
@[simp] def b_RSide_28 (_ : Unit) : EB := .seq (hid b_RSide_2) (hid b_RSide_27)
set_option maxRecDepth 8000 in
set_option maxHeartbeats 4000000 in
theorem giveR_ok (r : Rte) (h1 : r.f.tx.length = 32) (h2 : r.s.tx.length = 32) : ECalls Tryz.prog 9 [RVv r] [] fun y H' => H' = [] ∧ y = RVv r := by
  have l0 := rteC_len h1 h2
  have t0 := rt_take h1 h2
  have d76 := rt_d76 h1 h2
  have t38 := rt_t38 h1
  have s38 := rt_s38 h1 h2
  have e79 := idx_of (rt_79 h1 h2) (by omega)
  have e80 := idx_of (rt_80 h1 h2) (by omega)
  have lf := prmC_len h1
  have ls := prmC_len h2
  refine ecalls k_giveR ?_
  simp [c_giveR, RVv, l0, t0, e79, e80, d76, t38, s38, iC]
  refine call0 (giveP_ok r.f h1) (by simp [PVv]) ?_
  rintro y H' ⟨rfl, rfl⟩
  refine ⟨.inl (by simp [PVv]), le_ok rfl, ?_⟩
  simp [PVv, l0, t0, e79, e80, d76, t38, s38, iC]
  refine call0 (giveP_ok r.s h2) (by simp [PVv]) ?_
  rintro y H' ⟨rfl, rfl⟩
  refine ⟨.inl (by simp [PVv]), le_ok rfl, ?_⟩
  simp [PVv, l0, t0, e79, e80, d76, t38, s38, lf, ls, iC]
  obtain ⟨c0, c1, c2, c3, c4, c5, c6, c7, c8, c9, c10, c11, c12, c13, c14, c15, c16, c17, c18, c19, c20, c21, c22, c23, c24, c25, c26, c27, c28, c29, c30, c31, hX⟩ := list32 (hc r.f.tx) (by rw [hc_len, h1])
  obtain ⟨d0, d1, d2, d3, d4, d5, d6, d7, d8, d9, d10, d11, d12, d13, d14, d15, d16, d17, d18, d19, d20, d21, d22, d23, d24, d25, d26, d27, d28, d29, d30, d31, hY⟩ := list32 (hc r.s.tx) (by rw [hc_len, h2])
  have hPf : prmC r.f = c0 :: c1 :: c2 :: c3 :: c4 :: c5 :: c6 :: c7 :: c8 :: c9 :: c10 :: c11 :: c12 :: c13 :: c14 :: c15 :: c16 :: c17 :: c18 :: c19 :: c20 :: c21 :: c22 :: c23 :: c24 :: c25 :: c26 :: c27 :: c28 :: c29 :: c30 :: c31 :: iC r.f.n :: iC r.f.am :: iC r.f.k0 :: iC r.f.k1 :: iC r.f.dl :: iC r.f.fe :: [] := by unfold prmC; rw [hX]; rfl
  have hPs : prmC r.s = d0 :: d1 :: d2 :: d3 :: d4 :: d5 :: d6 :: d7 :: d8 :: d9 :: d10 :: d11 :: d12 :: d13 :: d14 :: d15 :: d16 :: d17 :: d18 :: d19 :: d20 :: d21 :: d22 :: d23 :: d24 :: d25 :: d26 :: d27 :: d28 :: d29 :: d30 :: d31 :: iC r.s.n :: iC r.s.am :: iC r.s.k0 :: iC r.s.k1 :: iC r.s.dl :: iC r.s.fe :: [] := by unfold prmC; rw [hY]; rfl
  have hP : rteC r = c0 :: c1 :: c2 :: c3 :: c4 :: c5 :: c6 :: c7 :: c8 :: c9 :: c10 :: c11 :: c12 :: c13 :: c14 :: c15 :: c16 :: c17 :: c18 :: c19 :: c20 :: c21 :: c22 :: c23 :: c24 :: c25 :: c26 :: c27 :: c28 :: c29 :: c30 :: c31 :: iC r.f.n :: iC r.f.am :: iC r.f.k0 :: iC r.f.k1 :: iC r.f.dl :: iC r.f.fe :: d0 :: d1 :: d2 :: d3 :: d4 :: d5 :: d6 :: d7 :: d8 :: d9 :: d10 :: d11 :: d12 :: d13 :: d14 :: d15 :: d16 :: d17 :: d18 :: d19 :: d20 :: d21 :: d22 :: d23 :: d24 :: d25 :: d26 :: d27 :: d28 :: d29 :: d30 :: d31 :: iC r.s.n :: iC r.s.am :: iC r.s.k0 :: iC r.s.k1 :: iC r.s.dl :: iC r.s.fe :: iC r.a :: iC r.b :: iC r.c :: iC r.am :: iC r.fe :: [] := by unfold rteC; rw [hPf, hPs]; rfl
  rw [hPf, hPs]
  exact fin [] (by decide) (v := .v (.agg (c0 :: c1 :: c2 :: c3 :: c4 :: c5 :: c6 :: c7 :: c8 :: c9 :: c10 :: c11 :: c12 :: c13 :: c14 :: c15 :: c16 :: c17 :: c18 :: c19 :: c20 :: c21 :: c22 :: c23 :: c24 :: c25 :: c26 :: c27 :: c28 :: c29 :: c30 :: c31 :: iC r.f.n :: iC r.f.am :: iC r.f.k0 :: iC r.f.k1 :: iC r.f.dl :: iC r.f.fe :: d0 :: d1 :: d2 :: d3 :: d4 :: d5 :: d6 :: d7 :: d8 :: d9 :: d10 :: d11 :: d12 :: d13 :: d14 :: d15 :: d16 :: d17 :: d18 :: d19 :: d20 :: d21 :: d22 :: d23 :: d24 :: d25 :: d26 :: d27 :: d28 :: d29 :: d30 :: d31 :: iC r.s.n :: iC r.s.am :: iC r.s.k0 :: iC r.s.k1 :: iC r.s.dl :: iC r.s.fe :: iC r.a :: iC r.b :: iC r.c :: iC r.am :: iC r.fe :: []))) rfl (y := RVv r) (by rw [← hP]; simp [conR, conTs, conT, RVv]) rfl ⟨rfl, rfl⟩

end Go.Proofs.YtejjhgdnmknejaaGreatDoor

namespace Go.Proofs.YtejjhgdnmknejaaGreatDoor
open Go Go.EW
set_option linter.unusedSimpArgs false
set_option linter.unusedVariables false

@[simp] def l_RCheckV_1 (_ : Unit) : List EOp := [⟨0, (some 1), none, (.q (.box 31 (.t 0))), []⟩, ⟨1, (some 2), none, (.q (.mov (.k (.int .i64 0)))), []⟩]
@[simp] def b_RCheckV_2 (_ : Unit) : EB := reg0 (hid l_RCheckV_1) 2
@[simp] def l_RCheckV_3 (_ : Unit) : List EOp := [⟨0, (some 3), none, (.q (.mov (.k (.int .i64 0)))), []⟩]
@[simp] def b_RCheckV_4 (_ : Unit) : EB := reg0 (hid l_RCheckV_3) 1
@[simp] def l_RCheckV_5 (_ : Unit) : List EOp := [⟨0, (some 4), none, (.q (.mov (.t 3))), []⟩, ⟨1, (some 5), none, (.q (.bin .lss (.t 4) (.k (.int .i64 3)))), []⟩]
@[simp] def b_RCheckV_6 (_ : Unit) : EB := reg0 (hid l_RCheckV_5) 2
@[simp] def b_RCheckV_7 (_ : Unit) : EB := .cond (.t 5) .skip (.exit 0)
@[simp] def b_RCheckV_8 (_ : Unit) : EB := .seq (hid b_RCheckV_6) (hid b_RCheckV_7)
@[simp] def l_RCheckV_13 (_ : Unit) : List EOp := [⟨24, (some 32), none, (.q (.pick (.t 20) (.k (.bool true)) (.t 31))), []⟩]
@[simp] def l_RCheckV_12 (_ : Unit) : List EOp := ⟨18, (some 26), (some (20, false)), (.q (.bin .add (.t 25) (.k (.int .i64 1)))), []⟩ :: ⟨19, (some 27), (some (20, false)), (.q (.bin .rem (.t 26) (.k (.int .i64 3)))), []⟩ :: ⟨20, (some 28), (some (20, false)), (.q (.fad 76 (.t 1))), []⟩ :: ⟨21, (some 29), (some (20, false)), (.q (.iad 3 1 (.t 28) (.t 27))), []⟩ :: ⟨22, (some 30), (some (20, false)), (.q (.ldc (.t 29))), []⟩ :: ⟨23, (some 31), (some (20, false)), (.q (.bin .eql (.t 24) (.t 30))), []⟩ :: hid l_RCheckV_13
@[simp] def l_RCheckV_11 (_ : Unit) : List EOp := ⟨12, (some 20), none, (.q (.mov (.t 19))), []⟩ :: ⟨13, (some 21), (some (20, false)), (.q (.mov (.t 3))), []⟩ :: ⟨14, (some 22), (some (20, false)), (.q (.fad 76 (.t 1))), []⟩ :: ⟨15, (some 23), (some (20, false)), (.q (.iad 3 1 (.t 22) (.t 21))), []⟩ :: ⟨16, (some 24), (some (20, false)), (.q (.ldc (.t 23))), []⟩ :: ⟨17, (some 25), (some (20, false)), (.q (.mov (.t 3))), []⟩ :: hid l_RCheckV_12
@[simp] def l_RCheckV_10 (_ : Unit) : List EOp := ⟨6, (some 14), (some (13, false)), (.q (.mov (.t 3))), []⟩ :: ⟨7, (some 15), (some (13, false)), (.q (.fad 76 (.t 1))), []⟩ :: ⟨8, (some 16), (some (13, false)), (.q (.iad 3 1 (.t 15) (.t 14))), []⟩ :: ⟨9, (some 17), (some (13, false)), (.q (.ldc (.t 16))), []⟩ :: ⟨10, (some 18), (some (13, false)), (.q (.bin .gtr (.t 17) (.k (.int .i64 15)))), []⟩ :: ⟨11, (some 19), none, (.q (.pick (.t 13) (.k (.bool true)) (.t 18))), []⟩ :: hid l_RCheckV_11
@[simp] def l_RCheckV_9 (_ : Unit) : List EOp := ⟨0, (some 8), none, (.q (.mov (.t 3))), []⟩ :: ⟨1, (some 9), none, (.q (.fad 76 (.t 1))), []⟩ :: ⟨2, (some 10), none, (.q (.iad 3 1 (.t 9) (.t 8))), []⟩ :: ⟨3, (some 11), none, (.q (.ldc (.t 10))), []⟩ :: ⟨4, (some 12), none, (.q (.bin .lss (.t 11) (.k (.int .i64 0)))), []⟩ :: ⟨5, (some 13), none, (.q (.mov (.t 12))), []⟩ :: hid l_RCheckV_10
@[simp] def b_RCheckV_14 (_ : Unit) : EB := reg0 (hid l_RCheckV_9) 25
@[simp] def l_RCheckV_15 (_ : Unit) : List EOp := [⟨0, (some 2), none, (.q (.mov (.k (.int .i64 33)))), []⟩]
@[simp] def b_RCheckV_16 (_ : Unit) : EB := reg0 (hid l_RCheckV_15) 1
@[simp] def b_RCheckV_17 (_ : Unit) : EB := .seq (hid b_RCheckV_16) .ret
@[simp] def b_RCheckV_18 (_ : Unit) : EB := .cond (.t 32) (hid b_RCheckV_17) .skip
@[simp] def b_RCheckV_19 (_ : Unit) : EB := .seq (hid b_RCheckV_14) (hid b_RCheckV_18)
@[simp] def b_RCheckV_20 (_ : Unit) : EB := .block 1 (hid b_RCheckV_19)
@[simp] def l_RCheckV_21 (_ : Unit) : List EOp := [⟨0, (some 6), none, (.q (.mov (.t 3))), []⟩, ⟨1, (some 7), none, (.q (.bin .add (.t 6) (.k (.int .i64 1)))), []⟩, ⟨2, (some 3), none, (.q (.mov (.t 7))), []⟩]
@[simp] def b_RCheckV_22 (_ : Unit) : EB := reg0 (hid l_RCheckV_21) 3
@[simp] def b_RCheckV_23 (_ : Unit) : EB := .seq (hid b_RCheckV_20) (hid b_RCheckV_22)
@[simp] def b_RCheckV_24 (_ : Unit) : EB := .seq (hid b_RCheckV_8) (hid b_RCheckV_23)
@[simp] def b_RCheckV_25 (_ : Unit) : EB := .loop (hid b_RCheckV_24)
@[simp] def b_RCheckV_26 (_ : Unit) : EB := .block 0 (hid b_RCheckV_25)
@[simp] def b_RCheckV_27 (_ : Unit) : EB := .seq (hid b_RCheckV_4) (hid b_RCheckV_26)
@[simp] def l_RCheckV_31 (_ : Unit) : List EOp := [⟨18, (some 51), (some (43, false)), (.q (.ldc (.t 50))), []⟩, ⟨19, (some 52), (some (43, false)), (.call 51 [(.t 45), (.t 48), (.t 51)]), []⟩, ⟨20, (some 53), (some (43, false)), (.q (.un .not (.t 52))), []⟩, ⟨21, (some 54), none, (.q (.pick (.t 43) (.k (.bool true)) (.t 53))), []⟩]
@[simp] def l_RCheckV_30 (_ : Unit) : List EOp := ⟨12, (some 45), (some (43, false)), (.q (.lda 38 (.t 44))), []⟩ :: ⟨13, (some 46), (some (43, false)), (.q (.fad 76 (.t 1))), []⟩ :: ⟨14, (some 47), (some (43, false)), (.q (.iad 3 1 (.t 46) (.k (.int .i64 1)))), []⟩ :: ⟨15, (some 48), (some (43, false)), (.q (.ldc (.t 47))), []⟩ :: ⟨16, (some 49), (some (43, false)), (.q (.fad 76 (.t 1))), []⟩ :: ⟨17, (some 50), (some (43, false)), (.q (.iad 3 1 (.t 49) (.k (.int .i64 2)))), []⟩ :: hid l_RCheckV_31
@[simp] def l_RCheckV_29 (_ : Unit) : List EOp := ⟨6, (some 39), none, (.q (.iad 3 1 (.t 38) (.k (.int .i64 1)))), []⟩ :: ⟨7, (some 40), none, (.q (.ldc (.t 39))), []⟩ :: ⟨8, (some 41), none, (.call 51 [(.t 34), (.t 37), (.t 40)]), []⟩ :: ⟨9, (some 42), none, (.q (.un .not (.t 41))), []⟩ :: ⟨10, (some 43), none, (.q (.mov (.t 42))), []⟩ :: ⟨11, (some 44), (some (43, false)), (.q (.fad 38 (.t 1))), []⟩ :: hid l_RCheckV_30
@[simp] def l_RCheckV_28 (_ : Unit) : List EOp := ⟨0, (some 33), none, (.q (.fad 0 (.t 1))), []⟩ :: ⟨1, (some 34), none, (.q (.lda 38 (.t 33))), []⟩ :: ⟨2, (some 35), none, (.q (.fad 76 (.t 1))), []⟩ :: ⟨3, (some 36), none, (.q (.iad 3 1 (.t 35) (.k (.int .i64 0)))), []⟩ :: ⟨4, (some 37), none, (.q (.ldc (.t 36))), []⟩ :: ⟨5, (some 38), none, (.q (.fad 76 (.t 1))), []⟩ :: hid l_RCheckV_29
@[simp] def b_RCheckV_32 (_ : Unit) : EB := reg0 (hid l_RCheckV_28) 22
@[simp] def l_RCheckV_33 (_ : Unit) : List EOp := [⟨0, (some 2), none, (.q (.mov (.k (.int .i64 33)))), []⟩]
@[simp] def b_RCheckV_34 (_ : Unit) : EB := reg0 (hid l_RCheckV_33) 1
@[simp] def b_RCheckV_35 (_ : Unit) : EB := .seq (hid b_RCheckV_34) .ret
@[simp] def b_RCheckV_36 (_ : Unit) : EB := .cond (.t 54) (hid b_RCheckV_35) .skip
@[simp] def b_RCheckV_37 (_ : Unit) : EB := .seq (hid b_RCheckV_32) (hid b_RCheckV_36)
@[simp] def l_RCheckV_40 (_ : Unit) : List EOp := [⟨12, (some 67), none, (.q (.pick (.t 63) (.k (.bool true)) (.t 66))), []⟩]
@[simp] def l_RCheckV_39 (_ : Unit) : List EOp := ⟨6, (some 61), (some (58, false)), (.q (.bin .gtr (.t 60) (.k (.int .i64 1125899906842624)))), []⟩ :: ⟨7, (some 62), none, (.q (.pick (.t 58) (.k (.bool true)) (.t 61))), []⟩ :: ⟨8, (some 63), none, (.q (.mov (.t 62))), []⟩ :: ⟨9, (some 64), (some (63, false)), (.q (.fad 79 (.t 1))), []⟩ :: ⟨10, (some 65), (some (63, false)), (.q (.ldc (.t 64))), []⟩ :: ⟨11, (some 66), (some (63, false)), (.q (.bin .gtr (.t 65) (.k (.int .i64 1125899906842624)))), []⟩ :: hid l_RCheckV_40
@[simp] def l_RCheckV_38 (_ : Unit) : List EOp := ⟨0, (some 55), none, (.q (.fad 80 (.t 1))), []⟩ :: ⟨1, (some 56), none, (.q (.ldc (.t 55))), []⟩ :: ⟨2, (some 57), none, (.q (.bin .lss (.t 56) (.k (.int .i64 0)))), []⟩ :: ⟨3, (some 58), none, (.q (.mov (.t 57))), []⟩ :: ⟨4, (some 59), (some (58, false)), (.q (.fad 80 (.t 1))), []⟩ :: ⟨5, (some 60), (some (58, false)), (.q (.ldc (.t 59))), []⟩ :: hid l_RCheckV_39
@[simp] def b_RCheckV_41 (_ : Unit) : EB := reg0 (hid l_RCheckV_38) 13
@[simp] def l_RCheckV_42 (_ : Unit) : List EOp := [⟨0, (some 2), none, (.q (.mov (.k (.int .i64 1)))), []⟩]
@[simp] def b_RCheckV_43 (_ : Unit) : EB := reg0 (hid l_RCheckV_42) 1
@[simp] def b_RCheckV_44 (_ : Unit) : EB := .seq (hid b_RCheckV_43) .ret
@[simp] def b_RCheckV_45 (_ : Unit) : EB := .cond (.t 67) (hid b_RCheckV_44) .skip
@[simp] def b_RCheckV_46 (_ : Unit) : EB := .seq (hid b_RCheckV_41) (hid b_RCheckV_45)
@[simp] def l_RCheckV_48 (_ : Unit) : List EOp := [⟨6, (some 74), (some (71, false)), (.q (.fad 80 (.t 1))), []⟩, ⟨7, (some 75), (some (71, false)), (.q (.ldc (.t 74))), []⟩, ⟨8, (some 76), (some (71, false)), (.q (.bin .sub (.t 73) (.t 75))), []⟩, ⟨9, (some 77), (some (71, false)), (.q (.bin .lss (.t 76) (.k (.int .i64 10)))), []⟩, ⟨10, (some 78), none, (.q (.pick (.t 71) (.k (.bool true)) (.t 77))), []⟩]
@[simp] def l_RCheckV_47 (_ : Unit) : List EOp := ⟨0, (some 68), none, (.q (.fad 79 (.t 1))), []⟩ :: ⟨1, (some 69), none, (.q (.ldc (.t 68))), []⟩ :: ⟨2, (some 70), none, (.q (.bin .lss (.t 69) (.k (.int .i64 10)))), []⟩ :: ⟨3, (some 71), none, (.q (.mov (.t 70))), []⟩ :: ⟨4, (some 72), (some (71, false)), (.q (.fad 79 (.t 1))), []⟩ :: ⟨5, (some 73), (some (71, false)), (.q (.ldc (.t 72))), []⟩ :: hid l_RCheckV_48
@[simp] def b_RCheckV_49 (_ : Unit) : EB := reg0 (hid l_RCheckV_47) 11
@[simp] def l_RCheckV_50 (_ : Unit) : List EOp := [⟨0, (some 2), none, (.q (.mov (.k (.int .i64 27)))), []⟩]
@[simp] def b_RCheckV_51 (_ : Unit) : EB := reg0 (hid l_RCheckV_50) 1
@[simp] def b_RCheckV_52 (_ : Unit) : EB := .seq (hid b_RCheckV_51) .ret
@[simp] def b_RCheckV_53 (_ : Unit) : EB := .cond (.t 78) (hid b_RCheckV_52) .skip
@[simp] def b_RCheckV_54 (_ : Unit) : EB := .seq (hid b_RCheckV_49) (hid b_RCheckV_53)
@[simp] def l_RCheckV_55 (_ : Unit) : List EOp := [⟨0, (some 2), none, (.q (.mov (.k (.int .i64 0)))), []⟩]
@[simp] def b_RCheckV_56 (_ : Unit) : EB := reg0 (hid l_RCheckV_55) 1
@[simp] def b_RCheckV_57 (_ : Unit) : EB := .seq (hid b_RCheckV_56) .ret
@[simp] def b_RCheckV_58 (_ : Unit) : EB := .seq (hid b_RCheckV_54) (hid b_RCheckV_57)
@[simp] def b_RCheckV_59 (_ : Unit) : EB := .seq (hid b_RCheckV_46) (hid b_RCheckV_58)
@[simp] def b_RCheckV_60 (_ : Unit) : EB := .seq (hid b_RCheckV_37) (hid b_RCheckV_59)
@[simp] def b_RCheckV_61 (_ : Unit) : EB := .seq (hid b_RCheckV_27) (hid b_RCheckV_60)
@[simp] def b_RCheckV_62 (_ : Unit) : EB := .seq (hid b_RCheckV_2) (hid b_RCheckV_61)
def c_RCheckV : EB × List QOp × Nat := ((hid b_RCheckV_62), [(.mov (.t 2))], 79)
theorem k_RCheckV : cfun Tryz.prog 16 = some c_RCheckV := by kernel_rfl


def endV (x y : Int) : Prop := 0 ≤ x ∧ x < 16 ∧ ¬ x = y
structure RcI (r : Rte) (i : Nat) : Prop where
  le : i ≤ 3
  a : 0 < i → endV r.a r.b
  b : 1 < i → endV r.b r.c
  c : 2 < i → endV r.c r.a
theorem chk_33 {r : Rte} (h : ¬ prtV r) : chkV r = 33 := by unfold chkV; rw [if_pos h]

set_option maxHeartbeats 8000000 in
theorem RCheckV_ok (r : Rte) (hr : r.ok) : ECalls Tryz.prog 16 [RVv r] [] fun y H' => H' = [] ∧ y = I .i64 (chkV r) := by
  obtain ⟨⟨h1, _⟩, ⟨h2, _⟩, ⟨ha0, ha1⟩, ⟨hb0, hb1⟩, ⟨hc0, hc1⟩, ⟨hm0, hm1⟩, ⟨hf0, hf1⟩⟩ := id hr
  have l0 := rteC_len h1 h2
  have t0 := rt_take h1 h2
  have t38 := rt_t38 h1
  have s38 := rt_s38 h1 h2
  have e76 := idx_of (rt_76 h1 h2) (by omega)
  have e77 := idx_of (rt_77 h1 h2) (by omega)
  have e78 := idx_of (rt_78 h1 h2) (by omega)
  have e79 := idx_of (rt_79 h1 h2) (by omega)
  have e80 := idx_of (rt_80 h1 h2) (by omega)
  have w1 : IntKind.i64.wrap 1 = 1 := by decide +kernel
  have w2 : IntKind.i64.wrap 2 = 2 := by decide +kernel
  have w3 : IntKind.i64.wrap (1 + 1) = 2 := by decide +kernel
  have w4 : IntKind.i64.wrap (2 + 1) = 3 := by decide +kernel
  have w5 : IntKind.i64.wrap 3 = 3 := by decide +kernel
  have w6 : IntKind.i64.wrap 0 = 0 := by decide +kernel
  have w7 : IntKind.i64.wrap (0 + 1) = 1 := by decide +kernel
  refine ecalls k_RCheckV ?_
  simp [c_RCheckV, RVv, I, l0, t0, e76, e77, e78, e79, e80, t38, s38, iC]
  refine eloop (α := Nat) (RcI r) (fun i => 3 - i) (fun i => [RVv r, .v (.c (.ptr 0 0)), I .i64 0, I .i64 i, .any, .any, .any, .any, .any, .any, .any, .any, .any, .any, .any, .any, .any, .any, .any, .any, .any, .any, .any, .any, .any, .any, .any, .any, .any, .any, .any, .any, .any, .any, .any, .any, .any, .any, .any, .any, .any, .any, .any, .any, .any, .any, .any, .any, .any, .any, .any, .any, .any, .any, .any, .any, .any, .any, .any, .any, .any, .any, .any, .any, .any, .any, .any, .any, .any, .any, .any, .any, .any, .any, .any, .any, .any, .any, .any]) (fun _ => [some (.box 31 (rteC r))]) 0 [0]
    ⟨by omega, by omega, by omega, by omega⟩ (by simp [I, RVv, t0]) (by simp) (by simp) (by simp) (by simp) ?_
  intro i hi
  rcases (by have := hi.le; omega : i = 0 ∨ i = 1 ∨ i = 2 ∨ i = 3) with rfl | rfl | rfl | rfl
  · have hp : ∀ q : ¬ endV r.a r.b, chkV r = 33 := fun q => chk_33 (fun h => q (by obtain ⟨⟨_, _⟩, ⟨_, _⟩, ⟨_, _⟩, _, _, _, _, _⟩ := h; exact ⟨by omega, by omega, by omega⟩))
    by_cases z1 : r.a < 0
    · have z1' : ¬ 0 ≤ r.a := by omega
      rw [hp (fun h => by obtain ⟨_, _, _⟩ := h; omega)]
      simp [I, RVv, l0, t0, e76, e77, e78, e79, e80, t38, s38, iC, w1, w2, w3, w4, w5, w6, w7, z1, z1']
      exact fin [] (by decide) rfl rfl rfl ⟨rfl, rfl⟩
    have z1' : 0 ≤ r.a := by omega
    by_cases z2 : 15 < r.a
    · have z2' : ¬ r.a ≤ 15 := by omega
      rw [hp (fun h => by obtain ⟨_, _, _⟩ := h; omega)]
      simp [I, RVv, l0, t0, e76, e77, e78, e79, e80, t38, s38, iC, w1, w2, w3, w4, w5, w6, w7, z1, z1', z2, z2']
      exact fin [] (by decide) rfl rfl rfl ⟨rfl, rfl⟩
    have z2' : r.a ≤ 15 := by omega
    by_cases z3 : r.a = r.b
    · have z3' : r.b = r.a := z3.symm
      rw [hp (fun h => by obtain ⟨_, _, _⟩ := h; omega)]
      simp [I, RVv, l0, t0, e76, e77, e78, e79, e80, t38, s38, iC, w1, w2, w3, w4, w5, w6, w7, z1, z1', z2, z2', z3']
      exact fin [] (by decide) rfl rfl rfl ⟨rfl, rfl⟩
    have z3' : ¬ r.b = r.a := fun h => z3 h.symm
    simp [I, RVv, l0, t0, e76, e77, e78, e79, e80, t38, s38, iC, w1, w2, w3, w4, w5, w6, w7, z1, z1', z2, z2', z3]
    exact round 1 [0] ⟨by omega, fun _ => ⟨by omega, by omega, z3⟩, by omega, by omega⟩ (by omega) (by simp [I, RVv]) (by simp [RVv]) (by simp) (by simp) (by simp)
  · have hp : ∀ q : ¬ endV r.b r.c, chkV r = 33 := fun q => chk_33 (fun h => q (by obtain ⟨⟨_, _⟩, ⟨_, _⟩, ⟨_, _⟩, _, _, _, _, _⟩ := h; exact ⟨by omega, by omega, by omega⟩))
    by_cases z1 : r.b < 0
    · have z1' : ¬ 0 ≤ r.b := by omega
      rw [hp (fun h => by obtain ⟨_, _, _⟩ := h; omega)]
      simp [I, RVv, l0, t0, e76, e77, e78, e79, e80, t38, s38, iC, w1, w2, w3, w4, w5, w6, w7, z1, z1']
      exact fin [] (by decide) rfl rfl rfl ⟨rfl, rfl⟩
    have z1' : 0 ≤ r.b := by omega
    by_cases z2 : 15 < r.b
    · have z2' : ¬ r.b ≤ 15 := by omega
      rw [hp (fun h => by obtain ⟨_, _, _⟩ := h; omega)]
      simp [I, RVv, l0, t0, e76, e77, e78, e79, e80, t38, s38, iC, w1, w2, w3, w4, w5, w6, w7, z1, z1', z2, z2']
      exact fin [] (by decide) rfl rfl rfl ⟨rfl, rfl⟩
    have z2' : r.b ≤ 15 := by omega
    by_cases z3 : r.b = r.c
    · have z3' : r.c = r.b := z3.symm
      rw [hp (fun h => by obtain ⟨_, _, _⟩ := h; omega)]
      simp [I, RVv, l0, t0, e76, e77, e78, e79, e80, t38, s38, iC, w1, w2, w3, w4, w5, w6, w7, z1, z1', z2, z2', z3']
      exact fin [] (by decide) rfl rfl rfl ⟨rfl, rfl⟩
    have z3' : ¬ r.c = r.b := fun h => z3 h.symm
    simp [I, RVv, l0, t0, e76, e77, e78, e79, e80, t38, s38, iC, w1, w2, w3, w4, w5, w6, w7, z1, z1', z2, z2', z3]
    exact round 2 [0] ⟨by omega, fun _ => hi.a (by omega), fun _ => ⟨by omega, by omega, z3⟩, by omega⟩ (by omega) (by simp [I, RVv]) (by simp [RVv]) (by simp) (by simp) (by simp)
  · have hp : ∀ q : ¬ endV r.c r.a, chkV r = 33 := fun q => chk_33 (fun h => q (by obtain ⟨⟨_, _⟩, ⟨_, _⟩, ⟨_, _⟩, _, _, _, _, _⟩ := h; exact ⟨by omega, by omega, by omega⟩))
    by_cases z1 : r.c < 0
    · have z1' : ¬ 0 ≤ r.c := by omega
      rw [hp (fun h => by obtain ⟨_, _, _⟩ := h; omega)]
      simp [I, RVv, l0, t0, e76, e77, e78, e79, e80, t38, s38, iC, w1, w2, w3, w4, w5, w6, w7, z1, z1']
      exact fin [] (by decide) rfl rfl rfl ⟨rfl, rfl⟩
    have z1' : 0 ≤ r.c := by omega
    by_cases z2 : 15 < r.c
    · have z2' : ¬ r.c ≤ 15 := by omega
      rw [hp (fun h => by obtain ⟨_, _, _⟩ := h; omega)]
      simp [I, RVv, l0, t0, e76, e77, e78, e79, e80, t38, s38, iC, w1, w2, w3, w4, w5, w6, w7, z1, z1', z2, z2']
      exact fin [] (by decide) rfl rfl rfl ⟨rfl, rfl⟩
    have z2' : r.c ≤ 15 := by omega
    by_cases z3 : r.c = r.a
    · have z3' : r.a = r.c := z3.symm
      rw [hp (fun h => by obtain ⟨_, _, _⟩ := h; omega)]
      simp [I, RVv, l0, t0, e76, e77, e78, e79, e80, t38, s38, iC, w1, w2, w3, w4, w5, w6, w7, z1, z1', z2, z2', z3']
      exact fin [] (by decide) rfl rfl rfl ⟨rfl, rfl⟩
    have z3' : ¬ r.a = r.c := fun h => z3 h.symm
    simp [I, RVv, l0, t0, e76, e77, e78, e79, e80, t38, s38, iC, w1, w2, w3, w4, w5, w6, w7, z1, z1', z2, z2', z3]
    exact round 3 [0] ⟨by omega, fun _ => hi.a (by omega), fun _ => hi.b (by omega), fun _ => ⟨by omega, by omega, z3⟩⟩ (by omega) (by simp [I, RVv]) (by simp [RVv]) (by simp) (by simp) (by simp)
  · obtain ⟨qa1, qa2, qa3⟩ := hi.a (by omega)
    obtain ⟨qb1, qb2, qb3⟩ := hi.b (by omega)
    obtain ⟨qc1, qc2, qc3⟩ := hi.c (by omega)
    simp [I, RVv, l0, t0, e76, e77, e78, e79, e80, t38, s38, iC, w1, w2, w3, w4, w5, w6, w7]
    refine call0 (Rpair_ok r.f r.a r.b h1) (by simp [PVv, I]) ?_
    rintro y H' ⟨rfl, rfl⟩
    refine ⟨.inl (by simp), le_ok rfl, ?_⟩
    by_cases q6 : ofV r.f r.a r.b = true
    rotate_left
    · have q6' : ofV r.f r.a r.b = false := by simpa using q6
      rw [q6']
      rw [show chkV r = 33 by exact chk_33 (fun h => q6 h.2.2.2.2.2.2.1)]
      simp [I, RVv, l0, t0, e76, e77, e78, e79, e80, t38, s38, iC, w1, w2, w3, w4, w5, w6, w7, q6']
      exact fin [] (by decide) rfl rfl rfl ⟨rfl, rfl⟩
    rw [q6]
    simp [I, RVv, l0, t0, e76, e77, e78, e79, e80, t38, s38, iC, w1, w2, w3, w4, w5, w6, w7]
    refine call0 (Rpair_ok r.s r.b r.c h2) (by simp [PVv, I]) ?_
    rintro y H' ⟨rfl, rfl⟩
    refine ⟨.inl (by simp), le_ok rfl, ?_⟩
    by_cases q7 : ofV r.s r.b r.c = true
    rotate_left
    · have q7' : ofV r.s r.b r.c = false := by simpa using q7
      rw [q7']
      rw [show chkV r = 33 by exact chk_33 (fun h => q7 h.2.2.2.2.2.2.2)]
      simp [I, RVv, l0, t0, e76, e77, e78, e79, e80, t38, s38, iC, w1, w2, w3, w4, w5, w6, w7, q7']
      exact fin [] (by decide) rfl rfl rfl ⟨rfl, rfl⟩
    rw [q7]
    have hp : ¬ ¬ prtV r := fun h => h ⟨⟨qa1, qa2⟩, ⟨qb1, qb2⟩, ⟨qc1, qc2⟩, qa3, qb3, fun h => qc3 h.symm, q6, q7⟩
    by_cases z0 : r.fe < 0
    · have z0n : ¬ 0 ≤ r.fe := by omega
      rw [show chkV r = 1 by unfold chkV; rw [if_neg hp, if_pos (.inl z0)]]
      simp [I, RVv, l0, t0, e76, e77, e78, e79, e80, t38, s38, iC, w1, w2, w3, w4, w5, w6, w7, z0, z0n]
      exact fin [] (by decide) rfl rfl rfl ⟨rfl, rfl⟩
    have z0p : 0 ≤ r.fe := by omega
    by_cases z1 : 1125899906842624 < r.fe
    · have z1n : ¬ r.fe ≤ 1125899906842624 := by omega
      rw [show chkV r = 1 by unfold chkV; rw [if_neg hp, if_pos (.inr (.inl z1))]]
      simp [I, RVv, l0, t0, e76, e77, e78, e79, e80, t38, s38, iC, w1, w2, w3, w4, w5, w6, w7, z0, z0p, z1, z1n]
      exact fin [] (by decide) rfl rfl rfl ⟨rfl, rfl⟩
    have z1p : r.fe ≤ 1125899906842624 := by omega
    by_cases z2 : 1125899906842624 < r.am
    · have z2n : ¬ r.am ≤ 1125899906842624 := by omega
      rw [show chkV r = 1 by unfold chkV; rw [if_neg hp, if_pos (.inr (.inr z2))]]
      simp [I, RVv, l0, t0, e76, e77, e78, e79, e80, t38, s38, iC, w1, w2, w3, w4, w5, w6, w7, z0, z0p, z1, z1p, z2, z2n]
      exact fin [] (by decide) rfl rfl rfl ⟨rfl, rfl⟩
    have z2p : r.am ≤ 1125899906842624 := by omega
    by_cases z3 : r.am < 10
    · have z3n : ¬ 10 ≤ r.am := by omega
      rw [show chkV r = 27 by unfold chkV; rw [if_neg hp, if_neg (by omega), if_pos (by omega)]]
      simp [I, RVv, l0, t0, e76, e77, e78, e79, e80, t38, s38, iC, w1, w2, w3, w4, w5, w6, w7, z0, z0p, z1, z1p, z2, z2p, z3, z3n]
      exact fin [] (by decide) rfl rfl rfl ⟨rfl, rfl⟩
    have z3p : 10 ≤ r.am := by omega
    have wS : IntKind.i64.wrap (r.am - r.fe) = r.am - r.fe := wrap_i64 (by omega) (by omega)
    by_cases z4 : r.am - r.fe < 10
    · have z4n : ¬ 10 ≤ r.am - r.fe := by omega
      rw [show chkV r = 27 by unfold chkV; rw [if_neg hp, if_neg (by omega), if_pos (by omega)]]
      simp [I, RVv, l0, t0, e76, e77, e78, e79, e80, t38, s38, iC, w1, w2, w3, w4, w5, w6, w7, z0, z0p, z1, z1p, z2, z2p, z3, z3p, wS, z4, z4n]
      exact fin [] (by decide) rfl rfl rfl ⟨rfl, rfl⟩
    have z4p : 10 ≤ r.am - r.fe := by omega
    rw [show chkV r = 0 by unfold chkV; rw [if_neg hp, if_neg (by omega), if_neg (by omega)]]
    simp [I, RVv, l0, t0, e76, e77, e78, e79, e80, t38, s38, iC, w1, w2, w3, w4, w5, w6, w7, z0, z0p, z1, z1p, z2, z2p, z3, z3p, wS, z4, z4p]
    exact fin [] (by decide) rfl rfl rfl ⟨rfl, rfl⟩

end Go.Proofs.YtejjhgdnmknejaaGreatDoor

namespace Go.Proofs.YtejjhgdnmknejaaGreatDoor
open Go Go.EW
set_option linter.unusedSimpArgs false
set_option linter.unusedVariables false

@[simp] def l_VOff_1 (_ : Unit) : List EOp := [⟨0, (some 3), none, (.q (.box 44 (.t 0))), []⟩, ⟨1, (some 4), none, (.q (.box 40 (.t 1))), []⟩, ⟨2, (some 5), none, (.q (.box 40 (.t 2))), []⟩, ⟨3, (some 6), none, (.q (.alloc 71 [(.int .i64 0), (.slice none 0 0), (.slice none 0 0)])), []⟩, ⟨4, (some 7), none, (.q (.mov (.k .nilIface))), []⟩]
@[simp] def b_VOff_2 (_ : Unit) : EB := reg0 (hid l_VOff_1) 5
@[simp] def l_VOff_3 (_ : Unit) : List EOp := [⟨0, (some 11), none, (.q (.lda 81 (.t 3))), []⟩, ⟨1, (some 12), none, (.call 15 [(.t 11)]), []⟩, ⟨2, (some 8), none, (.q (.mov (.t 12))), []⟩]
@[simp] def b_VOff_4 (_ : Unit) : EB := reg0 (hid l_VOff_3) 3
@[simp] def l_VOff_5 (_ : Unit) : List EOp := [⟨0, (some 13), none, (.q (.mov (.t 8))), []⟩, ⟨1, (some 14), none, (.q (.eqi true (.t 13))), []⟩]
@[simp] def b_VOff_6 (_ : Unit) : EB := reg0 (hid l_VOff_5) 2
@[simp] def l_VOff_7 (_ : Unit) : List EOp := [⟨0, (some 15), none, (.q (.build [(.int .i64 0), (.slice none 0 0), (.slice none 0 0)] [])), []⟩, ⟨1, (some 16), none, (.q (.mov (.t 8))), []⟩, ⟨2, none, none, (.fz (.sto 3 (.t 6) (.t 15))), []⟩, ⟨3, (some 7), none, (.q (.mov (.t 16))), []⟩]
@[simp] def b_VOff_8 (_ : Unit) : EB := reg0 (hid l_VOff_7) 4
@[simp] def b_VOff_9 (_ : Unit) : EB := .seq (hid b_VOff_8) .ret
@[simp] def b_VOff_10 (_ : Unit) : EB := .cond (.t 14) (hid b_VOff_9) .skip
@[simp] def b_VOff_11 (_ : Unit) : EB := .seq (hid b_VOff_6) (hid b_VOff_10)
@[simp] def b_VOff_12 (_ : Unit) : EB := .seq (hid b_VOff_4) (hid b_VOff_11)
@[simp] def l_VOff_18 (_ : Unit) : List EOp := [⟨30, none, none, (.sto 3 (.t 9) (.t 45)), []⟩]
@[simp] def l_VOff_17 (_ : Unit) : List EOp := ⟨14, (some 31), none, (.call 36 [(.t 30)]), [0, 1, 2, 3, 4, 5, 6, 16, 17, 18, 19, 20, 21, 22, 23, 24, 29]⟩ :: ⟨15, (some 32), none, (.q (.build [(.int .i64 0), (.slice none 0 0)] [(0, 1, (.t 23)), (1, 1, (.t 31))])), []⟩ :: ⟨25, (some 42), none, (.call 36 [(.t 41)]), [0, 1, 2, 3, 4, 5, 6, 16, 17, 18, 19, 20, 29, 15]⟩ :: ⟨26, (some 43), none, (.q (.build [(.int .i64 0), (.slice none 0 0)] [(0, 1, (.t 37)), (1, 1, (.t 42))])), []⟩ :: ⟨27, (some 44), none, (.q (.bsl 2 [(.int .i64 0), (.slice none 0 0)] 2 [(0, (.t 32)), (1, (.t 43))])), []⟩ :: ⟨28, (some 45), none, (.q (.build [(.int .i64 0), (.slice none 0 0), (.slice none 0 0)] [(1, 1, (.t 21)), (2, 1, (.t 44))])), []⟩ :: hid l_VOff_18
@[simp] def l_VOff_16 (_ : Unit) : List EOp := ⟨20, (some 37), none, (.q (.bin .sub (.t 34) (.t 36))), []⟩ :: ⟨21, (some 38), none, (.q (.fad 76 (.t 3))), []⟩ :: ⟨22, (some 39), none, (.q (.iad 3 1 (.t 38) (.k (.int .i64 1)))), []⟩ :: ⟨23, (some 40), none, (.q (.ldc (.t 39))), []⟩ :: ⟨24, (some 41), none, (.q (.bsl 1 [(.int .i64 0)] 1 [(0, (.t 40))])), []⟩ :: ⟨29, (some 9), none, (.q (.alloc 71 [(.int .i64 0), (.slice none 0 0), (.slice none 0 0)])), []⟩ :: hid l_VOff_17
@[simp] def l_VOff_15 (_ : Unit) : List EOp := ⟨12, (some 29), none, (.q (.ldc (.t 28))), []⟩ :: ⟨13, (some 30), none, (.q (.bsl 1 [(.int .i64 0)] 2 [(0, (.t 26)), (1, (.t 29))])), []⟩ :: ⟨16, (some 33), none, (.q (.fad 79 (.t 3))), []⟩ :: ⟨17, (some 34), none, (.q (.ldc (.t 33))), []⟩ :: ⟨18, (some 35), none, (.q (.fad 80 (.t 3))), []⟩ :: ⟨19, (some 36), none, (.q (.ldc (.t 35))), []⟩ :: hid l_VOff_16
@[simp] def l_VOff_14 (_ : Unit) : List EOp := ⟨6, (some 23), none, (.q (.ldc (.t 22))), []⟩ :: ⟨7, (some 24), none, (.q (.fad 76 (.t 3))), []⟩ :: ⟨8, (some 25), none, (.q (.iad 3 1 (.t 24) (.k (.int .i64 0)))), []⟩ :: ⟨9, (some 26), none, (.q (.ldc (.t 25))), []⟩ :: ⟨10, (some 27), none, (.q (.fad 76 (.t 3))), []⟩ :: ⟨11, (some 28), none, (.q (.iad 3 1 (.t 27) (.k (.int .i64 2)))), []⟩ :: hid l_VOff_15
@[simp] def l_VOff_13 (_ : Unit) : List EOp := ⟨0, (some 17), none, (.q (.lda 33 (.t 4))), []⟩ :: ⟨1, (some 18), none, (.q (.build (zU8 ++ [(.int .i64 0), (.int .i64 0), (.slice none 0 0)]) [(0, 33, (.t 17))])), []⟩ :: ⟨2, (some 19), none, (.q (.lda 33 (.t 5))), []⟩ :: ⟨3, (some 20), none, (.q (.build (zU8 ++ [(.int .i64 0), (.int .i64 0), (.slice none 0 0)]) [(0, 33, (.t 19))])), []⟩ :: ⟨4, (some 21), none, (.q (.bsl 35 (zU8 ++ [(.int .i64 0), (.int .i64 0), (.slice none 0 0)]) 2 [(0, (.t 18)), (1, (.t 20))])), []⟩ :: ⟨5, (some 22), none, (.q (.fad 79 (.t 3))), []⟩ :: hid l_VOff_14
@[simp] def b_VOff_19 (_ : Unit) : EB := reg1 (hid l_VOff_13) 31
@[simp] def l_VOff_20 (_ : Unit) : List EOp := [⟨0, (some 46), none, (.q (.lda 3 (.t 9))), []⟩, ⟨1, (some 47), none, (.call 57 [(.t 46)]), []⟩, ⟨2, (some 10), none, (.q (.mov (.t 47))), []⟩]
@[simp] def b_VOff_21 (_ : Unit) : EB := reg0 (hid l_VOff_20) 3
@[simp] def l_VOff_22 (_ : Unit) : List EOp := [⟨0, (some 48), none, (.q (.mov (.t 10))), []⟩, ⟨1, (some 49), none, (.q (.eqi true (.t 48))), []⟩]
@[simp] def b_VOff_23 (_ : Unit) : EB := reg0 (hid l_VOff_22) 2
@[simp] def l_VOff_24 (_ : Unit) : List EOp := [⟨0, (some 50), none, (.q (.build [(.int .i64 0), (.slice none 0 0), (.slice none 0 0)] [])), []⟩, ⟨1, (some 51), none, (.q (.mov (.t 10))), []⟩, ⟨2, none, none, (.fz (.sto 3 (.t 6) (.t 50))), []⟩, ⟨3, (some 7), none, (.q (.mov (.t 51))), []⟩]
@[simp] def b_VOff_25 (_ : Unit) : EB := reg0 (hid l_VOff_24) 4
@[simp] def b_VOff_26 (_ : Unit) : EB := .seq (hid b_VOff_25) .ret
@[simp] def b_VOff_27 (_ : Unit) : EB := .cond (.t 49) (hid b_VOff_26) .skip
@[simp] def b_VOff_28 (_ : Unit) : EB := .seq (hid b_VOff_23) (hid b_VOff_27)
@[simp] def b_VOff_29 (_ : Unit) : EB := .seq (hid b_VOff_21) (hid b_VOff_28)
@[simp] def l_VOff_30 (_ : Unit) : List EOp := [⟨0, (some 52), none, (.q (.lda 3 (.t 9))), []⟩, ⟨1, none, none, (.fz (.sto 3 (.t 6) (.t 52))), []⟩, ⟨2, (some 7), none, (.q (.mov (.k .nilIface))), []⟩]
@[simp] def b_VOff_31 (_ : Unit) : EB := reg0 (hid l_VOff_30) 3
@[simp] def b_VOff_32 (_ : Unit) : EB := .seq (hid b_VOff_31) .ret
@[simp] def b_VOff_33 (_ : Unit) : EB := .seq (hid b_VOff_29) (hid b_VOff_32)
@[simp] def b_VOff_34 (_ : Unit) : EB := .seq (hid b_VOff_19) (hid b_VOff_33)
@[simp] def b_VOff_35 (_ : Unit) : EB := .seq (hid b_VOff_12) (hid b_VOff_34)
@[simp] def b_VOff_36 (_ : Unit) : EB := .seq (hid b_VOff_2) (hid b_VOff_35)
def c_VOff : EB × List QOp × Nat := ((hid b_VOff_36), [(.lda 3 (.t 6)), (.mov (.t 7))], 53)
theorem k_VOff : cfun Tryz.prog 21 = some c_VOff := by kernel_rfl

@[simp] def l_ROff_1 (_ : Unit) : List EOp := [⟨0, (some 3), none, (.q (.box 31 (.t 0))), []⟩, ⟨1, (some 4), none, (.q (.box 25 (.t 1))), []⟩, ⟨2, (some 5), none, (.q (.box 25 (.t 2))), []⟩, ⟨3, (some 6), none, (.q (.alloc 77 [(.int .i64 0), (.slice none 0 0), (.slice none 0 0)])), []⟩, ⟨4, (some 7), none, (.q (.mov (.k (.int .i64 0)))), []⟩]
@[simp] def b_ROff_2 (_ : Unit) : EB := reg0 (hid l_ROff_1) 5
@[simp] def l_ROff_3 (_ : Unit) : List EOp := [⟨0, (some 10), none, (.q (.lda 81 (.t 3))), []⟩, ⟨1, (some 11), none, (.call 16 [(.t 10)]), []⟩, ⟨2, (some 8), none, (.q (.mov (.t 11))), []⟩]
@[simp] def b_ROff_4 (_ : Unit) : EB := reg0 (hid l_ROff_3) 3
@[simp] def l_ROff_5 (_ : Unit) : List EOp := [⟨0, (some 12), none, (.q (.mov (.t 8))), []⟩, ⟨1, (some 13), none, (.q (.bin .neq (.t 12) (.k (.int .i64 0)))), []⟩]
@[simp] def b_ROff_6 (_ : Unit) : EB := reg0 (hid l_ROff_5) 2
@[simp] def l_ROff_7 (_ : Unit) : List EOp := [⟨0, (some 14), none, (.q (.build [(.int .i64 0), (.slice none 0 0), (.slice none 0 0)] [])), []⟩, ⟨1, (some 15), none, (.q (.mov (.t 8))), []⟩, ⟨2, none, none, (.fz (.sto 3 (.t 6) (.t 14))), []⟩, ⟨3, (some 7), none, (.q (.mov (.t 15))), []⟩]
@[simp] def b_ROff_8 (_ : Unit) : EB := reg0 (hid l_ROff_7) 4
@[simp] def b_ROff_9 (_ : Unit) : EB := .seq (hid b_ROff_8) .ret
@[simp] def b_ROff_10 (_ : Unit) : EB := .cond (.t 13) (hid b_ROff_9) .skip
@[simp] def b_ROff_11 (_ : Unit) : EB := .seq (hid b_ROff_6) (hid b_ROff_10)
@[simp] def l_ROff_13 (_ : Unit) : List EOp := [⟨6, (some 9), none, (.q (.alloc 77 [(.int .i64 0), (.slice none 0 0), (.slice none 0 0)])), []⟩, ⟨7, none, none, (.fz (.sto 3 (.t 9) (.t 21))), []⟩]
@[simp] def l_ROff_12 (_ : Unit) : List EOp := ⟨0, (some 16), none, (.q (.lda 33 (.t 4))), []⟩ :: ⟨1, (some 17), none, (.q (.build (zU8 ++ [(.int .i64 0), (.int .i64 0), (.slice none 0 0)]) [(0, 33, (.t 16))])), []⟩ :: ⟨2, (some 18), none, (.q (.lda 33 (.t 5))), []⟩ :: ⟨3, (some 19), none, (.q (.build (zU8 ++ [(.int .i64 0), (.int .i64 0), (.slice none 0 0)]) [(0, 33, (.t 18))])), []⟩ :: ⟨4, (some 20), none, (.fz (.q (.bsl 35 (zU8 ++ [(.int .i64 0), (.int .i64 0), (.slice none 0 0)]) 2 [(0, (.t 17)), (1, (.t 19))]))), []⟩ :: ⟨5, (some 21), none, (.q (.build [(.int .i64 0), (.slice none 0 0), (.slice none 0 0)] [(1, 1, (.t 20))])), []⟩ :: hid l_ROff_13
@[simp] def b_ROff_14 (_ : Unit) : EB := reg0 (hid l_ROff_12) 8
@[simp] def l_ROff_17 (_ : Unit) : List EOp := [⟨12, (some 34), none, (.q (.build [(.int .i64 0), (.slice none 0 0)] [(0, 1, (.t 25)), (1, 1, (.t 33))])), []⟩, ⟨13, (some 35), none, (.fz (.q (.bsl 2 [(.int .i64 0), (.slice none 0 0)] 1 [(0, (.t 34))]))), [0, 1]⟩, ⟨14, (some 36), none, (.app 155 2 32 (.t 23) (.t 35)), []⟩, ⟨15, (some 37), none, (.q (.fad 2 (.t 9))), []⟩, ⟨16, none, none, (.fz (.sto 1 (.t 37) (.t 36))), []⟩]
@[simp] def l_ROff_16 (_ : Unit) : List EOp := ⟨6, (some 28), none, (.q (.ldc (.t 27))), []⟩ :: ⟨7, (some 29), none, (.q (.fad 76 (.t 3))), []⟩ :: ⟨8, (some 30), none, (.q (.iad 3 1 (.t 29) (.k (.int .i64 2)))), []⟩ :: ⟨9, (some 31), none, (.q (.ldc (.t 30))), []⟩ :: ⟨10, (some 32), none, (.q (.bsl 1 [(.int .i64 0)] 2 [(0, (.t 28)), (1, (.t 31))])), []⟩ :: ⟨11, (some 33), none, (.call 58 [(.t 32)]), [0, 1, 2, 3]⟩ :: hid l_ROff_17
@[simp] def l_ROff_15 (_ : Unit) : List EOp := ⟨0, (some 22), none, (.q (.fad 2 (.t 9))), []⟩ :: ⟨1, (some 23), none, (.q (.ldc (.t 22))), []⟩ :: ⟨2, (some 24), none, (.q (.fad 79 (.t 3))), []⟩ :: ⟨3, (some 25), none, (.q (.ldc (.t 24))), []⟩ :: ⟨4, (some 26), none, (.q (.fad 76 (.t 3))), []⟩ :: ⟨5, (some 27), none, (.q (.iad 3 1 (.t 26) (.k (.int .i64 0)))), []⟩ :: hid l_ROff_16
@[simp] def b_ROff_18 (_ : Unit) : EB := reg1 (hid l_ROff_15) 17
@[simp] def l_ROff_21 (_ : Unit) : List EOp := [⟨12, (some 50), none, (.q (.build [(.int .i64 0), (.slice none 0 0)] [(0, 1, (.t 44)), (1, 1, (.t 49))])), []⟩, ⟨13, (some 51), none, (.fz (.q (.bsl 2 [(.int .i64 0), (.slice none 0 0)] 1 [(0, (.t 50))]))), [0, 1]⟩, ⟨14, (some 52), none, (.app 155 2 32 (.t 39) (.t 51)), []⟩, ⟨15, (some 53), none, (.q (.fad 2 (.t 9))), []⟩, ⟨16, none, none, (.fz (.sto 1 (.t 53) (.t 52))), []⟩]
@[simp] def l_ROff_20 (_ : Unit) : List EOp := ⟨6, (some 44), none, (.q (.bin .sub (.t 41) (.t 43))), []⟩ :: ⟨7, (some 45), none, (.q (.fad 76 (.t 3))), []⟩ :: ⟨8, (some 46), none, (.q (.iad 3 1 (.t 45) (.k (.int .i64 1)))), []⟩ :: ⟨9, (some 47), none, (.q (.ldc (.t 46))), []⟩ :: ⟨10, (some 48), none, (.q (.bsl 1 [(.int .i64 0)] 1 [(0, (.t 47))])), []⟩ :: ⟨11, (some 49), none, (.call 58 [(.t 48)]), [0, 1, 2, 3, 4, 5, 6]⟩ :: hid l_ROff_21
@[simp] def l_ROff_19 (_ : Unit) : List EOp := ⟨0, (some 38), none, (.q (.fad 2 (.t 9))), []⟩ :: ⟨1, (some 39), none, (.q (.ldc (.t 38))), []⟩ :: ⟨2, (some 40), none, (.q (.fad 79 (.t 3))), []⟩ :: ⟨3, (some 41), none, (.q (.ldc (.t 40))), []⟩ :: ⟨4, (some 42), none, (.q (.fad 80 (.t 3))), []⟩ :: ⟨5, (some 43), none, (.q (.ldc (.t 42))), []⟩ :: hid l_ROff_20
@[simp] def b_ROff_22 (_ : Unit) : EB := reg1 (hid l_ROff_19) 17
@[simp] def l_ROff_23 (_ : Unit) : List EOp := [⟨0, (some 54), none, (.q (.lda 3 (.t 9))), []⟩, ⟨1, (some 55), none, (.call 59 [(.t 54)]), []⟩, ⟨2, (some 8), none, (.q (.mov (.t 55))), []⟩]
@[simp] def b_ROff_24 (_ : Unit) : EB := reg0 (hid l_ROff_23) 3
@[simp] def l_ROff_25 (_ : Unit) : List EOp := [⟨0, (some 56), none, (.q (.mov (.t 8))), []⟩, ⟨1, (some 57), none, (.q (.bin .neq (.t 56) (.k (.int .i64 0)))), []⟩]
@[simp] def b_ROff_26 (_ : Unit) : EB := reg0 (hid l_ROff_25) 2
@[simp] def l_ROff_27 (_ : Unit) : List EOp := [⟨0, (some 58), none, (.q (.build [(.int .i64 0), (.slice none 0 0), (.slice none 0 0)] [])), []⟩, ⟨1, (some 59), none, (.q (.mov (.t 8))), []⟩, ⟨2, none, none, (.fz (.sto 3 (.t 6) (.t 58))), []⟩, ⟨3, (some 7), none, (.q (.mov (.t 59))), []⟩]
@[simp] def b_ROff_28 (_ : Unit) : EB := reg0 (hid l_ROff_27) 4
@[simp] def b_ROff_29 (_ : Unit) : EB := .seq (hid b_ROff_28) .ret
@[simp] def b_ROff_30 (_ : Unit) : EB := .cond (.t 57) (hid b_ROff_29) .skip
@[simp] def b_ROff_31 (_ : Unit) : EB := .seq (hid b_ROff_26) (hid b_ROff_30)
@[simp] def l_ROff_32 (_ : Unit) : List EOp := [⟨0, (some 60), none, (.q (.lda 3 (.t 9))), []⟩, ⟨1, none, none, (.fz (.sto 3 (.t 6) (.t 60))), []⟩, ⟨2, (some 7), none, (.q (.mov (.k (.int .i64 0)))), []⟩]
@[simp] def b_ROff_33 (_ : Unit) : EB := reg0 (hid l_ROff_32) 3
@[simp] def b_ROff_34 (_ : Unit) : EB := .seq (hid b_ROff_33) .ret
@[simp] def b_ROff_35 (_ : Unit) : EB := .seq (hid b_ROff_31) (hid b_ROff_34)
@[simp] def b_ROff_36 (_ : Unit) : EB := .seq (hid b_ROff_24) (hid b_ROff_35)
@[simp] def b_ROff_37 (_ : Unit) : EB := .seq (hid b_ROff_22) (hid b_ROff_36)
@[simp] def b_ROff_38 (_ : Unit) : EB := .seq (hid b_ROff_18) (hid b_ROff_37)
@[simp] def b_ROff_39 (_ : Unit) : EB := .seq (hid b_ROff_14) (hid b_ROff_38)
@[simp] def b_ROff_40 (_ : Unit) : EB := .seq (hid b_ROff_11) (hid b_ROff_39)
@[simp] def b_ROff_41 (_ : Unit) : EB := .seq (hid b_ROff_4) (hid b_ROff_40)
@[simp] def b_ROff_42 (_ : Unit) : EB := .seq (hid b_ROff_2) (hid b_ROff_41)
def c_ROff : EB × List QOp × Nat := ((hid b_ROff_42), [(.lda 3 (.t 6)), (.mov (.t 7))], 61)
theorem k_ROff : cfun Tryz.prog 22 = some c_ROff := by kernel_rfl


theorem cAll_ok' (ks : List Int) (h : KeysOK ks) : ECalls Tryz.prog 58 [IL ks] [] fun y H' => H' = [] ∧ y = CNv (allB ks) := by
  obtain ⟨h1, h2, h3, h4, h5, h6⟩ := h
  have := cAll_ok ks h5 (by omega)
  rw [h6] at this
  exact this
/-! ### an offload -/
abbrev Pt := List UInt8 × Int
def Ptok (x : Pt) : Prop := x.1.length = 32 ∧ i64 x.2
def ptC (x : Pt) : List EC := hc x.1 ++ [iC x.2]
def ptF' (x : Pt) : List FV := hf x.1 ++ [iF x.2]
def PtV (x : Pt) : EV := .v (.agg (ptC x))
theorem ptC_len {x : Pt} (h : x.1.length = 32) : (ptC x).length = 33 := by simp [ptC, hc_len, h]
theorem ptC_take {x : Pt} (h : x.1.length = 32) : (ptC x).take 33 = ptC x := List.take_of_length_le (by rw [ptC_len h]; omega)
theorem ptF_fz (x : Pt) : (ptF' x).map EC.fz = ptC x := by simp [ptF', ptC, iF, iC]
@[simp] theorem conAll_ptC (H : Nat → Option EO) (ids : List Nat) (p : Pt) : conAll H ids (ptC p) = some (ptC p) := by rw [← ptF_fz]; exact conAll_mp H ids _
@[simp] theorem strAll_ptC (ids : List Nat) (p : Pt) : strAll ids (ptC p) = some (ptC p) := by rw [← ptF_fz]; exact strAll_mp ids _
@[simp] theorem frzAll_ptC (p : Pt) : frzAll (ptC p) = some (ptF' p) := by rw [← ptF_fz]; exact frzAll_mp _
@[simp] theorem refs_ptC (p : Pt) : (ptC p).flatMap refsC = [] := by rw [← ptF_fz]; exact refs_mp _
@[simp] theorem fz_ptC (ids : List Nat) (p : Pt) : (ptC p).flatMap (fzC ids) = [] := by rw [← ptF_fz]; exact fz_mp ids _
@[simp] theorem ren_ptC (g : Nat → Nat) (p : Pt) : (ptC p).map (renC g) = ptC p := by rw [← ptF_fz]; exact ren_mp g _
theorem rows_mpO : ∀ l : List FV, (l.map EC.fz).flatMap rowsE = []
  | [] => rfl
  | a :: r => by simp only [List.map_cons, List.flatMap_cons, rows_mpO r]; rfl
theorem fzM_mpO (H : Nat → Option EO) (d : List Nat) : ∀ l : List FV, (l.map EC.fz).map (fzM H d) = l.map EC.fz
  | [] => rfl
  | a :: r => by rw [List.map_cons, List.map_cons, fzM_mpO H d r]; rfl
@[simp] theorem rows_ptC (x : Pt) : (ptC x).flatMap rowsE = [] := by rw [← ptF_fz]; exact rows_mpO _
@[simp] theorem fzM_ptC (H : Nat → Option EO) (d : List Nat) (x : Pt) : (ptC x).map (fzM H d) = ptC x := by rw [← ptF_fz]; exact fzM_mpO H d _
def offT (r : Rte) (x y : Pt) : Txn := ⟨0, [⟨x.1, x.2, 0, []⟩, ⟨y.1, y.2, 0, []⟩], [⟨r.am, allB [r.a, r.c]⟩, ⟨r.am - r.fe, allB [r.b]⟩]⟩
/-- A route's offload; the error. -/
def offS (r : Rte) (x y : Pt) : Txn × Nat := if chkV r ≠ 0 then (zTx, chkV r) else donT (offT r x y)
theorem chk_0 {r : Rte} (h : chkV r = 0) : r.a ≠ r.c ∧ 0 ≤ r.fe ∧ r.fe ≤ 1125899906842624 ∧ r.am ≤ 1125899906842624 ∧ 10 + r.fe ≤ r.am := by
  unfold chkV at h
  split at h
  · simp at h
  rename_i h1
  split at h
  · simp at h
  split at h
  · simp at h
  refine ⟨(Classical.not_not.1 h1).2.2.2.2.2.1, by omega, by omega, by omega, by omega⟩
theorem frz_ptA (x : Pt) (r : List EC) : frzAll (ptC x ++ r) = (frzAll r).map (ptF' x ++ ·) := by
  have h1 : ptC x = hc x.1 ++ [iC x.2] := rfl
  rw [h1, List.append_assoc, frzAll_hc]
  simp [frzAll, iC, ptF', iF]
  cases h : frzAll r <;> simp
theorem ptF_len {x : Pt} (h : x.1.length = 32) : (ptF' x).length = 33 := by simp [ptF', h]
theorem insN2 {a b : Int} (ha : i64 a) (hb : i64 b) : ∀ k ∈ insN [a, b], i64 k := by
  rw [ins_two]
  intro k hk
  split at hk <;> simp at hk <;> rcases hk with rfl | rfl <;> assumption
theorem offT_ok {r : Rte} {x y : Pt} (hr : r.ok) (hx : Ptok x) (hy : Ptok y) (h : chkV r = 0) : (offT r x y).ok := by
  obtain ⟨_, _, ra, rb, rc, rm, rf⟩ := id hr
  obtain ⟨k1, k2, k3, k4, k5⟩ := chk_0 h
  refine ⟨by simp [offT, i64], ?_, ?_, by simp [offT], by simp [offT]⟩
  · intro q hq
    simp [offT] at hq
    rcases hq with rfl | rfl
    · exact ⟨hx.1, hx.2, by simp [i64], by simp⟩
    · exact ⟨hy.1, hy.2, by simp [i64], by simp⟩
  · intro q hq
    simp [offT] at hq
    rcases hq with rfl | rfl
    · refine ⟨rm, ?_, by simp [allB]⟩
      intro b hb
      simp [allB] at hb
      subst hb
      exact ⟨insN2 ra rc, rfl, by simp [i64], by simp [i64], by simp [insN_len]⟩
    · refine ⟨by show i64 (r.am - r.fe); unfold i64; omega, ?_, by simp [allB]⟩
      intro b hb
      simp [allB] at hb
      subst hb
      rw [(keys_one _).2]
      exact ⟨by intro k hk; simp at hk; subst hk; exact rb, rfl, by simp [i64], by simp [i64], by simp⟩
theorem off_ins (r : Rte) (x y : Pt) : (inpv (offT r x y).ins).map (·.map gN) = [ptF' x ++ [iF 0, .lit (.slice none 0 0)], ptF' y ++ [iF 0, .lit (.slice none 0 0)]] := by
  have h : ∀ l : List UInt8, (hf l).map gN = hf l := fun l => by have := hf_gN l []; simpa using this
  simp [offT, inpv, inpF, ptF', h, gN, iF]
set_option maxRecDepth 8000 in
set_option maxHeartbeats 8000000 in
theorem VOff_ok (r : Rte) (x y : Pt) (hr : r.ok) (hx : Ptok x) (hy : Ptok y) : ECalls Tryz.prog 21 [RVv r, PtV x, PtV y] [] fun z H' => H' = [] ∧ z = .tup [.agg (txC (offS r x y).1), .c (.fz (.lit (errV (offS r x y).2)))] := by
  obtain ⟨⟨h1, _⟩, ⟨h2, _⟩, _⟩ := id hr
  obtain ⟨x1, x2⟩ := id hx
  obtain ⟨y1, y2⟩ := id hy
  have l0 := rteC_len h1 h2
  have t0 := rt_take h1 h2
  have lx := ptC_len x1
  have ly := ptC_len y1
  have tx := ptC_take x1
  have ty := ptC_take y1
  have g76 := idx_of (rt_76 h1 h2) (by omega)
  have g77 := idx_of (rt_77 h1 h2) (by omega)
  have g78 := idx_of (rt_78 h1 h2) (by omega)
  have g79 := idx_of (rt_79 h1 h2) (by omega)
  have g80 := idx_of (rt_80 h1 h2) (by omega)
  refine ecalls k_VOff ?_
  simp [c_VOff, RVv, PtV, l0, t0, lx, ly, -errV_0]
  refine call0 (VCheck_ok r hr) (by simp [RVv]) ?_
  rintro z H' ⟨rfl, rfl⟩
  refine ⟨.inl (by simp), le_ok rfl, ?_⟩
  by_cases c : chkV r = 0
  rotate_left
  · rw [show offS r x y = (zTx, chkV r) from if_pos c]
    simp [c, -errV_0]
    refine finW _ (weak_nlB (o := 48) (k := 1) 35 rfl rfl) (finW _ (weak_nlB (o := 48) (k := 2) 2 rfl rfl) ?_)
    exact fin [] (by decide) rfl rfl rfl ⟨rfl, rfl⟩
  obtain ⟨k1, k2, k3, k4, k5⟩ := chk_0 c
  have w1 : IntKind.i64.wrap (r.am - r.fe) = r.am - r.fe := wrap_i64 (by omega) (by omega)
  rw [show offS r x y = donT (offT r x y) from if_neg (by simpa using c)]
  simp [c, l0, t0, lx, ly, tx, ty, g76, g77, g78, g79, g80, iC, w1, drop33i, frz_ptA, ptF_len x1, ptF_len y1, -errV_0]
  refine call0 (PAll_ok [r.a, r.c] (keys_two k1)) (by simp [IL, intv]) ?_
  rintro z H' ⟨rfl, rfl⟩
  refine ⟨.inl (by simp [CNv]), le_ok rfl, ?_⟩
  simp [CNv, c, l0, t0, lx, ly, tx, ty, g76, g77, g78, g79, g80, iC, w1, drop33i, frz_ptA, ptF_len x1, ptF_len y1, -errV_0]
  refine call0 (PAll_ok [r.b] (keys_one _).1) (by simp [IL, intv]) ?_
  rintro z H' ⟨rfl, rfl⟩
  refine ⟨.inl (by simp [CNv]), le_ok rfl, ?_⟩
  simp [CNv, c, l0, t0, lx, ly, tx, ty, g76, g77, g78, g79, g80, iC, w1, drop33i, frz_ptA, ptF_len x1, ptF_len y1, -errV_0]
  have hC := TxCheck_ok (offT r x y) (offT_ok hr hx hy c)
  have hC' : ECalls Tryz.prog 57 [.v (.agg [iC 0, .fz (.sl 35 [ptF' x ++ [iF 0, .lit (.slice none 0 0)], ptF' y ++ [iF 0, .lit (.slice none 0 0)]]), .fz (.sl 2 (outv (offT r x y).outs))])] [] (fun z H' => H' = [] ∧ z = .lit (errV (chkT (offT r x y)))) := by
    have := ecalls_nlG hC
    rw [off_ins] at this
    exact this
  refine call0 hC' (by simp [iC, iF, offT, outv, outF]) ?_
  rintro z H' ⟨rfl, rfl⟩
  refine ⟨.inl (by simp), le_ok rfl, ?_⟩
  by_cases c2 : chkT (offT r x y) = 0
  rotate_left
  · rw [show donT (offT r x y) = (zTx, chkT (offT r x y)) from if_pos c2]
    simp [c2, -errV_0]
    refine finW _ (weak_nlB (o := 48) (k := 1) 35 rfl rfl) (finW _ (weak_nlB (o := 48) (k := 2) 2 rfl rfl) ?_)
    exact fin [] (by decide) rfl rfl rfl ⟨rfl, rfl⟩
  rw [show donT (offT r x y) = (offT r x y, 0) from if_neg (by simpa using c2)]
  simp [c2, -errV_0]
  refine finW _ (weak_nlG (o := 48) (k := 1) (inpv (offT r x y).ins) rfl (by rw [off_ins]; rfl)) ?_
  exact fin [] (by decide) rfl rfl rfl ⟨rfl, rfl⟩

set_option maxRecDepth 8000 in
set_option maxHeartbeats 8000000 in
theorem ROff_ok (r : Rte) (x y : Pt) (hr : r.ok) (hx : Ptok x) (hy : Ptok y) : ECalls Tryz.prog 22 [RVv r, PtV x, PtV y] [] fun z H' => H' = [] ∧ z = .tup [.agg (txC (offS r x y).1), .c (.fz (.lit (.int .i64 (offS r x y).2)))] := by
  obtain ⟨⟨h1, _⟩, ⟨h2, _⟩, _⟩ := id hr
  obtain ⟨x1, x2⟩ := id hx
  obtain ⟨y1, y2⟩ := id hy
  have l0 := rteC_len h1 h2
  have t0 := rt_take h1 h2
  have lx := ptC_len x1
  have ly := ptC_len y1
  have tx := ptC_take x1
  have ty := ptC_take y1
  have g76 := idx_of (rt_76 h1 h2) (by omega)
  have g77 := idx_of (rt_77 h1 h2) (by omega)
  have g78 := idx_of (rt_78 h1 h2) (by omega)
  have g79 := idx_of (rt_79 h1 h2) (by omega)
  have g80 := idx_of (rt_80 h1 h2) (by omega)
  refine ecalls k_ROff ?_
  simp [c_ROff, RVv, PtV, l0, t0, lx, ly]
  refine call0 (RCheckV_ok r hr) (by simp [RVv]) ?_
  rintro z H' ⟨rfl, rfl⟩
  refine ⟨.inl (by simp [I]), le_ok rfl, ?_⟩
  by_cases c : chkV r = 0
  rotate_left
  · rw [show offS r x y = (zTx, chkV r) from if_pos c]
    simp [c, I]
    refine finW _ (weak_nlB (o := 48) (k := 1) 35 rfl rfl) (finW _ (weak_nlB (o := 48) (k := 2) 2 rfl rfl) ?_)
    exact fin [] (by decide) rfl rfl rfl ⟨rfl, rfl⟩
  obtain ⟨k1, k2, k3, k4, k5⟩ := chk_0 c
  have w1 : IntKind.i64.wrap (r.am - r.fe) = r.am - r.fe := wrap_i64 (by omega) (by omega)
  rw [show offS r x y = donT (offT r x y) from if_neg (by simpa using c)]
  simp [c, l0, t0, lx, ly, tx, ty, g76, g77, g78, g79, g80, iC, I, w1, drop33i, frz_ptA, ptF_len x1, ptF_len y1]
  refine call0 (cAll_ok' [r.a, r.c] (keys_two k1)) (by simp [IL, intv]) ?_
  rintro z H' ⟨rfl, rfl⟩
  refine ⟨.inl (by simp [CNv]), le_ok rfl, ?_⟩
  simp [CNv, c, l0, t0, lx, ly, tx, ty, g76, g77, g78, g79, g80, iC, I, w1, drop33i, frz_ptA, ptF_len x1, ptF_len y1]
  refine call0 (cAll_ok' [r.b] (keys_one _).1) (by simp [IL, intv]) ?_
  rintro z H' ⟨rfl, rfl⟩
  refine ⟨.inl (by simp [CNv]), le_ok rfl, ?_⟩
  simp [CNv, c, l0, t0, lx, ly, tx, ty, g76, g77, g78, g79, g80, iC, I, w1, drop33i, frz_ptA, ptF_len x1, ptF_len y1]
  have hC := RTxCheck_ok (offT r x y) (offT_ok hr hx hy c)
  have hC' : ECalls Tryz.prog 59 [.v (.agg [iC 0, .fz (.sl 35 [ptF' x ++ [iF 0, .lit (.slice none 0 0)], ptF' y ++ [iF 0, .lit (.slice none 0 0)]]), .fz (.sl 2 (outv (offT r x y).outs))])] [] (fun z H' => H' = [] ∧ z = I .i64 (chkT (offT r x y))) := by
    have := ecalls_nlG hC
    rw [off_ins] at this
    exact this
  refine call0 hC' (by simp [iC, iF, offT, outv, outF]) ?_
  rintro z H' ⟨rfl, rfl⟩
  refine ⟨.inr ⟨rfl, by simp [I]⟩, le_ok rfl, ?_⟩
  by_cases c2 : chkT (offT r x y) = 0
  rotate_left
  · rw [show donT (offT r x y) = (zTx, chkT (offT r x y)) from if_pos c2]
    simp [c2, I]
    refine finW _ (weak_nlB (o := 48) (k := 1) 35 rfl rfl) (finW _ (weak_nlB (o := 48) (k := 2) 2 rfl rfl) ?_)
    exact fin [] (by decide) rfl rfl rfl ⟨rfl, rfl⟩
  rw [show donT (offT r x y) = (offT r x y, 0) from if_neg (by simpa using c2)]
  simp [c2, I]
  refine finW _ (weak_nlG (o := 48) (k := 1) (inpv (offT r x y).ins) rfl (by rw [off_ins]; rfl)) ?_
  exact fin [] (by decide) rfl rfl rfl ⟨rfl, rfl⟩

end Go.Proofs.YtejjhgdnmknejaaGreatDoor

namespace Go.Proofs.YtejjhgdnmknejaaGreatDoor
open Go Go.EW
set_option linter.unusedSimpArgs false
set_option linter.unusedVariables false



theorem num_e (e : Nat) : ECalls Tryz.prog 13 [.lit (errV e)] [] fun y H' => H' = [] ∧ y = I .i64 e := by
  have h := num_ok (e : Int)
  have e1 : EN (e : Int) = .lit (errV e) := by
    unfold EN errV
    by_cases h : e = 0
    · subst h; rfl
    · rw [if_neg (by omega), if_neg h]
  rw [e1] at h
  exact h

end Go.Proofs.YtejjhgdnmknejaaGreatDoor

namespace Go.Proofs.YtejjhgdnmknejaaGreatDoor
open Go Go.EW
set_option linter.unusedSimpArgs false
set_option linter.unusedVariables false

@[simp] def l_VirtOffloads_1 (_ : Unit) : List EOp := [⟨0, (some 3), none, (.q (.box 31 (.t 0))), []⟩, ⟨1, (some 4), none, (.q (.box 25 (.t 1))), []⟩, ⟨2, (some 5), none, (.q (.box 25 (.t 2))), []⟩, ⟨3, (some 6), none, (.q (.mov (.k (.bool false)))), []⟩]
@[simp] def b_VirtOffloads_2 (_ : Unit) : EB := reg0 (hid l_VirtOffloads_1) 4
@[simp] def l_VirtOffloads_4 (_ : Unit) : List EOp := [⟨5, (some 11), none, (.q (.mov (.t 16))), []⟩, ⟨6, (some 17), none, (.q (.ext 0 (.t 11))), []⟩, ⟨7, (some 18), none, (.q (.ext 1 (.t 11))), []⟩, ⟨9, none, none, (.fz (.sto 3 (.t 7) (.t 17))), [7]⟩, ⟨10, (some 8), none, (.q (.mov (.t 18))), []⟩]
@[simp] def l_VirtOffloads_3 (_ : Unit) : List EOp := ⟨0, (some 12), none, (.q (.lda 81 (.t 3))), []⟩ :: ⟨2, (some 14), none, (.q (.lda 33 (.t 4))), []⟩ :: ⟨3, (some 15), none, (.q (.lda 33 (.t 5))), []⟩ :: ⟨8, (some 7), none, (.q (.alloc 71 [(.int .i64 0), (.slice none 0 0), (.slice none 0 0)])), []⟩ :: ⟨1, (some 13), none, (.call 9 [(.t 12)]), [2, 3, 8]⟩ :: ⟨4, (some 16), none, (.call 21 [(.t 13), (.t 14), (.t 15)]), [8]⟩ :: hid l_VirtOffloads_4
@[simp] def b_VirtOffloads_5 (_ : Unit) : EB := reg1 (hid l_VirtOffloads_3) 11
@[simp] def l_VirtOffloads_7 (_ : Unit) : List EOp := [⟨6, (some 25), none, (.q (.ext 1 (.t 19))), []⟩, ⟨7, (some 9), none, (.q (.alloc 77 [(.int .i64 0), (.slice none 0 0), (.slice none 0 0)])), []⟩, ⟨8, none, none, (.fz (.sto 3 (.t 9) (.t 24))), []⟩, ⟨9, (some 10), none, (.q (.mov (.t 25))), []⟩]
@[simp] def l_VirtOffloads_6 (_ : Unit) : List EOp := ⟨0, (some 20), none, (.q (.lda 81 (.t 3))), []⟩ :: ⟨1, (some 21), none, (.q (.lda 33 (.t 4))), []⟩ :: ⟨2, (some 22), none, (.q (.lda 33 (.t 5))), []⟩ :: ⟨3, (some 23), none, (.call 22 [(.t 20), (.t 21), (.t 22)]), []⟩ :: ⟨4, (some 19), none, (.q (.mov (.t 23))), []⟩ :: ⟨5, (some 24), none, (.q (.ext 0 (.t 19))), []⟩ :: hid l_VirtOffloads_7
@[simp] def b_VirtOffloads_8 (_ : Unit) : EB := reg0 (hid l_VirtOffloads_6) 10
@[simp] def l_VirtOffloads_11 (_ : Unit) : List EOp := [⟨12, (some 38), none, (.q (.pick (.t 33) (.t 37) (.k (.bool false)))), []⟩, ⟨13, (some 39), none, (.q (.mov (.t 38))), []⟩, ⟨14, (some 40), (some (39, true)), (.call 8 []), []⟩, ⟨15, (some 41), none, (.q (.pick (.t 39) (.t 40) (.k (.bool false)))), []⟩, ⟨16, (some 6), none, (.q (.mov (.t 41))), []⟩]
@[simp] def l_VirtOffloads_10 (_ : Unit) : List EOp := ⟨6, (some 32), none, (.q (.bin .eql (.t 28) (.t 31))), []⟩ :: ⟨7, (some 33), none, (.q (.mov (.t 32))), []⟩ :: ⟨8, (some 34), (some (33, true)), (.q (.mov (.t 8))), []⟩ :: ⟨10, (some 36), (some (33, true)), (.q (.mov (.t 10))), []⟩ :: ⟨9, (some 35), (some (33, true)), (.call 13 [(.t 34)]), [10]⟩ :: ⟨11, (some 37), (some (33, true)), (.q (.bin .eql (.t 35) (.t 36))), []⟩ :: hid l_VirtOffloads_11
@[simp] def l_VirtOffloads_9 (_ : Unit) : List EOp := ⟨0, (some 26), none, (.q (.lda 3 (.t 7))), []⟩ :: ⟨3, (some 29), none, (.q (.lda 3 (.t 9))), []⟩ :: ⟨1, (some 27), none, (.call 23 [(.t 26)]), [3]⟩ :: ⟨2, (some 28), none, (.q (.b2s (.t 27))), []⟩ :: ⟨4, (some 30), none, (.call 24 [(.t 29)]), [2]⟩ :: ⟨5, (some 31), none, (.q (.b2s (.t 30))), []⟩ :: hid l_VirtOffloads_10
@[simp] def b_VirtOffloads_12 (_ : Unit) : EB := reg1 (hid l_VirtOffloads_9) 17
@[simp] def b_VirtOffloads_13 (_ : Unit) : EB := .seq (hid b_VirtOffloads_12) .ret
@[simp] def b_VirtOffloads_14 (_ : Unit) : EB := .seq (hid b_VirtOffloads_8) (hid b_VirtOffloads_13)
@[simp] def b_VirtOffloads_15 (_ : Unit) : EB := .seq (hid b_VirtOffloads_5) (hid b_VirtOffloads_14)
@[simp] def b_VirtOffloads_16 (_ : Unit) : EB := .seq (hid b_VirtOffloads_2) (hid b_VirtOffloads_15)
def c_VirtOffloads : EB × List QOp × Nat := ((hid b_VirtOffloads_16), [(.mov (.t 6))], 42)
theorem k_VirtOffloads : cfun Tryz.prog 4 = some c_VirtOffloads := by kernel_rfl


def zPtV : Value := .agg (Array.replicate 32 (.int .u8 0) ++ #[.int .i64 0])
def zPtD {H : Type} : DataW H := .agg [.agg (List.replicate 32 (.lit (.int .u8 0))), .lit (.int .i64 0)]
theorem bytesB_nil : (bytesB []).length = 2 := rfl
theorem cnd1_len (a : List Int) (h : a.length ≤ 16) : (cndB [⟨a, hz, 0, 0⟩]).length ≤ 300 := by
  have h1 := usB_len a
  have h2 := uB_len 1
  have h3 := uB_len (a.length : Int)
  have h4 := uB_len 0
  have h5 : hz.length = 32 := rfl
  generalize hz = zz at h5 ⊢
  simp [cndB, brsB, braB, h5]
  omega
theorem offT_len (r : Rte) (x y : Pt) (hx : Ptok x) (hy : Ptok y) : (encT (offT r x y)).length ≤ 4000 := by
  have h1 := uB_len 0
  have h2 := uB_len 2
  have h3 := uB_len x.2
  have h4 := uB_len y.2
  have h5 := uB_len r.am
  have h6 := uB_len (r.am - r.fe)
  have c1 := cnd1_len (insN [r.a, r.c]) (by simp [insN_len])
  have c2 := cnd1_len (insN [r.b]) (by simp [insN_len])
  have x1 := hx.1
  have y1 := hy.1
  have b0 := bytesB_nil
  simp [encT, mdB, hdB, offT, insB, ousB, inpB, oupB, allB]
  omega
theorem zTx_len : (encT zTx).length ≤ 4000 := by decide +kernel
theorem zTx_ok : zTx.ok := by simp [zTx, Txn.ok, i64]
theorem offS_small (r : Rte) (x y : Pt) (hr : r.ok) (hx : Ptok x) (hy : Ptok y) : (offS r x y).1.ok ∧ (∀ q ∈ (offS r x y).1.ins, q.sec.length ≤ 10000000) ∧ (encT (offS r x y).1).length ≤ 400000000 := by
  have hz : zTx.ok ∧ (∀ q ∈ zTx.ins, q.sec.length ≤ 10000000) ∧ (encT zTx).length ≤ 400000000 := ⟨zTx_ok, by simp [zTx], by have := zTx_len; omega⟩
  unfold offS
  split
  · exact hz
  rename_i c
  unfold donT
  split
  · exact hz
  · refine ⟨offT_ok hr hx hy (Classical.not_not.1 c), ?_, by have := offT_len r x y hx hy; show (encT (offT r x y)).length ≤ _; omega⟩
    intro q hq
    simp [offT] at hq
    rcases hq with rfl | rfl <;> simp

set_option maxRecDepth 8000 in
set_option maxHeartbeats 16000000 in
theorem VirtOffloads_ok (r : Rte) (x y : Pt) (hr : r.ok) (hx : Ptok x) (hy : Ptok y) : ECalls Tryz.prog 4 [RVv r, PtV x, PtV y] [] fun z H' => H' = [] ∧ z = .lit (.bool true) := by
  obtain ⟨⟨h1, _⟩, ⟨h2, _⟩, _⟩ := id hr
  have l0 := rteC_len h1 h2
  have t0 := rt_take h1 h2
  have lx := ptC_len hx.1
  have ly := ptC_len hy.1
  have tx := ptC_take hx.1
  have ty := ptC_take hy.1
  have hB := VOff_ok r x y hr hx hy
  have hR := ROff_ok r x y hr hx hy
  obtain ⟨o1, o2, o3⟩ := offS_small r x y hr hx hy
  generalize offS r x y = q at hB hR o1 o2 o3
  obtain ⟨t, e⟩ := q
  dsimp only at hB hR o1 o2 o3
  have e1 := TEncode_ok t o1 o2 o3
  have e2 := RTEncode_ok t o1 o2 o3
  refine ecalls k_VirtOffloads ?_
  simp [c_VirtOffloads, RVv, PtV, l0, t0, lx, ly, tx, ty, -errV_0]
  refine call0 (giveR_ok r h1 h2) (by simp [RVv]) ?_
  rintro z H' ⟨rfl, rfl⟩
  refine ⟨.inl (by simp [RVv]), le_ok rfl, ?_⟩
  simp [RVv, PtV, l0, t0, lx, ly, tx, ty, -errV_0]
  refine call0 hB (by simp [RVv, PtV]) ?_
  rintro z H' ⟨rfl, rfl⟩
  refine ⟨.inl (by simp [txC, iC]), le_ok rfl, ?_⟩
  simp [RVv, PtV, l0, t0, lx, ly, tx, ty, txC, iC, -errV_0]
  refine call0 hR (by simp [RVv, PtV]) ?_
  rintro z H' ⟨rfl, rfl⟩
  refine ⟨.inl (by simp [txC, iC]), le_ok rfl, ?_⟩
  simp [RVv, PtV, l0, t0, lx, ly, tx, ty, txC, iC, -errV_0]
  refine call0 e1 (by simp [TXv, txC, iC]) ?_
  rintro z H' ⟨rfl, rfl⟩
  refine ⟨.inl (by simp [Bs]), le_ok rfl, ?_⟩
  simp [Bs, txC, iC, -errV_0]
  refine call0 e2 (by simp [TXv, txC, iC]) ?_
  rintro z H' ⟨rfl, rfl⟩
  refine ⟨.inl (by simp [Bs]), le_ok rfl, ?_⟩
  simp [Bs, txC, iC, -errV_0]
  refine call0 (num_e e) (by simp) ?_
  rintro z H' ⟨rfl, rfl⟩
  refine ⟨.inl (by simp [I]), le_ok rfl, ?_⟩
  simp [I, -errV_0]
  refine call0 sure_ok (by simp) ?_
  rintro z H' ⟨rfl, rfl⟩
  refine ⟨.inl (by simp), le_ok rfl, ?_⟩
  simp [-errV_0]
  exact fin [] (by decide) rfl rfl rfl ⟨rfl, rfl⟩

end Go.Proofs.YtejjhgdnmknejaaGreatDoor
