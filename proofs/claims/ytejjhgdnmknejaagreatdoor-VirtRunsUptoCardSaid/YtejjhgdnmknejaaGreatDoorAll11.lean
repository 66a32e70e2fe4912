import Derived.Test.YtejjhgdnmknejaaGreatDoorAll9
import Derived.Test.YtejjhgdnmknejaaGreatDoorAll10
import Derived.Test.YtejjhgdnmknejaaGreatDoorAll8
import Derived.Test.YtejjhgdnmknejaaGreatDoorAll7
namespace Go.Proofs.YtejjhgdnmknejaaGreatDoor
open Go Go.EW
set_option linter.unusedSimpArgs false
set_option linter.unusedVariables false

@[simp] def l_giveP_1 (_ : Unit) : List EOp := [⟨0, (some 1), none, (.q (.box 28 (.t 0))), []⟩, ⟨1, (some 2), none, (.q (.alloc 42 (zU8 ++ [(.int .i64 0), (.int .i64 0), (.int .i64 0), (.int .i64 0), (.int .i64 0), (.int .i64 0)]))), []⟩]
@[simp] def b_giveP_2 (_ : Unit) : EB := reg0 (hid l_giveP_1) 2
@[simp] def l_giveP_4 (_ : Unit) : List EOp := [⟨6, (some 9), none, (.q (.fad 36 (.t 1))), []⟩, ⟨7, (some 10), none, (.q (.ldc (.t 9))), []⟩, ⟨8, (some 11), none, (.q (.fad 37 (.t 1))), []⟩, ⟨9, (some 12), none, (.q (.ldc (.t 11))), []⟩, ⟨10, (some 13), none, (.q (.build (zU8 ++ [(.int .i64 0), (.int .i64 0), (.int .i64 0), (.int .i64 0), (.int .i64 0), (.int .i64 0)]) [(0, 33, (.t 4)), (33, 1, (.t 6)), (34, 2, (.t 8)), (36, 1, (.t 10)), (37, 1, (.t 12))])), []⟩, ⟨11, none, none, (.sto 38 (.t 2) (.t 13)), []⟩]
@[simp] def l_giveP_3 (_ : Unit) : List EOp := ⟨0, (some 3), none, (.q (.fad 0 (.t 1))), []⟩ :: ⟨1, (some 4), none, (.q (.lda 33 (.t 3))), []⟩ :: ⟨2, (some 5), none, (.q (.fad 33 (.t 1))), []⟩ :: ⟨3, (some 6), none, (.q (.ldc (.t 5))), []⟩ :: ⟨4, (some 7), none, (.q (.fad 34 (.t 1))), []⟩ :: ⟨5, (some 8), none, (.q (.lda 2 (.t 7))), []⟩ :: hid l_giveP_4
@[simp] def b_giveP_5 (_ : Unit) : EB := reg0 (hid l_giveP_3) 12
@[simp] def b_giveP_6 (_ : Unit) : EB := .seq (hid b_giveP_5) .ret
@[simp] def b_giveP_7 (_ : Unit) : EB := .seq (hid b_giveP_2) (hid b_giveP_6)
def c_giveP : EB × List QOp × Nat := ((hid b_giveP_7), [(.lda 38 (.t 2))], 14)
theorem k_giveP : cfun Tryz.prog 26 = some c_giveP := by kernel_rfl

@[simp] def l_Rpair_1 (_ : Unit) : List EOp := [⟨0, (some 3), none, (.q (.box 28 (.t 0))), []⟩, ⟨1, (some 6), none, (.q (.mov (.k (.bool false)))), []⟩]
@[simp] def b_Rpair_2 (_ : Unit) : EB := reg0 (hid l_Rpair_1) 2
@[simp] def l_Rpair_7 (_ : Unit) : List EOp := [⟨24, (some 31), (some (19, false)), (.q (.pick (.t 25) (.t 30) (.k (.bool false)))), []⟩, ⟨25, (some 32), none, (.q (.pick (.t 19) (.k (.bool true)) (.t 31))), []⟩, ⟨26, (some 6), none, (.q (.mov (.t 32))), []⟩]
@[simp] def l_Rpair_6 (_ : Unit) : List EOp := ⟨18, (some 25), (some (19, false)), (.q (.mov (.t 24))), []⟩ :: ⟨19, (some 26), (some (25, true)), (.q (.fad 34 (.t 3))), []⟩ :: ⟨20, (some 27), (some (25, true)), (.q (.iad 2 1 (.t 26) (.k (.int .i64 1)))), []⟩ :: ⟨21, (some 28), (some (25, true)), (.q (.ldc (.t 27))), []⟩ :: ⟨22, (some 29), (some (25, true)), (.q (.mov (.t 1))), []⟩ :: ⟨23, (some 30), (some (25, true)), (.q (.bin .eql (.t 28) (.t 29))), []⟩ :: hid l_Rpair_7
@[simp] def l_Rpair_5 (_ : Unit) : List EOp := ⟨12, (some 19), none, (.q (.mov (.t 18))), []⟩ :: ⟨13, (some 20), (some (19, false)), (.q (.fad 34 (.t 3))), []⟩ :: ⟨14, (some 21), (some (19, false)), (.q (.iad 2 1 (.t 20) (.k (.int .i64 0)))), []⟩ :: ⟨15, (some 22), (some (19, false)), (.q (.ldc (.t 21))), []⟩ :: ⟨16, (some 23), (some (19, false)), (.q (.mov (.t 2))), []⟩ :: ⟨17, (some 24), (some (19, false)), (.q (.bin .eql (.t 22) (.t 23))), []⟩ :: hid l_Rpair_6
@[simp] def l_Rpair_4 (_ : Unit) : List EOp := ⟨6, (some 13), (some (12, true)), (.q (.fad 34 (.t 3))), []⟩ :: ⟨7, (some 14), (some (12, true)), (.q (.iad 2 1 (.t 13) (.k (.int .i64 1)))), []⟩ :: ⟨8, (some 15), (some (12, true)), (.q (.ldc (.t 14))), []⟩ :: ⟨9, (some 16), (some (12, true)), (.q (.mov (.t 2))), []⟩ :: ⟨10, (some 17), (some (12, true)), (.q (.bin .eql (.t 15) (.t 16))), []⟩ :: ⟨11, (some 18), none, (.q (.pick (.t 12) (.t 17) (.k (.bool false)))), []⟩ :: hid l_Rpair_5
@[simp] def l_Rpair_3 (_ : Unit) : List EOp := ⟨0, (some 7), none, (.q (.fad 34 (.t 3))), []⟩ :: ⟨1, (some 8), none, (.q (.iad 2 1 (.t 7) (.k (.int .i64 0)))), []⟩ :: ⟨2, (some 9), none, (.q (.ldc (.t 8))), []⟩ :: ⟨3, (some 10), none, (.q (.mov (.t 1))), []⟩ :: ⟨4, (some 11), none, (.q (.bin .eql (.t 9) (.t 10))), []⟩ :: ⟨5, (some 12), none, (.q (.mov (.t 11))), []⟩ :: hid l_Rpair_4
@[simp] def b_Rpair_8 (_ : Unit) : EB := reg0 (hid l_Rpair_3) 27
@[simp] def b_Rpair_9 (_ : Unit) : EB := .seq (hid b_Rpair_8) .ret
@[simp] def b_Rpair_10 (_ : Unit) : EB := .seq (hid b_Rpair_2) (hid b_Rpair_9)
def c_Rpair : EB × List QOp × Nat := ((hid b_Rpair_10), [(.mov (.t 6))], 33)
theorem k_Rpair : cfun Tryz.prog 51 = some c_Rpair := by kernel_rfl


theorem pm_33 {p : Prm} (h : p.tx.length = 32) : (prmC p).take 33 = hc p.tx ++ [iC p.n] := by
  have e : (hc p.tx).length = 32 := by rw [hc_len, h]
  unfold prmC
  rw [List.take_append, e, List.take_of_length_le (by omega)]
  rfl
theorem pm_at {p : Prm} (h : p.tx.length = 32) (i : Nat) : (prmC p)[32 + i]? = [iC p.n, iC p.am, iC p.k0, iC p.k1, iC p.dl, iC p.fe][i]? := by
  have e : (hc p.tx).length = 32 := by rw [hc_len, h]
  unfold prmC
  rw [List.getElem?_append_right (by omega), e]
  congr 1
  omega

theorem list32 (l : List EC) (h : l.length = 32) : ∃ c0 c1 c2 c3 c4 c5 c6 c7 c8 c9 c10 c11 c12 c13 c14 c15 c16 c17 c18 c19 c20 c21 c22 c23 c24 c25 c26 c27 c28 c29 c30 c31, l = [c0, c1, c2, c3, c4, c5, c6, c7, c8, c9, c10, c11, c12, c13, c14, c15, c16, c17, c18, c19, c20, c21, c22, c23, c24, c25, c26, c27, c28, c29, c30, c31] := by
  match l, h with
  | [c0, c1, c2, c3, c4, c5, c6, c7, c8, c9, c10, c11, c12, c13, c14, c15, c16, c17, c18, c19, c20, c21, c22, c23, c24, c25, c26, c27, c28, c29, c30, c31], _ => exact ⟨c0, c1, c2, c3, c4, c5, c6, c7, c8, c9, c10, c11, c12, c13, c14, c15, c16, c17, c18, c19, c20, c21, c22, c23, c24, c25, c26, c27, c28, c29, c30, c31, rfl⟩

set_option maxRecDepth 8000 in
set_option maxHeartbeats 4000000 in
theorem giveP_ok (p : Prm) (hp : p.tx.length = 32) : ECalls Tryz.prog 26 [PVv p] [] fun y H' => H' = [] ∧ y = PVv p := by
  have h1 := prmC_len hp
  have h2 := pm_take hp
  have h3 := pm_d34 hp
  have h4 := pm_33 hp
  have e33 := idx_of (pm_at hp 1) (by omega)
  have e36 := idx_of (pm_at hp 4) (by omega)
  have e37 := idx_of (pm_at hp 5) (by omega)
  have e : (hc p.tx).length = 32 := by rw [hc_len, hp]
  refine ecalls k_giveP ?_
  simp [c_giveP, PVv, h1, h2, h3, h4, e33, e36, e37, e, hp, iC]
  obtain ⟨c0, c1, c2, c3, c4, c5, c6, c7, c8, c9, c10, c11, c12, c13, c14, c15, c16, c17, c18, c19, c20, c21, c22, c23, c24, c25, c26, c27, c28, c29, c30, c31, hX⟩ := list32 (hc p.tx) e
  have hP : prmC p = [c0, c1, c2, c3, c4, c5, c6, c7, c8, c9, c10, c11, c12, c13, c14, c15, c16, c17, c18, c19, c20, c21, c22, c23, c24, c25, c26, c27, c28, c29, c30, c31, iC p.n, iC p.am, iC p.k0, iC p.k1, iC p.dl, iC p.fe] := by unfold prmC; rw [hX]; rfl
  rw [hX]
  exact fin [] (by decide) (v := .v (.agg [c0, c1, c2, c3, c4, c5, c6, c7, c8, c9, c10, c11, c12, c13, c14, c15, c16, c17, c18, c19, c20, c21, c22, c23, c24, c25, c26, c27, c28, c29, c30, c31, iC p.n, iC p.am, iC p.k0, iC p.k1, iC p.dl, iC p.fe])) rfl (y := PVv p) (by rw [← hP]; simp [conR, conTs, conT, PVv]) rfl ⟨rfl, rfl⟩

theorem ofV_f {p : Prm} {a b : Int} (c1 : ¬ (p.k0 = a ∧ p.k1 = b)) : ofV p a b = (decide (p.k0 = b) && decide (p.k1 = a)) := by
  unfold ofV
  by_cases c2 : p.k0 = b ∧ p.k1 = a
  · rw [decide_eq_true (.inr c2), decide_eq_true c2.1, decide_eq_true c2.2]; rfl
  · rw [decide_eq_false (by omega)]
    by_cases c3 : p.k0 = b
    · rw [decide_eq_true c3, decide_eq_false (fun h => c2 ⟨c3, h⟩)]; rfl
    · rw [decide_eq_false c3]; rfl

set_option maxHeartbeats 2000000 in
theorem Rpair_ok (p : Prm) (a b : Int) (hp : p.tx.length = 32) : ECalls Tryz.prog 51 [PVv p, I .i64 a, I .i64 b] [] fun y H' => H' = [] ∧ y = .lit (.bool (ofV p a b)) := by
  have h1 := prmC_len hp
  have h2 := pm_take hp
  have e34 := idx_of (pm_34 hp) (by omega)
  have e35 := idx_of (pm_35 hp) (by omega)
  refine ecalls k_Rpair ?_
  simp [c_Rpair, I, PVv, h1, h2, e34, e35, iC]
  by_cases c1 : p.k0 = a
  · by_cases c2 : p.k1 = b
    · have hv : ofV p a b = true := decide_eq_true (.inl ⟨c1, c2⟩)
      rw [hv]
      simp [c1, c2, h1, e34, e35, iC]
      exact fin [] (by decide) rfl rfl rfl ⟨rfl, rfl⟩
    · have hv : ofV p a b = (decide (p.k0 = b) && decide (p.k1 = a)) := ofV_f (fun h => c2 h.2)
      rw [hv]
      simp [c1, c2, h1, e34, e35, iC]
      refine alt (fun c3 => ?_) (fun c3 => ?_)
      · simp [c3, h1, e34, e35, iC]
        exact fin [] (by decide) rfl rfl rfl ⟨rfl, rfl⟩
      · simp [c3]
        exact fin [] (by decide) rfl rfl rfl ⟨rfl, rfl⟩
  · have hv : ofV p a b = (decide (p.k0 = b) && decide (p.k1 = a)) := ofV_f (fun h => c1 h.1)
    rw [hv]
    simp [c1, h1, e34, e35, iC]
    refine alt (fun c3 => ?_) (fun c3 => ?_)
    · simp [c3, h1, e34, e35, iC]
      exact fin [] (by decide) rfl rfl rfl ⟨rfl, rfl⟩
    · simp [c3]
      exact fin [] (by decide) rfl rfl rfl ⟨rfl, rfl⟩

end Go.Proofs.YtejjhgdnmknejaaGreatDoor

namespace Go.Proofs.YtejjhgdnmknejaaGreatDoor
open Go Go.EW
set_option linter.unusedSimpArgs false
set_option linter.unusedVariables false

@[simp] def l_giveR_1 (_ : Unit) : List EOp := [⟨0, (some 1), none, (.q (.box 31 (.t 0))), []⟩, ⟨1, (some 2), none, (.q (.alloc 44 (zU8 ++ (([(.int .i64 0), (.int .i64 0), (.int .i64 0), (.int .i64 0), (.int .i64 0), (.int .i64 0)] : List Value) ++ zU8 ++ [(.int .i64 0), (.int .i64 0), (.int .i64 0), (.int .i64 0), (.int .i64 0), (.int .i64 0), (.int .i64 0), (.int .i64 0), (.int .i64 0), (.int .i64 0), (.int .i64 0)])))), []⟩]
@[simp] def b_giveR_2 (_ : Unit) : EB := reg0 (hid l_giveR_1) 2
@[simp] def l_giveR_5 (_ : Unit) : List EOp := [⟨12, (some 15), none, (.q (.build (zU8 ++ (([(.int .i64 0), (.int .i64 0), (.int .i64 0), (.int .i64 0), (.int .i64 0), (.int .i64 0)] : List Value) ++ zU8 ++ [(.int .i64 0), (.int .i64 0), (.int .i64 0), (.int .i64 0), (.int .i64 0), (.int .i64 0), (.int .i64 0), (.int .i64 0), (.int .i64 0), (.int .i64 0), (.int .i64 0)])) [(0, 38, (.t 5)), (38, 38, (.t 8)), (76, 3, (.t 10)), (79, 1, (.t 12)), (80, 1, (.t 14))])), []⟩, ⟨13, none, none, (.sto 81 (.t 2) (.t 15)), []⟩]
@[simp] def l_giveR_4 (_ : Unit) : List EOp := ⟨8, (some 11), none, (.q (.fad 79 (.t 1))), []⟩ :: ⟨9, (some 12), none, (.q (.ldc (.t 11))), []⟩ :: ⟨10, (some 13), none, (.q (.fad 80 (.t 1))), []⟩ :: ⟨11, (some 14), none, (.q (.ldc (.t 13))), []⟩ :: ⟨2, (some 5), none, (.call 26 [(.t 4)]), [3, 4, 6, 7, 8, 9, 10, 11]⟩ :: ⟨5, (some 8), none, (.call 26 [(.t 7)]), [6, 7, 8, 9, 10, 11]⟩ :: hid l_giveR_5
@[simp] def l_giveR_3 (_ : Unit) : List EOp := ⟨0, (some 3), none, (.q (.fad 0 (.t 1))), []⟩ :: ⟨1, (some 4), none, (.q (.lda 38 (.t 3))), []⟩ :: ⟨3, (some 6), none, (.q (.fad 38 (.t 1))), []⟩ :: ⟨4, (some 7), none, (.q (.lda 38 (.t 6))), []⟩ :: ⟨6, (some 9), none, (.q (.fad 76 (.t 1))), []⟩ :: ⟨7, (some 10), none, (.q (.lda 3 (.t 9))), []⟩ :: hid l_giveR_4
@[simp] def b_giveR_6 (_ : Unit) : EB := reg1 (hid l_giveR_3) 14
@[simp] def b_giveR_7 (_ : Unit) : EB := .seq (hid b_giveR_6) .ret
@[simp] def b_giveR_8 (_ : Unit) : EB := .seq (hid b_giveR_2) (hid b_giveR_7)
def c_giveR : EB × List QOp × Nat := ((hid b_giveR_8), [(.lda 81 (.t 2))], 16)
theorem k_giveR : cfun Tryz.prog 9 = some c_giveR := by kernel_rfl

@[simp] def l_RSide_1 (_ : Unit) : List EOp := [⟨0, (some 2), none, (.q (.box 28 (.t 0))), []⟩, ⟨1, (some 4), none, (.q (.mov (.k (.int .i64 0)))), []⟩, ⟨2, (some 5), none, (.q (.mov (.k (.int .i64 0)))), []⟩]
@[simp] def b_RSide_2 (_ : Unit) : EB := reg0 (hid l_RSide_1) 3
@[simp] def l_RSide_3 (_ : Unit) : List EOp := [⟨0, (some 6), none, (.q (.mov (.k (.int .i64 0)))), []⟩]
@[simp] def b_RSide_4 (_ : Unit) : EB := reg0 (hid l_RSide_3) 1
@[simp] def l_RSide_5 (_ : Unit) : List EOp := [⟨0, (some 7), none, (.q (.mov (.t 6))), []⟩, ⟨1, (some 8), none, (.q (.bin .lss (.t 7) (.k (.int .i64 2)))), []⟩]
@[simp] def b_RSide_6 (_ : Unit) : EB := reg0 (hid l_RSide_5) 2
@[simp] def b_RSide_7 (_ : Unit) : EB := .cond (.t 8) .skip (.exit 0)
@[simp] def b_RSide_8 (_ : Unit) : EB := .seq (hid b_RSide_6) (hid b_RSide_7)
@[simp] def l_RSide_9 (_ : Unit) : List EOp := [⟨0, (some 11), none, (.q (.mov (.t 6))), []⟩, ⟨1, (some 12), none, (.q (.fad 34 (.t 2))), []⟩, ⟨2, (some 13), none, (.q (.iad 2 1 (.t 12) (.t 11))), []⟩, ⟨3, (some 14), none, (.q (.ldc (.t 13))), []⟩, ⟨4, (some 15), none, (.q (.mov (.t 1))), []⟩, ⟨5, (some 16), none, (.q (.bin .eql (.t 14) (.t 15))), []⟩]
@[simp] def b_RSide_10 (_ : Unit) : EB := reg0 (hid l_RSide_9) 6
@[simp] def l_RSide_11 (_ : Unit) : List EOp := [⟨0, (some 17), none, (.q (.mov (.t 6))), []⟩, ⟨1, (some 4), none, (.q (.mov (.t 17))), []⟩, ⟨2, (some 5), none, (.q (.mov (.k (.int .i64 0)))), []⟩]
@[simp] def b_RSide_12 (_ : Unit) : EB := reg0 (hid l_RSide_11) 3
@[simp] def b_RSide_13 (_ : Unit) : EB := .seq (hid b_RSide_12) .ret
@[simp] def b_RSide_14 (_ : Unit) : EB := .cond (.t 16) (hid b_RSide_13) .skip
@[simp] def b_RSide_15 (_ : Unit) : EB := .seq (hid b_RSide_10) (hid b_RSide_14)
@[simp] def b_RSide_16 (_ : Unit) : EB := .block 1 (hid b_RSide_15)
@[simp] def l_RSide_17 (_ : Unit) : List EOp := [⟨0, (some 9), none, (.q (.mov (.t 6))), []⟩, ⟨1, (some 10), none, (.q (.bin .add (.t 9) (.k (.int .i64 1)))), []⟩, ⟨2, (some 6), none, (.q (.mov (.t 10))), []⟩]
@[simp] def b_RSide_18 (_ : Unit) : EB := reg0 (hid l_RSide_17) 3
@[simp] def b_RSide_19 (_ : Unit) : EB := .seq (hid b_RSide_16) (hid b_RSide_18)
@[simp] def b_RSide_20 (_ : Unit) : EB := .seq (hid b_RSide_8) (hid b_RSide_19)
@[simp] def b_RSide_21 (_ : Unit) : EB := .loop (hid b_RSide_20)
@[simp] def b_RSide_22 (_ : Unit) : EB := .block 0 (hid b_RSide_21)
@[simp] def b_RSide_23 (_ : Unit) : EB := .seq (hid b_RSide_4) (hid b_RSide_22)
@[simp] def l_RSide_24 (_ : Unit) : List EOp := [⟨0, (some 4), none, (.q (.mov (.k (.int .i64 0)))), []⟩, ⟨1, (some 5), none, (.q (.mov (.k (.int .i64 33)))), []⟩]
@[simp] def b_RSide_25 (_ : Unit) : EB := reg0 (hid l_RSide_24) 2
@[simp] def b_RSide_26 (_ : Unit) : EB := .seq (hid b_RSide_25) .ret
@[simp] def b_RSide_27 (_ : Unit) : EB := .seq (hid b_RSide_23) (hid b_RSide_26)
@[simp] def b_RSide_28 (_ : Unit) : EB := .seq (hid b_RSide_2) (hid b_RSide_27)
def c_RSide : EB × List QOp × Nat := ((hid b_RSide_28), [(.mov (.t 4)), (.mov (.t 5))], 18)
theorem k_RSide : cfun Tryz.prog 20 = some c_RSide := by kernel_rfl


set_option maxRecDepth 8000 in
set_option maxHeartbeats 4000000 in
theorem giveR_ok (r : Rte) (h1 : r.f.tx.length = 32) (h2 : r.s.tx.length = 32) : ECalls Tryz.prog 9 [RVv r] [] fun y H' => H' = [] ∧ y = RVv r := by
  have l0 := rteC_len h1 h2
  have t0 := rt_take h1 h2
  have d76 := rt_d76 h1 h2
  have t38 := rt_t38 h1
  have s38 := rt_s38 h1 h2
  have e79 := idx_of (rt_79 h1 h2) (by omega)
  have e80 := idx_of (rt_80 h1 h2) (by omega)
  have lf := prmC_len h1
  have ls := prmC_len h2
  refine ecalls k_giveR ?_
  simp [c_giveR, RVv, l0, t0, e79, e80, d76, t38, s38, iC]
  refine call0 (giveP_ok r.f h1) (by simp [PVv]) ?_
  rintro y H' ⟨rfl, rfl⟩
  refine ⟨.inl (by simp [PVv]), le_ok rfl, ?_⟩
  simp [PVv, l0, t0, e79, e80, d76, t38, s38, iC]
  refine call0 (giveP_ok r.s h2) (by simp [PVv]) ?_
  rintro y H' ⟨rfl, rfl⟩
  refine ⟨.inl (by simp [PVv]), le_ok rfl, ?_⟩
  simp [PVv, l0, t0, e79, e80, d76, t38, s38, lf, ls, iC]
  obtain ⟨c0, c1, c2, c3, c4, c5, c6, c7, c8, c9, c10, c11, c12, c13, c14, c15, c16, c17, c18, c19, c20, c21, c22, c23, c24, c25, c26, c27, c28, c29, c30, c31, hX⟩ := list32 (hc r.f.tx) (by rw [hc_len, h1])
  obtain ⟨d0, d1, d2, d3, d4, d5, d6, d7, d8, d9, d10, d11, d12, d13, d14, d15, d16, d17, d18, d19, d20, d21, d22, d23, d24, d25, d26, d27, d28, d29, d30, d31, hY⟩ := list32 (hc r.s.tx) (by rw [hc_len, h2])
  have hPf : prmC r.f = c0 :: c1 :: c2 :: c3 :: c4 :: c5 :: c6 :: c7 :: c8 :: c9 :: c10 :: c11 :: c12 :: c13 :: c14 :: c15 :: c16 :: c17 :: c18 :: c19 :: c20 :: c21 :: c22 :: c23 :: c24 :: c25 :: c26 :: c27 :: c28 :: c29 :: c30 :: c31 :: iC r.f.n :: iC r.f.am :: iC r.f.k0 :: iC r.f.k1 :: iC r.f.dl :: iC r.f.fe :: [] := by unfold prmC; rw [hX]; rfl
  have hPs : prmC r.s = d0 :: d1 :: d2 :: d3 :: d4 :: d5 :: d6 :: d7 :: d8 :: d9 :: d10 :: d11 :: d12 :: d13 :: d14 :: d15 :: d16 :: d17 :: d18 :: d19 :: d20 :: d21 :: d22 :: d23 :: d24 :: d25 :: d26 :: d27 :: d28 :: d29 :: d30 :: d31 :: iC r.s.n :: iC r.s.am :: iC r.s.k0 :: iC r.s.k1 :: iC r.s.dl :: iC r.s.fe :: [] := by unfold prmC; rw [hY]; rfl
  have hP : rteC r = c0 :: c1 :: c2 :: c3 :: c4 :: c5 :: c6 :: c7 :: c8 :: c9 :: c10 :: c11 :: c12 :: c13 :: c14 :: c15 :: c16 :: c17 :: c18 :: c19 :: c20 :: c21 :: c22 :: c23 :: c24 :: c25 :: c26 :: c27 :: c28 :: c29 :: c30 :: c31 :: iC r.f.n :: iC r.f.am :: iC r.f.k0 :: iC r.f.k1 :: iC r.f.dl :: iC r.f.fe :: d0 :: d1 :: d2 :: d3 :: d4 :: d5 :: d6 :: d7 :: d8 :: d9 :: d10 :: d11 :: d12 :: d13 :: d14 :: d15 :: d16 :: d17 :: d18 :: d19 :: d20 :: d21 :: d22 :: d23 :: d24 :: d25 :: d26 :: d27 :: d28 :: d29 :: d30 :: d31 :: iC r.s.n :: iC r.s.am :: iC r.s.k0 :: iC r.s.k1 :: iC r.s.dl :: iC r.s.fe :: iC r.a :: iC r.b :: iC r.c :: iC r.am :: iC r.fe :: [] := by unfold rteC; rw [hPf, hPs]; rfl
  rw [hPf, hPs]
  exact fin [] (by decide) (v := .v (.agg (c0 :: c1 :: c2 :: c3 :: c4 :: c5 :: c6 :: c7 :: c8 :: c9 :: c10 :: c11 :: c12 :: c13 :: c14 :: c15 :: c16 :: c17 :: c18 :: c19 :: c20 :: c21 :: c22 :: c23 :: c24 :: c25 :: c26 :: c27 :: c28 :: c29 :: c30 :: c31 :: iC r.f.n :: iC r.f.am :: iC r.f.k0 :: iC r.f.k1 :: iC r.f.dl :: iC r.f.fe :: d0 :: d1 :: d2 :: d3 :: d4 :: d5 :: d6 :: d7 :: d8 :: d9 :: d10 :: d11 :: d12 :: d13 :: d14 :: d15 :: d16 :: d17 :: d18 :: d19 :: d20 :: d21 :: d22 :: d23 :: d24 :: d25 :: d26 :: d27 :: d28 :: d29 :: d30 :: d31 :: iC r.s.n :: iC r.s.am :: iC r.s.k0 :: iC r.s.k1 :: iC r.s.dl :: iC r.s.fe :: iC r.a :: iC r.b :: iC r.c :: iC r.am :: iC r.fe :: []))) rfl (y := RVv r) (by rw [← hP]; simp [conR, conTs, conT, RVv]) rfl ⟨rfl, rfl⟩

set_option maxHeartbeats 2000000 in
theorem RSide_ok (p : Prm) (who : Int) (hp : p.tx.length = 32) : ECalls Tryz.prog 20 [PVv p, I .i64 who] [] fun y H' => H' = [] ∧ y = .tup [.c (iC (sidV p who).1), .c (iC ((sidV p who).2 : Int))] := by
  have h1 := prmC_len hp
  have h2 := pm_take hp
  have e34 := idx_of (pm_34 hp) (by omega)
  have e35 := idx_of (pm_35 hp) (by omega)
  refine ecalls k_RSide ?_
  simp [c_RSide, I, PVv, h1, h2, iC]
  refine eloop (α := Nat) (fun i => i ≤ 2 ∧ (0 < i → ¬ p.k0 = who) ∧ (1 < i → ¬ p.k1 = who)) (fun i => 2 - i) (fun i => [PVv p, I .i64 who, .v (.c (.ptr 0 0)), .any, I .i64 0, I .i64 0, I .i64 i, .any, .any, .any, .any, .any, .any, .any, .any, .any, .any, .any]) (fun _ => [some (.box 28 (prmC p))]) 0 [0]
    ⟨by omega, by omega, by omega⟩ (by simp [I, PVv, h2]) (by simp) (by simp) (by simp) (by simp) ?_
  rintro i ⟨hi, h0, h1'⟩
  have w1 : IntKind.i64.wrap 1 = 1 := by decide +kernel
  have w2 : IntKind.i64.wrap 2 = 2 := by decide +kernel
  have w3 : IntKind.i64.wrap (1 + 1) = 2 := by decide +kernel
  rcases (by omega : i = 0 ∨ i = 1 ∨ i = 2) with rfl | rfl | rfl
  · by_cases c : p.k0 = who
    · have hv : sidV p who = (0, 0) := if_pos c
      rw [hv]
      simp [I, PVv, e34, e35, h1, h2, iC, w1, c]
      exact fin [] (by decide) rfl rfl rfl ⟨rfl, rfl⟩
    · simp [I, PVv, e34, e35, h1, h2, iC, w1, c]
      exact round 1 [0] ⟨by omega, by omega⟩ (by omega) (by simp [I, PVv]) (by simp [PVv]) (by simp) (by simp) (by simp)
  · have c := h0 (by omega)
    by_cases c2 : p.k1 = who
    · have hv : sidV p who = (1, 0) := by unfold sidV; rw [if_neg c, if_pos c2]
      rw [hv]
      simp [I, PVv, e34, e35, h1, h2, iC, w1, w2, w3, c2]
      exact fin [] (by decide) rfl rfl rfl ⟨rfl, rfl⟩
    · simp [I, PVv, e34, e35, h1, h2, iC, w1, w2, w3, c2]
      exact round 2 [0] ⟨by omega, fun _ => c⟩ (by omega) (by simp [I, PVv]) (by simp [PVv]) (by simp) (by simp) (by simp)
  · have c := h0 (by omega)
    have c2 := h1' (by omega)
    have hv : sidV p who = (0, 33) := by unfold sidV; rw [if_neg c, if_neg c2]
    rw [hv]
    simp [I, PVv, e34, e35, h1, h2, iC, w1, w2, w3]
    exact fin [] (by decide) rfl rfl rfl ⟨rfl, rfl⟩

end Go.Proofs.YtejjhgdnmknejaaGreatDoor

namespace Go.Proofs.YtejjhgdnmknejaaGreatDoor
open Go Go.EW
set_option linter.unusedSimpArgs false
set_option linter.unusedVariables false

@[simp] def l_RCheckV_1 (_ : Unit) : List EOp := [⟨0, (some 1), none, (.q (.box 31 (.t 0))), []⟩, ⟨1, (some 2), none, (.q (.mov (.k (.int .i64 0)))), []⟩]
@[simp] def b_RCheckV_2 (_ : Unit) : EB := reg0 (hid l_RCheckV_1) 2
@[simp] def l_RCheckV_3 (_ : Unit) : List EOp := [⟨0, (some 3), none, (.q (.mov (.k (.int .i64 0)))), []⟩]
@[simp] def b_RCheckV_4 (_ : Unit) : EB := reg0 (hid l_RCheckV_3) 1
@[simp] def l_RCheckV_5 (_ : Unit) : List EOp := [⟨0, (some 4), none, (.q (.mov (.t 3))), []⟩, ⟨1, (some 5), none, (.q (.bin .lss (.t 4) (.k (.int .i64 3)))), []⟩]
@[simp] def b_RCheckV_6 (_ : Unit) : EB := reg0 (hid l_RCheckV_5) 2
@[simp] def b_RCheckV_7 (_ : Unit) : EB := .cond (.t 5) .skip (.exit 0)
@[simp] def b_RCheckV_8 (_ : Unit) : EB := .seq (hid b_RCheckV_6) (hid b_RCheckV_7)
@[simp] def l_RCheckV_13 (_ : Unit) : List EOp := [⟨24, (some 32), none, (.q (.pick (.t 20) (.k (.bool true)) (.t 31))), []⟩]
@[simp] def l_RCheckV_12 (_ : Unit) : List EOp := ⟨18, (some 26), (some (20, false)), (.q (.bin .add (.t 25) (.k (.int .i64 1)))), []⟩ :: ⟨19, (some 27), (some (20, false)), (.q (.bin .rem (.t 26) (.k (.int .i64 3)))), []⟩ :: ⟨20, (some 28), (some (20, false)), (.q (.fad 76 (.t 1))), []⟩ :: ⟨21, (some 29), (some (20, false)), (.q (.iad 3 1 (.t 28) (.t 27))), []⟩ :: ⟨22, (some 30), (some (20, false)), (.q (.ldc (.t 29))), []⟩ :: ⟨23, (some 31), (some (20, false)), (.q (.bin .eql (.t 24) (.t 30))), []⟩ :: hid l_RCheckV_13
@[simp] def l_RCheckV_11 (_ : Unit) : List EOp := ⟨12, (some 20), none, (.q (.mov (.t 19))), []⟩ :: ⟨13, (some 21), (some (20, false)), (.q (.mov (.t 3))), []⟩ :: ⟨14, (some 22), (some (20, false)), (.q (.fad 76 (.t 1))), []⟩ :: ⟨15, (some 23), (some (20, false)), (.q (.iad 3 1 (.t 22) (.t 21))), []⟩ :: ⟨16, (some 24), (some (20, false)), (.q (.ldc (.t 23))), []⟩ :: ⟨17, (some 25), (some (20, false)), (.q (.mov (.t 3))), []⟩ :: hid l_RCheckV_12
@[simp] def l_RCheckV_10 (_ : Unit) : List EOp := ⟨6, (some 14), (some (13, false)), (.q (.mov (.t 3))), []⟩ :: ⟨7, (some 15), (some (13, false)), (.q (.fad 76 (.t 1))), []⟩ :: ⟨8, (some 16), (some (13, false)), (.q (.iad 3 1 (.t 15) (.t 14))), []⟩ :: ⟨9, (some 17), (some (13, false)), (.q (.ldc (.t 16))), []⟩ :: ⟨10, (some 18), (some (13, false)), (.q (.bin .gtr (.t 17) (.k (.int .i64 15)))), []⟩ :: ⟨11, (some 19), none, (.q (.pick (.t 13) (.k (.bool true)) (.t 18))), []⟩ :: hid l_RCheckV_11
@[simp] def l_RCheckV_9 (_ : Unit) : List EOp := ⟨0, (some 8), none, (.q (.mov (.t 3))), []⟩ :: ⟨1, (some 9), none, (.q (.fad 76 (.t 1))), []⟩ :: ⟨2, (some 10), none, (.q (.iad 3 1 (.t 9) (.t 8))), []⟩ :: ⟨3, (some 11), none, (.q (.ldc (.t 10))), []⟩ :: ⟨4, (some 12), none, (.q (.bin .lss (.t 11) (.k (.int .i64 0)))), []⟩ :: ⟨5, (some 13), none, (.q (.mov (.t 12))), []⟩ :: hid l_RCheckV_10
@[simp] def b_RCheckV_14 (_ : Unit) : EB := reg0 (hid l_RCheckV_9) 25
@[simp] def l_RCheckV_15 (_ : Unit) : List EOp := [⟨0, (some 2), none, (.q (.mov (.k (.int .i64 33)))), []⟩]
@[simp] def b_RCheckV_16 (_ : Unit) : EB := reg0 (hid l_RCheckV_15) 1
@[simp] def b_RCheckV_17 (_ : Unit) : EB := .seq (hid b_RCheckV_16) .ret
@[simp] def b_RCheckV_18 (_ : Unit) : EB := .cond (.t 32) (hid b_RCheckV_17) .skip
@[simp] def b_RCheckV_19 (_ : Unit) : EB := .seq (hid b_RCheckV_14) (hid b_RCheckV_18)
@[simp] def b_RCheckV_20 (_ : Unit) : EB := .block 1 (hid b_RCheckV_19)
@[simp] def l_RCheckV_21 (_ : Unit) : List EOp := [⟨0, (some 6), none, (.q (.mov (.t 3))), []⟩, ⟨1, (some 7), none, (.q (.bin .add (.t 6) (.k (.int .i64 1)))), []⟩, ⟨2, (some 3), none, (.q (.mov (.t 7))), []⟩]
@[simp] def b_RCheckV_22 (_ : Unit) : EB := reg0 (hid l_RCheckV_21) 3
@[simp] def b_RCheckV_23 (_ : Unit) : EB := .seq (hid b_RCheckV_20) (hid b_RCheckV_22)
@[simp] def b_RCheckV_24 (_ : Unit) : EB := .seq (hid b_RCheckV_8) (hid b_RCheckV_23)
@[simp] def b_RCheckV_25 (_ : Unit) : EB := .loop (hid b_RCheckV_24)
@[simp] def b_RCheckV_26 (_ : Unit) : EB := .block 0 (hid b_RCheckV_25)
@[simp] def b_RCheckV_27 (_ : Unit) : EB := .seq (hid b_RCheckV_4) (hid b_RCheckV_26)
@[simp] def l_RCheckV_31 (_ : Unit) : List EOp := [⟨18, (some 51), (some (43, false)), (.q (.ldc (.t 50))), []⟩, ⟨19, (some 52), (some (43, false)), (.call 51 [(.t 45), (.t 48), (.t 51)]), []⟩, ⟨20, (some 53), (some (43, false)), (.q (.un .not (.t 52))), []⟩, ⟨21, (some 54), none, (.q (.pick (.t 43) (.k (.bool true)) (.t 53))), []⟩]
@[simp] def l_RCheckV_30 (_ : Unit) : List EOp := ⟨12, (some 45), (some (43, false)), (.q (.lda 38 (.t 44))), []⟩ :: ⟨13, (some 46), (some (43, false)), (.q (.fad 76 (.t 1))), []⟩ :: ⟨14, (some 47), (some (43, false)), (.q (.iad 3 1 (.t 46) (.k (.int .i64 1)))), []⟩ :: ⟨15, (some 48), (some (43, false)), (.q (.ldc (.t 47))), []⟩ :: ⟨16, (some 49), (some (43, false)), (.q (.fad 76 (.t 1))), []⟩ :: ⟨17, (some 50), (some (43, false)), (.q (.iad 3 1 (.t 49) (.k (.int .i64 2)))), []⟩ :: hid l_RCheckV_31
@[simp] def l_RCheckV_29 (_ : Unit) : List EOp := ⟨6, (some 39), none, (.q (.iad 3 1 (.t 38) (.k (.int .i64 1)))), []⟩ :: ⟨7, (some 40), none, (.q (.ldc (.t 39))), []⟩ :: ⟨8, (some 41), none, (.call 51 [(.t 34), (.t 37), (.t 40)]), []⟩ :: ⟨9, (some 42), none, (.q (.un .not (.t 41))), []⟩ :: ⟨10, (some 43), none, (.q (.mov (.t 42))), []⟩ :: ⟨11, (some 44), (some (43, false)), (.q (.fad 38 (.t 1))), []⟩ :: hid l_RCheckV_30
@[simp] def l_RCheckV_28 (_ : Unit) : List EOp := ⟨0, (some 33), none, (.q (.fad 0 (.t 1))), []⟩ :: ⟨1, (some 34), none, (.q (.lda 38 (.t 33))), []⟩ :: ⟨2, (some 35), none, (.q (.fad 76 (.t 1))), []⟩ :: ⟨3, (some 36), none, (.q (.iad 3 1 (.t 35) (.k (.int .i64 0)))), []⟩ :: ⟨4, (some 37), none, (.q (.ldc (.t 36))), []⟩ :: ⟨5, (some 38), none, (.q (.fad 76 (.t 1))), []⟩ :: hid l_RCheckV_29
@[simp] def b_RCheckV_32 (_ : Unit) : EB := reg0 (hid l_RCheckV_28) 22
@[simp] def l_RCheckV_33 (_ : Unit) : List EOp := [⟨0, (some 2), none, (.q (.mov (.k (.int .i64 33)))), []⟩]
@[simp] def b_RCheckV_34 (_ : Unit) : EB := reg0 (hid l_RCheckV_33) 1
@[simp] def b_RCheckV_35 (_ : Unit) : EB := .seq (hid b_RCheckV_34) .ret
@[simp] def b_RCheckV_36 (_ : Unit) : EB := .cond (.t 54) (hid b_RCheckV_35) .skip
@[simp] def b_RCheckV_37 (_ : Unit) : EB := .seq (hid b_RCheckV_32) (hid b_RCheckV_36)
@[simp] def l_RCheckV_40 (_ : Unit) : List EOp := [⟨12, (some 67), none, (.q (.pick (.t 63) (.k (.bool true)) (.t 66))), []⟩]
@[simp] def l_RCheckV_39 (_ : Unit) : List EOp := ⟨6, (some 61), (some (58, false)), (.q (.bin .gtr (.t 60) (.k (.int .i64 1125899906842624)))), []⟩ :: ⟨7, (some 62), none, (.q (.pick (.t 58) (.k (.bool true)) (.t 61))), []⟩ :: ⟨8, (some 63), none, (.q (.mov (.t 62))), []⟩ :: ⟨9, (some 64), (some (63, false)), (.q (.fad 79 (.t 1))), []⟩ :: ⟨10, (some 65), (some (63, false)), (.q (.ldc (.t 64))), []⟩ :: ⟨11, (some 66), (some (63, false)), (.q (.bin .gtr (.t 65) (.k (.int .i64 1125899906842624)))), []⟩ :: hid l_RCheckV_40
@[simp] def l_RCheckV_38 (_ : Unit) : List EOp := ⟨0, (some 55), none, (.q (.fad 80 (.t 1))), []⟩ :: ⟨1, (some 56), none, (.q (.ldc (.t 55))), []⟩ :: ⟨2, (some 57), none, (.q (.bin .lss (.t 56) (.k (.int .i64 0)))), []⟩ :: ⟨3, (some 58), none, (.q (.mov (.t 57))), []⟩ :: ⟨4, (some 59), (some (58, false)), (.q (.fad 80 (.t 1))), []⟩ :: ⟨5, (some 60), (some (58, false)), (.q (.ldc (.t 59))), []⟩ :: hid l_RCheckV_39
@[simp] def b_RCheckV_41 (_ : Unit) : EB := reg0 (hid l_RCheckV_38) 13
@[simp] def l_RCheckV_42 (_ : Unit) : List EOp := [⟨0, (some 2), none, (.q (.mov (.k (.int .i64 1)))), []⟩]
@[simp] def b_RCheckV_43 (_ : Unit) : EB := reg0 (hid l_RCheckV_42) 1
@[simp] def b_RCheckV_44 (_ : Unit) : EB := .seq (hid b_RCheckV_43) .ret
@[simp] def b_RCheckV_45 (_ : Unit) : EB := .cond (.t 67) (hid b_RCheckV_44) .skip
@[simp] def b_RCheckV_46 (_ : Unit) : EB := .seq (hid b_RCheckV_41) (hid b_RCheckV_45)
@[simp] def l_RCheckV_48 (_ : Unit) : List EOp := [⟨6, (some 74), (some (71, false)), (.q (.fad 80 (.t 1))), []⟩, ⟨7, (some 75), (some (71, false)), (.q (.ldc (.t 74))), []⟩, ⟨8, (some 76), (some (71, false)), (.q (.bin .sub (.t 73) (.t 75))), []⟩, ⟨9, (some 77), (some (71, false)), (.q (.bin .lss (.t 76) (.k (.int .i64 10)))), []⟩, ⟨10, (some 78), none, (.q (.pick (.t 71) (.k (.bool true)) (.t 77))), []⟩]
@[simp] def l_RCheckV_47 (_ : Unit) : List EOp := ⟨0, (some 68), none, (.q (.fad 79 (.t 1))), []⟩ :: ⟨1, (some 69), none, (.q (.ldc (.t 68))), []⟩ :: ⟨2, (some 70), none, (.q (.bin .lss (.t 69) (.k (.int .i64 10)))), []⟩ :: ⟨3, (some 71), none, (.q (.mov (.t 70))), []⟩ :: ⟨4, (some 72), (some (71, false)), (.q (.fad 79 (.t 1))), []⟩ :: ⟨5, (some 73), (some (71, false)), (.q (.ldc (.t 72))), []⟩ :: hid l_RCheckV_48
@[simp] def b_RCheckV_49 (_ : Unit) : EB := reg0 (hid l_RCheckV_47) 11
@[simp] def l_RCheckV_50 (_ : Unit) : List EOp := [⟨0, (some 2), none, (.q (.mov (.k (.int .i64 27)))), []⟩]
@[simp] def b_RCheckV_51 (_ : Unit) : EB := reg0 (hid l_RCheckV_50) 1
@[simp] def b_RCheckV_52 (_ : Unit) : EB := .seq (hid b_RCheckV_51) .ret
@[simp] def b_RCheckV_53 (_ : Unit) : EB := .cond (.t 78) (hid b_RCheckV_52) .skip
@[simp] def b_RCheckV_54 (_ : Unit) : EB := .seq (hid b_RCheckV_49) (hid b_RCheckV_53)
@[simp] def l_RCheckV_55 (_ : Unit) : List EOp := [⟨0, (some 2), none, (.q (.mov (.k (.int .i64 0)))), []⟩]
@[simp] def b_RCheckV_56 (_ : Unit) : EB := reg0 (hid l_RCheckV_55) 1
@[simp] def b_RCheckV_57 (_ : Unit) : EB := .seq (hid b_RCheckV_56) .ret
@[simp] def b_RCheckV_58 (_ : Unit) : EB := .seq (hid b_RCheckV_54) (hid b_RCheckV_57)
@[simp] def b_RCheckV_59 (_ : Unit) : EB := .seq (hid b_RCheckV_46) (hid b_RCheckV_58)
@[simp] def b_RCheckV_60 (_ : Unit) : EB := .seq (hid b_RCheckV_37) (hid b_RCheckV_59)
@[simp] def b_RCheckV_61 (_ : Unit) : EB := .seq (hid b_RCheckV_27) (hid b_RCheckV_60)
@[simp] def b_RCheckV_62 (_ : Unit) : EB := .seq (hid b_RCheckV_2) (hid b_RCheckV_61)
def c_RCheckV : EB × List QOp × Nat := ((hid b_RCheckV_62), [(.mov (.t 2))], 79)
theorem k_RCheckV : cfun Tryz.prog 16 = some c_RCheckV := by kernel_rfl


def endV (x y : Int) : Prop := 0 ≤ x ∧ x < 16 ∧ ¬ x = y
structure RcI (r : Rte) (i : Nat) : Prop where
  le : i ≤ 3
  a : 0 < i → endV r.a r.b
  b : 1 < i → endV r.b r.c
  c : 2 < i → endV r.c r.a
theorem chk_33 {r : Rte} (h : ¬ prtV r) : chkV r = 33 := by unfold chkV; rw [if_pos h]

set_option maxHeartbeats 8000000 in
theorem RCheckV_ok (r : Rte) (hr : r.ok) : ECalls Tryz.prog 16 [RVv r] [] fun y H' => H' = [] ∧ y = I .i64 (chkV r) := by
  obtain ⟨⟨h1, _⟩, ⟨h2, _⟩, ⟨ha0, ha1⟩, ⟨hb0, hb1⟩, ⟨hc0, hc1⟩, ⟨hm0, hm1⟩, ⟨hf0, hf1⟩⟩ := id hr
  have l0 := rteC_len h1 h2
  have t0 := rt_take h1 h2
  have t38 := rt_t38 h1
  have s38 := rt_s38 h1 h2
  have e76 := idx_of (rt_76 h1 h2) (by omega)
  have e77 := idx_of (rt_77 h1 h2) (by omega)
  have e78 := idx_of (rt_78 h1 h2) (by omega)
  have e79 := idx_of (rt_79 h1 h2) (by omega)
  have e80 := idx_of (rt_80 h1 h2) (by omega)
  have w1 : IntKind.i64.wrap 1 = 1 := by decide +kernel
  have w2 : IntKind.i64.wrap 2 = 2 := by decide +kernel
  have w3 : IntKind.i64.wrap (1 + 1) = 2 := by decide +kernel
  have w4 : IntKind.i64.wrap (2 + 1) = 3 := by decide +kernel
  have w5 : IntKind.i64.wrap 3 = 3 := by decide +kernel
  have w6 : IntKind.i64.wrap 0 = 0 := by decide +kernel
  have w7 : IntKind.i64.wrap (0 + 1) = 1 := by decide +kernel
  refine ecalls k_RCheckV ?_
  simp [c_RCheckV, RVv, I, l0, t0, e76, e77, e78, e79, e80, t38, s38, iC]
  refine eloop (α := Nat) (RcI r) (fun i => 3 - i) (fun i => [RVv r, .v (.c (.ptr 0 0)), I .i64 0, I .i64 i, .any, .any, .any, .any, .any, .any, .any, .any, .any, .any, .any, .any, .any, .any, .any, .any, .any, .any, .any, .any, .any, .any, .any, .any, .any, .any, .any, .any, .any, .any, .any, .any, .any, .any, .any, .any, .any, .any, .any, .any, .any, .any, .any, .any, .any, .any, .any, .any, .any, .any, .any, .any, .any, .any, .any, .any, .any, .any, .any, .any, .any, .any, .any, .any, .any, .any, .any, .any, .any, .any, .any, .any, .any, .any, .any]) (fun _ => [some (.box 31 (rteC r))]) 0 [0]
    ⟨by omega, by omega, by omega, by omega⟩ (by simp [I, RVv, t0]) (by simp) (by simp) (by simp) (by simp) ?_
  intro i hi
  rcases (by have := hi.le; omega : i = 0 ∨ i = 1 ∨ i = 2 ∨ i = 3) with rfl | rfl | rfl | rfl
  · have hp : ∀ q : ¬ endV r.a r.b, chkV r = 33 := fun q => chk_33 (fun h => q (by obtain ⟨⟨_, _⟩, ⟨_, _⟩, ⟨_, _⟩, _, _, _, _, _⟩ := h; exact ⟨by omega, by omega, by omega⟩))
    by_cases z1 : r.a < 0
    · have z1' : ¬ 0 ≤ r.a := by omega
      rw [hp (fun h => by obtain ⟨_, _, _⟩ := h; omega)]
      simp [I, RVv, l0, t0, e76, e77, e78, e79, e80, t38, s38, iC, w1, w2, w3, w4, w5, w6, w7, z1, z1']
      exact fin [] (by decide) rfl rfl rfl ⟨rfl, rfl⟩
    have z1' : 0 ≤ r.a := by omega
    by_cases z2 : 15 < r.a
    · have z2' : ¬ r.a ≤ 15 := by omega
      rw [hp (fun h => by obtain ⟨_, _, _⟩ := h; omega)]
      simp [I, RVv, l0, t0, e76, e77, e78, e79, e80, t38, s38, iC, w1, w2, w3, w4, w5, w6, w7, z1, z1', z2, z2']
      exact fin [] (by decide) rfl rfl rfl ⟨rfl, rfl⟩
    have z2' : r.a ≤ 15 := by omega
    by_cases z3 : r.a = r.b
    · have z3' : r.b = r.a := z3.symm
      rw [hp (fun h => by obtain ⟨_, _, _⟩ := h; omega)]
      simp [I, RVv, l0, t0, e76, e77, e78, e79, e80, t38, s38, iC, w1, w2, w3, w4, w5, w6, w7, z1, z1', z2, z2', z3']
      exact fin [] (by decide) rfl rfl rfl ⟨rfl, rfl⟩
    have z3' : ¬ r.b = r.a := fun h => z3 h.symm
    simp [I, RVv, l0, t0, e76, e77, e78, e79, e80, t38, s38, iC, w1, w2, w3, w4, w5, w6, w7, z1, z1', z2, z2', z3]
    exact round 1 [0] ⟨by omega, fun _ => ⟨by omega, by omega, z3⟩, by omega, by omega⟩ (by omega) (by simp [I, RVv]) (by simp [RVv]) (by simp) (by simp) (by simp)
  · have hp : ∀ q : ¬ endV r.b r.c, chkV r = 33 := fun q => chk_33 (fun h => q (by obtain ⟨⟨_, _⟩, ⟨_, _⟩, ⟨_, _⟩, _, _, _, _, _⟩ := h; exact ⟨by omega, by omega, by omega⟩))
    by_cases z1 : r.b < 0
    · have z1' : ¬ 0 ≤ r.b := by omega
      rw [hp (fun h => by obtain ⟨_, _, _⟩ := h; omega)]
      simp [I, RVv, l0, t0, e76, e77, e78, e79, e80, t38, s38, iC, w1, w2, w3, w4, w5, w6, w7, z1, z1']
      exact fin [] (by decide) rfl rfl rfl ⟨rfl, rfl⟩
    have z1' : 0 ≤ r.b := by omega
    by_cases z2 : 15 < r.b
    · have z2' : ¬ r.b ≤ 15 := by omega
      rw [hp (fun h => by obtain ⟨_, _, _⟩ := h; omega)]
      simp [I, RVv, l0, t0, e76, e77, e78, e79, e80, t38, s38, iC, w1, w2, w3, w4, w5, w6, w7, z1, z1', z2, z2']
      exact fin [] (by decide) rfl rfl rfl ⟨rfl, rfl⟩
    have z2' : r.b ≤ 15 := by omega
    by_cases z3 : r.b = r.c
    · have z3' : r.c = r.b := z3.symm
      rw [hp (fun h => by obtain ⟨_, _, _⟩ := h; omega)]
      simp [I, RVv, l0, t0, e76, e77, e78, e79, e80, t38, s38, iC, w1, w2, w3, w4, w5, w6, w7, z1, z1', z2, z2', z3']
      exact fin [] (by decide) rfl rfl rfl ⟨rfl, rfl⟩
    have z3' : ¬ r.c = r.b := fun h => z3 h.symm
    simp [I, RVv, l0, t0, e76, e77, e78, e79, e80, t38, s38, iC, w1, w2, w3, w4, w5, w6, w7, z1, z1', z2, z2', z3]
    exact round 2 [0] ⟨by omega, fun _ => hi.a (by omega), fun _ => ⟨by omega, by omega, z3⟩, by omega⟩ (by omega) (by simp [I, RVv]) (by simp [RVv]) (by simp) (by simp) (by simp)
  · have hp : ∀ q : ¬ endV r.c r.a, chkV r = 33 := fun q => chk_33 (fun h => q (by obtain ⟨⟨_, _⟩, ⟨_, _⟩, ⟨_, _⟩, _, _, _, _, _⟩ := h; exact ⟨by omega, by omega, by omega⟩))
    by_cases z1 : r.c < 0
    · have z1' : ¬ 0 ≤ r.c := by omega
      rw [hp (fun h => by obtain ⟨_, _, _⟩ := h; omega)]
      simp [I, RVv, l0, t0, e76, e77, e78, e79, e80, t38, s38, iC, w1, w2, w3, w4, w5, w6, w7, z1, z1']
      exact fin [] (by decide) rfl rfl rfl ⟨rfl, rfl⟩
    have z1' : 0 ≤ r.c := by omega
    by_cases z2 : 15 < r.c
    · have z2' : ¬ r.c ≤ 15 := by omega
      rw [hp (fun h => by obtain ⟨_, _, _⟩ := h; omega)]
      simp [I, RVv, l0, t0, e76, e77, e78, e79, e80, t38, s38, iC, w1, w2, w3, w4, w5, w6, w7, z1, z1', z2, z2']
      exact fin [] (by decide) rfl rfl rfl ⟨rfl, rfl⟩
    have z2' : r.c ≤ 15 := by omega
    by_cases z3 : r.c = r.a
    · have z3' : r.a = r.c := z3.symm
      rw [hp (fun h => by obtain ⟨_, _, _⟩ := h; omega)]
      simp [I, RVv, l0, t0, e76, e77, e78, e79, e80, t38, s38, iC, w1, w2, w3, w4, w5, w6, w7, z1, z1', z2, z2', z3']
      exact fin [] (by decide) rfl rfl rfl ⟨rfl, rfl⟩
    have z3' : ¬ r.a = r.c := fun h => z3 h.symm
    simp [I, RVv, l0, t0, e76, e77, e78, e79, e80, t38, s38, iC, w1, w2, w3, w4, w5, w6, w7, z1, z1', z2, z2', z3]
    exact round 3 [0] ⟨by omega, fun _ => hi.a (by omega), fun _ => hi.b (by omega), fun _ => ⟨by omega, by omega, z3⟩⟩ (by omega) (by simp [I, RVv]) (by simp [RVv]) (by simp) (by simp) (by simp)
  · obtain ⟨qa1, qa2, qa3⟩ := hi.a (by omega)
    obtain ⟨qb1, qb2, qb3⟩ := hi.b (by omega)
    obtain ⟨qc1, qc2, qc3⟩ := hi.c (by omega)
    simp [I, RVv, l0, t0, e76, e77, e78, e79, e80, t38, s38, iC, w1, w2, w3, w4, w5, w6, w7]
    refine call0 (Rpair_ok r.f r.a r.b h1) (by simp [PVv, I]) ?_
    rintro y H' ⟨rfl, rfl⟩
    refine ⟨.inl (by simp), le_ok rfl, ?_⟩
    by_cases q6 : ofV r.f r.a r.b = true
    rotate_left
    · have q6' : ofV r.f r.a r.b = false := by simpa using q6
      rw [q6']
      rw [show chkV r = 33 by exact chk_33 (fun h => q6 h.2.2.2.2.2.2.1)]
      simp [I, RVv, l0, t0, e76, e77, e78, e79, e80, t38, s38, iC, w1, w2, w3, w4, w5, w6, w7, q6']
      exact fin [] (by decide) rfl rfl rfl ⟨rfl, rfl⟩
    rw [q6]
    simp [I, RVv, l0, t0, e76, e77, e78, e79, e80, t38, s38, iC, w1, w2, w3, w4, w5, w6, w7]
    refine call0 (Rpair_ok r.s r.b r.c h2) (by simp [PVv, I]) ?_
    rintro y H' ⟨rfl, rfl⟩
    refine ⟨.inl (by simp), le_ok rfl, ?_⟩
    by_cases q7 : ofV r.s r.b r.c = true
    rotate_left
    · have q7' : ofV r.s r.b r.c = false := by simpa using q7
      rw [q7']
      rw [show chkV r = 33 by exact chk_33 (fun h => q7 h.2.2.2.2.2.2.2)]
      simp [I, RVv, l0, t0, e76, e77, e78, e79, e80, t38, s38, iC, w1, w2, w3, w4, w5, w6, w7, q7']
      exact fin [] (by decide) rfl rfl rfl ⟨rfl, rfl⟩
    rw [q7]
    have hp : ¬ ¬ prtV r := fun h => h ⟨⟨qa1, qa2⟩, ⟨qb1, qb2⟩, ⟨qc1, qc2⟩, qa3, qb3, fun h => qc3 h.symm, q6, q7⟩
    by_cases z0 : r.fe < 0
    · have z0n : ¬ 0 ≤ r.fe := by omega
      rw [show chkV r = 1 by unfold chkV; rw [if_neg hp, if_pos (.inl z0)]]
      simp [I, RVv, l0, t0, e76, e77, e78, e79, e80, t38, s38, iC, w1, w2, w3, w4, w5, w6, w7, z0, z0n]
      exact fin [] (by decide) rfl rfl rfl ⟨rfl, rfl⟩
    have z0p : 0 ≤ r.fe := by omega
    by_cases z1 : 1125899906842624 < r.fe
    · have z1n : ¬ r.fe ≤ 1125899906842624 := by omega
      rw [show chkV r = 1 by unfold chkV; rw [if_neg hp, if_pos (.inr (.inl z1))]]
      simp [I, RVv, l0, t0, e76, e77, e78, e79, e80, t38, s38, iC, w1, w2, w3, w4, w5, w6, w7, z0, z0p, z1, z1n]
      exact fin [] (by decide) rfl rfl rfl ⟨rfl, rfl⟩
    have z1p : r.fe ≤ 1125899906842624 := by omega
    by_cases z2 : 1125899906842624 < r.am
    · have z2n : ¬ r.am ≤ 1125899906842624 := by omega
      rw [show chkV r = 1 by unfold chkV; rw [if_neg hp, if_pos (.inr (.inr z2))]]
      simp [I, RVv, l0, t0, e76, e77, e78, e79, e80, t38, s38, iC, w1, w2, w3, w4, w5, w6, w7, z0, z0p, z1, z1p, z2, z2n]
      exact fin [] (by decide) rfl rfl rfl ⟨rfl, rfl⟩
    have z2p : r.am ≤ 1125899906842624 := by omega
    by_cases z3 : r.am < 10
    · have z3n : ¬ 10 ≤ r.am := by omega
      rw [show chkV r = 27 by unfold chkV; rw [if_neg hp, if_neg (by omega), if_pos (by omega)]]
      simp [I, RVv, l0, t0, e76, e77, e78, e79, e80, t38, s38, iC, w1, w2, w3, w4, w5, w6, w7, z0, z0p, z1, z1p, z2, z2p, z3, z3n]
      exact fin [] (by decide) rfl rfl rfl ⟨rfl, rfl⟩
    have z3p : 10 ≤ r.am := by omega
    have wS : IntKind.i64.wrap (r.am - r.fe) = r.am - r.fe := wrap_i64 (by omega) (by omega)
    by_cases z4 : r.am - r.fe < 10
    · have z4n : ¬ 10 ≤ r.am - r.fe := by omega
      rw [show chkV r = 27 by unfold chkV; rw [if_neg hp, if_neg (by omega), if_pos (by omega)]]
      simp [I, RVv, l0, t0, e76, e77, e78, e79, e80, t38, s38, iC, w1, w2, w3, w4, w5, w6, w7, z0, z0p, z1, z1p, z2, z2p, z3, z3p, wS, z4, z4n]
      exact fin [] (by decide) rfl rfl rfl ⟨rfl, rfl⟩
    have z4p : 10 ≤ r.am - r.fe := by omega
    rw [show chkV r = 0 by unfold chkV; rw [if_neg hp, if_neg (by omega), if_neg (by omega)]]
    simp [I, RVv, l0, t0, e76, e77, e78, e79, e80, t38, s38, iC, w1, w2, w3, w4, w5, w6, w7, z0, z0p, z1, z1p, z2, z2p, z3, z3p, wS, z4, z4p]
    exact fin [] (by decide) rfl rfl rfl ⟨rfl, rfl⟩

end Go.Proofs.YtejjhgdnmknejaaGreatDoor

namespace Go.Proofs.YtejjhgdnmknejaaGreatDoor
open Go Go.EW
set_option linter.unusedSimpArgs false
set_option linter.unusedVariables false

theorem fzE_mp (o es : Nat) (xs : List (List FV)) : ∀ l : List FV, (l.map EC.fz).map (fzE o es xs) = l.map EC.fz
  | [] => rfl
  | a :: r => by rw [List.map_cons, List.map_cons, fzE_mp o es xs r]; rfl
@[simp] theorem fzE_rteC (o es : Nat) (xs : List (List FV)) (r : Rte) : (rteC r).map (fzE o es xs) = rteC r := by rw [← rteF_fz]; exact fzE_mp o es xs _
set_option maxHeartbeats 2000000 in
theorem cAllB_ok (tb : TypeId) (r : Rte) (hr : r.ok) (ks : List Int) (hks : ks = [r.a, r.b, r.c]) (hd : ks.Pairwise (· ≠ ·)) (hn : ks.length ≤ 100) : ECalls Tryz.prog 58 [.v (.c (.bsl 0 76 3))] [.box tb (rteC r)] fun y H' => H' = [some (.box tb (rteC r))] ∧ y = .v (.agg [.fz (.sl 35 [.sl 1 (intv (ks.foldl insI [])) :: (hf hz ++ [.lit (.int .i64 0), .lit (.int .i64 0)])])]) := by
  obtain ⟨⟨f1, _⟩, ⟨f2, _⟩, _⟩ := id hr
  have l0 := rteC_len f1 f2
  have h3 : ks.length = 3 := by rw [hks]; rfl
  have hcg : ∀ (i : Nat) (p : Int), ks[i]? = some p → (rteC r)[76 + i]? = some (iC p) := by
    intro i p h
    rw [rt_at f1 f2 i]
    rw [hks] at h
    rcases (by have := lt_len h; simp at this; omega : i = 0 ∨ i = 1 ∨ i = 2) with rfl | rfl | rfl <;> simp at h <;> subst h <;> rfl
  refine ecalls k_cAll ?_
  simp [c_cAll, I, IL]
  refine loopW _ (weak_nilF 3 1 rfl) ?_
  simp
  refine eloop (α := Nat) (fun i => i ≤ ks.length) (fun i => ks.length - i)
    (fun i => [.v (.c (.bsl 0 76 3)), .any, Ptr 1, IL ((ks.take i).foldl insI []), I .i64 i, .any, .any, .any, .any, .any, .any, .any, .any, .any, .any, .any, .any, .any, .any, .any, .any, .any, .any, .any, .any, .any, .any, .any, .any, .any, .any, .any, .any, .any, .any, .any, .any, .any, .any, .any, .any, .any, .any, .any, .any, .any, .any, .any, .any, .any, .any, .any, .any, .any, .any]) (fun _ => [some (.box tb (rteC r)), some (.box 152 [.fz (.lit (.slice none 0 0))])]) 0 [0, 1]
    (Nat.zero_le _) (by simp [I, IL, Ptr, intv]) (by simp) (by simp) (by simp) (by simp) ?_
  intro i hi
  obtain ⟨K, hK⟩ : ∃ K, (ks.take i).foldl insI [] = K := ⟨_, rfl⟩
  have hKl : K.length = i := by rw [← hK, fold_len]; simp; omega
  have hKm : ∀ y, y ∈ K → y ∈ ks.take i := fun y hy => by rw [← hK, fold_mem] at hy; simpa using hy
  simp [I, IL, Ptr, hK]
  refine alt (fun hlt => ?_) (fun hlt => ?_)
  · have hln : i < ks.length := by omega
    obtain ⟨p, hc⟩ : ∃ p, ks[i]? = some p := ⟨ks[i], by simp [hln]⟩
    have hge : (intv ks)[i]'(by simp [intv, hln]) = [.lit (.int .i64 p)] := by
      have e := intv_get hc
      rw [List.getElem?_eq_getElem (by simp [intv, hln])] at e
      exact Option.some.inj e
    have hcc := hcg i p hc
    have hi3 : i < 3 := by omega
    have hce := idx_of hcc (by omega)
    have hno : ∀ y ∈ K, y ≠ p := fun y hy => by
      have hp : (ks.take (i + 1)).Pairwise (· ≠ ·) := hd.sublist (List.take_sublist _ _)
      rw [List.take_add_one, hc] at hp
      exact (List.pairwise_append.1 hp).2.2 y (hKm y hy) p (by simp)
    have w4 : IntKind.i64.wrap ((i : Int) + 1) = ((i + 1 : Nat) : Int) := wrap_i64 (by omega) (by omega)
    have ht1 : (ks.take (i + 1)).foldl insI [] = insI K p := by rw [List.take_add_one, hc]; simp [hK]
    simp [hln, hge, l0, hlt, hcc, hce, hi3, iC]
    refine call0 (chas_ok K p hno (by omega)) (by simp [IL, I]) ?_
    rintro y H' ⟨rfl, rfl⟩
    refine ⟨.inl (by simp), le_ok rfl, ?_⟩
    simp
    refine eloop (α := Nat) (fun j => j ≤ K.length ∧ ∀ (k : Nat) (y : Int), k < j → K[k]? = some y → y < p) (fun j => K.length - j)
      (fun j => [.v (.c (.bsl 0 76 3)), .any, Ptr 1, IL K, I .i64 i, I .i64 j, .any, .any, .any, .any, .any, .any, .any, .any, .any, .any, .any, .any, .any, .any, .any, .any, .any, .any, .any, .any, .any, .any, .any, .any, .any, .any, .any, .any, .any, .any, .any, .any, .any, .any, .any, .any, .any, .any, .any, .any, .any, .any, .any, .any, .any, .any, .any, .any, .any]) (fun _ => [some (.box tb (rteC r)), some (.box 152 [.fz (.lit (.slice none 0 0))])]) 0 [0, 1]
      ⟨Nat.zero_le _, fun k y hk => absurd hk (Nat.not_lt_zero k)⟩ (by simp [I, IL, Ptr]) (by simp) (by simp) (by simp) (by simp) ?_
    rintro j ⟨hj, hlo⟩
    simp [I, IL, Ptr]
    refine alt (fun hjl => ?_) (fun hjl => ?_)
    · have hjn : j < K.length := by omega
      obtain ⟨q, hq⟩ : ∃ q, K[j]? = some q := ⟨K[j], by simp [hjn]⟩
      have hqe : (intv K)[j]'(by simp [intv, hjn]) = [.lit (.int .i64 q)] := by
        have e := intv_get hq
        rw [List.getElem?_eq_getElem (by simp [intv, hjn])] at e
        exact Option.some.inj e
      have w5 : IntKind.i64.wrap ((j : Int) + 1) = ((j + 1 : Nat) : Int) := wrap_i64 (by omega) (by omega)
      simp [hjn, hqe, hln, hge, l0, hlt, hcc, hce, hi3, iC]
      by_cases hqp : q < p
      · simp [hqp, w5, -Int.natCast_add]
        refine round (j + 1) [0, 1] ⟨by omega, ?_⟩ (by omega) (by simp) (by simp) (by simp) (by simp) (by simp)
        intro k y hk hy
        rcases Nat.lt_or_ge k j with h1 | h1
        · exact hlo k y h1 hy
        · obtain rfl : k = j := by omega
          rw [hq] at hy
          have := Option.some.inj hy
          omega
      · have hqn := hno q (List.mem_of_getElem? hq)
        have hpo : posI K p = j := posI_eq hj hlo (fun y hy => by rw [hq] at hy; have := Option.some.inj hy; omega)
        have hge' := intv_get hc
        simp [hj, hge', l0, hlt, hcc, hce, hi3, iC, hln, hge, hqp, w4, -Int.natCast_add]
        refine ⟨by omega, by omega, by omega, ?_⟩
        rw [ins_row hpo, show j + 1 + (K.length - j) = K.length + 1 by omega]
        refine ⟨i + 1, by omega, by show ks.length - (i + 1) < ks.length - i; omega, (weak_frz (o := 482) (ty := 3) (es := 1) (xs := intv (insI K p)) rfl).trans (weak_norm [0, 1] _ _ ?_ ?_ (by simp) (by simp) (by simp))⟩
        · simp [fzEV, ht1]
          exact List.take_of_length_le (by simp [intv, ins_len])
        · simp
    · have hjl' : ¬ j < K.length := by omega
      have hjl2 : K.length ≤ j := by omega
      simp [hjl', hjl2]
      have hpo : posI K p = j := posI_eq hj hlo (fun y hy => by have := lt_len hy; omega)
      have hge' := intv_get hc
      simp [hj, hjl', hge', l0, hlt, hcc, hce, hi3, iC, hln, hge, w4, -Int.natCast_add]
      refine ⟨by omega, by omega, by omega, ?_⟩
      rw [ins_row hpo, show j + 1 + (K.length - j) = K.length + 1 by omega]
      refine ⟨i + 1, by omega, by show ks.length - (i + 1) < ks.length - i; omega, (weak_frz (o := 482) (ty := 3) (es := 1) (xs := intv (insI K p)) rfl).trans (weak_norm [0, 1] _ _ ?_ ?_ (by simp) (by simp) (by simp))⟩
      · simp [fzEV, ht1]
        exact List.take_of_length_le (by simp [intv, ins_len])
      · simp
  · obtain rfl : i = ks.length := by omega
    rw [List.take_length] at hK
    have hr0 : (hc hz).flatMap rowsE = [] := rfl
    have hfz : frzAll (hc hz ++ [.fz (.lit (.int .i64 0)), .fz (.lit (.int .i64 0))]) = some (hf hz ++ [.lit (.int .i64 0), .lit (.int .i64 0)]) := rfl
    have hfl : (hf hz).length = 32 := rfl
    simp [hr0, hK, hfz, hfl]
    exact fin [] (by decide) rfl rfl (by simp [objsOut, show List.range 1 = [0] from rfl]) ⟨rfl, rfl⟩

end Go.Proofs.YtejjhgdnmknejaaGreatDoor

namespace Go.Proofs.YtejjhgdnmknejaaGreatDoor
open Go Go.EW
set_option linter.unusedSimpArgs false
set_option linter.unusedVariables false

@[simp] def l_Rhold_1 (_ : Unit) : List EOp := [⟨0, (some 2), none, (.q (.box 31 (.t 0))), []⟩, ⟨1, (some 4), none, (.q (.alloc 120 [(.int .i64 0), (.int .i64 0), (.slice none 0 0)])), []⟩]
@[simp] def b_Rhold_2 (_ : Unit) : EB := reg0 (hid l_Rhold_1) 2
@[simp] def l_Rhold_4 (_ : Unit) : List EOp := [⟨6, (some 11), none, (.q (.fgc 0 (.t 10))), []⟩, ⟨7, (some 12), none, (.q (.isl 35 (.t 11) (.k (.int .i64 0)))), []⟩, ⟨8, (some 13), none, (.q (.fad 0 (.t 12))), []⟩, ⟨9, (some 14), none, (.q (.ldc (.t 13))), []⟩, ⟨10, (some 15), none, (.q (.build [(.int .i64 0), (.int .i64 0), (.slice none 0 0)] [(0, 1, (.t 5)), (1, 1, (.t 7)), (2, 1, (.t 14))])), []⟩, ⟨11, none, none, (.fz (.sto 3 (.t 4) (.t 15))), []⟩]
@[simp] def l_Rhold_3 (_ : Unit) : List EOp := ⟨0, (some 5), none, (.q (.mov (.t 1))), []⟩ :: ⟨1, (some 6), none, (.q (.fad 79 (.t 2))), []⟩ :: ⟨2, (some 7), none, (.q (.ldc (.t 6))), []⟩ :: ⟨3, (some 8), none, (.q (.fad 76 (.t 2))), []⟩ :: ⟨4, (some 9), none, (.q (.sar 3 (.t 8) none none)), []⟩ :: ⟨5, (some 10), none, (.call 58 [(.t 9)]), [0, 1, 2]⟩ :: hid l_Rhold_4
@[simp] def b_Rhold_5 (_ : Unit) : EB := reg1 (hid l_Rhold_3) 12
@[simp] def b_Rhold_6 (_ : Unit) : EB := .seq (hid b_Rhold_5) .ret
@[simp] def b_Rhold_7 (_ : Unit) : EB := .seq (hid b_Rhold_2) (hid b_Rhold_6)
def c_Rhold : EB × List QOp × Nat := ((hid b_Rhold_7), [(.lda 3 (.t 4))], 16)
theorem k_Rhold : cfun Tryz.prog 45 = some c_Rhold := by kernel_rfl


theorem Rhold_ok (r : Rte) (id' : Int) (hr : r.ok) (h1 : r.a ≠ r.b) (h2 : r.b ≠ r.c) (h3 : r.a ≠ r.c) : ECalls Tryz.prog 45 [RVv r, I .i64 id'] [] fun y H' => H' = [] ∧ y = .v (.agg (holC (holV r id'))) := by
  obtain ⟨⟨f1, _⟩, ⟨f2, _⟩, _⟩ := id hr
  have l0 := rteC_len f1 f2
  have t0 := rt_take f1 f2
  have e79 := idx_of (rt_79 f1 f2) (by omega)
  have d76 := rt_d76 f1 f2
  have hA := cAllB_ok 31 r hr [r.a, r.b, r.c] rfl (by simp [h1, h2, h3]) (by simp)
  have hs : [r.a, r.b, r.c].foldl insI [] = srt [r.a, r.b, r.c] := insI_srt h1 h2 h3
  rw [hs] at hA
  have hfl : (hf hz).length = 32 := rfl
  refine ecalls k_Rhold ?_
  simp [c_Rhold, RVv, I, l0, t0, e79, iC]
  refine callS [0] hA (by simp) (by simp) (by simp) (by simp) (by
    intro i hi y H' hp
    obtain rfl : i = 0 := by simpa using hi
    obtain ⟨rfl, rfl⟩ := hp
    simp [after]) ?_
  rintro y H' ⟨rfl, rfl⟩
  refine ⟨.inl (by simp), by simp, ?_⟩
  simp [e79, l0, iC, hfl]
  exact fin [] (by decide) rfl rfl rfl ⟨rfl, rfl⟩

end Go.Proofs.YtejjhgdnmknejaaGreatDoor

namespace Go.Proofs.YtejjhgdnmknejaaGreatDoor
open Go Go.EW
set_option linter.unusedSimpArgs false
set_option linter.unusedVariables false

@[simp] def l_within_1 (_ : Unit) : List EOp := [⟨0, (some 6), none, (.q (.mov (.k (.bool false)))), []⟩]
@[simp] def b_within_2 (_ : Unit) : EB := reg0 (hid l_within_1) 1
@[simp] def l_within_4 (_ : Unit) : List EOp := [⟨6, (some 13), (some (10, true)), (.q (.bin .leq (.t 11) (.t 12))), []⟩, ⟨7, (some 14), none, (.q (.pick (.t 10) (.t 13) (.k (.bool false)))), []⟩, ⟨8, (some 6), none, (.q (.mov (.t 14))), []⟩]
@[simp] def l_within_3 (_ : Unit) : List EOp := ⟨0, (some 7), none, (.q (.mov (.t 0))), []⟩ :: ⟨1, (some 8), none, (.q (.mov (.t 1))), []⟩ :: ⟨2, (some 9), none, (.q (.bin .geq (.t 7) (.t 8))), []⟩ :: ⟨3, (some 10), none, (.q (.mov (.t 9))), []⟩ :: ⟨4, (some 11), (some (10, true)), (.q (.mov (.t 0))), []⟩ :: ⟨5, (some 12), (some (10, true)), (.q (.mov (.t 2))), []⟩ :: hid l_within_4
@[simp] def b_within_5 (_ : Unit) : EB := reg0 (hid l_within_3) 9
@[simp] def b_within_6 (_ : Unit) : EB := .seq (hid b_within_5) .ret
@[simp] def b_within_7 (_ : Unit) : EB := .seq (hid b_within_2) (hid b_within_6)
def c_within : EB × List QOp × Nat := ((hid b_within_7), [(.mov (.t 6))], 15)
theorem k_within : cfun Tryz.prog 157 = some c_within := by kernel_rfl

@[simp] def l_RpayMay_1 (_ : Unit) : List EOp := [⟨0, (some 1), none, (.q (.box 128 (.t 0))), []⟩, ⟨1, (some 2), none, (.q (.mov (.k (.bool false)))), []⟩]
@[simp] def b_RpayMay_2 (_ : Unit) : EB := reg0 (hid l_RpayMay_1) 2
@[simp] def l_RpayMay_7 (_ : Unit) : List EOp := [⟨24, (some 2), none, (.q (.mov (.t 26))), []⟩]
@[simp] def l_RpayMay_6 (_ : Unit) : List EOp := ⟨18, (some 21), none, (.q (.mov (.t 20))), []⟩ :: ⟨19, (some 22), (some (21, true)), (.q (.fad 4 (.t 1))), []⟩ :: ⟨20, (some 23), (some (21, true)), (.q (.lda 32 (.t 22))), []⟩ :: ⟨21, (some 24), (some (21, true)), (.q (.build zU8 [])), []⟩ :: ⟨22, (some 25), (some (21, true)), (.q (.eqa true 32 .u8 (.t 23) (.t 24))), []⟩ :: ⟨23, (some 26), none, (.q (.pick (.t 21) (.t 25) (.k (.bool false)))), []⟩ :: hid l_RpayMay_7
@[simp] def l_RpayMay_5 (_ : Unit) : List EOp := ⟨12, (some 15), none, (.q (.pick (.t 11) (.t 14) (.k (.bool false)))), []⟩ :: ⟨13, (some 16), none, (.q (.mov (.t 15))), []⟩ :: ⟨14, (some 17), (some (16, true)), (.q (.fad 3 (.t 1))), []⟩ :: ⟨15, (some 18), (some (16, true)), (.q (.ldc (.t 17))), []⟩ :: ⟨16, (some 19), (some (16, true)), (.call 157 [(.t 18), (.k (.int .i64 0)), (.k (.int .i64 1099511627776))]), []⟩ :: ⟨17, (some 20), none, (.q (.pick (.t 16) (.t 19) (.k (.bool false)))), []⟩ :: hid l_RpayMay_6
@[simp] def l_RpayMay_4 (_ : Unit) : List EOp := ⟨6, (some 9), (some (6, true)), (.call 157 [(.t 8), (.k (.int .i64 0)), (.k (.int .i64 1))]), []⟩ :: ⟨7, (some 10), none, (.q (.pick (.t 6) (.t 9) (.k (.bool false)))), []⟩ :: ⟨8, (some 11), none, (.q (.mov (.t 10))), []⟩ :: ⟨9, (some 12), (some (11, true)), (.q (.fad 2 (.t 1))), []⟩ :: ⟨10, (some 13), (some (11, true)), (.q (.ldc (.t 12))), []⟩ :: ⟨11, (some 14), (some (11, true)), (.call 157 [(.t 13), (.k (.int .i64 10)), (.k (.int .i64 1125899906842624))]), []⟩ :: hid l_RpayMay_5
@[simp] def l_RpayMay_3 (_ : Unit) : List EOp := ⟨0, (some 3), none, (.q (.fad 0 (.t 1))), []⟩ :: ⟨1, (some 4), none, (.q (.ldc (.t 3))), []⟩ :: ⟨2, (some 5), none, (.call 157 [(.t 4), (.k (.int .i64 0)), (.k (.int .i64 4294967296))]), []⟩ :: ⟨3, (some 6), none, (.q (.mov (.t 5))), []⟩ :: ⟨4, (some 7), (some (6, true)), (.q (.fad 1 (.t 1))), []⟩ :: ⟨5, (some 8), (some (6, true)), (.q (.ldc (.t 7))), []⟩ :: hid l_RpayMay_4
@[simp] def b_RpayMay_8 (_ : Unit) : EB := reg0 (hid l_RpayMay_3) 25
@[simp] def b_RpayMay_9 (_ : Unit) : EB := .seq (hid b_RpayMay_8) .ret
@[simp] def b_RpayMay_10 (_ : Unit) : EB := .seq (hid b_RpayMay_2) (hid b_RpayMay_9)
def c_RpayMay : EB × List QOp × Nat := ((hid b_RpayMay_10), [(.mov (.t 2))], 27)
theorem k_RpayMay : cfun Tryz.prog 195 = some c_RpayMay := by kernel_rfl

@[simp] def l_RholdMay_1 (_ : Unit) : List EOp := [⟨0, (some 1), none, (.q (.box 120 (.t 0))), []⟩, ⟨1, (some 2), none, (.q (.mov (.k (.bool false)))), []⟩]
@[simp] def b_RholdMay_2 (_ : Unit) : EB := reg0 (hid l_RholdMay_1) 2
@[simp] def l_RholdMay_3 (_ : Unit) : List EOp := [⟨0, (some 3), none, (.q (.mov (.k (.int .i64 0)))), []⟩]
@[simp] def b_RholdMay_4 (_ : Unit) : EB := reg0 (hid l_RholdMay_3) 1
@[simp] def l_RholdMay_5 (_ : Unit) : List EOp := [⟨0, (some 4), none, (.q (.mov (.t 3))), []⟩, ⟨1, (some 5), none, (.q (.fad 2 (.t 1))), []⟩, ⟨2, (some 6), none, (.q (.ldc (.t 5))), []⟩, ⟨3, (some 7), none, (.q (.len (.t 6))), []⟩, ⟨4, (some 8), none, (.q (.bin .lss (.t 4) (.t 7))), []⟩]
@[simp] def b_RholdMay_6 (_ : Unit) : EB := reg0 (hid l_RholdMay_5) 5
@[simp] def b_RholdMay_7 (_ : Unit) : EB := .cond (.t 8) .skip (.exit 0)
@[simp] def b_RholdMay_8 (_ : Unit) : EB := .seq (hid b_RholdMay_6) (hid b_RholdMay_7)
@[simp] def l_RholdMay_13 (_ : Unit) : List EOp := [⟨24, (some 35), none, (.q (.pick (.t 18) (.k (.bool true)) (.t 34))), []⟩]
@[simp] def l_RholdMay_12 (_ : Unit) : List EOp := ⟨18, (some 29), (some (21, true)), (.q (.ldc (.t 28))), []⟩ :: ⟨19, (some 30), (some (21, true)), (.q (.mov (.t 3))), []⟩ :: ⟨20, (some 31), (some (21, true)), (.q (.isl 1 (.t 29) (.t 30))), []⟩ :: ⟨21, (some 32), (some (21, true)), (.q (.ldc (.t 31))), []⟩ :: ⟨22, (some 33), (some (21, true)), (.q (.bin .geq (.t 27) (.t 32))), []⟩ :: ⟨23, (some 34), (some (18, false)), (.q (.pick (.t 21) (.t 33) (.k (.bool false)))), []⟩ :: hid l_RholdMay_13
@[simp] def l_RholdMay_11 (_ : Unit) : List EOp := ⟨12, (some 23), (some (21, true)), (.q (.ldc (.t 22))), []⟩ :: ⟨13, (some 24), (some (21, true)), (.q (.mov (.t 3))), []⟩ :: ⟨14, (some 25), (some (21, true)), (.q (.bin .sub (.t 24) (.k (.int .i64 1)))), []⟩ :: ⟨15, (some 26), (some (21, true)), (.q (.isl 1 (.t 23) (.t 25))), []⟩ :: ⟨16, (some 27), (some (21, true)), (.q (.ldc (.t 26))), []⟩ :: ⟨17, (some 28), (some (21, true)), (.q (.fad 2 (.t 1))), []⟩ :: hid l_RholdMay_12
@[simp] def l_RholdMay_10 (_ : Unit) : List EOp := ⟨6, (some 17), none, (.q (.un .not (.t 16))), []⟩ :: ⟨7, (some 18), none, (.q (.mov (.t 17))), []⟩ :: ⟨8, (some 19), (some (18, false)), (.q (.mov (.t 3))), []⟩ :: ⟨9, (some 20), (some (18, false)), (.q (.bin .gtr (.t 19) (.k (.int .i64 0)))), []⟩ :: ⟨10, (some 21), (some (18, false)), (.q (.mov (.t 20))), []⟩ :: ⟨11, (some 22), (some (21, true)), (.q (.fad 2 (.t 1))), []⟩ :: hid l_RholdMay_11
@[simp] def l_RholdMay_9 (_ : Unit) : List EOp := ⟨0, (some 11), none, (.q (.fad 2 (.t 1))), []⟩ :: ⟨1, (some 12), none, (.q (.ldc (.t 11))), []⟩ :: ⟨2, (some 13), none, (.q (.mov (.t 3))), []⟩ :: ⟨3, (some 14), none, (.q (.isl 1 (.t 12) (.t 13))), []⟩ :: ⟨4, (some 15), none, (.q (.ldc (.t 14))), []⟩ :: ⟨5, (some 16), none, (.call 157 [(.t 15), (.k (.int .i64 0)), (.k (.int .i64 15))]), []⟩ :: hid l_RholdMay_10
@[simp] def b_RholdMay_14 (_ : Unit) : EB := reg0 (hid l_RholdMay_9) 25
@[simp] def l_RholdMay_15 (_ : Unit) : List EOp := [⟨0, (some 2), none, (.q (.mov (.k (.bool false)))), []⟩]
@[simp] def b_RholdMay_16 (_ : Unit) : EB := reg0 (hid l_RholdMay_15) 1
@[simp] def b_RholdMay_17 (_ : Unit) : EB := .seq (hid b_RholdMay_16) .ret
@[simp] def b_RholdMay_18 (_ : Unit) : EB := .cond (.t 35) (hid b_RholdMay_17) .skip
@[simp] def b_RholdMay_19 (_ : Unit) : EB := .seq (hid b_RholdMay_14) (hid b_RholdMay_18)
@[simp] def b_RholdMay_20 (_ : Unit) : EB := .block 1 (hid b_RholdMay_19)
@[simp] def l_RholdMay_21 (_ : Unit) : List EOp := [⟨0, (some 9), none, (.q (.mov (.t 3))), []⟩, ⟨1, (some 10), none, (.q (.bin .add (.t 9) (.k (.int .i64 1)))), []⟩, ⟨2, (some 3), none, (.q (.mov (.t 10))), []⟩]
@[simp] def b_RholdMay_22 (_ : Unit) : EB := reg0 (hid l_RholdMay_21) 3
@[simp] def b_RholdMay_23 (_ : Unit) : EB := .seq (hid b_RholdMay_20) (hid b_RholdMay_22)
@[simp] def b_RholdMay_24 (_ : Unit) : EB := .seq (hid b_RholdMay_8) (hid b_RholdMay_23)
@[simp] def b_RholdMay_25 (_ : Unit) : EB := .loop (hid b_RholdMay_24)
@[simp] def b_RholdMay_26 (_ : Unit) : EB := .block 0 (hid b_RholdMay_25)
@[simp] def b_RholdMay_27 (_ : Unit) : EB := .seq (hid b_RholdMay_4) (hid b_RholdMay_26)
@[simp] def l_RholdMay_30 (_ : Unit) : List EOp := [⟨12, (some 48), (some (44, true)), (.q (.bin .gtr (.t 47) (.k (.int .i64 0)))), []⟩, ⟨13, (some 49), none, (.q (.pick (.t 44) (.t 48) (.k (.bool false)))), []⟩, ⟨14, (some 2), none, (.q (.mov (.t 49))), []⟩]
@[simp] def l_RholdMay_29 (_ : Unit) : List EOp := ⟨6, (some 42), (some (39, true)), (.call 157 [(.t 41), (.k (.int .i64 10)), (.k (.int .i64 1125899906842624))]), []⟩ :: ⟨7, (some 43), none, (.q (.pick (.t 39) (.t 42) (.k (.bool false)))), []⟩ :: ⟨8, (some 44), none, (.q (.mov (.t 43))), []⟩ :: ⟨9, (some 45), (some (44, true)), (.q (.fad 2 (.t 1))), []⟩ :: ⟨10, (some 46), (some (44, true)), (.q (.ldc (.t 45))), []⟩ :: ⟨11, (some 47), (some (44, true)), (.q (.len (.t 46))), []⟩ :: hid l_RholdMay_30
@[simp] def l_RholdMay_28 (_ : Unit) : List EOp := ⟨0, (some 36), none, (.q (.fad 0 (.t 1))), []⟩ :: ⟨1, (some 37), none, (.q (.ldc (.t 36))), []⟩ :: ⟨2, (some 38), none, (.call 157 [(.t 37), (.k (.int .i64 0)), (.k (.int .i64 4294967296))]), []⟩ :: ⟨3, (some 39), none, (.q (.mov (.t 38))), []⟩ :: ⟨4, (some 40), (some (39, true)), (.q (.fad 1 (.t 1))), []⟩ :: ⟨5, (some 41), (some (39, true)), (.q (.ldc (.t 40))), []⟩ :: hid l_RholdMay_29
@[simp] def b_RholdMay_31 (_ : Unit) : EB := reg0 (hid l_RholdMay_28) 15
@[simp] def b_RholdMay_32 (_ : Unit) : EB := .seq (hid b_RholdMay_31) .ret
@[simp] def b_RholdMay_33 (_ : Unit) : EB := .seq (hid b_RholdMay_27) (hid b_RholdMay_32)
@[simp] def b_RholdMay_34 (_ : Unit) : EB := .seq (hid b_RholdMay_2) (hid b_RholdMay_33)
def c_RholdMay : EB × List QOp × Nat := ((hid b_RholdMay_34), [(.mov (.t 2))], 50)
theorem k_RholdMay : cfun Tryz.prog 94 = some c_RholdMay := by kernel_rfl

@[simp] def l_RCheck_1 (_ : Unit) : List EOp := [⟨0, (some 1), none, (.q (.box 35 (.t 0))), []⟩, ⟨1, (some 2), none, (.q (.mov (.k (.int .i64 0)))), []⟩]
@[simp] def b_RCheck_2 (_ : Unit) : EB := reg0 (hid l_RCheck_1) 2
@[simp] def l_RCheck_9 (_ : Unit) : List EOp := [⟨36, (some 41), (some (35, false)), (.q (.len (.t 40))), []⟩, ⟨37, (some 42), (some (35, false)), (.q (.bin .add (.t 38) (.t 41))), []⟩, ⟨38, (some 43), (some (35, false)), (.q (.bin .gtr (.t 42) (.k (.int .i64 8)))), []⟩, ⟨39, (some 44), none, (.q (.pick (.t 35) (.k (.bool true)) (.t 43))), []⟩]
@[simp] def l_RCheck_8 (_ : Unit) : List EOp := ⟨30, (some 35), none, (.q (.mov (.t 34))), []⟩ :: ⟨31, (some 36), (some (35, false)), (.q (.fad 3 (.t 1))), []⟩ :: ⟨32, (some 37), (some (35, false)), (.q (.ldc (.t 36))), []⟩ :: ⟨33, (some 38), (some (35, false)), (.q (.len (.t 37))), []⟩ :: ⟨34, (some 39), (some (35, false)), (.q (.fad 4 (.t 1))), []⟩ :: ⟨35, (some 40), (some (35, false)), (.q (.ldc (.t 39))), []⟩ :: hid l_RCheck_9
@[simp] def l_RCheck_7 (_ : Unit) : List EOp := ⟨24, (some 29), none, (.q (.mov (.t 28))), []⟩ :: ⟨25, (some 30), (some (29, false)), (.q (.fad 4 (.t 1))), []⟩ :: ⟨26, (some 31), (some (29, false)), (.q (.ldc (.t 30))), []⟩ :: ⟨27, (some 32), (some (29, false)), (.q (.len (.t 31))), []⟩ :: ⟨28, (some 33), (some (29, false)), (.q (.bin .gtr (.t 32) (.k (.int .i64 8)))), []⟩ :: ⟨29, (some 34), none, (.q (.pick (.t 29) (.k (.bool true)) (.t 33))), []⟩ :: hid l_RCheck_8
@[simp] def l_RCheck_6 (_ : Unit) : List EOp := ⟨18, (some 23), none, (.q (.mov (.t 22))), []⟩ :: ⟨19, (some 24), (some (23, false)), (.q (.fad 3 (.t 1))), []⟩ :: ⟨20, (some 25), (some (23, false)), (.q (.ldc (.t 24))), []⟩ :: ⟨21, (some 26), (some (23, false)), (.q (.len (.t 25))), []⟩ :: ⟨22, (some 27), (some (23, false)), (.q (.bin .gtr (.t 26) (.k (.int .i64 8)))), []⟩ :: ⟨23, (some 28), none, (.q (.pick (.t 23) (.k (.bool true)) (.t 27))), []⟩ :: hid l_RCheck_7
@[simp] def l_RCheck_5 (_ : Unit) : List EOp := ⟨12, (some 17), (some (16, false)), (.q (.fad 1 (.t 1))), []⟩ :: ⟨13, (some 18), (some (16, false)), (.q (.iad 2 1 (.t 17) (.k (.int .i64 1)))), []⟩ :: ⟨14, (some 19), (some (16, false)), (.q (.ldc (.t 18))), []⟩ :: ⟨15, (some 20), (some (16, false)), (.call 157 [(.t 19), (.k (.int .i64 0)), (.k (.int .i64 1125899906842624))]), []⟩ :: ⟨16, (some 21), (some (16, false)), (.q (.un .not (.t 20))), []⟩ :: ⟨17, (some 22), none, (.q (.pick (.t 16) (.k (.bool true)) (.t 21))), []⟩ :: hid l_RCheck_6
@[simp] def l_RCheck_4 (_ : Unit) : List EOp := ⟨6, (some 11), (some (9, false)), (.q (.iad 2 1 (.t 10) (.k (.int .i64 0)))), []⟩ :: ⟨7, (some 12), (some (9, false)), (.q (.ldc (.t 11))), []⟩ :: ⟨8, (some 13), (some (9, false)), (.call 157 [(.t 12), (.k (.int .i64 0)), (.k (.int .i64 1125899906842624))]), []⟩ :: ⟨9, (some 14), (some (9, false)), (.q (.un .not (.t 13))), []⟩ :: ⟨10, (some 15), none, (.q (.pick (.t 9) (.k (.bool true)) (.t 14))), []⟩ :: ⟨11, (some 16), none, (.q (.mov (.t 15))), []⟩ :: hid l_RCheck_5
@[simp] def l_RCheck_3 (_ : Unit) : List EOp := ⟨0, (some 5), none, (.q (.fad 0 (.t 1))), []⟩ :: ⟨1, (some 6), none, (.q (.ldc (.t 5))), []⟩ :: ⟨2, (some 7), none, (.call 157 [(.t 6), (.k (.int .i64 0)), (.k (.int .i64 1099511627776))]), []⟩ :: ⟨3, (some 8), none, (.q (.un .not (.t 7))), []⟩ :: ⟨4, (some 9), none, (.q (.mov (.t 8))), []⟩ :: ⟨5, (some 10), (some (9, false)), (.q (.fad 1 (.t 1))), []⟩ :: hid l_RCheck_4
@[simp] def b_RCheck_10 (_ : Unit) : EB := reg0 (hid l_RCheck_3) 40
@[simp] def l_RCheck_11 (_ : Unit) : List EOp := [⟨0, (some 2), none, (.q (.mov (.k (.int .i64 1)))), []⟩]
@[simp] def b_RCheck_12 (_ : Unit) : EB := reg0 (hid l_RCheck_11) 1
@[simp] def b_RCheck_13 (_ : Unit) : EB := .seq (hid b_RCheck_12) .ret
@[simp] def b_RCheck_14 (_ : Unit) : EB := .cond (.t 44) (hid b_RCheck_13) .skip
@[simp] def b_RCheck_15 (_ : Unit) : EB := .seq (hid b_RCheck_10) (hid b_RCheck_14)
@[simp] def l_RCheck_16 (_ : Unit) : List EOp := [⟨0, (some 3), none, (.q (.mov (.k (.int .i64 0)))), []⟩]
@[simp] def b_RCheck_17 (_ : Unit) : EB := reg0 (hid l_RCheck_16) 1
@[simp] def l_RCheck_18 (_ : Unit) : List EOp := [⟨0, (some 45), none, (.q (.mov (.t 3))), []⟩, ⟨1, (some 46), none, (.q (.fad 3 (.t 1))), []⟩, ⟨2, (some 47), none, (.q (.ldc (.t 46))), []⟩, ⟨3, (some 48), none, (.q (.len (.t 47))), []⟩, ⟨4, (some 49), none, (.q (.bin .lss (.t 45) (.t 48))), []⟩]
@[simp] def b_RCheck_19 (_ : Unit) : EB := reg0 (hid l_RCheck_18) 5
@[simp] def b_RCheck_20 (_ : Unit) : EB := .cond (.t 49) .skip (.exit 0)
@[simp] def b_RCheck_21 (_ : Unit) : EB := .seq (hid b_RCheck_19) (hid b_RCheck_20)
@[simp] def l_RCheck_26 (_ : Unit) : List EOp := [⟨24, (some 76), (some (62, true)), (.q (.bin .leq (.t 68) (.t 75))), []⟩, ⟨25, (some 77), (some (59, false)), (.q (.pick (.t 62) (.t 76) (.k (.bool false)))), []⟩, ⟨26, (some 78), none, (.q (.pick (.t 59) (.k (.bool true)) (.t 77))), []⟩]
@[simp] def l_RCheck_25 (_ : Unit) : List EOp := ⟨18, (some 70), (some (62, true)), (.q (.ldc (.t 69))), []⟩ :: ⟨19, (some 71), (some (62, true)), (.q (.mov (.t 3))), []⟩ :: ⟨20, (some 72), (some (62, true)), (.q (.bin .sub (.t 71) (.k (.int .i64 1)))), []⟩ :: ⟨21, (some 73), (some (62, true)), (.q (.isl 36 (.t 70) (.t 72))), []⟩ :: ⟨22, (some 74), (some (62, true)), (.q (.fad 0 (.t 73))), []⟩ :: ⟨23, (some 75), (some (62, true)), (.q (.ldc (.t 74))), []⟩ :: hid l_RCheck_26
@[simp] def l_RCheck_24 (_ : Unit) : List EOp := ⟨12, (some 64), (some (62, true)), (.q (.ldc (.t 63))), []⟩ :: ⟨13, (some 65), (some (62, true)), (.q (.mov (.t 3))), []⟩ :: ⟨14, (some 66), (some (62, true)), (.q (.isl 36 (.t 64) (.t 65))), []⟩ :: ⟨15, (some 67), (some (62, true)), (.q (.fad 0 (.t 66))), []⟩ :: ⟨16, (some 68), (some (62, true)), (.q (.ldc (.t 67))), []⟩ :: ⟨17, (some 69), (some (62, true)), (.q (.fad 3 (.t 1))), []⟩ :: hid l_RCheck_25
@[simp] def l_RCheck_23 (_ : Unit) : List EOp := ⟨6, (some 58), none, (.q (.un .not (.t 57))), []⟩ :: ⟨7, (some 59), none, (.q (.mov (.t 58))), []⟩ :: ⟨8, (some 60), (some (59, false)), (.q (.mov (.t 3))), []⟩ :: ⟨9, (some 61), (some (59, false)), (.q (.bin .gtr (.t 60) (.k (.int .i64 0)))), []⟩ :: ⟨10, (some 62), (some (59, false)), (.q (.mov (.t 61))), []⟩ :: ⟨11, (some 63), (some (62, true)), (.q (.fad 3 (.t 1))), []⟩ :: hid l_RCheck_24
@[simp] def l_RCheck_22 (_ : Unit) : List EOp := ⟨0, (some 52), none, (.q (.fad 3 (.t 1))), []⟩ :: ⟨1, (some 53), none, (.q (.ldc (.t 52))), []⟩ :: ⟨2, (some 54), none, (.q (.mov (.t 3))), []⟩ :: ⟨3, (some 55), none, (.q (.isl 36 (.t 53) (.t 54))), []⟩ :: ⟨4, (some 56), none, (.q (.lda 36 (.t 55))), []⟩ :: ⟨5, (some 57), none, (.call 195 [(.t 56)]), []⟩ :: hid l_RCheck_23
@[simp] def b_RCheck_27 (_ : Unit) : EB := reg0 (hid l_RCheck_22) 27
@[simp] def l_RCheck_28 (_ : Unit) : List EOp := [⟨0, (some 2), none, (.q (.mov (.k (.int .i64 1)))), []⟩]
@[simp] def b_RCheck_29 (_ : Unit) : EB := reg0 (hid l_RCheck_28) 1
@[simp] def b_RCheck_30 (_ : Unit) : EB := .seq (hid b_RCheck_29) .ret
@[simp] def b_RCheck_31 (_ : Unit) : EB := .cond (.t 78) (hid b_RCheck_30) .skip
@[simp] def b_RCheck_32 (_ : Unit) : EB := .seq (hid b_RCheck_27) (hid b_RCheck_31)
@[simp] def b_RCheck_33 (_ : Unit) : EB := .block 1 (hid b_RCheck_32)
@[simp] def l_RCheck_34 (_ : Unit) : List EOp := [⟨0, (some 50), none, (.q (.mov (.t 3))), []⟩, ⟨1, (some 51), none, (.q (.bin .add (.t 50) (.k (.int .i64 1)))), []⟩, ⟨2, (some 3), none, (.q (.mov (.t 51))), []⟩]
@[simp] def b_RCheck_35 (_ : Unit) : EB := reg0 (hid l_RCheck_34) 3
@[simp] def b_RCheck_36 (_ : Unit) : EB := .seq (hid b_RCheck_33) (hid b_RCheck_35)
@[simp] def b_RCheck_37 (_ : Unit) : EB := .seq (hid b_RCheck_21) (hid b_RCheck_36)
@[simp] def b_RCheck_38 (_ : Unit) : EB := .loop (hid b_RCheck_37)
@[simp] def b_RCheck_39 (_ : Unit) : EB := .block 0 (hid b_RCheck_38)
@[simp] def b_RCheck_40 (_ : Unit) : EB := .seq (hid b_RCheck_17) (hid b_RCheck_39)
@[simp] def l_RCheck_41 (_ : Unit) : List EOp := [⟨0, (some 4), none, (.q (.mov (.k (.int .i64 0)))), []⟩]
@[simp] def b_RCheck_42 (_ : Unit) : EB := reg0 (hid l_RCheck_41) 1
@[simp] def l_RCheck_43 (_ : Unit) : List EOp := [⟨0, (some 79), none, (.q (.mov (.t 4))), []⟩, ⟨1, (some 80), none, (.q (.fad 4 (.t 1))), []⟩, ⟨2, (some 81), none, (.q (.ldc (.t 80))), []⟩, ⟨3, (some 82), none, (.q (.len (.t 81))), []⟩, ⟨4, (some 83), none, (.q (.bin .lss (.t 79) (.t 82))), []⟩]
@[simp] def b_RCheck_44 (_ : Unit) : EB := reg0 (hid l_RCheck_43) 5
@[simp] def b_RCheck_45 (_ : Unit) : EB := .cond (.t 83) .skip (.exit 2)
@[simp] def b_RCheck_46 (_ : Unit) : EB := .seq (hid b_RCheck_44) (hid b_RCheck_45)
@[simp] def l_RCheck_51 (_ : Unit) : List EOp := [⟨24, (some 110), (some (96, true)), (.q (.bin .leq (.t 102) (.t 109))), []⟩, ⟨25, (some 111), (some (93, false)), (.q (.pick (.t 96) (.t 110) (.k (.bool false)))), []⟩, ⟨26, (some 112), none, (.q (.pick (.t 93) (.k (.bool true)) (.t 111))), []⟩]
@[simp] def l_RCheck_50 (_ : Unit) : List EOp := ⟨18, (some 104), (some (96, true)), (.q (.ldc (.t 103))), []⟩ :: ⟨19, (some 105), (some (96, true)), (.q (.mov (.t 4))), []⟩ :: ⟨20, (some 106), (some (96, true)), (.q (.bin .sub (.t 105) (.k (.int .i64 1)))), []⟩ :: ⟨21, (some 107), (some (96, true)), (.q (.isl 3 (.t 104) (.t 106))), []⟩ :: ⟨22, (some 108), (some (96, true)), (.q (.fad 0 (.t 107))), []⟩ :: ⟨23, (some 109), (some (96, true)), (.q (.ldc (.t 108))), []⟩ :: hid l_RCheck_51
@[simp] def l_RCheck_49 (_ : Unit) : List EOp := ⟨12, (some 98), (some (96, true)), (.q (.ldc (.t 97))), []⟩ :: ⟨13, (some 99), (some (96, true)), (.q (.mov (.t 4))), []⟩ :: ⟨14, (some 100), (some (96, true)), (.q (.isl 3 (.t 98) (.t 99))), []⟩ :: ⟨15, (some 101), (some (96, true)), (.q (.fad 0 (.t 100))), []⟩ :: ⟨16, (some 102), (some (96, true)), (.q (.ldc (.t 101))), []⟩ :: ⟨17, (some 103), (some (96, true)), (.q (.fad 4 (.t 1))), []⟩ :: hid l_RCheck_50
@[simp] def l_RCheck_48 (_ : Unit) : List EOp := ⟨6, (some 92), none, (.q (.un .not (.t 91))), []⟩ :: ⟨7, (some 93), none, (.q (.mov (.t 92))), []⟩ :: ⟨8, (some 94), (some (93, false)), (.q (.mov (.t 4))), []⟩ :: ⟨9, (some 95), (some (93, false)), (.q (.bin .gtr (.t 94) (.k (.int .i64 0)))), []⟩ :: ⟨10, (some 96), (some (93, false)), (.q (.mov (.t 95))), []⟩ :: ⟨11, (some 97), (some (96, true)), (.q (.fad 4 (.t 1))), []⟩ :: hid l_RCheck_49
@[simp] def l_RCheck_47 (_ : Unit) : List EOp := ⟨0, (some 86), none, (.q (.fad 4 (.t 1))), []⟩ :: ⟨1, (some 87), none, (.q (.ldc (.t 86))), []⟩ :: ⟨2, (some 88), none, (.q (.mov (.t 4))), []⟩ :: ⟨3, (some 89), none, (.q (.isl 3 (.t 87) (.t 88))), []⟩ :: ⟨4, (some 90), none, (.q (.lda 3 (.t 89))), []⟩ :: ⟨5, (some 91), none, (.call 94 [(.t 90)]), []⟩ :: hid l_RCheck_48
@[simp] def b_RCheck_52 (_ : Unit) : EB := reg0 (hid l_RCheck_47) 27
@[simp] def l_RCheck_53 (_ : Unit) : List EOp := [⟨0, (some 2), none, (.q (.mov (.k (.int .i64 1)))), []⟩]
@[simp] def b_RCheck_54 (_ : Unit) : EB := reg0 (hid l_RCheck_53) 1
@[simp] def b_RCheck_55 (_ : Unit) : EB := .seq (hid b_RCheck_54) .ret
@[simp] def b_RCheck_56 (_ : Unit) : EB := .cond (.t 112) (hid b_RCheck_55) .skip
@[simp] def b_RCheck_57 (_ : Unit) : EB := .seq (hid b_RCheck_52) (hid b_RCheck_56)
@[simp] def b_RCheck_58 (_ : Unit) : EB := .block 3 (hid b_RCheck_57)
@[simp] def l_RCheck_59 (_ : Unit) : List EOp := [⟨0, (some 84), none, (.q (.mov (.t 4))), []⟩, ⟨1, (some 85), none, (.q (.bin .add (.t 84) (.k (.int .i64 1)))), []⟩, ⟨2, (some 4), none, (.q (.mov (.t 85))), []⟩]
@[simp] def b_RCheck_60 (_ : Unit) : EB := reg0 (hid l_RCheck_59) 3
@[simp] def b_RCheck_61 (_ : Unit) : EB := .seq (hid b_RCheck_58) (hid b_RCheck_60)
@[simp] def b_RCheck_62 (_ : Unit) : EB := .seq (hid b_RCheck_46) (hid b_RCheck_61)
@[simp] def b_RCheck_63 (_ : Unit) : EB := .loop (hid b_RCheck_62)
@[simp] def b_RCheck_64 (_ : Unit) : EB := .block 2 (hid b_RCheck_63)
@[simp] def b_RCheck_65 (_ : Unit) : EB := .seq (hid b_RCheck_42) (hid b_RCheck_64)
@[simp] def l_RCheck_66 (_ : Unit) : List EOp := [⟨0, (some 113), none, (.q (.lda 5 (.t 1))), []⟩, ⟨1, (some 114), none, (.call 196 [(.t 113)]), []⟩, ⟨2, (some 115), none, (.q (.bin .gtr (.t 114) (.k (.int .i64 1125899906842624)))), []⟩]
@[simp] def b_RCheck_67 (_ : Unit) : EB := reg0 (hid l_RCheck_66) 3
@[simp] def l_RCheck_68 (_ : Unit) : List EOp := [⟨0, (some 2), none, (.q (.mov (.k (.int .i64 1)))), []⟩]
@[simp] def b_RCheck_69 (_ : Unit) : EB := reg0 (hid l_RCheck_68) 1
@[simp] def b_RCheck_70 (_ : Unit) : EB := .seq (hid b_RCheck_69) .ret
@[simp] def b_RCheck_71 (_ : Unit) : EB := .cond (.t 115) (hid b_RCheck_70) .skip
@[simp] def b_RCheck_72 (_ : Unit) : EB := .seq (hid b_RCheck_67) (hid b_RCheck_71)
@[simp] def l_RCheck_73 (_ : Unit) : List EOp := [⟨0, (some 2), none, (.q (.mov (.k (.int .i64 0)))), []⟩]
@[simp] def b_RCheck_74 (_ : Unit) : EB := reg0 (hid l_RCheck_73) 1
@[simp] def b_RCheck_75 (_ : Unit) : EB := .seq (hid b_RCheck_74) .ret
@[simp] def b_RCheck_76 (_ : Unit) : EB := .seq (hid b_RCheck_72) (hid b_RCheck_75)
@[simp] def b_RCheck_77 (_ : Unit) : EB := .seq (hid b_RCheck_65) (hid b_RCheck_76)
@[simp] def b_RCheck_78 (_ : Unit) : EB := .seq (hid b_RCheck_40) (hid b_RCheck_77)
@[simp] def b_RCheck_79 (_ : Unit) : EB := .seq (hid b_RCheck_15) (hid b_RCheck_78)
@[simp] def b_RCheck_80 (_ : Unit) : EB := .seq (hid b_RCheck_2) (hid b_RCheck_79)
def c_RCheck : EB × List QOp × Nat := ((hid b_RCheck_80), [(.mov (.t 2))], 116)
theorem k_RCheck : cfun Tryz.prog 156 = some c_RCheck := by kernel_rfl

@[simp] def l_Rsum_1 (_ : Unit) : List EOp := [⟨0, (some 1), none, (.q (.box 35 (.t 0))), []⟩, ⟨1, (some 2), none, (.q (.mov (.k (.int .i64 0)))), []⟩]
@[simp] def b_Rsum_2 (_ : Unit) : EB := reg0 (hid l_Rsum_1) 2
@[simp] def l_Rsum_4 (_ : Unit) : List EOp := [⟨6, (some 12), none, (.q (.bin .add (.t 8) (.t 11))), []⟩, ⟨7, (some 3), none, (.q (.mov (.t 12))), []⟩]
@[simp] def l_Rsum_3 (_ : Unit) : List EOp := ⟨0, (some 6), none, (.q (.fad 1 (.t 1))), []⟩ :: ⟨1, (some 7), none, (.q (.iad 2 1 (.t 6) (.k (.int .i64 0)))), []⟩ :: ⟨2, (some 8), none, (.q (.ldc (.t 7))), []⟩ :: ⟨3, (some 9), none, (.q (.fad 1 (.t 1))), []⟩ :: ⟨4, (some 10), none, (.q (.iad 2 1 (.t 9) (.k (.int .i64 1)))), []⟩ :: ⟨5, (some 11), none, (.q (.ldc (.t 10))), []⟩ :: hid l_Rsum_4
@[simp] def b_Rsum_5 (_ : Unit) : EB := reg0 (hid l_Rsum_3) 8
@[simp] def l_Rsum_6 (_ : Unit) : List EOp := [⟨0, (some 4), none, (.q (.mov (.k (.int .i64 0)))), []⟩]
@[simp] def b_Rsum_7 (_ : Unit) : EB := reg0 (hid l_Rsum_6) 1
@[simp] def l_Rsum_8 (_ : Unit) : List EOp := [⟨0, (some 13), none, (.q (.mov (.t 4))), []⟩, ⟨1, (some 14), none, (.q (.fad 3 (.t 1))), []⟩, ⟨2, (some 15), none, (.q (.ldc (.t 14))), []⟩, ⟨3, (some 16), none, (.q (.len (.t 15))), []⟩, ⟨4, (some 17), none, (.q (.bin .lss (.t 13) (.t 16))), []⟩]
@[simp] def b_Rsum_9 (_ : Unit) : EB := reg0 (hid l_Rsum_8) 5
@[simp] def b_Rsum_10 (_ : Unit) : EB := .cond (.t 17) .skip (.exit 0)
@[simp] def b_Rsum_11 (_ : Unit) : EB := .seq (hid b_Rsum_9) (hid b_Rsum_10)
@[simp] def l_Rsum_13 (_ : Unit) : List EOp := [⟨6, (some 26), none, (.q (.ldc (.t 25))), []⟩, ⟨7, (some 27), none, (.q (.bin .add (.t 20) (.t 26))), []⟩, ⟨8, (some 3), none, (.q (.mov (.t 27))), []⟩]
@[simp] def l_Rsum_12 (_ : Unit) : List EOp := ⟨0, (some 20), none, (.q (.mov (.t 3))), []⟩ :: ⟨1, (some 21), none, (.q (.fad 3 (.t 1))), []⟩ :: ⟨2, (some 22), none, (.q (.ldc (.t 21))), []⟩ :: ⟨3, (some 23), none, (.q (.mov (.t 4))), []⟩ :: ⟨4, (some 24), none, (.q (.isl 36 (.t 22) (.t 23))), []⟩ :: ⟨5, (some 25), none, (.q (.fad 2 (.t 24))), []⟩ :: hid l_Rsum_13
@[simp] def b_Rsum_14 (_ : Unit) : EB := reg0 (hid l_Rsum_12) 9
@[simp] def b_Rsum_15 (_ : Unit) : EB := .block 1 (hid b_Rsum_14)
@[simp] def l_Rsum_16 (_ : Unit) : List EOp := [⟨0, (some 18), none, (.q (.mov (.t 4))), []⟩, ⟨1, (some 19), none, (.q (.bin .add (.t 18) (.k (.int .i64 1)))), []⟩, ⟨2, (some 4), none, (.q (.mov (.t 19))), []⟩]
@[simp] def b_Rsum_17 (_ : Unit) : EB := reg0 (hid l_Rsum_16) 3
@[simp] def b_Rsum_18 (_ : Unit) : EB := .seq (hid b_Rsum_15) (hid b_Rsum_17)
@[simp] def b_Rsum_19 (_ : Unit) : EB := .seq (hid b_Rsum_11) (hid b_Rsum_18)
@[simp] def b_Rsum_20 (_ : Unit) : EB := .loop (hid b_Rsum_19)
@[simp] def b_Rsum_21 (_ : Unit) : EB := .block 0 (hid b_Rsum_20)
@[simp] def b_Rsum_22 (_ : Unit) : EB := .seq (hid b_Rsum_7) (hid b_Rsum_21)
@[simp] def l_Rsum_23 (_ : Unit) : List EOp := [⟨0, (some 5), none, (.q (.mov (.k (.int .i64 0)))), []⟩]
@[simp] def b_Rsum_24 (_ : Unit) : EB := reg0 (hid l_Rsum_23) 1
@[simp] def l_Rsum_25 (_ : Unit) : List EOp := [⟨0, (some 28), none, (.q (.mov (.t 5))), []⟩, ⟨1, (some 29), none, (.q (.fad 4 (.t 1))), []⟩, ⟨2, (some 30), none, (.q (.ldc (.t 29))), []⟩, ⟨3, (some 31), none, (.q (.len (.t 30))), []⟩, ⟨4, (some 32), none, (.q (.bin .lss (.t 28) (.t 31))), []⟩]
@[simp] def b_Rsum_26 (_ : Unit) : EB := reg0 (hid l_Rsum_25) 5
@[simp] def b_Rsum_27 (_ : Unit) : EB := .cond (.t 32) .skip (.exit 2)
@[simp] def b_Rsum_28 (_ : Unit) : EB := .seq (hid b_Rsum_26) (hid b_Rsum_27)
@[simp] def l_Rsum_30 (_ : Unit) : List EOp := [⟨6, (some 41), none, (.q (.ldc (.t 40))), []⟩, ⟨7, (some 42), none, (.q (.bin .add (.t 35) (.t 41))), []⟩, ⟨8, (some 3), none, (.q (.mov (.t 42))), []⟩]
@[simp] def l_Rsum_29 (_ : Unit) : List EOp := ⟨0, (some 35), none, (.q (.mov (.t 3))), []⟩ :: ⟨1, (some 36), none, (.q (.fad 4 (.t 1))), []⟩ :: ⟨2, (some 37), none, (.q (.ldc (.t 36))), []⟩ :: ⟨3, (some 38), none, (.q (.mov (.t 5))), []⟩ :: ⟨4, (some 39), none, (.q (.isl 3 (.t 37) (.t 38))), []⟩ :: ⟨5, (some 40), none, (.q (.fad 1 (.t 39))), []⟩ :: hid l_Rsum_30
@[simp] def b_Rsum_31 (_ : Unit) : EB := reg0 (hid l_Rsum_29) 9
@[simp] def b_Rsum_32 (_ : Unit) : EB := .block 3 (hid b_Rsum_31)
@[simp] def l_Rsum_33 (_ : Unit) : List EOp := [⟨0, (some 33), none, (.q (.mov (.t 5))), []⟩, ⟨1, (some 34), none, (.q (.bin .add (.t 33) (.k (.int .i64 1)))), []⟩, ⟨2, (some 5), none, (.q (.mov (.t 34))), []⟩]
@[simp] def b_Rsum_34 (_ : Unit) : EB := reg0 (hid l_Rsum_33) 3
@[simp] def b_Rsum_35 (_ : Unit) : EB := .seq (hid b_Rsum_32) (hid b_Rsum_34)
@[simp] def b_Rsum_36 (_ : Unit) : EB := .seq (hid b_Rsum_28) (hid b_Rsum_35)
@[simp] def b_Rsum_37 (_ : Unit) : EB := .loop (hid b_Rsum_36)
@[simp] def b_Rsum_38 (_ : Unit) : EB := .block 2 (hid b_Rsum_37)
@[simp] def b_Rsum_39 (_ : Unit) : EB := .seq (hid b_Rsum_24) (hid b_Rsum_38)
@[simp] def l_Rsum_40 (_ : Unit) : List EOp := [⟨0, (some 43), none, (.q (.mov (.t 3))), []⟩, ⟨1, (some 2), none, (.q (.mov (.t 43))), []⟩]
@[simp] def b_Rsum_41 (_ : Unit) : EB := reg0 (hid l_Rsum_40) 2
@[simp] def b_Rsum_42 (_ : Unit) : EB := .seq (hid b_Rsum_41) .ret
@[simp] def b_Rsum_43 (_ : Unit) : EB := .seq (hid b_Rsum_39) (hid b_Rsum_42)
@[simp] def b_Rsum_44 (_ : Unit) : EB := .seq (hid b_Rsum_22) (hid b_Rsum_43)
@[simp] def b_Rsum_45 (_ : Unit) : EB := .seq (hid b_Rsum_5) (hid b_Rsum_44)
@[simp] def b_Rsum_46 (_ : Unit) : EB := .seq (hid b_Rsum_2) (hid b_Rsum_45)
def c_Rsum : EB × List QOp × Nat := ((hid b_Rsum_46), [(.mov (.t 2))], 44)
theorem k_Rsum : cfun Tryz.prog 196 = some c_Rsum := by kernel_rfl

@[simp] def l_Rright_1 (_ : Unit) : List EOp := [⟨0, (some 1), none, (.q (.box 35 (.t 0))), []⟩, ⟨1, (some 2), none, (.q (.mov (.k (.bool false)))), []⟩]
@[simp] def b_Rright_2 (_ : Unit) : EB := reg0 (hid l_Rright_1) 2
@[simp] def l_Rright_4 (_ : Unit) : List EOp := [⟨6, (some 9), (some (6, true)), (.q (.bin .lss (.t 8) (.k (.int .i64 1099511627776)))), []⟩, ⟨7, (some 10), none, (.q (.pick (.t 6) (.t 9) (.k (.bool false)))), []⟩, ⟨8, (some 2), none, (.q (.mov (.t 10))), []⟩]
@[simp] def l_Rright_3 (_ : Unit) : List EOp := ⟨0, (some 3), none, (.q (.lda 5 (.t 1))), []⟩ :: ⟨1, (some 4), none, (.call 156 [(.t 3)]), []⟩ :: ⟨2, (some 5), none, (.q (.bin .eql (.t 4) (.k (.int .i64 0)))), []⟩ :: ⟨3, (some 6), none, (.q (.mov (.t 5))), []⟩ :: ⟨4, (some 7), (some (6, true)), (.q (.fad 0 (.t 1))), []⟩ :: ⟨5, (some 8), (some (6, true)), (.q (.ldc (.t 7))), []⟩ :: hid l_Rright_4
@[simp] def b_Rright_5 (_ : Unit) : EB := reg0 (hid l_Rright_3) 9
@[simp] def b_Rright_6 (_ : Unit) : EB := .seq (hid b_Rright_5) .ret
@[simp] def b_Rright_7 (_ : Unit) : EB := .seq (hid b_Rright_2) (hid b_Rright_6)
def c_Rright : EB × List QOp × Nat := ((hid b_Rright_7), [(.mov (.t 2))], 11)
theorem k_Rright : cfun Tryz.prog 93 = some c_Rright := by kernel_rfl

@[simp] def l_Rwith_1 (_ : Unit) : List EOp := [⟨0, (some 5), none, (.q (.box 35 (.t 0))), []⟩, ⟨1, (some 10), none, (.q (.alloc 35 [(.int .i64 0), (.int .i64 0), (.int .i64 0), (.slice none 0 0), (.slice none 0 0)])), []⟩]
@[simp] def b_Rwith_2 (_ : Unit) : EB := reg0 (hid l_Rwith_1) 2
@[simp] def l_Rwith_5 (_ : Unit) : List EOp := [⟨12, (some 23), none, (.q (.bin .add (.t 21) (.t 22))), []⟩, ⟨13, (some 24), none, (.q (.build [(.int .i64 0), (.int .i64 0)] [(0, 1, (.t 18)), (1, 1, (.t 23))])), []⟩, ⟨14, (some 25), none, (.q (.mov (.t 3))), []⟩, ⟨15, (some 26), none, (.q (.mov (.t 4))), []⟩, ⟨16, (some 27), none, (.q (.build [(.int .i64 0), (.int .i64 0), (.int .i64 0), (.slice none 0 0), (.slice none 0 0)] [(0, 1, (.t 13)), (1, 2, (.t 24)), (3, 1, (.t 25)), (4, 1, (.t 26))])), []⟩, ⟨17, none, none, (.fz (.sto 5 (.t 10) (.t 27))), []⟩]
@[simp] def l_Rwith_4 (_ : Unit) : List EOp := ⟨6, (some 17), none, (.q (.mov (.t 1))), []⟩ :: ⟨7, (some 18), none, (.q (.bin .add (.t 16) (.t 17))), []⟩ :: ⟨8, (some 19), none, (.q (.fad 1 (.t 5))), []⟩ :: ⟨9, (some 20), none, (.q (.iad 2 1 (.t 19) (.k (.int .i64 1)))), []⟩ :: ⟨10, (some 21), none, (.q (.ldc (.t 20))), []⟩ :: ⟨11, (some 22), none, (.q (.mov (.t 2))), []⟩ :: hid l_Rwith_5
@[simp] def l_Rwith_3 (_ : Unit) : List EOp := ⟨0, (some 11), none, (.q (.fad 0 (.t 5))), []⟩ :: ⟨1, (some 12), none, (.q (.ldc (.t 11))), []⟩ :: ⟨2, (some 13), none, (.q (.bin .add (.t 12) (.k (.int .i64 1)))), []⟩ :: ⟨3, (some 14), none, (.q (.fad 1 (.t 5))), []⟩ :: ⟨4, (some 15), none, (.q (.iad 2 1 (.t 14) (.k (.int .i64 0)))), []⟩ :: ⟨5, (some 16), none, (.q (.ldc (.t 15))), []⟩ :: hid l_Rwith_4
@[simp] def b_Rwith_6 (_ : Unit) : EB := reg0 (hid l_Rwith_3) 18
@[simp] def b_Rwith_7 (_ : Unit) : EB := .seq (hid b_Rwith_6) .ret
@[simp] def b_Rwith_8 (_ : Unit) : EB := .seq (hid b_Rwith_2) (hid b_Rwith_7)
def c_Rwith : EB × List QOp × Nat := ((hid b_Rwith_8), [(.lda 5 (.t 10))], 28)
theorem k_Rwith : cfun Tryz.prog 97 = some c_Rwith := by kernel_rfl

@[simp] def l_Rto_1 (_ : Unit) : List EOp := [⟨0, (some 4), none, (.q (.mov (.k (.int .i64 0)))), []⟩, ⟨1, (some 5), none, (.q (.mov (.k (.int .i64 0)))), []⟩]
@[simp] def b_Rto_2 (_ : Unit) : EB := reg0 (hid l_Rto_1) 2
@[simp] def l_Rto_3 (_ : Unit) : List EOp := [⟨0, (some 6), none, (.q (.mov (.t 0))), []⟩, ⟨1, (some 7), none, (.q (.bin .eql (.t 6) (.k (.int .i64 0)))), []⟩]
@[simp] def b_Rto_4 (_ : Unit) : EB := reg0 (hid l_Rto_3) 2
@[simp] def l_Rto_5 (_ : Unit) : List EOp := [⟨0, (some 8), none, (.q (.mov (.t 1))), []⟩, ⟨1, (some 4), none, (.q (.mov (.t 8))), []⟩, ⟨2, (some 5), none, (.q (.mov (.k (.int .i64 0)))), []⟩]
@[simp] def b_Rto_6 (_ : Unit) : EB := reg0 (hid l_Rto_5) 3
@[simp] def b_Rto_7 (_ : Unit) : EB := .seq (hid b_Rto_6) .ret
@[simp] def b_Rto_8 (_ : Unit) : EB := .cond (.t 7) (hid b_Rto_7) .skip
@[simp] def b_Rto_9 (_ : Unit) : EB := .seq (hid b_Rto_4) (hid b_Rto_8)
@[simp] def l_Rto_10 (_ : Unit) : List EOp := [⟨0, (some 9), none, (.q (.mov (.t 1))), []⟩, ⟨1, (some 4), none, (.q (.mov (.k (.int .i64 0)))), []⟩, ⟨2, (some 5), none, (.q (.mov (.t 9))), []⟩]
@[simp] def b_Rto_11 (_ : Unit) : EB := reg0 (hid l_Rto_10) 3
@[simp] def b_Rto_12 (_ : Unit) : EB := .seq (hid b_Rto_11) .ret
@[simp] def b_Rto_13 (_ : Unit) : EB := .seq (hid b_Rto_9) (hid b_Rto_12)
@[simp] def b_Rto_14 (_ : Unit) : EB := .seq (hid b_Rto_2) (hid b_Rto_13)
def c_Rto : EB × List QOp × Nat := ((hid b_Rto_14), [(.mov (.t 4)), (.mov (.t 5))], 10)
theorem k_Rto : cfun Tryz.prog 96 = some c_Rto := by kernel_rfl

@[simp] def l_RTotal_1 (_ : Unit) : List EOp := [⟨0, (some 1), none, (.q (.box 35 (.t 0))), []⟩, ⟨1, (some 2), none, (.q (.mov (.k (.int .i64 0)))), []⟩]
@[simp] def b_RTotal_2 (_ : Unit) : EB := reg0 (hid l_RTotal_1) 2
@[simp] def l_RTotal_3 (_ : Unit) : List EOp := [⟨0, (some 3), none, (.q (.lda 5 (.t 1))), []⟩, ⟨1, (some 4), none, (.call 156 [(.t 3)]), []⟩, ⟨2, (some 5), none, (.q (.bin .neq (.t 4) (.k (.int .i64 0)))), []⟩]
@[simp] def b_RTotal_4 (_ : Unit) : EB := reg0 (hid l_RTotal_3) 3
@[simp] def l_RTotal_5 (_ : Unit) : List EOp := [⟨0, (some 2), none, (.q (.mov (.k (.int .i64 0)))), []⟩]
@[simp] def b_RTotal_6 (_ : Unit) : EB := reg0 (hid l_RTotal_5) 1
@[simp] def b_RTotal_7 (_ : Unit) : EB := .seq (hid b_RTotal_6) .ret
@[simp] def b_RTotal_8 (_ : Unit) : EB := .cond (.t 5) (hid b_RTotal_7) .skip
@[simp] def b_RTotal_9 (_ : Unit) : EB := .seq (hid b_RTotal_4) (hid b_RTotal_8)
@[simp] def l_RTotal_10 (_ : Unit) : List EOp := [⟨0, (some 6), none, (.q (.lda 5 (.t 1))), []⟩, ⟨1, (some 7), none, (.call 196 [(.t 6)]), []⟩, ⟨2, (some 2), none, (.q (.mov (.t 7))), []⟩]
@[simp] def b_RTotal_11 (_ : Unit) : EB := reg0 (hid l_RTotal_10) 3
@[simp] def b_RTotal_12 (_ : Unit) : EB := .seq (hid b_RTotal_11) .ret
@[simp] def b_RTotal_13 (_ : Unit) : EB := .seq (hid b_RTotal_9) (hid b_RTotal_12)
@[simp] def b_RTotal_14 (_ : Unit) : EB := .seq (hid b_RTotal_2) (hid b_RTotal_13)
def c_RTotal : EB × List QOp × Nat := ((hid b_RTotal_14), [(.mov (.t 2))], 8)
theorem k_RTotal : cfun Tryz.prog 172 = some c_RTotal := by kernel_rfl


theorem within_ok (n lo hi : Int) : ECalls Tryz.prog 157 [I .i64 n, I .i64 lo, I .i64 hi] [] fun y H' => H' = [] ∧ y = .lit (.bool (decide (lo ≤ n ∧ n ≤ hi))) := by
  refine ecalls k_within ?_
  simp [c_within, I]
  by_cases h : lo ≤ n
  · simp [h]
    exact fin [] (by decide) rfl rfl rfl ⟨rfl, rfl⟩
  · simp [h]
    exact fin [] (by decide) rfl rfl rfl ⟨rfl, rfl⟩

set_option maxHeartbeats 1000000 in
theorem RpayMay_ok (p : Pay) (hp : p.lock.length = 32) : ECalls Tryz.prog 195 [.v (.agg (payC p))] [] fun y H' => H' = [] ∧ y = .lit (.bool (mayP p)) := by
  have ht : p.lock.take 32 = p.lock := List.take_of_length_le (by omega)
  refine ecalls k_RpayMay ?_
  simp [c_RpayMay, payC, I, ht]
  refine call0 (within_ok p.id 0 4294967296) (by simp [Ptr, I, EV.lit]) ?_
  rintro y H' ⟨rfl, rfl⟩
  cases h1 : decide (0 ≤ p.id ∧ p.id ≤ 4294967296)
  · have h1 := of_decide_eq_false h1
    simp [Ptr, I, EV.lit]
    exact fin [] (by decide) rfl rfl rfl ⟨rfl, by rw [show mayP p = false from decide_eq_false (by omega)]⟩
  have h1 := of_decide_eq_true h1
  simp [Ptr, I, EV.lit]
  refine call0 (within_ok p.fr 0 1) (by simp [Ptr, I, EV.lit]) ?_
  rintro y H' ⟨rfl, rfl⟩
  cases h2 : decide (0 ≤ p.fr ∧ p.fr ≤ 1)
  · have h2 := of_decide_eq_false h2
    simp [Ptr, I, EV.lit]
    exact fin [] (by decide) rfl rfl rfl ⟨rfl, by rw [show mayP p = false from decide_eq_false (by omega)]⟩
  have h2 := of_decide_eq_true h2
  simp [Ptr, I, EV.lit]
  refine call0 (within_ok p.am 10 1125899906842624) (by simp [Ptr, I, EV.lit]) ?_
  rintro y H' ⟨rfl, rfl⟩
  cases h3 : decide (10 ≤ p.am ∧ p.am ≤ 1125899906842624)
  · have h3 := of_decide_eq_false h3
    simp [Ptr, I, EV.lit]
    exact fin [] (by decide) rfl rfl rfl ⟨rfl, by rw [show mayP p = false from decide_eq_false (by omega)]⟩
  have h3 := of_decide_eq_true h3
  simp [Ptr, I, EV.lit]
  refine call0 (within_ok p.af 0 1099511627776) (by simp [I]) ?_
  rintro y H' ⟨rfl, rfl⟩
  cases h4 : decide (0 ≤ p.af ∧ p.af ≤ 1099511627776)
  · have h4 := of_decide_eq_false h4
    simp [EV.lit]
    exact fin [] (by decide) rfl rfl rfl ⟨rfl, by rw [show mayP p = false from decide_eq_false (by omega)]⟩
  have h4 := of_decide_eq_true h4
  simp [EV.lit, hp, ht]
  have hm : mayP p = !decide (p.lock = hz) := by
    by_cases e : p.lock = hz
    · rw [show mayP p = false from decide_eq_false (fun h => h.2.2.2.2.2.2.2 e)]; simp [e]
    · rw [show mayP p = true from decide_eq_true ⟨by omega, by omega, by omega, by omega, by omega, by omega, by omega, e⟩]; simp [e]
  exact fin [] (by decide) rfl rfl rfl ⟨rfl, by rw [hm]⟩

def prevK (l : List Int) (i : Nat) : Int := if i = 0 then -1 else (l[i - 1]?).getD 0
set_option maxHeartbeats 1000000 in
theorem RholdMay_ok (h : Hol) (hk : h.keys.length ≤ 100000000) : ECalls Tryz.prog 94 [.v (.agg (holC h))] [] fun y H' => H' = [] ∧ y = .lit (.bool (mayH h)) := by
  refine ecalls k_RholdMay ?_
  simp [c_RholdMay, holC]
  refine eloop (α := Nat) (fun i => i ≤ h.keys.length ∧ keysS (-1) h.keys = keysS (prevK h.keys i) (h.keys.drop i) ∧ -1 ≤ prevK h.keys i) (fun i => h.keys.length - i)
    (fun i => [.any, Ptr 0, .any, I .i64 i, .any, .any, .any, .any, .any, .any, .any, .any, .any, .any, .any, .any, .any, .any, .any, .any, .any, .any, .any, .any, .any, .any, .any, .any, .any, .any, .any, .any, .any, .any, .any, .any, .any, .any, .any, .any, .any, .any, .any, .any, .any, .any, .any, .any, .any, .any]) (fun i => [some (.box 120 (holC h))]) 0 [0]
    ⟨by simp, by simp [prevK], by simp [prevK]⟩ (by simp [Ptr, I]) (by simp [holC]) (by simp) (by simp) (by simp) ?_
  rintro i ⟨hi1, hi2, hi3⟩
  simp [Ptr, I, holC] at hi1 hi2 hi3 ⊢
  refine alt (fun hlt => ?_) (fun hlt => ?_)
  · obtain ⟨k, hc⟩ : ∃ k, h.keys[i]? = some k := ⟨h.keys[i], by simp [hlt]⟩
    have hcb := intv_get hc
    rw [drop_cons hc] at hi2
    have w1 : IntKind.i64.wrap ((i : Int) + 1) = ((i + 1 : Nat) : Int) := wrap_i64 (by omega) (by omega)
    have w3 : IntKind.i64.wrap ((i : Int) - 1) = (i : Int) - 1 := wrap_i64 (by omega) (by omega)
    have hbad : ¬ (prevK h.keys i < k ∧ k < 16) → mayH h = false := fun q => by simp only [mayH, hi2, keysS, decide_eq_false q, Bool.false_and]
    have hnk : prevK h.keys (i + 1) = k := by simp [prevK, hc]
    have hgood : prevK h.keys i < k → k < 16 → keysS (-1) h.keys = keysS (prevK h.keys (i + 1)) (h.keys.drop (i + 1)) := fun q1 q2 => by rw [hi2, keysS, decide_eq_true ⟨q1, q2⟩, Bool.true_and, hnk]
    simp [hcb]
    refine call0 (within_ok k 0 15) (by simp [I]) ?_
    rintro y H' ⟨rfl, rfl⟩
    cases b1 : decide (0 ≤ k ∧ k ≤ 15)
    · have b1 := of_decide_eq_false b1
      simp [EV.lit]
      exact fin [] (by decide) rfl rfl rfl ⟨rfl, by rw [hbad (by omega)]⟩
    have b1 := of_decide_eq_true b1
    simp [EV.lit]
    refine alt (fun h0 => ?_) (fun h0 => ?_)
    · obtain ⟨q, hq⟩ : ∃ q, h.keys[i - 1]? = some q := ⟨h.keys[i - 1]'(by omega), by simp⟩
      have hqb := intv_get hq
      have hti : ((i : Int) - 1).toNat = i - 1 := by omega
      have hpv : prevK h.keys i = q := by simp [prevK, hq, show i ≠ 0 by omega]
      have h1 : (1 : Int) ≤ (i : Int) := by omega
      simp [h0, w3, hqb, hti, h1, hcb]
      refine alt (fun c1 => ?_) (fun c1 => ?_)
      · simp
        exact fin [] (by decide) rfl rfl rfl ⟨rfl, by rw [hbad (by omega)]⟩
      simp [w1, -Int.natCast_add]
      exact round (i + 1) [0] ⟨by omega, hgood (by omega) (by omega), by omega⟩ (by omega) (by simp) (by simp) (by simp) (by simp) (by simp)
    · have hi0 : i = 0 := by omega
      subst hi0
      have hp0 : prevK h.keys 0 = -1 := by simp [prevK]
      simp [IntKind.wrap_i64]
      exact round 1 [0] ⟨by omega, hgood (by omega) (by omega), by simp at hnk; omega⟩ (by omega) (by simp) (by simp) (by simp) (by simp) (by simp)
  · have hd : h.keys.drop i = [] := by rw [List.drop_eq_nil_iff]; omega
    have hks : keysS (-1) h.keys = true := by rw [hi2, hd]; rfl
    simp
    refine call0 (within_ok h.id 0 4294967296) (by simp [Ptr, I, EV.lit]) ?_
    rintro y H' ⟨rfl, rfl⟩
    cases c1 : decide (0 ≤ h.id ∧ h.id ≤ 4294967296)
    · have c1 := of_decide_eq_false c1
      simp [Ptr, I, EV.lit]
      exact fin [] (by decide) rfl rfl rfl ⟨rfl, by rw [mayH_f (by omega)]⟩
    have c1 := of_decide_eq_true c1
    simp [Ptr, I, EV.lit]
    refine call0 (within_ok h.am 10 1125899906842624) (by simp [Ptr, I, EV.lit]) ?_
    rintro y H' ⟨rfl, rfl⟩
    cases c2 : decide (10 ≤ h.am ∧ h.am ≤ 1125899906842624)
    · have c2 := of_decide_eq_false c2
      simp [Ptr, I, EV.lit]
      exact fin [] (by decide) rfl rfl rfl ⟨rfl, by rw [mayH_f (by omega)]⟩
    have c2 := of_decide_eq_true c2
    simp [Ptr, I, EV.lit]
    by_cases q : 1 ≤ h.keys.length
    · have hm : mayH h = true := by
        simp only [mayH, hks, Bool.true_and]
        exact decide_eq_true ⟨by omega, by omega, by omega, by omega, q⟩
      exact fin [] (by decide) rfl rfl rfl ⟨rfl, litB (by rw [hm]; exact decide_eq_true (by omega))⟩
    · exact fin [] (by decide) rfl rfl rfl ⟨rfl, litB (by rw [mayH_f (by omega)]; exact decide_eq_false (by omega))⟩

set_option maxHeartbeats 1000000 in
theorem Rsum_ok (s : Sta) (hs : s.ok) (hr : 0 ≤ s.h0 ∧ s.h0 ≤ 1125899906842624 ∧ 0 ≤ s.h1 ∧ s.h1 ≤ 1125899906842624 ∧ s.pays.length ≤ 8 ∧ s.holds.length + s.pays.length ≤ 8) (hp : payL none s.pays = true) (hh : holL none s.holds = true) : ECalls Tryz.prog 196 [SV s] [] fun y H' => H' = [] ∧ y = I .i64 (total s) := by
  obtain ⟨ok1, ok2, ok3, ok4, ok5, ok6, ok7⟩ := id hs
  have w1 : IntKind.i64.wrap (s.h0 + s.h1) = s.h0 + s.h1 := wrap_i64 (by omega) (by omega)
  refine ecalls k_Rsum ?_
  simp [c_Rsum, SV, staC, w1]
  refine eloop (α := Nat × Int) (fun a => a.1 ≤ s.pays.length ∧ a.2 = s.h0 + s.h1 + sumP (s.pays.take a.1) ∧ 0 ≤ a.2 ∧ a.2 ≤ 2251799813685248 + (a.1 : Int) * 1125899906842624) (fun a => s.pays.length - a.1)
    (fun a => [.any, Ptr 0, .any, I .i64 a.2, I .i64 a.1, .any, .any, .any, .any, .any, .any, .any, .any, .any, .any, .any, .any, .any, .any, .any, .any, .any, .any, .any, .any, .any, .any, .any, .any, .any, .any, .any, .any, .any, .any, .any, .any, .any, .any, .any, .any, .any, .any, .any]) (fun a => [some (.box 35 (staC s))]) (0, s.h0 + s.h1) [0]
    ⟨by simp, by simp [sumP], by simp; omega, by simp; omega⟩ (by simp [Ptr, I, PL]) (by simp [staC]) (by simp) (by simp) (by simp) ?_
  rintro ⟨i, n⟩ ⟨hi1, hi3, hi4, hi5⟩
  simp [Ptr, I, PL, staC] at hi1 hi3 hi4 hi5 ⊢
  refine alt (fun hlt => ?_) (fun hlt => ?_)
  · obtain ⟨p, hc⟩ : ∃ p, s.pays[i]? = some p := ⟨s.pays[i], by simp [hlt]⟩
    have hcb := payv_get hc
    have ham := payL_am hp p (List.mem_of_getElem? hc)
    have w2 : IntKind.i64.wrap ((i : Int) + 1) = ((i + 1 : Nat) : Int) := wrap_i64 (by omega) (by omega)
    have w4 : IntKind.i64.wrap (n + p.am) = n + p.am := wrap_i64 (by omega) (by omega)
    simp [hcb, payF, w2, w4, -Int.natCast_add]
    exact round (i + 1, n + p.am) [0] ⟨by omega, by rw [take_s hc, sumP_snoc]; omega, by simp; omega, by simp; omega⟩ (by simp; omega) (by simp) (by simp) (by simp) (by simp) (by simp)
  have hil : i = s.pays.length := by omega
  subst hil
  rw [List.take_length] at hi3
  simp
  refine eloop (α := Nat × Int) (fun a => a.1 ≤ s.holds.length ∧ a.2 = s.h0 + s.h1 + sumP s.pays + sumH (s.holds.take a.1) ∧ 0 ≤ a.2 ∧ a.2 ≤ 22517998136852480 + (a.1 : Int) * 1125899906842624) (fun a => s.holds.length - a.1)
    (fun a => [.any, Ptr 0, .any, I .i64 a.2, .any, I .i64 a.1, .any, .any, .any, .any, .any, .any, .any, .any, .any, .any, .any, .any, .any, .any, .any, .any, .any, .any, .any, .any, .any, .any, .any, .any, .any, .any, .any, .any, .any, .any, .any, .any, .any, .any, .any, .any, .any, .any]) (fun a => [some (.box 35 (staC s))]) (0, n) [0]
    ⟨by simp, by simp [sumH]; omega, hi4, by simp; omega⟩ (by simp [Ptr, I, HL]) (by simp [staC]) (by simp) (by simp) (by simp) ?_
  clear hi1 hi3 hi4 hi5 hlt
  clear n
  rintro ⟨i, n⟩ ⟨hi1, hi3, hi4, hi5⟩
  simp [Ptr, I, HL, staC] at hi1 hi3 hi4 hi5 ⊢
  refine alt (fun hlt => ?_) (fun hlt => ?_)
  · obtain ⟨p, hc⟩ : ∃ p, s.holds[i]? = some p := ⟨s.holds[i], by simp [hlt]⟩
    have hcb := holv_get hc
    have ham := holL_am hh p (List.mem_of_getElem? hc)
    have w2 : IntKind.i64.wrap ((i : Int) + 1) = ((i + 1 : Nat) : Int) := wrap_i64 (by omega) (by omega)
    have w4 : IntKind.i64.wrap (n + p.am) = n + p.am := wrap_i64 (by omega) (by omega)
    simp [hcb, holF, w2, w4, -Int.natCast_add]
    exact round (i + 1, n + p.am) [0] ⟨by omega, by rw [take_s hc, sumH_snoc]; omega, by simp; omega, by simp; omega⟩ (by simp; omega) (by simp) (by simp) (by simp) (by simp) (by simp)
  have hil : i = s.holds.length := by omega
  subst hil
  rw [List.take_length] at hi3
  simp
  exact fin [] (by decide) rfl rfl rfl ⟨rfl, by rw [hi3]; rfl⟩

def chkS (s : Sta) : Int := if mayS s = true then 0 else 1
theorem chk_f {s : Sta} (h : mayS s = false) : chkS s = 1 := by simp [chkS, h]
set_option maxHeartbeats 2000000 in
theorem RCheck_ok (s : Sta) (hs : s.ok) : ECalls Tryz.prog 156 [SV s] [] fun y H' => H' = [] ∧ y = I .i64 (chkS s) := by
  obtain ⟨ok1, ok2, ok3, ok4, ok5, ok6, ok7⟩ := id hs
  refine ecalls k_RCheck ?_
  simp [c_RCheck, SV, staC]
  refine call0 (within_ok s.num 0 1099511627776) (by simp [Ptr, I, EV.lit]) ?_
  rintro y H' ⟨rfl, rfl⟩
  cases a1 : decide (0 ≤ s.num ∧ s.num ≤ 1099511627776)
  · have a1 := of_decide_eq_false a1
    simp [Ptr, I, EV.lit]
    exact fin [] (by decide) rfl rfl rfl ⟨rfl, by rw [chk_f (mayS_f (by omega))]⟩
  have a1 := of_decide_eq_true a1
  simp [Ptr, I, EV.lit]
  refine call0 (within_ok s.h0 0 1125899906842624) (by simp [Ptr, I, EV.lit]) ?_
  rintro y H' ⟨rfl, rfl⟩
  cases a2 : decide (0 ≤ s.h0 ∧ s.h0 ≤ 1125899906842624)
  · have a2 := of_decide_eq_false a2
    simp [Ptr, I, EV.lit]
    exact fin [] (by decide) rfl rfl rfl ⟨rfl, by rw [chk_f (mayS_f (by omega))]⟩
  have a2 := of_decide_eq_true a2
  simp [Ptr, I, EV.lit]
  refine call0 (within_ok s.h1 0 1125899906842624) (by simp [Ptr, I, EV.lit]) ?_
  rintro y H' ⟨rfl, rfl⟩
  cases a3 : decide (0 ≤ s.h1 ∧ s.h1 ≤ 1125899906842624)
  · have a3 := of_decide_eq_false a3
    simp [Ptr, I, EV.lit]
    exact fin [] (by decide) rfl rfl rfl ⟨rfl, by rw [chk_f (mayS_f (by omega))]⟩
  have a3 := of_decide_eq_true a3
  simp [Ptr, I, EV.lit]
  refine alt (fun a4 => ?_) (fun a4 => ?_)
  rotate_left
  · (first | simp [Ptr, I, EV.lit, a4, Int.not_le.2 a4] | simp [Ptr, I, EV.lit, a4, Int.not_lt.2 a4] | simp [Ptr, I, EV.lit, a4, Int.not_lt.1 a4] | simp [Ptr, I, EV.lit, a4, Int.not_le.1 a4] | simp [Ptr, I, EV.lit, a4])
    exact fin [] (by decide) rfl rfl rfl ⟨rfl, by rw [chk_f (mayS_f (by omega))]⟩
  (first | simp [Ptr, I, EV.lit, a4, Int.not_le.2 a4] | simp [Ptr, I, EV.lit, a4, Int.not_lt.2 a4] | simp [Ptr, I, EV.lit, a4, Int.not_lt.1 a4] | simp [Ptr, I, EV.lit, a4, Int.not_le.1 a4] | simp [Ptr, I, EV.lit, a4])
  refine alt (fun a5 => ?_) (fun a5 => ?_)
  rotate_left
  · (first | simp [Ptr, I, EV.lit, a5, Int.not_le.2 a5] | simp [Ptr, I, EV.lit, a5, Int.not_lt.2 a5] | simp [Ptr, I, EV.lit, a5, Int.not_lt.1 a5] | simp [Ptr, I, EV.lit, a5, Int.not_le.1 a5] | simp [Ptr, I, EV.lit, a5])
    exact fin [] (by decide) rfl rfl rfl ⟨rfl, by rw [chk_f (mayS_f (by omega))]⟩
  (first | simp [Ptr, I, EV.lit, a5, Int.not_le.2 a5] | simp [Ptr, I, EV.lit, a5, Int.not_lt.2 a5] | simp [Ptr, I, EV.lit, a5, Int.not_lt.1 a5] | simp [Ptr, I, EV.lit, a5, Int.not_le.1 a5] | simp [Ptr, I, EV.lit, a5])
  have w0 : IntKind.i64.wrap ((s.pays.length : Int) + (s.holds.length : Int)) = (s.pays.length : Int) + (s.holds.length : Int) := wrap_i64 (by omega) (by omega)
  rw [w0]
  refine alt (fun a6 => ?_) (fun a6 => ?_)
  · simp
    exact fin [] (by decide) rfl rfl rfl ⟨rfl, by rw [chk_f (mayS_f (by omega))]⟩
  simp
  refine eloop (α := Nat) (fun i => i ≤ s.pays.length ∧ payL none s.pays = payL (prevP s.pays i) (s.pays.drop i)) (fun i => s.pays.length - i)
    (fun i => [.any, Ptr 0, .any, I .i64 i, .any, .any, .any, .any, .any, .any, .any, .any, .any, .any, .any, .any, .any, .any, .any, .any, .any, .any, .any, .any, .any, .any, .any, .any, .any, .any, .any, .any, .any, .any, .any, .any, .any, .any, .any, .any, .any, .any, .any, .any, .any, .any, .any, .any, .any, .any, .any, .any, .any, .any, .any, .any, .any, .any, .any, .any, .any, .any, .any, .any, .any, .any, .any, .any, .any, .any, .any, .any, .any, .any, .any, .any, .any, .any, .any, .any, .any, .any, .any, .any, .any, .any, .any, .any, .any, .any, .any, .any, .any, .any, .any, .any, .any, .any, .any, .any, .any, .any, .any, .any, .any, .any, .any, .any, .any, .any, .any, .any, .any, .any, .any, .any]) (fun i => [some (.box 35 (staC s))]) 0 [0]
    ⟨by simp, by simp [prevP]⟩ (by simp [Ptr, I]) (by simp [staC]) (by simp) (by simp) (by simp) ?_
  rintro i ⟨hi1, hi2⟩
  simp [Ptr, I, PL, staC] at hi1 hi2 ⊢
  refine alt (fun hlt => ?_) (fun hlt => ?_)
  · obtain ⟨p, hc⟩ : ∃ p, s.pays[i]? = some p := ⟨s.pays[i], by simp [hlt]⟩
    have hpo := ok4 p (List.mem_of_getElem? hc)
    have hl32 := hpo.2.2.2.2
    have ht : p.lock.take 32 = p.lock := List.take_of_length_le (by omega)
    have hcb := payv_get hc
    rw [drop_cons hc] at hi2
    have w2 : IntKind.i64.wrap ((i : Int) + 1) = ((i + 1 : Nat) : Int) := wrap_i64 (by omega) (by omega)
    have w3 : IntKind.i64.wrap ((i : Int) - 1) = (i : Int) - 1 := wrap_i64 (by omega) (by omega)
    simp [hcb, payF, hl32, ht]
    refine call0 (RpayMay_ok p hl32) (by simp [payC]) ?_
    rintro y H' ⟨rfl, rfl⟩
    refine ⟨.inl (by simp), le_ok rfl, ?_⟩
    cases hm : mayP p
    · simp [EV.lit]
      exact fin [] (by decide) rfl rfl rfl ⟨rfl, by rw [chk_f (mayS_p (by rw [hi2, payL, hm]; simp))]⟩
    have hnx : ∀ (q : aft (prevP s.pays i) p.id = true), payL none s.pays = payL (prevP s.pays (i + 1)) (s.pays.drop (i + 1)) := by
      intro q
      rw [hi2, payL, hm, q]
      simp [prevP, hc]
    simp [EV.lit]
    refine alt (fun h0 => ?_) (fun h0 => ?_)
    · obtain ⟨q, hq⟩ : ∃ q, s.pays[i - 1]? = some q := ⟨s.pays[i - 1]'(by omega), by simp⟩
      have hqb := payv_get hq
      have hti : ((i : Int) - 1).toNat = i - 1 := by omega
      have hpv : prevP s.pays i = some q.id := by simp [prevP, hq, show i ≠ 0 by omega]
      have h1 : (1 : Int) ≤ (i : Int) := by omega
      simp [h0, w3, hqb, hti, payF, h1, hcb]
      refine alt (fun c1 => ?_) (fun c1 => ?_)
      · simp
        exact fin [] (by decide) rfl rfl rfl ⟨rfl, by rw [chk_f (mayS_p (by rw [hi2, payL, hm, hpv]; simp [aft, decide_eq_false (show ¬ q.id < p.id by omega)]))]⟩
      simp [w2, -Int.natCast_add]
      exact round (i + 1) [0] ⟨by omega, hnx (by rw [hpv]; exact decide_eq_true (by omega))⟩ (by omega) (by simp) (by simp) (by simp) (by simp) (by simp)
    · have hi0 : i = 0 := by omega
      subst hi0
      simp [IntKind.wrap_i64]
      exact round 1 [0] ⟨by omega, hnx (by simp [prevP, aft])⟩ (by omega) (by simp) (by simp) (by simp) (by simp) (by simp)
  have hil : i = s.pays.length := by omega
  subst hil
  have hps : payL none s.pays = true := by rw [hi2]; simp [payL]
  simp
  refine eloop (α := Nat) (fun i => i ≤ s.holds.length ∧ holL none s.holds = holL (prevH s.holds i) (s.holds.drop i)) (fun i => s.holds.length - i)
    (fun i => [.any, Ptr 0, .any, .any, I .i64 i, .any, .any, .any, .any, .any, .any, .any, .any, .any, .any, .any, .any, .any, .any, .any, .any, .any, .any, .any, .any, .any, .any, .any, .any, .any, .any, .any, .any, .any, .any, .any, .any, .any, .any, .any, .any, .any, .any, .any, .any, .any, .any, .any, .any, .any, .any, .any, .any, .any, .any, .any, .any, .any, .any, .any, .any, .any, .any, .any, .any, .any, .any, .any, .any, .any, .any, .any, .any, .any, .any, .any, .any, .any, .any, .any, .any, .any, .any, .any, .any, .any, .any, .any, .any, .any, .any, .any, .any, .any, .any, .any, .any, .any, .any, .any, .any, .any, .any, .any, .any, .any, .any, .any, .any, .any, .any, .any, .any, .any, .any, .any]) (fun i => [some (.box 35 (staC s))]) 0 [0]
    ⟨by simp, by simp [prevH]⟩ (by simp [Ptr, I]) (by simp [staC]) (by simp) (by simp) (by simp) ?_
  clear hi1 hi2 hlt
  rintro i ⟨hi1, hi2⟩
  simp [Ptr, I, HL, staC] at hi1 hi2 ⊢
  refine alt (fun hlt => ?_) (fun hlt => ?_)
  · obtain ⟨p, hc⟩ : ∃ p, s.holds[i]? = some p := ⟨s.holds[i], by simp [hlt]⟩
    have hpo := ok5 p (List.mem_of_getElem? hc)
    have hcb := holv_get hc
    rw [drop_cons hc] at hi2
    have w2 : IntKind.i64.wrap ((i : Int) + 1) = ((i + 1 : Nat) : Int) := wrap_i64 (by omega) (by omega)
    have w3 : IntKind.i64.wrap ((i : Int) - 1) = (i : Int) - 1 := wrap_i64 (by omega) (by omega)
    simp [hcb, holF]
    refine call0 (RholdMay_ok p hpo.2.2.2) (by simp [holC]) ?_
    rintro y H' ⟨rfl, rfl⟩
    refine ⟨.inl (by simp), le_ok rfl, ?_⟩
    cases hm : mayH p
    · simp [EV.lit]
      exact fin [] (by decide) rfl rfl rfl ⟨rfl, by rw [chk_f (mayS_h (by rw [hi2, holL, hm]; simp))]⟩
    have hnx : ∀ (q : aft (prevH s.holds i) p.id = true), holL none s.holds = holL (prevH s.holds (i + 1)) (s.holds.drop (i + 1)) := by
      intro q
      rw [hi2, holL, hm, q]
      simp [prevH, hc]
    simp [EV.lit]
    refine alt (fun h0 => ?_) (fun h0 => ?_)
    · obtain ⟨q, hq⟩ : ∃ q, s.holds[i - 1]? = some q := ⟨s.holds[i - 1]'(by omega), by simp⟩
      have hqb := holv_get hq
      have hti : ((i : Int) - 1).toNat = i - 1 := by omega
      have hpv : prevH s.holds i = some q.id := by simp [prevH, hq, show i ≠ 0 by omega]
      have h1 : (1 : Int) ≤ (i : Int) := by omega
      simp [h0, w3, hqb, hti, holF, h1, hcb]
      refine alt (fun c1 => ?_) (fun c1 => ?_)
      · simp
        exact fin [] (by decide) rfl rfl rfl ⟨rfl, by rw [chk_f (mayS_h (by rw [hi2, holL, hm, hpv]; simp [aft, decide_eq_false (show ¬ q.id < p.id by omega)]))]⟩
      simp [w2, -Int.natCast_add]
      exact round (i + 1) [0] ⟨by omega, hnx (by rw [hpv]; exact decide_eq_true (by omega))⟩ (by omega) (by simp) (by simp) (by simp) (by simp) (by simp)
    · have hi0 : i = 0 := by omega
      subst hi0
      simp [IntKind.wrap_i64]
      exact round 1 [0] ⟨by omega, hnx (by simp [prevH, aft])⟩ (by omega) (by simp) (by simp) (by simp) (by simp) (by simp)
  have hil : i = s.holds.length := by omega
  subst hil
  have hhs : holL none s.holds = true := by rw [hi2]; simp [holL]
  simp
  refine call0 (Rsum_ok s hs (by omega) hps hhs) (by simp [SV, staC]) ?_
  rintro y H' ⟨rfl, rfl⟩
  simp [I]
  have hS : mayS s = decide (total s ≤ 1125899906842624) := by
    simp only [mayS, hps, hhs, Bool.and_true]
    rw [decide_eq_true (show 0 ≤ s.num ∧ s.num ≤ 1099511627776 ∧ 0 ≤ s.h0 ∧ s.h0 ≤ 1125899906842624 ∧ 0 ≤ s.h1 ∧ s.h1 ≤ 1125899906842624 ∧ s.pays.length ≤ 8 ∧ s.holds.length + s.pays.length ≤ 8 by omega), Bool.true_and]
  refine alt (fun c => ?_) (fun c => ?_)
  · simp
    exact fin [] (by decide) rfl rfl rfl ⟨rfl, by rw [chk_f (by rw [hS]; exact decide_eq_false (by omega))]⟩
  · simp
    exact fin [] (by decide) rfl rfl rfl ⟨rfl, by rw [chkS, if_pos (by rw [hS]; exact decide_eq_true (by omega))]⟩

theorem RTotal_ok (s : Sta) (hs : s.ok) : ECalls Tryz.prog 172 [SV s] [] fun y H' => H' = [] ∧ y = I .i64 (totS s) := by
  refine ecalls k_RTotal ?_
  simp [c_RTotal, SV, staC]
  refine call0 (RCheck_ok s hs) (by simp [SV, staC]) ?_
  rintro y H' ⟨rfl, rfl⟩
  by_cases hm : mayS s = true
  · obtain ⟨hr, hp, hh, htot⟩ := mayS_t hm
    simp [I, chkS, hm]
    refine call0 (Rsum_ok s hs (by omega) hp hh) (by simp [SV, staC]) ?_
    rintro y H' ⟨rfl, rfl⟩
    simp
    exact fin [] (by decide) rfl rfl rfl ⟨rfl, by simp [totS, hm]⟩
  · simp [I, chkS, hm]
    exact fin [] (by decide) rfl rfl rfl ⟨rfl, by simp [totS, hm]⟩

theorem Rright_ok (s : Sta) (hs : s.ok) : ECalls Tryz.prog 93 [SV s] [] fun y H' => H' = [] ∧ y = .lit (.bool (decide (mayS s = true ∧ s.num ≠ 1099511627776))) := by
  refine ecalls k_Rright ?_
  simp [c_Rright, SV, staC]
  refine call0 (RCheck_ok s hs) (by simp [SV, staC]) ?_
  rintro y H' ⟨rfl, rfl⟩
  by_cases hm : mayS s = true
  · obtain ⟨hr, hp, hh, htot⟩ := mayS_t hm
    simp [I, chkS, hm]
    by_cases hn : s.num = 1099511627776
    · simp [hn]
      exact fin [] (by decide) rfl rfl rfl ⟨rfl, rfl⟩
    · exact fin [] (by decide) rfl rfl rfl ⟨rfl, litB (by rw [decide_eq_true (show s.num < 1099511627776 by omega)]; simp [hn])⟩
  · simp [I, chkS, hm]
    exact fin [] (by decide) rfl rfl rfl ⟨rfl, rfl⟩

theorem Rwith_ok (s : Sta) (a b : Int) (h1 : IntKind.i64.wrap (s.num + 1) = s.num + 1) (h2 : IntKind.i64.wrap (s.h0 + a) = s.h0 + a) (h3 : IntKind.i64.wrap (s.h1 + b) = s.h1 + b) (ps : List Pay) (hs : List Hol) :
    ECalls Tryz.prog 97 [SV s, I .i64 a, I .i64 b, PL ps, HL hs] [] fun y H' => H' = [] ∧ y = SV ⟨s.num + 1, s.h0 + a, s.h1 + b, ps, hs⟩ := by
  refine ecalls k_Rwith ?_
  simp [c_Rwith, SV, staC, I, PL, HL, h1, h2, h3]
  exact fin [] (by decide) rfl rfl rfl ⟨rfl, rfl⟩

theorem Rto_ok (side n : Int) : ECalls Tryz.prog 96 [I .i64 side, I .i64 n] [] fun y H' => H' = [] ∧ y = .tup [.c (.fz (.lit (.int .i64 (if side = 0 then n else 0)))), .c (.fz (.lit (.int .i64 (if side = 0 then 0 else n))))] := by
  refine ecalls k_Rto ?_
  simp [c_Rto, I]
  refine alt (fun h => ?_) (fun h => ?_)
  · simp [h]
    exact fin [] (by decide) rfl rfl rfl ⟨rfl, rfl⟩
  · simp [h]
    exact fin [] (by decide) rfl rfl rfl ⟨rfl, rfl⟩

end Go.Proofs.YtejjhgdnmknejaaGreatDoor

namespace Go.Proofs.YtejjhgdnmknejaaGreatDoor
open Go Go.EW
set_option linter.unusedSimpArgs false
set_option linter.unusedVariables false



def RE (q : Sta × Nat) : EV := .tup [.agg (staC q.1), .c (.fz (.lit (.int .i64 (q.2 : Int))))]

end Go.Proofs.YtejjhgdnmknejaaGreatDoor

namespace Go.Proofs.YtejjhgdnmknejaaGreatDoor
open Go Go.EW
set_option linter.unusedSimpArgs false
set_option linter.unusedVariables false

/-- The first place of a number, or -1. -/
def FI (l : List Int) (x r : Int) : Prop := (r = -1 ∧ ∀ (k : Nat) (y : Int), l[k]? = some y → y ≠ x) ∨ ∃ i : Nat, r = i ∧ l[i]? = some x
theorem FI_pos {l : List Int} {x r : Int} (hs : l.Pairwise (· < ·)) (h : FI l x r) : (fndI l x = false ∧ r = -1) ∨ (fndI l x = true ∧ r = posI l x) := by
  rcases h with ⟨h1, h2⟩ | ⟨i, h1, h2⟩
  · refine .inl ⟨?_, h1⟩
    unfold fndI
    exact decide_eq_false fun h => h2 _ _ h rfl
  · have hi := lt_len h2
    have hp : posI l x = i := posI_eq (by omega) (fun k y hk hy => pw_get hs hk hy h2) (fun y hy => by rw [h2] at hy; have := Option.some.inj hy; omega)
    refine .inr ⟨?_, by rw [hp]; exact h1⟩
    unfold fndI
    rw [hp]
    exact decide_eq_true h2

end Go.Proofs.YtejjhgdnmknejaaGreatDoor
