import Derived.Test.YtoomdgmggkcgfaaDoorTree4
namespace Go.Proofs.YtoomdgmggkcgfaaDoor
open Go Go.EW
set_option linter.unusedSimpArgs false
set_option linter.unusedVariables false

@[simp] def l_TLeft_1 (_ : Unit) : List EOp := [⟨0, (some 2), none, (.q (.box 31 (.t 0))), []⟩, ⟨1, (some 4), none, (.q (.mov (.k (.int .i64 0)))), []⟩, ⟨2, (some 5), none, (.q (.mov (.k .nilIface))), []⟩]
@[simp] def b_TLeft_2 (_ : Unit) : EB := reg0 (hid l_TLeft_1) 3
@[simp] def l_TLeft_3 (_ : Unit) : List EOp := [⟨0, (some 10), none, (.q (.lda 40 (.t 2))), []⟩, ⟨1, (some 11), none, (.q (.mov (.t 1))), []⟩, ⟨2, (some 12), none, (.call 28 [(.t 10), (.t 11)]), []⟩, ⟨3, (some 6), none, (.q (.mov (.t 12))), []⟩]
@[simp] def b_TLeft_4 (_ : Unit) : EB := reg0 (hid l_TLeft_3) 4
@[simp] def l_TLeft_5 (_ : Unit) : List EOp := [⟨0, (some 13), none, (.q (.mov (.t 6))), []⟩, ⟨1, (some 14), none, (.q (.eqi true (.t 13))), []⟩]
@[simp] def b_TLeft_6 (_ : Unit) : EB := reg0 (hid l_TLeft_5) 2
@[simp] def l_TLeft_7 (_ : Unit) : List EOp := [⟨0, (some 15), none, (.q (.mov (.t 6))), []⟩, ⟨1, (some 4), none, (.q (.mov (.k (.int .i64 0)))), []⟩, ⟨2, (some 5), none, (.q (.mov (.t 15))), []⟩]
@[simp] def b_TLeft_8 (_ : Unit) : EB := reg0 (hid l_TLeft_7) 3
@[simp] def b_TLeft_9 (_ : Unit) : EB := .seq (hid b_TLeft_8) .ret
@[simp] def b_TLeft_10 (_ : Unit) : EB := .cond (.t 14) (hid b_TLeft_9) .skip
@[simp] def b_TLeft_11 (_ : Unit) : EB := .seq (hid b_TLeft_6) (hid b_TLeft_10)
@[simp] def b_TLeft_12 (_ : Unit) : EB := .seq (hid b_TLeft_4) (hid b_TLeft_11)
@[simp] def l_TLeft_13 (_ : Unit) : List EOp := [⟨0, (some 7), none, (.q (.mov (.k (.int .i64 0)))), []⟩]
@[simp] def b_TLeft_14 (_ : Unit) : EB := reg0 (hid l_TLeft_13) 1
@[simp] def l_TLeft_15 (_ : Unit) : List EOp := [⟨0, (some 16), none, (.q (.mov (.t 1))), []⟩, ⟨1, (some 17), none, (.q (.len (.t 16))), []⟩, ⟨2, (some 18), none, (.q (.mov (.k (.int .i64 0)))), []⟩]
@[simp] def b_TLeft_16 (_ : Unit) : EB := reg0 (hid l_TLeft_15) 3
@[simp] def l_TLeft_17 (_ : Unit) : List EOp := [⟨0, (some 19), none, (.q (.bin .lss (.t 18) (.t 17))), []⟩]
@[simp] def b_TLeft_18 (_ : Unit) : EB := reg0 (hid l_TLeft_17) 1
@[simp] def b_TLeft_19 (_ : Unit) : EB := .cond (.t 19) .skip (.exit 0)
@[simp] def l_TLeft_20 (_ : Unit) : List EOp := [⟨0, (some 20), none, (.q (.isl 1 (.t 16) (.t 18))), []⟩, ⟨1, (some 21), none, (.q (.ldc (.t 20))), []⟩, ⟨2, (some 9), none, (.q (.mov (.t 21))), []⟩]
@[simp] def b_TLeft_21 (_ : Unit) : EB := reg0 (hid l_TLeft_20) 3
@[simp] def l_TLeft_22 (_ : Unit) : List EOp := [⟨0, (some 22), none, (.q (.mov (.t 7))), []⟩, ⟨1, (some 23), none, (.q (.bin .gtr (.t 22) (.k (.int .i64 1073741824)))), []⟩]
@[simp] def b_TLeft_23 (_ : Unit) : EB := reg0 (hid l_TLeft_22) 2
@[simp] def b_TLeft_24 (_ : Unit) : EB := .cond (.t 23) (.exit 0) .skip
@[simp] def b_TLeft_25 (_ : Unit) : EB := .seq (hid b_TLeft_23) (hid b_TLeft_24)
@[simp] def l_TLeft_28 (_ : Unit) : List EOp := [⟨12, (some 7), none, (.q (.mov (.t 35))), []⟩]
@[simp] def l_TLeft_27 (_ : Unit) : List EOp := ⟨3, (some 27), none, (.q (.bin .add (.t 26) (.k (.int .i64 1)))), []⟩ :: ⟨4, (some 28), none, (.q (.bin .mul (.t 24) (.t 27))), []⟩ :: ⟨6, (some 30), none, (.call 29 [(.t 29)]), [0, 8, 9, 3, 4]⟩ :: ⟨7, (some 31), none, (.q (.bin .add (.t 28) (.t 30))), []⟩ :: ⟨10, (some 34), none, (.call 30 [(.t 32), (.t 33)]), [0, 3, 4, 7]⟩ :: ⟨11, (some 35), none, (.q (.bin .sub (.t 31) (.t 34))), []⟩ :: hid l_TLeft_28
@[simp] def l_TLeft_26 (_ : Unit) : List EOp := ⟨0, (some 24), none, (.q (.mov (.t 7))), []⟩ :: ⟨1, (some 25), none, (.q (.lda 40 (.t 2))), []⟩ :: ⟨5, (some 29), none, (.q (.lda 40 (.t 2))), []⟩ :: ⟨8, (some 32), none, (.q (.lda 40 (.t 2))), []⟩ :: ⟨9, (some 33), none, (.q (.mov (.t 9))), []⟩ :: ⟨2, (some 26), none, (.call 29 [(.t 25)]), [0, 5, 8, 9]⟩ :: hid l_TLeft_27
@[simp] def b_TLeft_29 (_ : Unit) : EB := reg1 (hid l_TLeft_26) 13
@[simp] def b_TLeft_30 (_ : Unit) : EB := .seq (hid b_TLeft_25) (hid b_TLeft_29)
@[simp] def b_TLeft_31 (_ : Unit) : EB := .seq (hid b_TLeft_21) (hid b_TLeft_30)
@[simp] def b_TLeft_32 (_ : Unit) : EB := .block 1 (hid b_TLeft_31)
@[simp] def l_TLeft_33 (_ : Unit) : List EOp := [⟨0, (some 36), none, (.q (.bin .add (.t 18) (.k (.int .i64 1)))), []⟩, ⟨1, (some 18), none, (.q (.mov (.t 36))), []⟩]
@[simp] def b_TLeft_34 (_ : Unit) : EB := reg0 (hid l_TLeft_33) 2
@[simp] def b_TLeft_35 (_ : Unit) : EB := .seq (hid b_TLeft_32) (hid b_TLeft_34)
@[simp] def b_TLeft_36 (_ : Unit) : EB := .seq (hid b_TLeft_19) (hid b_TLeft_35)
@[simp] def b_TLeft_37 (_ : Unit) : EB := .seq (hid b_TLeft_18) (hid b_TLeft_36)
@[simp] def b_TLeft_38 (_ : Unit) : EB := .loop (hid b_TLeft_37)
@[simp] def b_TLeft_39 (_ : Unit) : EB := .block 0 (hid b_TLeft_38)
@[simp] def b_TLeft_40 (_ : Unit) : EB := .seq (hid b_TLeft_16) (hid b_TLeft_39)
@[simp] def l_TLeft_41 (_ : Unit) : List EOp := [⟨0, (some 37), none, (.q (.mov (.t 7))), []⟩, ⟨1, (some 38), none, (.q (.minmax false [(.t 37), (.k (.int .i64 1073741824))])), []⟩, ⟨2, (some 4), none, (.q (.mov (.t 38))), []⟩, ⟨3, (some 5), none, (.q (.mov (.k .nilIface))), []⟩]
@[simp] def b_TLeft_42 (_ : Unit) : EB := reg0 (hid l_TLeft_41) 4
@[simp] def b_TLeft_43 (_ : Unit) : EB := .seq (hid b_TLeft_42) .ret
@[simp] def b_TLeft_44 (_ : Unit) : EB := .seq (hid b_TLeft_40) (hid b_TLeft_43)
@[simp] def b_TLeft_45 (_ : Unit) : EB := .seq (hid b_TLeft_14) (hid b_TLeft_44)
@[simp] def b_TLeft_46 (_ : Unit) : EB := .seq (hid b_TLeft_12) (hid b_TLeft_45)
@[simp] def b_TLeft_47 (_ : Unit) : EB := .seq (hid b_TLeft_2) (hid b_TLeft_46)
def c_TLeft : EB × List QOp × Nat := ((hid b_TLeft_47), [(.mov (.t 4)), (.mov (.t 5))], 39)
theorem k_TLeft : cfun Tryd.prog 10 = some c_TLeft := by kernel_rfl

@[simp] def l_RTLeft_1 (_ : Unit) : List EOp := [⟨0, (some 2), none, (.q (.box 28 (.t 0))), []⟩, ⟨1, (some 4), none, (.q (.mov (.k (.int .i64 0)))), []⟩, ⟨2, (some 5), none, (.q (.mov (.k (.int .i64 0)))), []⟩]
@[simp] def b_RTLeft_2 (_ : Unit) : EB := reg0 (hid l_RTLeft_1) 3
@[simp] def l_RTLeft_3 (_ : Unit) : List EOp := [⟨0, (some 10), none, (.q (.lda 40 (.t 2))), []⟩, ⟨1, (some 11), none, (.q (.mov (.t 1))), []⟩, ⟨2, (some 12), none, (.call 34 [(.t 10), (.t 11)]), []⟩, ⟨3, (some 6), none, (.q (.mov (.t 12))), []⟩]
@[simp] def b_RTLeft_4 (_ : Unit) : EB := reg0 (hid l_RTLeft_3) 4
@[simp] def l_RTLeft_5 (_ : Unit) : List EOp := [⟨0, (some 13), none, (.q (.mov (.t 6))), []⟩, ⟨1, (some 14), none, (.q (.bin .neq (.t 13) (.k (.int .i64 0)))), []⟩]
@[simp] def b_RTLeft_6 (_ : Unit) : EB := reg0 (hid l_RTLeft_5) 2
@[simp] def l_RTLeft_7 (_ : Unit) : List EOp := [⟨0, (some 15), none, (.q (.mov (.t 6))), []⟩, ⟨1, (some 4), none, (.q (.mov (.k (.int .i64 0)))), []⟩, ⟨2, (some 5), none, (.q (.mov (.t 15))), []⟩]
@[simp] def b_RTLeft_8 (_ : Unit) : EB := reg0 (hid l_RTLeft_7) 3
@[simp] def b_RTLeft_9 (_ : Unit) : EB := .seq (hid b_RTLeft_8) .ret
@[simp] def b_RTLeft_10 (_ : Unit) : EB := .cond (.t 14) (hid b_RTLeft_9) .skip
@[simp] def b_RTLeft_11 (_ : Unit) : EB := .seq (hid b_RTLeft_6) (hid b_RTLeft_10)
@[simp] def l_RTLeft_13 (_ : Unit) : List EOp := [⟨6, (some 22), none, (.q (.ldc (.t 21))), []⟩, ⟨7, (some 23), none, (.q (.bin .quo (.t 20) (.t 22))), []⟩, ⟨8, (some 24), none, (.q (.bin .add (.t 23) (.k (.int .i64 1)))), []⟩, ⟨9, (some 7), none, (.q (.mov (.t 24))), []⟩]
@[simp] def l_RTLeft_12 (_ : Unit) : List EOp := ⟨0, (some 16), none, (.q (.fad 36 (.t 2))), []⟩ :: ⟨1, (some 17), none, (.q (.ldc (.t 16))), []⟩ :: ⟨2, (some 18), none, (.q (.fad 37 (.t 2))), []⟩ :: ⟨3, (some 19), none, (.q (.ldc (.t 18))), []⟩ :: ⟨4, (some 20), none, (.q (.bin .sub (.t 17) (.t 19))), []⟩ :: ⟨5, (some 21), none, (.q (.fad 38 (.t 2))), []⟩ :: hid l_RTLeft_13
@[simp] def b_RTLeft_14 (_ : Unit) : EB := reg0 (hid l_RTLeft_12) 10
@[simp] def l_RTLeft_15 (_ : Unit) : List EOp := [⟨0, (some 8), none, (.q (.mov (.k (.int .i64 0)))), []⟩]
@[simp] def b_RTLeft_16 (_ : Unit) : EB := reg0 (hid l_RTLeft_15) 1
@[simp] def l_RTLeft_17 (_ : Unit) : List EOp := [⟨0, (some 9), none, (.q (.mov (.k (.int .i64 0)))), []⟩]
@[simp] def b_RTLeft_18 (_ : Unit) : EB := reg0 (hid l_RTLeft_17) 1
@[simp] def l_RTLeft_19 (_ : Unit) : List EOp := [⟨0, (some 25), none, (.q (.mov (.t 9))), []⟩, ⟨1, (some 26), none, (.q (.mov (.t 1))), []⟩, ⟨2, (some 27), none, (.q (.len (.t 26))), []⟩, ⟨3, (some 28), none, (.q (.bin .lss (.t 25) (.t 27))), []⟩]
@[simp] def b_RTLeft_20 (_ : Unit) : EB := reg0 (hid l_RTLeft_19) 4
@[simp] def b_RTLeft_21 (_ : Unit) : EB := .cond (.t 28) .skip (.exit 0)
@[simp] def b_RTLeft_22 (_ : Unit) : EB := .seq (hid b_RTLeft_20) (hid b_RTLeft_21)
@[simp] def l_RTLeft_25 (_ : Unit) : List EOp := [⟨12, (some 43), none, (.q (.bin .quo (.t 40) (.t 42))), []⟩, ⟨13, (some 44), none, (.q (.bin .add (.t 33) (.t 43))), []⟩, ⟨14, (some 45), none, (.q (.minmax false [(.t 44), (.k (.int .i64 1073741824))])), []⟩, ⟨15, (some 8), none, (.q (.mov (.t 45))), []⟩]
@[simp] def l_RTLeft_24 (_ : Unit) : List EOp := ⟨6, (some 37), none, (.q (.ldc (.t 36))), []⟩ :: ⟨7, (some 38), none, (.q (.fad 37 (.t 2))), []⟩ :: ⟨8, (some 39), none, (.q (.ldc (.t 38))), []⟩ :: ⟨9, (some 40), none, (.q (.bin .sub (.t 37) (.t 39))), []⟩ :: ⟨10, (some 41), none, (.q (.fad 38 (.t 2))), []⟩ :: ⟨11, (some 42), none, (.q (.ldc (.t 41))), []⟩ :: hid l_RTLeft_25
@[simp] def l_RTLeft_23 (_ : Unit) : List EOp := ⟨0, (some 31), none, (.q (.mov (.t 8))), []⟩ :: ⟨1, (some 32), none, (.q (.mov (.t 7))), []⟩ :: ⟨2, (some 33), none, (.q (.bin .mul (.t 31) (.t 32))), []⟩ :: ⟨3, (some 34), none, (.q (.mov (.t 1))), []⟩ :: ⟨4, (some 35), none, (.q (.mov (.t 9))), []⟩ :: ⟨5, (some 36), none, (.q (.isl 1 (.t 34) (.t 35))), []⟩ :: hid l_RTLeft_24
@[simp] def b_RTLeft_26 (_ : Unit) : EB := reg0 (hid l_RTLeft_23) 16
@[simp] def b_RTLeft_27 (_ : Unit) : EB := .block 1 (hid b_RTLeft_26)
@[simp] def l_RTLeft_28 (_ : Unit) : List EOp := [⟨0, (some 29), none, (.q (.mov (.t 9))), []⟩, ⟨1, (some 30), none, (.q (.bin .add (.t 29) (.k (.int .i64 1)))), []⟩, ⟨2, (some 9), none, (.q (.mov (.t 30))), []⟩]
@[simp] def b_RTLeft_29 (_ : Unit) : EB := reg0 (hid l_RTLeft_28) 3
@[simp] def b_RTLeft_30 (_ : Unit) : EB := .seq (hid b_RTLeft_27) (hid b_RTLeft_29)
@[simp] def b_RTLeft_31 (_ : Unit) : EB := .seq (hid b_RTLeft_22) (hid b_RTLeft_30)
@[simp] def b_RTLeft_32 (_ : Unit) : EB := .loop (hid b_RTLeft_31)
@[simp] def b_RTLeft_33 (_ : Unit) : EB := .block 0 (hid b_RTLeft_32)
@[simp] def b_RTLeft_34 (_ : Unit) : EB := .seq (hid b_RTLeft_18) (hid b_RTLeft_33)
@[simp] def l_RTLeft_35 (_ : Unit) : List EOp := [⟨0, (some 46), none, (.q (.mov (.t 8))), []⟩, ⟨1, (some 4), none, (.q (.mov (.t 46))), []⟩, ⟨2, (some 5), none, (.q (.mov (.k (.int .i64 0)))), []⟩]
@[simp] def b_RTLeft_36 (_ : Unit) : EB := reg0 (hid l_RTLeft_35) 3
@[simp] def b_RTLeft_37 (_ : Unit) : EB := .seq (hid b_RTLeft_36) .ret
@[simp] def b_RTLeft_38 (_ : Unit) : EB := .seq (hid b_RTLeft_34) (hid b_RTLeft_37)
@[simp] def b_RTLeft_39 (_ : Unit) : EB := .seq (hid b_RTLeft_16) (hid b_RTLeft_38)
@[simp] def b_RTLeft_40 (_ : Unit) : EB := .seq (hid b_RTLeft_14) (hid b_RTLeft_39)
@[simp] def b_RTLeft_41 (_ : Unit) : EB := .seq (hid b_RTLeft_11) (hid b_RTLeft_40)
@[simp] def b_RTLeft_42 (_ : Unit) : EB := .seq (hid b_RTLeft_4) (hid b_RTLeft_41)
@[simp] def b_RTLeft_43 (_ : Unit) : EB := .seq (hid b_RTLeft_2) (hid b_RTLeft_42)
def c_RTLeft : EB × List QOp × Nat := ((hid b_RTLeft_43), [(.mov (.t 4)), (.mov (.t 5))], 47)
theorem k_RTLeft : cfun Tryd.prog 16 = some c_RTLeft := by kernel_rfl


/-- How often a rank can wait less still. -/
def dT (c : Cfg) (x : Int) : Int := (x - c.lst) / c.stp
def LT (c : Cfg) (p : List Int) : Int := p.foldl (fun n x => n * (versT c + 1) + dT c x) 0
def leftT (c : Cfg) (p : List Int) : Int × Nat := if hasT c p ≠ 0 then (0, hasT c p) else (min (LT c p) 1073741824, 0)
theorem LT_snoc (c : Cfg) (p : List Int) (x : Int) : LT c (p ++ [x]) = LT c p * (versT c + 1) + dT c x := by simp [LT]
theorem ok_of_odd {c : Cfg} {x : Int} (h : oddT c x = false) : c.lst ≤ x ∧ x ≤ c.fst ∧ (c.fst - x) % c.stp = 0 := by
  unfold oddT at h
  have := of_decide_eq_false h
  exact Classical.not_not.1 this
theorem vers_b {c : Cfg} (h : okR c) (h2 : okA c) : 0 ≤ versT c ∧ versT c ≤ 255 := ⟨Int.ediv_nonneg (by have := h.2.2.2.2.1; omega) (by have := h.2.2.1; omega), h2.1⟩
theorem dT_eq {c : Cfg} {x : Int} (h : okR c) (ho : oddT c x = false) : versT c - (c.fst - x) / c.stp = dT c x ∧ 0 ≤ dT c x ∧ dT c x ≤ versT c ∧ 0 ≤ (c.fst - x) / c.stp ∧ (dT c x = 0 ↔ x - c.stp < c.lst) := by
  obtain ⟨h1, h2, h3⟩ := ok_of_odd ho
  have hs := h.2.2.1
  have hq : (c.fst - x) / c.stp * c.stp = c.fst - x := Int.ediv_mul_cancel (Int.dvd_of_emod_eq_zero h3)
  have q0 : 0 ≤ (c.fst - x) / c.stp := Int.ediv_nonneg (by omega) (by omega)
  obtain ⟨q, hqq⟩ : ∃ q, (c.fst - x) / c.stp = q := ⟨_, rfl⟩
  rw [hqq] at hq q0
  have hv : versT c = dT c x + q := by
    unfold versT dT
    rw [show c.fst - c.lst = (x - c.lst) + q * c.stp by omega, Int.add_mul_ediv_right _ _ (by omega)]
  have d0 : 0 ≤ dT c x := Int.ediv_nonneg (by omega) (by omega)
  rw [hqq]
  refine ⟨by omega, d0, by omega, q0, ?_⟩
  constructor
  · intro hd
    have := Int.lt_ediv_add_one_mul_self (x - c.lst) (show 0 < c.stp by omega)
    unfold dT at hd
    rw [hd] at this
    omega
  · intro hd
    exact Int.ediv_eq_zero_of_lt (by omega) (by omega)
theorem has_all {c : Cfg} {p : List Int} (h : hasT c p = 0) : chkT c = 0 ∧ (p.length : Int) = c.dep ∧ ∀ x ∈ p, oddT c x = false := by
  unfold hasT at h
  split at h
  · rename_i h1; exact absurd h h1
  rename_i h1
  split at h
  · simp at h
  rename_i h2
  refine ⟨Classical.not_not.1 h1, Classical.not_not.1 (fun h => h2 (.inl h)), fun x hx => ?_⟩
  cases ho : oddT c x
  · rfl
  · exact absurd (.inr (List.any_eq_true.2 ⟨x, hx, ho⟩)) h2
theorem LT_mono {c : Cfg} (hv : 0 ≤ versT c) : ∀ (r : List Int) (n : Int), 0 ≤ n → (∀ x ∈ r, 0 ≤ dT c x) → n ≤ r.foldl (fun n x => n * (versT c + 1) + dT c x) n
  | [], n, _, _ => Int.le_refl _
  | x :: r, n, hn, h => by
    have hx := h x (by simp)
    have h1 : n ≤ n * (versT c + 1) := by
      rw [Int.mul_add, Int.mul_one]
      have := Int.mul_nonneg hn hv
      omega
    exact Int.le_trans (by omega) (LT_mono hv r (n * (versT c + 1) + dT c x) (by omega) (fun y hy => h y (by simp [hy])))
theorem LT_take {c : Cfg} (hv : 0 ≤ versT c) (p : List Int) (i : Nat) (hn : 0 ≤ LT c (p.take i)) (h : ∀ x ∈ p, 0 ≤ dT c x) : LT c (p.take i) ≤ LT c p := by
  have := LT_mono hv (p.drop i) (LT c (p.take i)) hn (fun x hx => h x (List.mem_of_mem_drop hx))
  have e : LT c p = (p.drop i).foldl (fun n x => n * (versT c + 1) + dT c x) (LT c (p.take i)) := by
    unfold LT
    rw [← List.foldl_append, List.take_append_drop]
  rw [e]
  exact this
theorem take_s {α : Type} {l : List α} {i : Nat} {k : α} (h : l[i]? = some k) : l.take (i + 1) = l.take i ++ [k] := by rw [List.take_add_one, h]; rfl

set_option maxRecDepth 8000 in
set_option maxHeartbeats 4000000 in
theorem TLeft_ok (c : Cfg) (p : List Int) (hc : c.ok) (hl : p.length ≤ 100000000) : ECalls Tryd.prog 10 [CV c, IL p] [] fun y H' => H' = [] ∧ y = .tup [.c (.fz (.lit (.int .i64 (leftT c p).1))), .c (.fz (.lit (errV (leftT c p).2)))] := by
  have h32 := hc.1
  have t40 := tk40 h32
  refine ecalls k_TLeft ?_
  simp [c_TLeft, CV, cfgC, cfgT, IL, h32, t40]
  refine call0 (Thas_ok c p hc hl) (by simp [CV, cfgC, cfgT, IL]) ?_
  rintro y H' ⟨rfl, rfl⟩
  refine ⟨.inl (by simp [t40]), le_ok rfl, ?_⟩
  by_cases hk : hasT c p = 0
  rotate_left
  · have hh : leftT c p = (0, hasT c p) := by simp [leftT, hk]
    rw [hh]
    simp [hk, EV.lit]
    exact fin [] (by decide) rfl rfl rfl ⟨rfl, rfl⟩
  have hh : leftT c p = (min (LT c p) 1073741824, 0) := by simp [leftT, hk]
  rw [hh]
  obtain ⟨hk0, hkd, hko⟩ := has_all hk
  obtain ⟨hR, hA, -, -⟩ := chk_okR hk0
  have hvb := vers_b hR hA
  simp [hk, EV.lit, h32]
  refine eloop (α := Nat × Int) (fun a => a.1 ≤ p.length ∧ a.2 = LT c (p.take a.1) ∧ 0 ≤ a.2 ∧ a.2 ≤ 1073741824 * 256 + 255) (fun a => p.length - a.1)
    (fun a => [.any, .any, Ptr 0, .any, .any, .any, .any, I .i64 a.2, .any, .any, .any, .any, .any, .any, .any, .any, IL p, I .i64 p.length, I .i64 a.1, .any, .any, .any, .any, .any, .any, .any, .any, .any, .any, .any, .any, .any, .any, .any, .any, .any, .any, .any, .any]) (fun _ => [some (.box 31 (cfgC c))]) (0, 0) [0]
    ⟨by simp, by simp [LT], by simp, by simp⟩ (by simp [I, IL, Ptr]) (by simp [cfgC, cfgT]) (by simp) (by simp) (by simp) ?_
  rintro ⟨i, n⟩ ⟨hi, hn, hn0, hnb⟩
  simp only at hi hn hn0 hnb
  simp [I, IL, Ptr, cfgC, cfgT, h32]
  refine alt (fun hlt => ?_) (fun hlt => ?_)
  · obtain ⟨k, hci⟩ : ∃ k, p[i]? = some k := ⟨p[i], by simp [hlt]⟩
    have hcb := intv_get hci
    have ho := hko k (List.mem_of_getElem? hci)
    obtain ⟨d1, d2, d3, d4, d5⟩ := dT_eq hR ho
    obtain ⟨o1, o2, o3⟩ := ok_of_odd ho
    have w2 : IntKind.i64.wrap ((i : Int) + 1) = ((i + 1 : Nat) : Int) := wrap_i64 (by omega) (by omega)
    simp [hcb, h32]
    by_cases hbig : 1073741824 < n
    · have hbig' : ¬ n ≤ 1073741824 := by omega
      have hle := LT_take hvb.1 p i (by omega) (fun x hx => (dT_eq hR (hko x hx)).2.1)
      have hmin : min (LT c p) 1073741824 = 1073741824 := by omega
      rw [hmin]
      simp [hbig, hbig']
      exact fin [] (by decide) rfl rfl rfl ⟨rfl, rfl⟩
    have hbig' : n ≤ 1073741824 := by omega
    have hm : 0 ≤ n * (versT c + 1) ∧ n * (versT c + 1) ≤ 1073741824 * 256 := ⟨Int.mul_nonneg hn0 (by omega), Int.le_trans (Int.mul_le_mul_of_nonneg_right hbig' (by omega)) (Int.mul_le_mul_of_nonneg_left (by omega) (by omega))⟩
    obtain ⟨q, hq⟩ : ∃ q, n * (versT c + 1) = q := ⟨_, rfl⟩
    rw [hq] at hm
    have w3 : IntKind.i64.wrap (versT c + 1) = versT c + 1 := wrap_i64 (by omega) (by omega)
    have w4 : IntKind.i64.wrap q = q := wrap_i64 (by omega) (by omega)
    have w5 : IntKind.i64.wrap (q + versT c) = q + versT c := wrap_i64 (by omega) (by omega)
    have w6 : IntKind.i64.wrap (q + versT c - (c.fst - k) / c.stp) = q + dT c k := by rw [wrap_i64 (by omega) (by omega)]; omega
    simp [hbig, hbig', h32, t40]
    refine call0 (Tvers_ok c hc hR) (by simp [CV, cfgC, cfgT, t40]) ?_
    rintro y H' ⟨rfl, rfl⟩
    refine ⟨.inl (by simp [t40]), le_ok rfl, ?_⟩
    simp [I, w3, hq, w4, h32, t40]
    refine call0 (Tvers_ok c hc hR) (by simp [CV, cfgC, cfgT, t40]) ?_
    rintro y H' ⟨rfl, rfl⟩
    refine ⟨.inl (by simp [t40]), le_ok rfl, ?_⟩
    simp [I, w5, hcb, h32, t40]
    refine call0 (Tused_ok c k hc hR ⟨o1, o2⟩) (by simp [CV, cfgC, cfgT, I, t40]) ?_
    rintro y H' ⟨rfl, rfl⟩
    refine ⟨.inl (by simp [t40]), le_ok rfl, ?_⟩
    simp [I, w6, w2, -Int.natCast_add]
    exact round (i + 1, q + dT c k) [0] ⟨by simp; omega, by simp only; rw [take_s hci, LT_snoc, ← hn, hq], by simp; omega, by simp; omega⟩ (by simp; omega) (by simp) (by simp [cfgC, cfgT]) (by simp) (by simp) (by simp)
  · have hil : i = p.length := by omega
    subst hil
    rw [List.take_length] at hn
    rw [← hn]
    by_cases hbig : 1073741824 < n
    · have hmin : min n 1073741824 = 1073741824 := by omega
      rw [hmin]
      simp [hbig]
      exact fin [] (by decide) rfl rfl rfl ⟨rfl, rfl⟩
    · have hmin : min n 1073741824 = n := by omega
      rw [hmin]
      simp [hbig]
      exact fin [] (by decide) rfl rfl rfl ⟨rfl, rfl⟩

set_option maxRecDepth 8000 in
set_option maxHeartbeats 4000000 in
theorem RTLeft_ok (c : Cfg) (p : List Int) (hc : c.ok) (hl : p.length ≤ 100000000) : ECalls Tryd.prog 16 [CV c, IL p] [] fun y H' => H' = [] ∧ y = .tup [.c (.fz (.lit (.int .i64 (leftT c p).1))), .c (.fz (.lit (.int .i64 ((leftT c p).2 : Int))))] := by
  have h32 := hc.1
  have t40 := tk40 h32
  refine ecalls k_RTLeft ?_
  simp [c_RTLeft, CV, cfgC, cfgT, IL, h32, t40]
  refine call0 (RIs_ok c p hc hl) (by simp [CV, cfgC, cfgT, IL]) ?_
  rintro y H' ⟨rfl, rfl⟩
  refine ⟨.inl (by simp [t40]), le_ok rfl, ?_⟩
  by_cases hk : hasT c p = 0
  rotate_left
  · have hh : leftT c p = (0, hasT c p) := by simp [leftT, hk]
    rw [hh]
    simp [hk, I]
    exact fin [] (by decide) rfl rfl rfl ⟨rfl, rfl⟩
  have hh : leftT c p = (min (LT c p) 1073741824, 0) := by simp [leftT, hk]
  rw [hh]
  obtain ⟨hk0, hkd, hko⟩ := has_all hk
  obtain ⟨hR, hA, -, -⟩ := chk_okR hk0
  have hvb := vers_b hR hA
  obtain ⟨r1, r2, r3, r4, r5, r6, r7⟩ := id hR
  have w1 : IntKind.i64.wrap (c.fst - c.lst) = c.fst - c.lst := wrap_i64 (by omega) (by omega)
  have hd : (c.fst - c.lst).tdiv c.stp = versT c := Int.tdiv_eq_ediv_of_nonneg (by omega)
  have w3 : IntKind.i64.wrap (versT c) = versT c := wrap_i64 (by omega) (by omega)
  have w4 : IntKind.i64.wrap (versT c + 1) = versT c + 1 := wrap_i64 (by omega) (by omega)
  have hz : ¬ c.stp = 0 := by omega
  simp [hk, I, h32, w1, hz, hd, w3, w4]
  refine eloop (α := Nat × Int) (fun a => a.1 ≤ p.length ∧ a.2 = min (LT c (p.take a.1)) 1073741824 ∧ 0 ≤ LT c (p.take a.1)) (fun a => p.length - a.1)
    (fun a => [.any, IL p, Ptr 0, .any, .any, .any, .any, I .i64 (versT c + 1), I .i64 a.2, I .i64 a.1, .any, .any, .any, .any, .any, .any, .any, .any, .any, .any, .any, .any, .any, .any, .any, .any, .any, .any, .any, .any, .any, .any, .any, .any, .any, .any, .any, .any, .any, .any, .any, .any, .any, .any, .any, .any, .any]) (fun _ => [some (.box 28 (cfgC c))]) (0, 0) [0]
    ⟨by simp, by simp [LT]; omega, by simp [LT]⟩ (by simp [I, IL, Ptr]) (by simp [cfgC, cfgT]) (by simp) (by simp) (by simp) ?_
  rintro ⟨i, n⟩ ⟨hi, hn, hn0⟩
  simp only at hi hn hn0
  simp [I, IL, Ptr, cfgC, cfgT, h32]
  refine alt (fun hlt => ?_) (fun hlt => ?_)
  · obtain ⟨k, hci⟩ : ∃ k, p[i]? = some k := ⟨p[i], by simp [hlt]⟩
    have hcb := intv_get hci
    have ho := hko k (List.mem_of_getElem? hci)
    obtain ⟨d1, d2, d3, d4, d5⟩ := dT_eq hR ho
    obtain ⟨o1, o2, o3⟩ := ok_of_odd ho
    have w2 : IntKind.i64.wrap ((i : Int) + 1) = ((i + 1 : Nat) : Int) := wrap_i64 (by omega) (by omega)
    have n0 : 0 ≤ n ∧ n ≤ 1073741824 := by omega
    have hm : 0 ≤ n * (versT c + 1) ∧ n * (versT c + 1) ≤ 1073741824 * 256 := ⟨Int.mul_nonneg n0.1 (by omega), Int.le_trans (Int.mul_le_mul_of_nonneg_right n0.2 (by omega)) (Int.mul_le_mul_of_nonneg_left (by omega) (by omega))⟩
    have hge : n ≤ n * (versT c + 1) := by
      rw [Int.mul_add, Int.mul_one]
      have := Int.mul_nonneg n0.1 hvb.1
      omega
    have hge2 : LT c (p.take i) ≤ LT c (p.take i) * (versT c + 1) := by
      rw [Int.mul_add, Int.mul_one]
      have := Int.mul_nonneg hn0 hvb.1
      omega
    have hst : min (n * (versT c + 1) + dT c k) 1073741824 = min (LT c (p.take (i + 1))) 1073741824 := by
      rw [take_s hci, LT_snoc]
      by_cases hb : LT c (p.take i) ≤ 1073741824
      · rw [show n = LT c (p.take i) by omega]
      · omega
    obtain ⟨q, hq⟩ : ∃ q, n * (versT c + 1) = q := ⟨_, rfl⟩
    rw [hq] at hm hst
    have w5 : IntKind.i64.wrap q = q := wrap_i64 (by omega) (by omega)
    have w6 : IntKind.i64.wrap (k - c.lst) = k - c.lst := wrap_i64 (by omega) (by omega)
    have hd2 : (k - c.lst).tdiv c.stp = dT c k := Int.tdiv_eq_ediv_of_nonneg (by omega)
    have w7 : IntKind.i64.wrap (dT c k) = dT c k := wrap_i64 (by omega) (by omega)
    have w8 : IntKind.i64.wrap (q + dT c k) = q + dT c k := wrap_i64 (by omega) (by omega)
    have hif : (if 1073741824 < q + dT c k then 1073741824 else q + dT c k) = min (LT c (p.take (i + 1))) 1073741824 := by rw [← hst]; split <;> omega
    have hnx : 0 ≤ LT c (p.take (i + 1)) := by rw [take_s hci, LT_snoc]; omega
    simp [hcb, h32, hq, w5, w6, hz, hd2, w7, w8, w2, -Int.natCast_add]
    exact round (i + 1, min (LT c (p.take (i + 1))) 1073741824) [0] ⟨by simp; omega, rfl, hnx⟩ (by simp; omega) (by simp [hif]) (by simp [cfgC, cfgT]) (by simp) (by simp) (by simp)
  · have hil : i = p.length := by omega
    subst hil
    rw [List.take_length] at hn
    rw [← hn]
    simp
    exact fin [] (by decide) rfl rfl rfl ⟨rfl, rfl⟩

end Go.Proofs.YtoomdgmggkcgfaaDoor
