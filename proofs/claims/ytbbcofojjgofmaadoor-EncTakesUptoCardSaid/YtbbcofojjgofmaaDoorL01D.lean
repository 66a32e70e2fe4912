import Derived.Test.YtbbcofojjgofmaaDoorEnc9
import Derived.Test.YtbbcofojjgofmaaDoorEnc4
import Derived.Test.YtbbcofojjgofmaaDoorAs
namespace Go.Proofs.YtbbcofojjgofmaaDoor
open Go Go.EW
set_option linter.unusedSimpArgs false
set_option linter.unusedVariables false

@[simp] def l_EncInts_1 (_ : Unit) : List EOp := [⟨0, (some 4), none, (.q (.mov (.k (.bool false)))), []⟩]
@[simp] def b_EncInts_2 (_ : Unit) : EB := reg0 (hid l_EncInts_1) 1
@[simp] def l_EncInts_3 (_ : Unit) : List EOp := [⟨0, (some 13), none, (.q (.mov (.t 0))), []⟩, ⟨1, (some 14), none, (.call 6 [(.t 13)]), []⟩, ⟨2, (some 15), none, (.q (.mov (.t 0))), []⟩, ⟨3, (some 16), none, (.call 6 [(.t 15)]), []⟩, ⟨4, (some 5), none, (.q (.mov (.t 14))), []⟩, ⟨5, (some 6), none, (.q (.mov (.t 16))), []⟩]
@[simp] def b_EncInts_4 (_ : Unit) : EB := reg0 (hid l_EncInts_3) 6
@[simp] def l_EncInts_6 (_ : Unit) : List EOp := [⟨6, (some 8), none, (.q (.mov (.t 21))), []⟩]
@[simp] def l_EncInts_5 (_ : Unit) : List EOp := ⟨0, (some 17), none, (.q (.mov (.t 5))), []⟩ :: ⟨1, (some 18), none, (.call 7 [(.t 17)]), []⟩ :: ⟨2, (some 19), none, (.q (.mov (.t 6))), []⟩ :: ⟨3, (some 20), none, (.q (.mov (.t 1))), []⟩ :: ⟨4, (some 21), none, (.call 8 [(.t 19), (.t 20)]), []⟩ :: ⟨5, (some 7), none, (.q (.mov (.t 18))), []⟩ :: hid l_EncInts_6
@[simp] def b_EncInts_7 (_ : Unit) : EB := reg0 (hid l_EncInts_5) 7
@[simp] def l_EncInts_9 (_ : Unit) : List EOp := [⟨6, (some 9), none, (.q (.alloc 29 [(.slice none 0 0), (.int .i64 0)])), []⟩, ⟨7, none, none, (.fz (.sto 2 (.t 9) (.t 26))), []⟩, ⟨8, (some 10), none, (.q (.mov (.t 27))), []⟩]
@[simp] def l_EncInts_8 (_ : Unit) : List EOp := ⟨0, (some 23), none, (.q (.mov (.t 0))), []⟩ :: ⟨1, (some 24), none, (.q (.build [(.slice none 0 0), (.int .i64 0)] [(0, 1, (.t 23))])), []⟩ :: ⟨2, (some 25), none, (.call 9 [(.t 24)]), []⟩ :: ⟨3, (some 22), none, (.q (.mov (.t 25))), []⟩ :: ⟨4, (some 26), none, (.q (.ext 0 (.t 22))), []⟩ :: ⟨5, (some 27), none, (.q (.ext 1 (.t 22))), []⟩ :: hid l_EncInts_9
@[simp] def b_EncInts_10 (_ : Unit) : EB := reg0 (hid l_EncInts_8) 9
@[simp] def l_EncInts_12 (_ : Unit) : List EOp := [⟨6, (some 34), none, (.q (.ext 1 (.t 28))), []⟩, ⟨7, (some 11), none, (.q (.alloc 29 [(.slice none 0 0), (.int .i64 0)])), []⟩, ⟨8, none, none, (.fz (.sto 2 (.t 11) (.t 33))), []⟩, ⟨9, (some 12), none, (.q (.mov (.t 34))), []⟩]
@[simp] def l_EncInts_11 (_ : Unit) : List EOp := ⟨0, (some 29), none, (.q (.mov (.t 0))), []⟩ :: ⟨1, (some 30), none, (.q (.build [(.slice none 0 0), (.int .i64 0)] [(0, 1, (.t 29))])), []⟩ :: ⟨2, (some 31), none, (.q (.mov (.t 1))), []⟩ :: ⟨3, (some 32), none, (.call 10 [(.t 30), (.t 31)]), []⟩ :: ⟨4, (some 28), none, (.q (.mov (.t 32))), []⟩ :: ⟨5, (some 33), none, (.q (.ext 0 (.t 28))), []⟩ :: hid l_EncInts_12
@[simp] def b_EncInts_13 (_ : Unit) : EB := reg0 (hid l_EncInts_11) 10
@[simp] def l_EncInts_18 (_ : Unit) : List EOp := [⟨24, (some 59), none, (.q (.mov (.t 58))), []⟩, ⟨25, (some 60), (some (59, true)), (.call 14 []), []⟩, ⟨26, (some 61), none, (.q (.pick (.t 59) (.t 60) (.k (.bool false)))), []⟩, ⟨27, (some 4), none, (.q (.mov (.t 61))), []⟩]
@[simp] def l_EncInts_17 (_ : Unit) : List EOp := ⟨20, (some 55), (some (51, true)), (.q (.lda 2 (.t 11))), []⟩ :: ⟨18, (some 53), (some (51, true)), (.call 12 [(.t 52)]), [20]⟩ :: ⟨19, (some 54), (some (51, true)), (.call 11 [(.t 53)]), [20]⟩ :: ⟨21, (some 56), (some (51, true)), (.call 13 [(.t 55)]), []⟩ :: ⟨22, (some 57), (some (51, true)), (.q (.bin .eql (.t 54) (.t 56))), []⟩ :: ⟨23, (some 58), none, (.q (.pick (.t 51) (.t 57) (.k (.bool false)))), []⟩ :: hid l_EncInts_18
@[simp] def l_EncInts_16 (_ : Unit) : List EOp := ⟨11, (some 46), (some (43, true)), (.call 11 [(.t 45)]), [12]⟩ :: ⟨13, (some 48), (some (43, true)), (.call 13 [(.t 47)]), []⟩ :: ⟨14, (some 49), (some (43, true)), (.q (.bin .eql (.t 46) (.t 48))), []⟩ :: ⟨15, (some 50), none, (.q (.pick (.t 43) (.t 49) (.k (.bool false)))), []⟩ :: ⟨16, (some 51), none, (.q (.mov (.t 50))), []⟩ :: ⟨17, (some 52), (some (51, true)), (.q (.mov (.t 6))), []⟩ :: hid l_EncInts_17
@[simp] def l_EncInts_15 (_ : Unit) : List EOp := ⟨6, (some 41), (some (38, true)), (.q (.bin .eql (.t 39) (.t 40))), []⟩ :: ⟨7, (some 42), none, (.q (.pick (.t 38) (.t 41) (.k (.bool false)))), []⟩ :: ⟨8, (some 43), none, (.q (.mov (.t 42))), []⟩ :: ⟨9, (some 44), (some (43, true)), (.q (.mov (.t 5))), []⟩ :: ⟨12, (some 47), (some (43, true)), (.q (.lda 2 (.t 9))), []⟩ :: ⟨10, (some 45), (some (43, true)), (.call 12 [(.t 44)]), [12]⟩ :: hid l_EncInts_16
@[simp] def l_EncInts_14 (_ : Unit) : List EOp := ⟨0, (some 35), none, (.q (.mov (.t 7))), []⟩ :: ⟨1, (some 36), none, (.q (.mov (.t 10))), []⟩ :: ⟨2, (some 37), none, (.q (.bin .eql (.t 35) (.t 36))), []⟩ :: ⟨3, (some 38), none, (.q (.mov (.t 37))), []⟩ :: ⟨4, (some 39), (some (38, true)), (.q (.mov (.t 8))), []⟩ :: ⟨5, (some 40), (some (38, true)), (.q (.mov (.t 12))), []⟩ :: hid l_EncInts_15
@[simp] def b_EncInts_19 (_ : Unit) : EB := reg1 (hid l_EncInts_14) 28
@[simp] def b_EncInts_20 (_ : Unit) : EB := .seq (hid b_EncInts_19) .ret
@[simp] def b_EncInts_21 (_ : Unit) : EB := .seq (hid b_EncInts_13) (hid b_EncInts_20)
@[simp] def b_EncInts_22 (_ : Unit) : EB := .seq (hid b_EncInts_10) (hid b_EncInts_21)
@[simp] def b_EncInts_23 (_ : Unit) : EB := .seq (hid b_EncInts_7) (hid b_EncInts_22)
@[simp] def b_EncInts_24 (_ : Unit) : EB := .seq (hid b_EncInts_4) (hid b_EncInts_23)
@[simp] def b_EncInts_25 (_ : Unit) : EB := .seq (hid b_EncInts_2) (hid b_EncInts_24)
def c_EncInts : EB × List QOp × Nat := ((hid b_EncInts_25), [(.mov (.t 4))], 62)
theorem k_EncInts : cfun Tryd.prog 3 = some c_EncInts := by kernel_rfl

@[simp] def l_EncStrings_1 (_ : Unit) : List EOp := [⟨0, (some 4), none, (.q (.mov (.k (.bool false)))), []⟩]
@[simp] def b_EncStrings_2 (_ : Unit) : EB := reg0 (hid l_EncStrings_1) 1
@[simp] def l_EncStrings_3 (_ : Unit) : List EOp := [⟨0, (some 9), none, (.q (.mov (.t 0))), []⟩, ⟨1, (some 10), none, (.call 6 [(.t 9)]), []⟩, ⟨2, (some 5), none, (.q (.mov (.t 10))), []⟩]
@[simp] def b_EncStrings_4 (_ : Unit) : EB := reg0 (hid l_EncStrings_3) 3
@[simp] def l_EncStrings_5 (_ : Unit) : List EOp := [⟨0, (some 11), none, (.q (.mov (.t 5))), []⟩, ⟨1, (some 12), none, (.q (.mov (.t 1))), []⟩, ⟨2, (some 13), none, (.call 15 [(.t 11), (.t 12)]), []⟩, ⟨3, (some 6), none, (.q (.mov (.t 13))), []⟩]
@[simp] def b_EncStrings_6 (_ : Unit) : EB := reg0 (hid l_EncStrings_5) 4
@[simp] def l_EncStrings_8 (_ : Unit) : List EOp := [⟨6, (some 20), none, (.q (.ext 1 (.t 14))), []⟩, ⟨7, (some 7), none, (.q (.alloc 29 [(.slice none 0 0), (.int .i64 0)])), []⟩, ⟨8, none, none, (.fz (.sto 2 (.t 7) (.t 19))), []⟩, ⟨9, (some 8), none, (.q (.mov (.t 20))), []⟩]
@[simp] def l_EncStrings_7 (_ : Unit) : List EOp := ⟨0, (some 15), none, (.q (.mov (.t 0))), []⟩ :: ⟨1, (some 16), none, (.q (.build [(.slice none 0 0), (.int .i64 0)] [(0, 1, (.t 15))])), []⟩ :: ⟨2, (some 17), none, (.q (.mov (.t 1))), []⟩ :: ⟨3, (some 18), none, (.call 16 [(.t 16), (.t 17)]), []⟩ :: ⟨4, (some 14), none, (.q (.mov (.t 18))), []⟩ :: ⟨5, (some 19), none, (.q (.ext 0 (.t 14))), []⟩ :: hid l_EncStrings_8
@[simp] def b_EncStrings_9 (_ : Unit) : EB := reg0 (hid l_EncStrings_7) 10
@[simp] def l_EncStrings_14 (_ : Unit) : List EOp := [⟨24, (some 4), none, (.q (.mov (.t 44))), []⟩]
@[simp] def l_EncStrings_13 (_ : Unit) : List EOp := ⟨15, (some 36), (some (34, true)), (.call 17 [(.t 35)]), [16, 17, 18]⟩ :: ⟨19, (some 40), (some (34, true)), (.q (.bin .eql (.t 36) (.t 39))), []⟩ :: ⟨20, (some 41), none, (.q (.pick (.t 34) (.t 40) (.k (.bool false)))), []⟩ :: ⟨21, (some 42), none, (.q (.mov (.t 41))), []⟩ :: ⟨22, (some 43), (some (42, true)), (.call 14 []), []⟩ :: ⟨23, (some 44), none, (.q (.pick (.t 42) (.t 43) (.k (.bool false)))), []⟩ :: hid l_EncStrings_14
@[simp] def l_EncStrings_12 (_ : Unit) : List EOp := ⟨12, (some 33), none, (.q (.pick (.t 26) (.t 32) (.k (.bool false)))), []⟩ :: ⟨13, (some 34), none, (.q (.mov (.t 33))), []⟩ :: ⟨14, (some 35), (some (34, true)), (.q (.mov (.t 5))), []⟩ :: ⟨16, (some 37), (some (34, true)), (.q (.fad 0 (.t 7))), []⟩ :: ⟨17, (some 38), (some (34, true)), (.q (.ldc (.t 37))), []⟩ :: ⟨18, (some 39), (some (34, true)), (.q (.len (.t 38))), []⟩ :: hid l_EncStrings_13
@[simp] def l_EncStrings_11 (_ : Unit) : List EOp := ⟨6, (some 27), (some (26, true)), (.q (.mov (.t 5))), []⟩ :: ⟨9, (some 30), (some (26, true)), (.q (.lda 2 (.t 7))), []⟩ :: ⟨7, (some 28), (some (26, true)), (.call 12 [(.t 27)]), [9]⟩ :: ⟨8, (some 29), (some (26, true)), (.call 11 [(.t 28)]), [9]⟩ :: ⟨10, (some 31), (some (26, true)), (.call 13 [(.t 30)]), []⟩ :: ⟨11, (some 32), (some (26, true)), (.q (.bin .eql (.t 29) (.t 31))), []⟩ :: hid l_EncStrings_12
@[simp] def l_EncStrings_10 (_ : Unit) : List EOp := ⟨0, (some 21), none, (.q (.mov (.t 6))), []⟩ :: ⟨1, (some 22), none, (.q (.b2s (.t 21))), []⟩ :: ⟨2, (some 23), none, (.q (.mov (.t 8))), []⟩ :: ⟨3, (some 24), none, (.q (.b2s (.t 23))), []⟩ :: ⟨4, (some 25), none, (.q (.bin .eql (.t 22) (.t 24))), []⟩ :: ⟨5, (some 26), none, (.q (.mov (.t 25))), []⟩ :: hid l_EncStrings_11
@[simp] def b_EncStrings_15 (_ : Unit) : EB := reg1 (hid l_EncStrings_10) 25
@[simp] def b_EncStrings_16 (_ : Unit) : EB := .seq (hid b_EncStrings_15) .ret
@[simp] def b_EncStrings_17 (_ : Unit) : EB := .seq (hid b_EncStrings_9) (hid b_EncStrings_16)
@[simp] def b_EncStrings_18 (_ : Unit) : EB := .seq (hid b_EncStrings_6) (hid b_EncStrings_17)
@[simp] def b_EncStrings_19 (_ : Unit) : EB := .seq (hid b_EncStrings_4) (hid b_EncStrings_18)
@[simp] def b_EncStrings_20 (_ : Unit) : EB := .seq (hid b_EncStrings_2) (hid b_EncStrings_19)
def c_EncStrings : EB × List QOp × Nat := ((hid b_EncStrings_20), [(.mov (.t 4))], 45)
theorem k_EncStrings : cfun Tryd.prog 4 = some c_EncStrings := by kernel_rfl


theorem num_e (e : Nat) : ECalls Tryd.prog 11 [.lit (errV e)] [] fun y H' => H' = [] ∧ y = I .i64 e := by
  have h := num_ok (e : Int)
  have e1 : EN (e : Int) = .lit (errV e) := by
    unfold EN errV
    by_cases h : e = 0
    · subst h; rfl
    · rw [if_neg (by omega), if_neg h]
  rw [e1] at h
  exact h

theorem intS_len (b : List UInt8) : (intS b).2.2 ≤ b.length := by
  have key : ∀ (r : List UInt8) (many : Nat) (mask : UInt8) (z : Int), (if 8 < many then ((3 : Nat), (0 : Int), 0) else if (lowS r many mask).2 ≠ 0 then ((lowS r many mask).2, 0, 0) else if 9223372036854775807 < (lowS r many mask).1 then (4, 0, 0) else (0, z, 1 + many)).2.2 ≤ r.length + 1 := by
    intro r many mask z
    split
    · simp
    split
    · simp
    rename_i h8 hq
    have h2 := low_len r many mask (by omega)
    split
    · simp
    · simp; omega
  unfold intS
  split
  · simp
  rename_i c r
  exact key r _ _ _
/-- The error at the end. -/
def doneS (left e : Nat) : Nat := if e ≠ 0 then e else if left ≠ 0 then 3 else 0
theorem done_l (l p e : Nat) (hp : p ≤ l) : (if e ≠ 0 then e else if p < l then 3 else 0) = doneS (l - p) e := by
  unfold doneS
  split
  · rfl
  · by_cases h : p < l
    · rw [if_pos h, if_pos (by omega)]
    · rw [if_neg h, if_neg (by omega)]
theorem RdDone' (l : List UInt8) (p e : Nat) (hp : p ≤ l.length) : ECalls Tryd.prog 12 [Ptr 0] [RdO l p e] fun y H' => H' = [some (RdO l p e)] ∧ y = .lit (errV (doneS (l.length - p) e)) := by
  have h := RdDone_ok l p e hp
  rw [done_l l.length p e hp] at h
  exact h
theorem RDone' (b : List UInt8) (e : Nat) : ECalls Tryd.prog 13 [RV b e] [] fun y H' => H' = [] ∧ y = I .i64 (doneS b.length e) := RDone_ok b e

set_option maxHeartbeats 2000000 in
theorem EncInts_ok (b : List UInt8) (most : Nat) (hl : b.length ≤ 100000000) (hm : most < 18446744073709551616) : ECalls Tryd.prog 3 [Bs b, I .u64 most] [] fun y H' => H' = [] ∧ y = .lit (.bool true) := by
  have q1 := intS_len b
  have q2 := (numS_ok b most).2.2.1
  refine ecalls k_EncInts ?_
  simp [c_EncInts, Bs, I]
  refine call0 (Read_ok b) (by simp [Ptr, NP, I, R, RO, WO, RdO, Bs, EV.lit, RV, rvC]) ?_
  rintro y H' ⟨rfl, rfl⟩
  refine ⟨.inl (by simp [Ptr, NP, I, R, RO, WO, RdO, Bs, EV.lit, RV, rvC]), le_ok rfl, ?_⟩
  simp [Ptr, NP, I, R, RO, WO, RdO, Bs, EV.lit, RV, rvC]
  refine call0 (Read_ok b) (by simp [Ptr, NP, I, R, RO, WO, RdO, Bs, EV.lit, RV, rvC]) ?_
  rintro y H' ⟨rfl, rfl⟩
  refine ⟨.inl (by simp [Ptr, NP, I, R, RO, WO, RdO, Bs, EV.lit, RV, rvC]), le_ok rfl, ?_⟩
  simp [Ptr, NP, I, R, RO, WO, RdO, Bs, EV.lit, RV, rvC]
  refine callH [32] (RdInt_ok b 0 (by omega) (by omega)) (by simp [Ptr, NP, I, R, RO, WO, RdO, Bs, EV.lit, RV, rvC]) (by simp [Ptr, NP, I, R, RO, WO, RdO, Bs, EV.lit, RV, rvC]) (by simp) (by simp [Ptr, NP, I, R, RO, WO, RdO, Bs, EV.lit, RV, rvC]) (by simp [Wok]) ?_
  rintro y H' ⟨rfl, rfl⟩
  refine ⟨.inl (by simp [Ptr, NP, I, R, RO, WO, RdO, Bs, EV.lit, RV, rvC]), le_ok rfl, ?_⟩
  simp [Ptr, NP, I, R, RO, WO, RdO, Bs, EV.lit, RV, rvC]
  refine callH [64] (RdUint_ok b 0 most (by omega) (by omega) hm) (by simp [Ptr, NP, I, R, RO, WO, RdO, Bs, EV.lit, RV, rvC]) (by simp [Ptr, NP, I, R, RO, WO, RdO, Bs, EV.lit, RV, rvC]) (by simp) (by simp [Ptr, NP, I, R, RO, WO, RdO, Bs, EV.lit, RV, rvC]) (by simp [Wok]) ?_
  rintro y H' ⟨rfl, rfl⟩
  refine ⟨.inl (by simp [Ptr, NP, I, R, RO, WO, RdO, Bs, EV.lit, RV, rvC]), le_ok rfl, ?_⟩
  simp [Ptr, NP, I, R, RO, WO, RdO, Bs, EV.lit, RV, rvC]
  refine call0 (RReadInt_ok b (by omega)) (by simp [Ptr, NP, I, R, RO, WO, RdO, Bs, EV.lit, RV, rvC]) ?_
  rintro y H' ⟨rfl, rfl⟩
  refine ⟨.inl (by simp [Ptr, NP, I, R, RO, WO, RdO, Bs, EV.lit, RV, rvC]), le_ok rfl, ?_⟩
  simp [Ptr, NP, I, R, RO, WO, RdO, Bs, EV.lit, RV, rvC]
  refine call0 (RReadUint_ok b most (by omega)) (by simp [Ptr, NP, I, R, RO, WO, RdO, Bs, EV.lit, RV, rvC]) ?_
  rintro y H' ⟨rfl, rfl⟩
  refine ⟨.inl (by simp [Ptr, NP, I, R, RO, WO, RdO, Bs, EV.lit, RV, rvC]), le_ok rfl, ?_⟩
  simp [Ptr, NP, I, R, RO, WO, RdO, Bs, EV.lit, RV, rvC]
  refine callH [32] (RdDone' b (intS b).2.2 (intS b).1 q1) (by simp [Ptr, NP, I, R, RO, WO, RdO, Bs, EV.lit, RV, rvC]) (by simp [Ptr, NP, I, R, RO, WO, RdO, Bs, EV.lit, RV, rvC]) (by simp) (by simp [Ptr, NP, I, R, RO, WO, RdO, Bs, EV.lit, RV, rvC]) (by simp [Wok]) ?_
  rintro y H' ⟨rfl, rfl⟩
  refine ⟨.inl (by simp [Ptr, NP, I, R, RO, WO, RdO, Bs, EV.lit, RV, rvC]), le_ok rfl, ?_⟩
  simp [Ptr, NP, I, R, RO, WO, RdO, Bs, EV.lit, RV, rvC]
  refine call0 (num_e (doneS (b.length - (intS b).2.2) (intS b).1)) (by simp [Ptr, NP, I, R, RO, WO, RdO, Bs, EV.lit, RV, rvC]) ?_
  rintro y H' ⟨rfl, rfl⟩
  refine ⟨.inl (by simp [Ptr, NP, I, R, RO, WO, RdO, Bs, EV.lit, RV, rvC]), le_ok rfl, ?_⟩
  simp [Ptr, NP, I, R, RO, WO, RdO, Bs, EV.lit, RV, rvC]
  refine call0 (RDone' (b.drop (intS b).2.2) (intS b).1) (by simp [Ptr, NP, I, R, RO, WO, RdO, Bs, EV.lit, RV, rvC]) ?_
  rintro y H' ⟨rfl, rfl⟩
  refine ⟨.inl (by simp [Ptr, NP, I, R, RO, WO, RdO, Bs, EV.lit, RV, rvC]), le_ok rfl, ?_⟩
  simp [I, List.length_drop]
  refine callH [64] (RdDone' b (numS b most).2.2 (numS b most).1 q2) (by simp [Ptr, NP, I, R, RO, WO, RdO, Bs, EV.lit, RV, rvC]) (by simp [Ptr, NP, I, R, RO, WO, RdO, Bs, EV.lit, RV, rvC]) (by simp) (by simp [Ptr, NP, I, R, RO, WO, RdO, Bs, EV.lit, RV, rvC]) (by simp [Wok]) ?_
  rintro y H' ⟨rfl, rfl⟩
  refine ⟨.inl (by simp [Ptr, NP, I, R, RO, WO, RdO, Bs, EV.lit, RV, rvC]), le_ok rfl, ?_⟩
  simp [Ptr, NP, I, R, RO, WO, RdO, Bs, EV.lit, RV, rvC]
  refine call0 (num_e (doneS (b.length - (numS b most).2.2) (numS b most).1)) (by simp [Ptr, NP, I, R, RO, WO, RdO, Bs, EV.lit, RV, rvC]) ?_
  rintro y H' ⟨rfl, rfl⟩
  refine ⟨.inl (by simp [Ptr, NP, I, R, RO, WO, RdO, Bs, EV.lit, RV, rvC]), le_ok rfl, ?_⟩
  simp [Ptr, NP, I, R, RO, WO, RdO, Bs, EV.lit, RV, rvC]
  refine call0 (RDone' (b.drop (numS b most).2.2) (numS b most).1) (by simp [Ptr, NP, I, R, RO, WO, RdO, Bs, EV.lit, RV, rvC]) ?_
  rintro y H' ⟨rfl, rfl⟩
  refine ⟨.inl (by simp [Ptr, NP, I, R, RO, WO, RdO, Bs, EV.lit, RV, rvC]), le_ok rfl, ?_⟩
  simp [I, List.length_drop]
  refine call0 (sure_ok) (by simp [Ptr, NP, I, R, RO, WO, RdO, Bs, EV.lit, RV, rvC]) ?_
  rintro y H' ⟨rfl, rfl⟩
  refine ⟨.inl (by simp [Ptr, NP, I, R, RO, WO, RdO, Bs, EV.lit, RV, rvC]), le_ok rfl, ?_⟩
  simp [Ptr, NP, I, R, RO, WO, RdO, Bs, EV.lit, RV, rvC]
  exact fin [] (by decide) rfl rfl rfl ⟨rfl, rfl⟩

set_option maxHeartbeats 2000000 in
theorem EncStrings_ok (b : List UInt8) (most : Int) (hl : b.length ≤ 100000000) : ECalls Tryd.prog 4 [Bs b, I .i64 most] [] fun y H' => H' = [] ∧ y = .lit (.bool true) := by
  have q1 : (bytZ b most).2.2 ≤ b.length := by
    unfold bytZ
    split
    · simp
    · exact (bytS_len b _).1
  refine ecalls k_EncStrings ?_
  simp [c_EncStrings, Bs, I]
  refine call0 (Read_ok b) (by simp [Ptr, NP, I, R, RO, WO, RdO, Bs, EV.lit, RV, rvC]) ?_
  rintro y H' ⟨rfl, rfl⟩
  refine ⟨.inl (by simp [Ptr, NP, I, R, RO, WO, RdO, Bs, EV.lit, RV, rvC]), le_ok rfl, ?_⟩
  simp [Ptr, NP, I, R, RO, WO, RdO, Bs, EV.lit, RV, rvC]
  refine callH [32] (RdBytes_ok b 0 most (by omega) (by omega)) (by simp [Ptr, NP, I, R, RO, WO, RdO, Bs, EV.lit, RV, rvC]) (by simp [Ptr, NP, I, R, RO, WO, RdO, Bs, EV.lit, RV, rvC]) (by simp) (by simp [Ptr, NP, I, R, RO, WO, RdO, Bs, EV.lit, RV, rvC]) (by simp [Wok]) ?_
  rintro y H' ⟨rfl, rfl⟩
  refine ⟨.inl (by simp [Ptr, NP, I, R, RO, WO, RdO, Bs, EV.lit, RV, rvC]), le_ok rfl, ?_⟩
  simp [Ptr, NP, I, R, RO, WO, RdO, Bs, EV.lit, RV, rvC]
  refine call0 (RReadBytes_ok b most (by omega)) (by simp [Ptr, NP, I, R, RO, WO, RdO, Bs, EV.lit, RV, rvC]) ?_
  rintro y H' ⟨rfl, rfl⟩
  refine ⟨.inl (by simp [Ptr, NP, I, R, RO, WO, RdO, Bs, EV.lit, RV, rvC]), le_ok rfl, ?_⟩
  simp [Ptr, NP, I, R, RO, WO, RdO, Bs, EV.lit, RV, rvC]
  refine callH [32] (RdDone' b (bytZ b most).2.2 (bytZ b most).1 q1) (by simp [Ptr, NP, I, R, RO, WO, RdO, Bs, EV.lit, RV, rvC]) (by simp [Ptr, NP, I, R, RO, WO, RdO, Bs, EV.lit, RV, rvC]) (by simp) (by simp [Ptr, NP, I, R, RO, WO, RdO, Bs, EV.lit, RV, rvC]) (by simp [Wok]) ?_
  rintro y H' ⟨rfl, rfl⟩
  refine ⟨.inl (by simp [Ptr, NP, I, R, RO, WO, RdO, Bs, EV.lit, RV, rvC]), le_ok rfl, ?_⟩
  simp [Ptr, NP, I, R, RO, WO, RdO, Bs, EV.lit, RV, rvC]
  refine call0 (num_e (doneS (b.length - (bytZ b most).2.2) (bytZ b most).1)) (by simp [Ptr, NP, I, R, RO, WO, RdO, Bs, EV.lit, RV, rvC]) ?_
  rintro y H' ⟨rfl, rfl⟩
  refine ⟨.inl (by simp [Ptr, NP, I, R, RO, WO, RdO, Bs, EV.lit, RV, rvC]), le_ok rfl, ?_⟩
  simp [Ptr, NP, I, R, RO, WO, RdO, Bs, EV.lit, RV, rvC]
  refine call0 (RDone' (b.drop (bytZ b most).2.2) (bytZ b most).1) (by simp [Ptr, NP, I, R, RO, WO, RdO, Bs, EV.lit, RV, rvC]) ?_
  rintro y H' ⟨rfl, rfl⟩
  refine ⟨.inl (by simp [Ptr, NP, I, R, RO, WO, RdO, Bs, EV.lit, RV, rvC]), le_ok rfl, ?_⟩
  simp [I, List.length_drop]
  refine callH [32] (RdLeft_ok b (bytZ b most).2.2 (bytZ b most).1 q1) (by simp [Ptr, NP, I, R, RO, WO, RdO, Bs, EV.lit, RV, rvC]) (by simp [Ptr, NP, I, R, RO, WO, RdO, Bs, EV.lit, RV, rvC]) (by simp) (by simp [Ptr, NP, I, R, RO, WO, RdO, Bs, EV.lit, RV, rvC]) (by simp [Wok]) ?_
  rintro y H' ⟨rfl, rfl⟩
  refine ⟨.inl (by simp [Ptr, NP, I, R, RO, WO, RdO, Bs, EV.lit, RV, rvC]), le_ok rfl, ?_⟩
  simp [Ptr, NP, I, R, RO, WO, RdO, Bs, EV.lit, RV, rvC]
  refine call0 (sure_ok) (by simp [Ptr, NP, I, R, RO, WO, RdO, Bs, EV.lit, RV, rvC]) ?_
  rintro y H' ⟨rfl, rfl⟩
  refine ⟨.inl (by simp [Ptr, NP, I, R, RO, WO, RdO, Bs, EV.lit, RV, rvC]), le_ok rfl, ?_⟩
  simp [Ptr, NP, I, R, RO, WO, RdO, Bs, EV.lit, RV, rvC]
  exact fin [] (by decide) rfl rfl rfl ⟨rfl, rfl⟩

end Go.Proofs.YtbbcofojjgofmaaDoor
