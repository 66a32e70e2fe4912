import Derived.Test.YtbbcofojjgofmaaDoorEnc9
namespace Go.Proofs.YtbbcofojjgofmaaDoor
open Go Go.EW
set_option linter.unusedSimpArgs false
set_option linter.unusedVariables false

@[simp] def l_RdCount_1 (_ : Unit) : List EOp := [⟨0, (some 4), none, (.q (.mov (.k (.int .i64 0)))), []⟩]
@[simp] def b_RdCount_2 (_ : Unit) : EB := reg0 (hid l_RdCount_1) 1
@[simp] def l_RdCount_3 (_ : Unit) : List EOp := [⟨0, (some 8), none, (.q (.mov (.t 0))), []⟩, ⟨1, (some 9), none, (.call 22 [(.t 8)]), []⟩]
@[simp] def b_RdCount_4 (_ : Unit) : EB := reg0 (hid l_RdCount_3) 2
@[simp] def l_RdCount_5 (_ : Unit) : List EOp := [⟨0, (some 4), none, (.q (.mov (.k (.int .i64 0)))), []⟩]
@[simp] def b_RdCount_6 (_ : Unit) : EB := reg0 (hid l_RdCount_5) 1
@[simp] def b_RdCount_7 (_ : Unit) : EB := .seq (hid b_RdCount_6) .ret
@[simp] def b_RdCount_8 (_ : Unit) : EB := .cond (.t 9) (hid b_RdCount_7) .skip
@[simp] def b_RdCount_9 (_ : Unit) : EB := .seq (hid b_RdCount_4) (hid b_RdCount_8)
@[simp] def l_RdCount_11 (_ : Unit) : List EOp := [⟨6, (some 16), none, (.q (.ext 0 (.t 10))), []⟩, ⟨7, (some 17), none, (.q (.ext 1 (.t 10))), []⟩, ⟨8, (some 18), none, (.q (.ext 2 (.t 10))), []⟩, ⟨9, (some 5), none, (.q (.mov (.t 16))), []⟩, ⟨10, (some 6), none, (.q (.mov (.t 17))), []⟩, ⟨11, (some 7), none, (.q (.mov (.t 18))), []⟩]
@[simp] def l_RdCount_10 (_ : Unit) : List EOp := ⟨0, (some 11), none, (.q (.mov (.t 0))), []⟩ :: ⟨1, (some 12), none, (.q (.mov (.t 1))), []⟩ :: ⟨2, (some 13), none, (.q (.minmax true [(.k (.int .i64 0)), (.t 12)])), []⟩ :: ⟨3, (some 14), none, (.q (.cnv .u64 (.t 13))), []⟩ :: ⟨4, (some 15), none, (.call 26 [(.t 11), (.t 14)]), []⟩ :: ⟨5, (some 10), none, (.q (.mov (.t 15))), []⟩ :: hid l_RdCount_11
@[simp] def b_RdCount_12 (_ : Unit) : EB := reg0 (hid l_RdCount_10) 12
@[simp] def l_RdCount_14 (_ : Unit) : List EOp := [⟨6, (some 25), (some (20, true)), (.q (.mov (.t 6))), []⟩, ⟨7, (some 26), (some (20, true)), (.q (.bin .sub (.t 24) (.t 25))), []⟩, ⟨8, (some 27), (some (20, true)), (.q (.cnv .u64 (.t 26))), []⟩, ⟨9, (some 28), (some (20, true)), (.q (.bin .gtr (.t 21) (.t 27))), []⟩, ⟨10, (some 29), none, (.q (.pick (.t 20) (.t 28) (.k (.bool false)))), []⟩]
@[simp] def l_RdCount_13 (_ : Unit) : List EOp := ⟨0, (some 19), none, (.q (.mov (.t 7))), []⟩ :: ⟨1, (some 20), none, (.q (.mov (.t 19))), []⟩ :: ⟨2, (some 21), (some (20, true)), (.q (.mov (.t 5))), []⟩ :: ⟨3, (some 22), (some (20, true)), (.q (.mov (.t 0))), []⟩ :: ⟨4, (some 23), (some (20, true)), (.call 23 [(.t 22)]), []⟩ :: ⟨5, (some 24), (some (20, true)), (.q (.len (.t 23))), []⟩ :: hid l_RdCount_14
@[simp] def b_RdCount_15 (_ : Unit) : EB := reg0 (hid l_RdCount_13) 11
@[simp] def l_RdCount_16 (_ : Unit) : List EOp := [⟨0, (some 30), none, (.q (.mov (.t 0))), []⟩, ⟨1, (some 31), none, (.q (.mki 61 (.k (.int .i64 2)))), []⟩, ⟨2, (some 32), none, (.call 24 [(.t 30), (.t 31)]), []⟩]
@[simp] def b_RdCount_17 (_ : Unit) : EB := reg0 (hid l_RdCount_16) 3
@[simp] def l_RdCount_18 (_ : Unit) : List EOp := [⟨0, (some 4), none, (.q (.mov (.k (.int .i64 0)))), []⟩]
@[simp] def b_RdCount_19 (_ : Unit) : EB := reg0 (hid l_RdCount_18) 1
@[simp] def b_RdCount_20 (_ : Unit) : EB := .seq (hid b_RdCount_19) .ret
@[simp] def b_RdCount_21 (_ : Unit) : EB := .seq (hid b_RdCount_17) (hid b_RdCount_20)
@[simp] def b_RdCount_22 (_ : Unit) : EB := .cond (.t 29) (hid b_RdCount_21) .skip
@[simp] def b_RdCount_23 (_ : Unit) : EB := .seq (hid b_RdCount_15) (hid b_RdCount_22)
@[simp] def l_RdCount_24 (_ : Unit) : List EOp := [⟨0, (some 33), none, (.q (.mov (.t 7))), []⟩]
@[simp] def b_RdCount_25 (_ : Unit) : EB := reg0 (hid l_RdCount_24) 1
@[simp] def l_RdCount_27 (_ : Unit) : List EOp := [⟨6, (some 40), none, (.q (.nilc (.t 34))), []⟩, ⟨7, (some 41), none, (.q (.fad 1 (.t 40))), []⟩, ⟨8, none, none, (.sto 1 (.t 41) (.t 39)), []⟩]
@[simp] def l_RdCount_26 (_ : Unit) : List EOp := ⟨0, (some 34), none, (.q (.mov (.t 0))), []⟩ :: ⟨1, (some 35), none, (.q (.nilc (.t 34))), []⟩ :: ⟨2, (some 36), none, (.q (.fad 1 (.t 35))), []⟩ :: ⟨3, (some 37), none, (.q (.ldc (.t 36))), []⟩ :: ⟨4, (some 38), none, (.q (.mov (.t 6))), []⟩ :: ⟨5, (some 39), none, (.q (.bin .add (.t 37) (.t 38))), []⟩ :: hid l_RdCount_27
@[simp] def b_RdCount_28 (_ : Unit) : EB := reg0 (hid l_RdCount_26) 9
@[simp] def b_RdCount_29 (_ : Unit) : EB := .cond (.t 33) (hid b_RdCount_28) .skip
@[simp] def b_RdCount_30 (_ : Unit) : EB := .seq (hid b_RdCount_25) (hid b_RdCount_29)
@[simp] def l_RdCount_31 (_ : Unit) : List EOp := [⟨0, (some 42), none, (.q (.mov (.t 5))), []⟩, ⟨1, (some 43), none, (.q (.cnv .i64 (.t 42))), []⟩, ⟨2, (some 4), none, (.q (.mov (.t 43))), []⟩]
@[simp] def b_RdCount_32 (_ : Unit) : EB := reg0 (hid l_RdCount_31) 3
@[simp] def b_RdCount_33 (_ : Unit) : EB := .seq (hid b_RdCount_32) .ret
@[simp] def b_RdCount_34 (_ : Unit) : EB := .seq (hid b_RdCount_30) (hid b_RdCount_33)
@[simp] def b_RdCount_35 (_ : Unit) : EB := .seq (hid b_RdCount_23) (hid b_RdCount_34)
@[simp] def b_RdCount_36 (_ : Unit) : EB := .seq (hid b_RdCount_12) (hid b_RdCount_35)
@[simp] def b_RdCount_37 (_ : Unit) : EB := .seq (hid b_RdCount_9) (hid b_RdCount_36)
@[simp] def b_RdCount_38 (_ : Unit) : EB := .seq (hid b_RdCount_2) (hid b_RdCount_37)
def c_RdCount : EB × List QOp × Nat := ((hid b_RdCount_38), [(.mov (.t 4))], 44)
theorem k_RdCount : cfun Tryd.prog 19 = some c_RdCount := by kernel_rfl


/-- How many things come: not more than there are bytes left. -/
def cntS (b : List UInt8) (most : Int) : Nat × Nat × Nat :=
  let q := numS b (max 0 most).toNat
  if q.1 ≠ 0 then (q.1, 0, 0) else if b.length - q.2.2 < q.2.1 then (2, 0, 0) else q

set_option maxHeartbeats 2000000 in
theorem RdCount_ok (l : List UInt8) (p : Nat) (most : Int) (hp : p ≤ l.length) (hl : l.length ≤ 1000000000) (hm : -9223372036854775808 ≤ most ∧ most ≤ 9223372036854775807) :
    ECalls Tryd.prog 19 [Ptr 0, I .i64 most] [RdO l p 0] fun y H' => H' = [some (RdO l (p + (cntS (l.drop p) most).2.2) (cntS (l.drop p) most).1)] ∧ y = I .i64 (cntS (l.drop p) most).2.1 := by
  obtain ⟨k, hk, hk2⟩ : ∃ k : Nat, (max 0 most).toNat = k ∧ (k : Int) = max 0 most := ⟨(max 0 most).toNat, rfl, by omega⟩
  have w0 : IntKind.u64.wrap (if 0 < most then most else 0) = (k : Int) := by
    have : (if 0 < most then most else 0) = (k : Int) := by split <;> omega
    rw [this]; simp [IntKind.wrap, IntKind.bits, IntKind.signed]; omega
  obtain ⟨b, hb⟩ : ∃ b, l.drop p = b := ⟨_, rfl⟩
  have hbl : b.length = l.length - p := by rw [← hb, List.length_drop]
  obtain ⟨n1, n2, n3, n4⟩ := numS_ok b k
  obtain ⟨q, hq⟩ : ∃ q, numS b k = q := ⟨_, rfl⟩
  have hc : cntS b most = if q.1 ≠ 0 then (q.1, 0, 0) else if b.length - q.2.2 < q.2.1 then (2, 0, 0) else q := by simp only [cntS, hk, hq]
  have hnum := number_ok l p k hp hl (by omega)
  rw [hb, hq] at hnum
  rw [hq] at n1 n2 n3 n4
  rw [hb]
  refine ecalls k_RdCount ?_
  simp [c_RdCount, Ptr, I]
  refine callH [0] (off_ok l p 0) (by simp [Ptr, NP, I, R, RO, RdO, Bs, EV.lit, RV, rvC]) (by simp [Ptr, NP, I, R, RO, RdO, Bs, EV.lit, RV, rvC]) (by simp) (by simp [Ptr, NP, I, R, RO, RdO, Bs, EV.lit, RV, rvC]) (by simp [Wok]) ?_
  rintro y H' ⟨rfl, rfl⟩
  refine ⟨.inl (by simp [Ptr, NP, I, R, RO, RdO, Bs, EV.lit, RV, rvC]), le_ok rfl, ?_⟩
  simp [w0, RdO]
  refine callH [0] (hnum) (by simp [Ptr, NP, I, R, RO, RdO, Bs, EV.lit, RV, rvC]) (by simp [Ptr, NP, I, R, RO, RdO, Bs, EV.lit, RV, rvC]) (by simp) (by simp [Ptr, NP, I, R, RO, RdO, Bs, EV.lit, RV, rvC]) (by simp [Wok]) ?_
  rintro y H' ⟨rfl, rfl⟩
  refine ⟨.inl (by simp [Ptr, NP, I, R, RO, RdO, Bs, EV.lit, RV, rvC]), le_ok rfl, ?_⟩
  simp [Ptr, NP, I, R, RO, RdO, Bs, EV.lit, RV, rvC]
  rcases Nat.eq_zero_or_pos q.1 with he | he
  · simp [he]
    refine callH [0] (rest_ok l p 0 hp) (by simp [Ptr, NP, I, R, RO, RdO, Bs, EV.lit, RV, rvC]) (by simp [Ptr, NP, I, R, RO, RdO, Bs, EV.lit, RV, rvC]) (by simp) (by simp [Ptr, NP, I, R, RO, RdO, Bs, EV.lit, RV, rvC]) (by simp [Wok]) ?_
    rintro y H' ⟨rfl, rfl⟩
    refine ⟨.inl (by simp [Ptr, NP, I, R, RO, RdO, Bs, EV.lit, RV, rvC]), le_ok rfl, ?_⟩
    have w2 : IntKind.u64.wrap (IntKind.i64.wrap ((b.length : Int) - (q.2.2 : Int))) = ((b.length - q.2.2 : Nat) : Int) := by
      rw [wrap_i64 (by omega) (by omega)]
      simp [IntKind.wrap, IntKind.bits, IntKind.signed]; omega
    have w3 : IntKind.i64.wrap ((p : Int) + (q.2.2 : Int)) = ((p + q.2.2 : Nat) : Int) := by rw [wrap_i64 (by omega) (by omega)]; simp
    simp [hb, RdO, Bs, w2]
    refine alt (fun hlt => ?_) (fun hlt => ?_)
    · rw [hc, if_neg (by omega), if_pos (by omega)]
      simp
      refine callH [0] (fail_ok l p 0 2) (by simp [Ptr, NP, I, R, RO, RdO, Bs, EV.lit, RV, rvC]) (by simp [Ptr, NP, I, R, RO, RdO, Bs, EV.lit, RV, rvC]) (by simp) (by simp [Ptr, NP, I, R, RO, RdO, Bs, EV.lit, RV, rvC]) (by simp [Wok]) ?_
      rintro y H' ⟨rfl, rfl⟩
      refine ⟨.inl (by simp [Ptr, NP, I, R, RO, RdO, Bs, EV.lit, RV, rvC]), le_ok rfl, ?_⟩
      simp [Ptr, NP, I, R, RO, RdO, Bs, EV.lit, RV, rvC]
      exact fin [] (by decide) rfl rfl rfl ⟨rfl, rfl⟩
    · have hcq : cntS b most = q := by
        rw [hc, if_neg (by omega), if_neg (by omega)]
      rw [hcq]
      have w4 : IntKind.i64.wrap (q.2.1 : Int) = (q.2.1 : Int) := wrap_i64 (by omega) (by omega)
      simp [w3, w4, he, -Int.natCast_add]
      exact fin [] (by decide) rfl rfl rfl ⟨rfl, rfl⟩
  · have he' : q.1 ≠ 0 := by omega
    rw [hc, if_pos he']
    simp [he', n4 he']
    exact fin [] (by decide) rfl rfl rfl ⟨rfl, rfl⟩

end Go.Proofs.YtbbcofojjgofmaaDoor
