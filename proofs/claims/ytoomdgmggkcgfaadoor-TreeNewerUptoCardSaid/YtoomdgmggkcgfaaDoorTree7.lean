import Derived.Test.YtoomdgmggkcgfaaDoorTree6
namespace Go.Proofs.YtoomdgmggkcgfaaDoor
open Go Go.EW
set_option linter.unusedSimpArgs false
set_option linter.unusedVariables false

@[simp] def l_TBegin_1 (_ : Unit) : List EOp := [⟨0, (some 1), none, (.q (.box 31 (.t 0))), []⟩, ⟨1, (some 2), none, (.q (.mov (.k (.slice none 0 0)))), []⟩, ⟨2, (some 3), none, (.q (.mov (.k .nilIface))), []⟩]
@[simp] def b_TBegin_2 (_ : Unit) : EB := reg0 (hid l_TBegin_1) 3
@[simp] def l_TBegin_3 (_ : Unit) : List EOp := [⟨0, (some 5), none, (.q (.lda 40 (.t 1))), []⟩, ⟨1, (some 6), none, (.call 22 [(.t 5)]), []⟩, ⟨2, (some 4), none, (.q (.mov (.t 6))), []⟩]
@[simp] def b_TBegin_4 (_ : Unit) : EB := reg0 (hid l_TBegin_3) 3
@[simp] def l_TBegin_5 (_ : Unit) : List EOp := [⟨0, (some 7), none, (.q (.mov (.t 4))), []⟩, ⟨1, (some 8), none, (.q (.eqi true (.t 7))), []⟩]
@[simp] def b_TBegin_6 (_ : Unit) : EB := reg0 (hid l_TBegin_5) 2
@[simp] def l_TBegin_7 (_ : Unit) : List EOp := [⟨0, (some 9), none, (.q (.mov (.t 4))), []⟩, ⟨1, (some 2), none, (.q (.mov (.k (.slice none 0 0)))), []⟩, ⟨2, (some 3), none, (.q (.mov (.t 9))), []⟩]
@[simp] def b_TBegin_8 (_ : Unit) : EB := reg0 (hid l_TBegin_7) 3
@[simp] def b_TBegin_9 (_ : Unit) : EB := .seq (hid b_TBegin_8) .ret
@[simp] def b_TBegin_10 (_ : Unit) : EB := .cond (.t 8) (hid b_TBegin_9) .skip
@[simp] def b_TBegin_11 (_ : Unit) : EB := .seq (hid b_TBegin_6) (hid b_TBegin_10)
@[simp] def b_TBegin_12 (_ : Unit) : EB := .seq (hid b_TBegin_4) (hid b_TBegin_11)
@[simp] def l_TBegin_14 (_ : Unit) : List EOp := [⟨6, (some 2), none, (.q (.mov (.t 15))), []⟩, ⟨7, (some 3), none, (.q (.mov (.k .nilIface))), []⟩]
@[simp] def l_TBegin_13 (_ : Unit) : List EOp := ⟨0, (some 10), none, (.q (.fad 36 (.t 1))), []⟩ :: ⟨1, (some 11), none, (.q (.ldc (.t 10))), []⟩ :: ⟨2, (some 12), none, (.q (.bsl 1 [(.int .i64 0)] 1 [(0, (.t 11))])), []⟩ :: ⟨3, (some 13), none, (.q (.fad 35 (.t 1))), []⟩ :: ⟨4, (some 14), none, (.q (.ldc (.t 13))), []⟩ :: ⟨5, (some 15), none, (.call 27 [(.t 12), (.t 14)]), []⟩ :: hid l_TBegin_14
@[simp] def b_TBegin_15 (_ : Unit) : EB := reg0 (hid l_TBegin_13) 8
@[simp] def b_TBegin_16 (_ : Unit) : EB := .seq (hid b_TBegin_15) .ret
@[simp] def b_TBegin_17 (_ : Unit) : EB := .seq (hid b_TBegin_12) (hid b_TBegin_16)
@[simp] def b_TBegin_18 (_ : Unit) : EB := .seq (hid b_TBegin_2) (hid b_TBegin_17)
def c_TBegin : EB × List QOp × Nat := ((hid b_TBegin_18), [(.mov (.t 2)), (.mov (.t 3))], 16)
theorem k_TBegin : cfun Tryd.prog 9 = some c_TBegin := by kernel_rfl

@[simp] def l_TNext_1 (_ : Unit) : List EOp := [⟨0, (some 2), none, (.q (.box 31 (.t 0))), []⟩, ⟨1, (some 4), none, (.q (.mov (.k (.slice none 0 0)))), []⟩, ⟨2, (some 5), none, (.q (.mov (.k .nilIface))), []⟩]
@[simp] def b_TNext_2 (_ : Unit) : EB := reg0 (hid l_TNext_1) 3
@[simp] def l_TNext_3 (_ : Unit) : List EOp := [⟨0, (some 9), none, (.q (.lda 40 (.t 2))), []⟩, ⟨1, (some 10), none, (.q (.mov (.t 1))), []⟩, ⟨2, (some 11), none, (.call 28 [(.t 9), (.t 10)]), []⟩, ⟨3, (some 6), none, (.q (.mov (.t 11))), []⟩]
@[simp] def b_TNext_4 (_ : Unit) : EB := reg0 (hid l_TNext_3) 4
@[simp] def l_TNext_5 (_ : Unit) : List EOp := [⟨0, (some 12), none, (.q (.mov (.t 6))), []⟩, ⟨1, (some 13), none, (.q (.eqi true (.t 12))), []⟩]
@[simp] def b_TNext_6 (_ : Unit) : EB := reg0 (hid l_TNext_5) 2
@[simp] def l_TNext_7 (_ : Unit) : List EOp := [⟨0, (some 14), none, (.q (.mov (.t 6))), []⟩, ⟨1, (some 4), none, (.q (.mov (.k (.slice none 0 0)))), []⟩, ⟨2, (some 5), none, (.q (.mov (.t 14))), []⟩]
@[simp] def b_TNext_8 (_ : Unit) : EB := reg0 (hid l_TNext_7) 3
@[simp] def b_TNext_9 (_ : Unit) : EB := .seq (hid b_TNext_8) .ret
@[simp] def b_TNext_10 (_ : Unit) : EB := .cond (.t 13) (hid b_TNext_9) .skip
@[simp] def b_TNext_11 (_ : Unit) : EB := .seq (hid b_TNext_6) (hid b_TNext_10)
@[simp] def b_TNext_12 (_ : Unit) : EB := .seq (hid b_TNext_4) (hid b_TNext_11)
@[simp] def l_TNext_13 (_ : Unit) : List EOp := [⟨0, (some 15), none, (.q (.mov (.t 1))), []⟩, ⟨1, (some 16), none, (.call 32 [(.t 15)]), []⟩, ⟨2, (some 7), none, (.q (.mov (.t 16))), []⟩]
@[simp] def b_TNext_14 (_ : Unit) : EB := reg0 (hid l_TNext_13) 3
@[simp] def l_TNext_15 (_ : Unit) : List EOp := [⟨0, (some 17), none, (.q (.mov (.t 7))), []⟩, ⟨1, (some 18), none, (.q (.len (.t 17))), []⟩, ⟨2, (some 19), none, (.q (.bin .sub (.t 18) (.k (.int .i64 1)))), []⟩, ⟨3, (some 8), none, (.q (.mov (.t 19))), []⟩]
@[simp] def b_TNext_16 (_ : Unit) : EB := reg0 (hid l_TNext_15) 4
@[simp] def l_TNext_17 (_ : Unit) : List EOp := [⟨0, (some 20), none, (.q (.mov (.t 8))), []⟩, ⟨1, (some 21), none, (.q (.bin .geq (.t 20) (.k (.int .i64 0)))), []⟩]
@[simp] def b_TNext_18 (_ : Unit) : EB := reg0 (hid l_TNext_17) 2
@[simp] def b_TNext_19 (_ : Unit) : EB := .cond (.t 21) .skip (.exit 0)
@[simp] def b_TNext_20 (_ : Unit) : EB := .seq (hid b_TNext_18) (hid b_TNext_19)
@[simp] def l_TNext_22 (_ : Unit) : List EOp := [⟨5, (some 29), none, (.call 30 [(.t 24), (.t 28)]), [6]⟩, ⟨7, (some 31), none, (.call 29 [(.t 30)]), []⟩, ⟨8, (some 32), none, (.q (.bin .lss (.t 29) (.t 31))), []⟩]
@[simp] def l_TNext_21 (_ : Unit) : List EOp := ⟨0, (some 24), none, (.q (.lda 40 (.t 2))), []⟩ :: ⟨1, (some 25), none, (.q (.mov (.t 7))), []⟩ :: ⟨2, (some 26), none, (.q (.mov (.t 8))), []⟩ :: ⟨3, (some 27), none, (.q (.isl 1 (.t 25) (.t 26))), []⟩ :: ⟨4, (some 28), none, (.q (.ldc (.t 27))), []⟩ :: ⟨6, (some 30), none, (.q (.lda 40 (.t 2))), []⟩ :: hid l_TNext_22
@[simp] def b_TNext_23 (_ : Unit) : EB := reg1 (hid l_TNext_21) 9
@[simp] def l_TNext_25 (_ : Unit) : List EOp := [⟨6, (some 39), none, (.q (.bin .sub (.t 36) (.t 38))), []⟩, ⟨7, (some 40), none, (.q (.isl 1 (.t 33) (.t 34))), []⟩, ⟨8, none, none, (.sto 1 (.t 40) (.t 39)), []⟩]
@[simp] def l_TNext_24 (_ : Unit) : List EOp := ⟨0, (some 33), none, (.q (.mov (.t 7))), []⟩ :: ⟨1, (some 34), none, (.q (.mov (.t 8))), []⟩ :: ⟨2, (some 35), none, (.q (.isl 1 (.t 33) (.t 34))), []⟩ :: ⟨3, (some 36), none, (.q (.ldc (.t 35))), []⟩ :: ⟨4, (some 37), none, (.q (.fad 38 (.t 2))), []⟩ :: ⟨5, (some 38), none, (.q (.ldc (.t 37))), []⟩ :: hid l_TNext_25
@[simp] def b_TNext_26 (_ : Unit) : EB := reg0 (hid l_TNext_24) 9
@[simp] def l_TNext_27 (_ : Unit) : List EOp := [⟨0, (some 41), none, (.q (.mov (.t 7))), []⟩, ⟨1, (some 4), none, (.q (.mov (.t 41))), []⟩, ⟨2, (some 5), none, (.q (.mov (.k .nilIface))), []⟩]
@[simp] def b_TNext_28 (_ : Unit) : EB := reg0 (hid l_TNext_27) 3
@[simp] def b_TNext_29 (_ : Unit) : EB := .seq (hid b_TNext_28) .ret
@[simp] def b_TNext_30 (_ : Unit) : EB := .seq (hid b_TNext_26) (hid b_TNext_29)
@[simp] def b_TNext_31 (_ : Unit) : EB := .cond (.t 32) (hid b_TNext_30) .skip
@[simp] def b_TNext_32 (_ : Unit) : EB := .seq (hid b_TNext_23) (hid b_TNext_31)
@[simp] def l_TNext_33 (_ : Unit) : List EOp := [⟨0, (some 42), none, (.q (.mov (.t 7))), []⟩, ⟨1, (some 43), none, (.q (.mov (.t 8))), []⟩, ⟨2, (some 44), none, (.q (.fad 36 (.t 2))), []⟩, ⟨3, (some 45), none, (.q (.ldc (.t 44))), []⟩, ⟨4, (some 46), none, (.q (.isl 1 (.t 42) (.t 43))), []⟩, ⟨5, none, none, (.sto 1 (.t 46) (.t 45)), []⟩]
@[simp] def b_TNext_34 (_ : Unit) : EB := reg0 (hid l_TNext_33) 6
@[simp] def b_TNext_35 (_ : Unit) : EB := .seq (hid b_TNext_32) (hid b_TNext_34)
@[simp] def b_TNext_36 (_ : Unit) : EB := .block 1 (hid b_TNext_35)
@[simp] def l_TNext_37 (_ : Unit) : List EOp := [⟨0, (some 22), none, (.q (.mov (.t 8))), []⟩, ⟨1, (some 23), none, (.q (.bin .sub (.t 22) (.k (.int .i64 1)))), []⟩, ⟨2, (some 8), none, (.q (.mov (.t 23))), []⟩]
@[simp] def b_TNext_38 (_ : Unit) : EB := reg0 (hid l_TNext_37) 3
@[simp] def b_TNext_39 (_ : Unit) : EB := .seq (hid b_TNext_36) (hid b_TNext_38)
@[simp] def b_TNext_40 (_ : Unit) : EB := .seq (hid b_TNext_20) (hid b_TNext_39)
@[simp] def b_TNext_41 (_ : Unit) : EB := .loop (hid b_TNext_40)
@[simp] def b_TNext_42 (_ : Unit) : EB := .block 0 (hid b_TNext_41)
@[simp] def b_TNext_43 (_ : Unit) : EB := .seq (hid b_TNext_16) (hid b_TNext_42)
@[simp] def l_TNext_44 (_ : Unit) : List EOp := [⟨0, (some 47), none, (.q (.mki 80 (.k (.int .i64 30)))), []⟩, ⟨1, (some 4), none, (.q (.mov (.k (.slice none 0 0)))), []⟩, ⟨2, (some 5), none, (.q (.mov (.t 47))), []⟩]
@[simp] def b_TNext_45 (_ : Unit) : EB := reg0 (hid l_TNext_44) 3
@[simp] def b_TNext_46 (_ : Unit) : EB := .seq (hid b_TNext_45) .ret
@[simp] def b_TNext_47 (_ : Unit) : EB := .seq (hid b_TNext_43) (hid b_TNext_46)
@[simp] def b_TNext_48 (_ : Unit) : EB := .seq (hid b_TNext_14) (hid b_TNext_47)
@[simp] def b_TNext_49 (_ : Unit) : EB := .seq (hid b_TNext_12) (hid b_TNext_48)
@[simp] def b_TNext_50 (_ : Unit) : EB := .seq (hid b_TNext_2) (hid b_TNext_49)
def c_TNext : EB × List QOp × Nat := ((hid b_TNext_50), [(.mov (.t 4)), (.mov (.t 5))], 48)
theorem k_TNext : cfun Tryd.prog 12 = some c_TNext := by kernel_rfl

@[simp] def l_RTBegin_1 (_ : Unit) : List EOp := [⟨0, (some 1), none, (.q (.box 28 (.t 0))), []⟩, ⟨1, (some 2), none, (.q (.mov (.k (.slice none 0 0)))), []⟩, ⟨2, (some 3), none, (.q (.mov (.k (.int .i64 0)))), []⟩]
@[simp] def b_RTBegin_2 (_ : Unit) : EB := reg0 (hid l_RTBegin_1) 3
@[simp] def l_RTBegin_3 (_ : Unit) : List EOp := [⟨0, (some 7), none, (.q (.lda 40 (.t 1))), []⟩, ⟨1, (some 8), none, (.call 21 [(.t 7)]), []⟩, ⟨2, (some 4), none, (.q (.mov (.t 8))), []⟩]
@[simp] def b_RTBegin_4 (_ : Unit) : EB := reg0 (hid l_RTBegin_3) 3
@[simp] def l_RTBegin_5 (_ : Unit) : List EOp := [⟨0, (some 5), none, (.q (.mov (.k (.slice none 0 0)))), []⟩]
@[simp] def b_RTBegin_6 (_ : Unit) : EB := reg0 (hid l_RTBegin_5) 1
@[simp] def l_RTBegin_7 (_ : Unit) : List EOp := [⟨0, (some 6), none, (.q (.mov (.k (.int .i64 0)))), []⟩]
@[simp] def b_RTBegin_8 (_ : Unit) : EB := reg0 (hid l_RTBegin_7) 1
@[simp] def l_RTBegin_10 (_ : Unit) : List EOp := [⟨6, (some 15), (some (13, true)), (.q (.bin .eql (.t 14) (.k (.int .i64 0)))), []⟩, ⟨7, (some 16), none, (.q (.pick (.t 13) (.t 15) (.k (.bool false)))), []⟩]
@[simp] def l_RTBegin_9 (_ : Unit) : List EOp := ⟨0, (some 9), none, (.q (.mov (.t 6))), []⟩ :: ⟨1, (some 10), none, (.q (.fad 35 (.t 1))), []⟩ :: ⟨2, (some 11), none, (.q (.ldc (.t 10))), []⟩ :: ⟨3, (some 12), none, (.q (.bin .lss (.t 9) (.t 11))), []⟩ :: ⟨4, (some 13), none, (.q (.mov (.t 12))), []⟩ :: ⟨5, (some 14), (some (13, true)), (.q (.mov (.t 4))), []⟩ :: hid l_RTBegin_10
@[simp] def b_RTBegin_11 (_ : Unit) : EB := reg0 (hid l_RTBegin_9) 8
@[simp] def b_RTBegin_12 (_ : Unit) : EB := .cond (.t 16) .skip (.exit 0)
@[simp] def b_RTBegin_13 (_ : Unit) : EB := .seq (hid b_RTBegin_11) (hid b_RTBegin_12)
@[simp] def l_RTBegin_14 (_ : Unit) : List EOp := [⟨0, (some 19), none, (.q (.mov (.t 5))), []⟩, ⟨1, (some 20), none, (.q (.fad 36 (.t 1))), []⟩, ⟨2, (some 21), none, (.q (.ldc (.t 20))), []⟩, ⟨3, (some 22), none, (.q (.bsl 1 [(.int .i64 0)] 1 [(0, (.t 21))])), []⟩, ⟨4, (some 23), none, (.app 3 1 8 (.t 19) (.t 22)), []⟩, ⟨5, (some 5), none, (.q (.mov (.t 23))), []⟩]
@[simp] def b_RTBegin_15 (_ : Unit) : EB := reg0 (hid l_RTBegin_14) 6
@[simp] def b_RTBegin_16 (_ : Unit) : EB := .block 1 (hid b_RTBegin_15)
@[simp] def l_RTBegin_17 (_ : Unit) : List EOp := [⟨0, (some 17), none, (.q (.mov (.t 6))), []⟩, ⟨1, (some 18), none, (.q (.bin .add (.t 17) (.k (.int .i64 1)))), []⟩, ⟨2, (some 6), none, (.q (.mov (.t 18))), []⟩]
@[simp] def b_RTBegin_18 (_ : Unit) : EB := reg0 (hid l_RTBegin_17) 3
@[simp] def b_RTBegin_19 (_ : Unit) : EB := .seq (hid b_RTBegin_16) (hid b_RTBegin_18)
@[simp] def b_RTBegin_20 (_ : Unit) : EB := .seq (hid b_RTBegin_13) (hid b_RTBegin_19)
@[simp] def b_RTBegin_21 (_ : Unit) : EB := .loop (hid b_RTBegin_20)
@[simp] def b_RTBegin_22 (_ : Unit) : EB := .block 0 (hid b_RTBegin_21)
@[simp] def b_RTBegin_23 (_ : Unit) : EB := .seq (hid b_RTBegin_8) (hid b_RTBegin_22)
@[simp] def l_RTBegin_24 (_ : Unit) : List EOp := [⟨0, (some 24), none, (.q (.mov (.t 5))), []⟩, ⟨1, (some 25), none, (.q (.mov (.t 4))), []⟩, ⟨2, (some 2), none, (.q (.mov (.t 24))), []⟩, ⟨3, (some 3), none, (.q (.mov (.t 25))), []⟩]
@[simp] def b_RTBegin_25 (_ : Unit) : EB := reg0 (hid l_RTBegin_24) 4
@[simp] def b_RTBegin_26 (_ : Unit) : EB := .seq (hid b_RTBegin_25) .ret
@[simp] def b_RTBegin_27 (_ : Unit) : EB := .seq (hid b_RTBegin_23) (hid b_RTBegin_26)
@[simp] def b_RTBegin_28 (_ : Unit) : EB := .seq (hid b_RTBegin_6) (hid b_RTBegin_27)
@[simp] def b_RTBegin_29 (_ : Unit) : EB := .seq (hid b_RTBegin_4) (hid b_RTBegin_28)
@[simp] def b_RTBegin_30 (_ : Unit) : EB := .seq (hid b_RTBegin_2) (hid b_RTBegin_29)
def c_RTBegin : EB × List QOp × Nat := ((hid b_RTBegin_30), [(.mov (.t 2)), (.mov (.t 3))], 26)
theorem k_RTBegin : cfun Tryd.prog 19 = some c_RTBegin := by kernel_rfl


/-- Ranks and an error. -/
def PE (r : List Int × Nat) : EV := .tup [.c (.fz (.sl 1 (intv r.1))), .c (.fz (.lit (errV r.2)))]
def PI (r : List Int × Nat) : EV := .tup [.c (.fz (.sl 1 (intv r.1))), .c (.fz (.lit (.int .i64 (r.2 : Int))))]
def begT (c : Cfg) : List Int × Nat := if chkT c ≠ 0 then ([], chkT c) else (List.replicate c.dep.toNat c.fst, 0)

set_option maxRecDepth 8000 in
set_option maxHeartbeats 4000000 in
theorem TBegin_ok (c : Cfg) (hc : c.ok) : ECalls Tryd.prog 9 [CV c] [] fun y H' => H' = [] ∧ y = PE (begT c) := by
  have h32 := hc.1
  have t40 := tk40 h32
  refine ecalls k_TBegin ?_
  simp [c_TBegin, CV, cfgC, cfgT, h32, t40]
  refine call0 (TCheck_ok c hc) (by simp [CV, cfgC, cfgT]) ?_
  rintro y H' ⟨rfl, rfl⟩
  refine ⟨.inl (by simp [t40]), le_ok rfl, ?_⟩
  by_cases hk : chkT c = 0
  rotate_left
  · have hh : begT c = ([], chkT c) := by simp [begT, hk]
    rw [hh]
    simp [hk, EV.lit]
    refine finW _ (weak_nilF 2 1 rfl) ?_
    exact fin [] (by decide) rfl rfl rfl ⟨rfl, rfl⟩
  have hh : begT c = (List.replicate c.dep.toNat c.fst, 0) := by simp [begT, hk]
  rw [hh]
  obtain ⟨hR, hA, -, -⟩ := chk_okR hk
  obtain ⟨r1, r2, r3, r4, r5, r6, r7⟩ := id hR
  obtain ⟨n, hn⟩ : ∃ n : Nat, c.dep = n := ⟨c.dep.toNat, by omega⟩
  simp [hk, EV.lit, h32, hn]
  refine call0 (TRepeat_ok c.fst n (by omega) (by omega)) (by simp [IL, I, intv]) ?_
  rintro y H' ⟨rfl, rfl⟩
  refine ⟨.inr ⟨rfl, by simp [IO, t40, noSlO, intv_rep]⟩, le_ok rfl, ?_⟩
  simp [IR, IO, -errV_0]
  refine finW _ (weak_frz (o := 208) (ty := 3) (es := 1) (xs := intv (List.replicate n c.fst)) rfl) ?_
  exact fin [] (by decide) rfl rfl rfl ⟨rfl, by simp [PE, List.take_of_length_le]⟩

/-- The last rank, of the first k, that can still be lowered. -/
def lastT (c : Cfg) (p : List Int) : Nat → Int
  | 0 => -1
  | k + 1 => if c.lst ≤ (p[k]?).getD 0 - c.stp then k else lastT c p k
def nxT (c : Cfg) (p : List Int) (at_ : Int) (j : Nat) : Int := if (j : Int) < at_ then (p[j]?).getD 0 else if (j : Int) = at_ then (p[j]?).getD 0 - c.stp else c.fst
def upTo (n : Nat) (f : Nat → Int) : List Int := (List.range n).map f
def nextT (c : Cfg) (p : List Int) : List Int × Nat :=
  if hasT c p ≠ 0 then ([], hasT c p) else if lastT c p p.length < 0 then ([], 30) else (upTo p.length (nxT c p (lastT c p p.length)), 0)
theorem upTo_len (n : Nat) (f : Nat → Int) : (upTo n f).length = n := by simp [upTo]
theorem upTo_get {n : Nat} (f : Nat → Int) {i : Nat} (h : i < n) : (upTo n f)[i]? = some (f i) := by simp [upTo, h]
theorem upTo_set {n : Nat} (f g : Nat → Int) {i : Nat} (x : Int) (h : ∀ j, j < n → g j = if j = i then x else f j) : (intv (upTo n f)).set i [.lit (.int .i64 x)] = intv (upTo n g) := by
  apply List.ext_getElem?
  intro j
  by_cases hj : j < n
  · rw [List.getElem?_set]
    by_cases hi : i = j
    · subst hi
      simp [intv, upTo, hj, h i hj]
    · simp [intv, upTo, hj, h j hj, hi]
      intro e
      exact absurd e.symm hi
  · rw [List.getElem?_eq_none (by simp [intv, upTo]; omega), List.getElem?_eq_none (by simp [intv, upTo]; omega)]
theorem upTo_self (p : List Int) : upTo p.length (fun j => (p[j]?).getD 0) = p := by
  apply List.ext_getElem?
  intro j
  by_cases hj : j < p.length
  · simp [upTo, hj]
  · rw [List.getElem?_eq_none (by simp [upTo]; omega), List.getElem?_eq_none (by omega)]
theorem upTo_eq {n : Nat} {f g : Nat → Int} (h : ∀ j, j < n → f j = g j) : upTo n f = upTo n g := by
  unfold upTo
  exact List.map_congr_left (fun j hj => h j (List.mem_range.1 hj))
theorem upTo_succ (n : Nat) (f : Nat → Int) : upTo (n + 1) f = upTo n f ++ [f n] := by simp [upTo, List.range_succ]
theorem lastT_b (c : Cfg) (p : List Int) : ∀ k, -1 ≤ lastT c p k ∧ lastT c p k < k
  | 0 => by simp [lastT]
  | k + 1 => by
    have := lastT_b c p k
    unfold lastT
    split <;> omega

set_option maxRecDepth 8000 in
set_option maxHeartbeats 8000000 in
theorem TNext_ok (c : Cfg) (p : List Int) (hc : c.ok) (hl : p.length ≤ 100000000) : ECalls Tryd.prog 12 [CV c, IL p] [] fun y H' => H' = [] ∧ y = PE (nextT c p) := by
  have h32 := hc.1
  have t40 := tk40 h32
  refine ecalls k_TNext ?_
  simp [c_TNext, CV, cfgC, cfgT, IL, h32, t40]
  refine call0 (Thas_ok c p hc hl) (by simp [CV, cfgC, cfgT, IL]) ?_
  rintro y H' ⟨rfl, rfl⟩
  refine ⟨.inl (by simp [t40]), le_ok rfl, ?_⟩
  by_cases hk : hasT c p = 0
  rotate_left
  · have hh : nextT c p = ([], hasT c p) := by simp [nextT, hk]
    rw [hh]
    simp [hk, EV.lit]
    refine finW _ (weak_nilF 4 1 rfl) ?_
    exact fin [] (by decide) rfl rfl rfl ⟨rfl, rfl⟩
  obtain ⟨hk0, hkd, hko⟩ := has_all hk
  obtain ⟨hR, hA, -, -⟩ := chk_okR hk0
  have hvb := vers_b hR hA
  obtain ⟨r1, r2, r3, r4, r5, r6, r7⟩ := id hR
  have wl : IntKind.i64.wrap ((p.length : Int) - 1) = (p.length : Int) - 1 := wrap_i64 (by omega) (by omega)
  simp [hk, EV.lit, h32]
  refine call0 (TClone_ok p hl) (by simp [IL]) ?_
  rintro y H' ⟨rfl, rfl⟩
  refine ⟨.inr ⟨rfl, by simp [IO, t40, noSlO, intv]⟩, le_ok rfl, ?_⟩
  simp [IR, IO, I, wl]
  have e0 : intv p = intv (upTo p.length (fun j => if j < p.length then (p[j]?).getD 0 else c.fst)) := by
    congr 1
    refine (upTo_self p).symm.trans (upTo_eq (fun j hj => ?_))
    simp [hj]
  refine eloop (α := Nat) (fun k => k ≤ p.length ∧ lastT c p p.length = lastT c p k) (fun k => k)
    (fun k => [.any, .any, Ptr 0, .any, .any, .any, .any, .v (.c (.row 1 p.length)), I .i64 ((k : Int) - 1), .any, .any, .any, .any, .any, .any, .any, .any, .any, .any, .any, .any, .any, .any, .any, .any, .any, .any, .any, .any, .any, .any, .any, .any, .any, .any, .any, .any, .any, .any, .any, .any, .any, .any, .any, .any, .any, .any, .any]) (fun k => [some (.box 31 (cfgC c)), some (.row 3 1 (intv (upTo p.length (fun j => if j < k then (p[j]?).getD 0 else c.fst))))]) p.length [0, 160]
    ⟨Nat.le_refl _, rfl⟩ (by simp [I, IL, Ptr]) (by rw [← e0]; simp [cfgC, cfgT]) (by simp) (by simp) (by simp) ?_
  rintro k ⟨hi, hla⟩
  rcases k with _ | m
  · have hh : nextT c p = ([], 30) := by simp [nextT, hk, hla, lastT]
    rw [hh]
    simp [I, IL, Ptr, cfgC, cfgT, h32]
    refine finW _ (weak_nilF 4 1 rfl) ?_
    exact fin [] (by decide) rfl rfl rfl ⟨rfl, rfl⟩
  · have hlt : m < p.length := by omega
    obtain ⟨x, hx⟩ : ∃ x, p[m]? = some x := ⟨p[m], by simp [hlt]⟩
    have ho := hko x (List.mem_of_getElem? hx)
    obtain ⟨d1, d2, d3, d4, d5⟩ := dT_eq hR ho
    obtain ⟨o1, o2, o3⟩ := ok_of_odd ho
    have em : (((m + 1 : Nat) : Int) - 1) = (m : Int) := by omega
    have hg : (intv (upTo p.length (fun j => if j < m + 1 then (p[j]?).getD 0 else c.fst)))[m]? = some [.lit (.int .i64 x)] := intv_get (by rw [upTo_get _ (by omega)]; simp [hx])
    have h0 : ¬ ((m : Int) < 0) := by omega
    have hs1 : ∀ x', (intv (upTo p.length (fun j => if j < m + 1 then (p[j]?).getD 0 else c.fst))).set m [.lit (.int .i64 x')] = intv (upTo p.length (fun j => if j = m then x' else if j < m + 1 then (p[j]?).getD 0 else c.fst)) := fun x' => upTo_set _ _ _ (fun j hj => rfl)
    obtain ⟨R, hR0⟩ : ∃ R, upTo p.length (fun j => if j < m + 1 then (p[j]?).getD 0 else c.fst) = R := ⟨_, rfl⟩
    have hRl : R.length = p.length := by rw [← hR0]; exact upTo_len _ _
    rw [hR0] at hg hs1
    have hg2 : ∀ h, (intv R)[m]'h = [.lit (.int .i64 x)] := fun h => by
      have := hg
      rw [List.getElem?_eq_getElem h] at this
      exact Option.some.inj this
    simp only [em, hR0]
    simp [I, IL, Ptr, cfgC, cfgT, h32, hg, hg2, hRl, hlt, h0]
    refine call0 (Tused_ok c x hc hR ⟨o1, o2⟩) (by simp [CV, cfgC, cfgT, I, t40]) ?_
    rintro y H' ⟨rfl, rfl⟩
    refine ⟨.inl (by simp [t40]), le_ok rfl, ?_⟩
    simp [I, h32, t40]
    refine call0 (Tvers_ok c hc hR) (by simp [CV, cfgC, cfgT, t40]) ?_
    rintro y H' ⟨rfl, rfl⟩
    refine ⟨.inl (by simp [t40]), le_ok rfl, ?_⟩
    by_cases hd : (c.fst - x) / c.stp < versT c
    · have hle : c.lst ≤ (p[m]?).getD 0 - c.stp := by
        rw [hx]
        simp only [Option.getD_some]
        have : ¬ (x - c.stp < c.lst) := fun h => by have := d5.2 h; omega
        omega
      have hla2 : lastT c p p.length = m := by rw [hla]; simp [lastT, hle]
      have hh : nextT c p = (upTo p.length (nxT c p m), 0) := by simp only [nextT, hk, hla2]; simp [h0]
      have ws : IntKind.i64.wrap (x - c.stp) = x - c.stp := wrap_i64 (by omega) (by omega)
      rw [hh]
      simp [I, hd, hg, hg2, hlt, h0, h32, t40, ws, hRl, hs1, -errV_0]
      have e1 : upTo p.length (fun j => if j = m then x - c.stp else if j < m + 1 then (p[j]?).getD 0 else c.fst) = upTo p.length (nxT c p m) := by
        refine upTo_eq (fun j hj => ?_)
        unfold nxT
        by_cases h1 : j = m
        · subst h1; simp [hx]
        · by_cases h2 : j < m
          · rw [if_neg h1, if_pos (by omega), if_pos (by omega)]
          · rw [if_neg h1, if_neg (by omega), if_neg (by omega), if_neg (by omega)]
      rw [e1]
      refine finW _ (weak_frz (o := 1) (ty := 3) (es := 1) (xs := intv (upTo p.length (nxT c p m))) rfl) ?_
      exact fin [] (by decide) rfl rfl rfl ⟨rfl, by simp [PE, List.take_of_length_le, upTo_len]⟩
    · have hle : ¬ c.lst ≤ (p[m]?).getD 0 - c.stp := by
        rw [hx]
        simp only [Option.getD_some]
        have : (x - c.stp < c.lst) := d5.1 (by omega)
        omega
      have hla2 : lastT c p p.length = lastT c p m := by rw [hla]; simp [lastT, hle]
      have wi : IntKind.i64.wrap ((m : Int) - 1) = (m : Int) - 1 := wrap_i64 (by omega) (by omega)
      simp [I, hd, hg, hg2, hlt, h0, h32, t40, wi, hRl, hs1]
      have e2 : upTo p.length (fun j => if j = m then c.fst else if j < m + 1 then (p[j]?).getD 0 else c.fst) = upTo p.length (fun j => if j < m then (p[j]?).getD 0 else c.fst) := by
        refine upTo_eq (fun j hj => ?_)
        by_cases h1 : j = m
        · subst h1; simp
        · by_cases h2 : j < m
          · rw [if_neg h1, if_pos (by omega), if_pos (by omega)]
          · rw [if_neg h1, if_neg (by omega), if_neg (by omega)]
      rw [e2]
      exact round m [0, 1] ⟨by omega, hla2⟩ (by omega) (by simp) (by simp) (by simp) (by simp) (by simp)

set_option maxRecDepth 8000 in
set_option maxHeartbeats 4000000 in
theorem RTBegin_ok (c : Cfg) (hc : c.ok) : ECalls Tryd.prog 19 [CV c] [] fun y H' => H' = [] ∧ y = PI (begT c) := by
  have h32 := hc.1
  have t40 := tk40 h32
  refine ecalls k_RTBegin ?_
  simp [c_RTBegin, CV, cfgC, cfgT, h32, t40]
  refine call0 (RTCheck_ok c hc) (by simp [CV, cfgC, cfgT]) ?_
  rintro y H' ⟨rfl, rfl⟩
  refine ⟨.inl (by simp [t40]), le_ok rfl, ?_⟩
  obtain ⟨q, hq⟩ : ∃ q : Nat, q = if chkT c = 0 then c.dep.toNat else 0 := ⟨_, rfl⟩
  have hb : begT c = (List.replicate q c.fst, chkT c) := by
    unfold begT
    by_cases hk : chkT c = 0 <;> simp [hk, hq]
  have hq8 : q ≤ 8 ∧ (chkT c = 0 → (q : Int) = c.dep) ∧ (chkT c ≠ 0 → q = 0) := by
    by_cases hk : chkT c = 0
    · obtain ⟨hR, hA, -, -⟩ := chk_okR hk
      obtain ⟨r1, r2, r3, r4, r5, r6, r7⟩ := id hR
      simp [hk] at hq
      refine ⟨by omega, fun _ => by omega, fun h => absurd hk h⟩
    · simp [hk] at hq
      exact ⟨by omega, fun h => absurd h hk, fun _ => hq⟩
  rw [hb]
  simp [I, h32]
  refine loopW _ (weak_nilR 5 3 1 rfl (by omega)) ?_
  refine eloop (α := Nat) (fun k => k ≤ q) (fun k => q - k)
    (fun k => [.any, Ptr 0, .any, .any, I .i64 (chkT c), .v (.c (.row 1 k)), I .i64 k, .any, .any, .any, .any, .any, .any, .any, .any, .any, .any, .any, .any, .any, .any, .any, .any, .any, .any, .any]) (fun k => [some (.box 28 (cfgC c)), some (.row 3 1 (intv (List.replicate k c.fst)))]) 0 [0, 128]
    (Nat.zero_le _) (by simp [I, IL, Ptr]) (by simp [cfgC, cfgT, intv]) (by simp) (by simp) (by simp) ?_
  intro k hk
  by_cases hk0 : chkT c = 0
  · have hqd := hq8.2.1 hk0
    by_cases hlt : (k : Int) < c.dep
    · have w2 : IntKind.i64.wrap ((k : Int) + 1) = ((k + 1 : Nat) : Int) := wrap_i64 (by omega) (by omega)
      have e1 : intv (List.replicate (k + 1) c.fst) = intv (List.replicate k c.fst) ++ [[.lit (.int .i64 c.fst)]] := by rw [List.replicate_succ', intv_app]; rfl
      simp [I, Ptr, cfgC, cfgT, h32, hk0, hlt, w2, -Int.natCast_add]
      exact ⟨by omega, round (k + 1) [0, 194] (by omega) (by omega) (by simp) (by simp [e1]) (by simp) (by simp) (by simp)⟩
    · have hkq : k = q := by omega
      subst hkq
      simp [I, Ptr, cfgC, cfgT, h32, hk0, hlt]
      refine finW _ (weak_frz (o := 1) (ty := 3) (es := 1) (xs := intv (List.replicate k c.fst)) rfl) ?_
      exact fin [] (by decide) rfl rfl rfl ⟨rfl, by simp [PI, List.take_of_length_le]⟩
  · have hq0 := hq8.2.2 hk0
    have hk00 : k = 0 := by omega
    subst hk00
    by_cases hlt : 0 < c.dep
    · simp [I, Ptr, cfgC, cfgT, h32, hk0, hq0, hlt]
      refine finW _ (weak_frz (o := 1) (ty := 3) (es := 1) (xs := []) rfl) ?_
      exact fin [] (by decide) rfl rfl rfl ⟨rfl, by simp [PI, intv]⟩
    · simp [I, Ptr, cfgC, cfgT, h32, hk0, hq0, hlt]
      refine finW _ (weak_frz (o := 1) (ty := 3) (es := 1) (xs := []) rfl) ?_
      exact fin [] (by decide) rfl rfl rfl ⟨rfl, by simp [PI, intv]⟩

end Go.Proofs.YtoomdgmggkcgfaaDoor
