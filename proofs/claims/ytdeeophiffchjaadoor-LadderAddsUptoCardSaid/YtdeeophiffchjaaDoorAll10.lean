import Derived.Test.YtdeeophiffchjaaDoorAll9
import Derived.Test.YtdeeophiffchjaaDoorAll5
namespace Go.Proofs.YtdeeophiffchjaaDoor
open Go Go.EW
set_option linter.unusedSimpArgs false
set_option linter.unusedVariables false

@[simp] def l_LCheck_1 (_ : Unit) : List EOp := [⟨0, (some 1), none, (.q (.box 31 (.t 0))), []⟩, ⟨1, (some 2), none, (.q (.mov (.k .nilIface))), []⟩]
@[simp] def b_LCheck_2 (_ : Unit) : EB := reg0 (hid l_LCheck_1) 2
@[simp] def l_LCheck_3 (_ : Unit) : List EOp := [⟨0, (some 3), none, (.q (.lda 2 (.t 1))), []⟩, ⟨1, (some 4), none, (.call 20 [(.t 3)]), []⟩, ⟨2, (some 5), none, (.q (.un .not (.t 4))), []⟩]
@[simp] def b_LCheck_4 (_ : Unit) : EB := reg0 (hid l_LCheck_3) 3
@[simp] def l_LCheck_5 (_ : Unit) : List EOp := [⟨0, (some 6), none, (.q (.mki 52 (.k (.int .i64 1)))), []⟩, ⟨1, (some 2), none, (.q (.mov (.t 6))), []⟩]
@[simp] def b_LCheck_6 (_ : Unit) : EB := reg0 (hid l_LCheck_5) 2
@[simp] def b_LCheck_7 (_ : Unit) : EB := .seq (hid b_LCheck_6) .ret
@[simp] def b_LCheck_8 (_ : Unit) : EB := .cond (.t 5) (hid b_LCheck_7) .skip
@[simp] def b_LCheck_9 (_ : Unit) : EB := .seq (hid b_LCheck_4) (hid b_LCheck_8)
@[simp] def l_LCheck_10 (_ : Unit) : List EOp := [⟨0, (some 2), none, (.q (.mov (.k .nilIface))), []⟩]
@[simp] def b_LCheck_11 (_ : Unit) : EB := reg0 (hid l_LCheck_10) 1
@[simp] def b_LCheck_12 (_ : Unit) : EB := .seq (hid b_LCheck_11) .ret
@[simp] def b_LCheck_13 (_ : Unit) : EB := .seq (hid b_LCheck_9) (hid b_LCheck_12)
@[simp] def b_LCheck_14 (_ : Unit) : EB := .seq (hid b_LCheck_2) (hid b_LCheck_13)
def c_LCheck : EB × List QOp × Nat := ((hid b_LCheck_14), [(.mov (.t 2))], 7)
theorem k_LCheck : cfun Tryd.prog 8 = some c_LCheck := by kernel_rfl

@[simp] def l_LBegin_1 (_ : Unit) : List EOp := [⟨0, (some 0), none, (.q (.alloc 31 [(.int .i64 0), (.slice none 0 0)])), []⟩]
@[simp] def b_LBegin_2 (_ : Unit) : EB := reg0 (hid l_LBegin_1) 1
@[simp] def l_LBegin_3 (_ : Unit) : List EOp := [⟨0, (some 1), none, (.q (.build [(.int .i64 0), (.slice none 0 0)] [(0, 1, (.k (.int .i64 1099511627775)))])), []⟩, ⟨1, none, none, (.fz (.sto 2 (.t 0) (.t 1))), []⟩]
@[simp] def b_LBegin_4 (_ : Unit) : EB := reg0 (hid l_LBegin_3) 2
@[simp] def b_LBegin_5 (_ : Unit) : EB := .seq (hid b_LBegin_4) .ret
@[simp] def b_LBegin_6 (_ : Unit) : EB := .seq (hid b_LBegin_2) (hid b_LBegin_5)
def c_LBegin : EB × List QOp × Nat := ((hid b_LBegin_6), [(.lda 2 (.t 0))], 2)
theorem k_LBegin : cfun Tryd.prog 19 = some c_LBegin := by kernel_rfl

@[simp] def l_LAdd_1 (_ : Unit) : List EOp := [⟨0, (some 2), none, (.q (.box 31 (.t 0))), []⟩, ⟨1, (some 3), none, (.q (.box 35 (.t 1))), []⟩, ⟨2, (some 4), none, (.q (.alloc 31 [(.int .i64 0), (.slice none 0 0)])), []⟩, ⟨3, (some 5), none, (.q (.mov (.k .nilIface))), []⟩]
@[simp] def b_LAdd_2 (_ : Unit) : EB := reg0 (hid l_LAdd_1) 4
@[simp] def l_LAdd_3 (_ : Unit) : List EOp := [⟨0, (some 12), none, (.q (.lda 2 (.t 2))), []⟩, ⟨1, (some 13), none, (.call 20 [(.t 12)]), []⟩, ⟨2, (some 14), none, (.q (.un .not (.t 13))), []⟩, ⟨3, (some 11), none, (.q (.mov (.t 14))), []⟩]
@[simp] def b_LAdd_4 (_ : Unit) : EB := reg0 (hid l_LAdd_3) 4
@[simp] def l_LAdd_5 (_ : Unit) : List EOp := [⟨0, (some 15), none, (.q (.build [(.int .i64 0), (.slice none 0 0)] [])), []⟩, ⟨1, (some 16), none, (.q (.mki 52 (.k (.int .i64 1)))), []⟩, ⟨2, none, none, (.fz (.sto 2 (.t 4) (.t 15))), []⟩, ⟨3, (some 5), none, (.q (.mov (.t 16))), []⟩]
@[simp] def b_LAdd_6 (_ : Unit) : EB := reg0 (hid l_LAdd_5) 4
@[simp] def b_LAdd_7 (_ : Unit) : EB := .seq (hid b_LAdd_6) .ret
@[simp] def l_LAdd_8 (_ : Unit) : List EOp := [⟨0, (some 18), none, (.q (.fad 0 (.t 2))), []⟩, ⟨1, (some 19), none, (.q (.ldc (.t 18))), []⟩, ⟨2, (some 20), none, (.q (.bin .lss (.t 19) (.k (.int .i64 0)))), []⟩, ⟨3, (some 17), none, (.q (.mov (.t 20))), []⟩]
@[simp] def b_LAdd_9 (_ : Unit) : EB := reg0 (hid l_LAdd_8) 4
@[simp] def l_LAdd_10 (_ : Unit) : List EOp := [⟨0, (some 21), none, (.q (.build [(.int .i64 0), (.slice none 0 0)] [])), []⟩, ⟨1, (some 22), none, (.q (.mki 52 (.k (.int .i64 31)))), []⟩, ⟨2, none, none, (.fz (.sto 2 (.t 4) (.t 21))), []⟩, ⟨3, (some 5), none, (.q (.mov (.t 22))), []⟩]
@[simp] def b_LAdd_11 (_ : Unit) : EB := reg0 (hid l_LAdd_10) 4
@[simp] def b_LAdd_12 (_ : Unit) : EB := .seq (hid b_LAdd_11) .ret
@[simp] def b_LAdd_13 (_ : Unit) : EB := .cond (.t 17) (hid b_LAdd_12) .skip
@[simp] def b_LAdd_14 (_ : Unit) : EB := .seq (hid b_LAdd_9) (hid b_LAdd_13)
@[simp] def b_LAdd_15 (_ : Unit) : EB := .cond (.t 11) (hid b_LAdd_7) (hid b_LAdd_14)
@[simp] def b_LAdd_16 (_ : Unit) : EB := .seq (hid b_LAdd_4) (hid b_LAdd_15)
@[simp] def b_LAdd_17 (_ : Unit) : EB := .block 0 (hid b_LAdd_16)
@[simp] def l_LAdd_18 (_ : Unit) : List EOp := [⟨0, (some 23), none, (.q (.fad 0 (.t 2))), []⟩, ⟨1, (some 24), none, (.q (.ldc (.t 23))), []⟩, ⟨2, (some 25), none, (.q (.lda 32 (.t 3))), []⟩, ⟨3, (some 26), none, (.q (.build (([(.int .i64 0)] : List Value) ++ zU8) [(0, 1, (.t 24)), (1, 32, (.t 25))])), []⟩, ⟨4, (some 6), none, (.q (.alloc 54 (([(.int .i64 0)] : List Value) ++ zU8))), []⟩, ⟨5, none, none, (.sto 33 (.t 6) (.t 26)), []⟩]
@[simp] def b_LAdd_19 (_ : Unit) : EB := reg0 (hid l_LAdd_18) 6
@[simp] def l_LAdd_20 (_ : Unit) : List EOp := [⟨0, (some 7), none, (.q (.mov (.k (.slice none 0 0)))), []⟩]
@[simp] def b_LAdd_21 (_ : Unit) : EB := reg0 (hid l_LAdd_20) 1
@[simp] def l_LAdd_22 (_ : Unit) : List EOp := [⟨0, (some 8), none, (.q (.mov (.k (.int .i64 0)))), []⟩]
@[simp] def b_LAdd_23 (_ : Unit) : EB := reg0 (hid l_LAdd_22) 1
@[simp] def l_LAdd_24 (_ : Unit) : List EOp := [⟨0, (some 27), none, (.q (.fad 1 (.t 2))), []⟩, ⟨1, (some 28), none, (.q (.ldc (.t 27))), []⟩, ⟨2, (some 29), none, (.q (.len (.t 28))), []⟩, ⟨3, (some 30), none, (.q (.mov (.k (.int .i64 0)))), []⟩]
@[simp] def b_LAdd_25 (_ : Unit) : EB := reg0 (hid l_LAdd_24) 4
@[simp] def l_LAdd_26 (_ : Unit) : List EOp := [⟨0, (some 31), none, (.q (.bin .lss (.t 30) (.t 29))), []⟩]
@[simp] def b_LAdd_27 (_ : Unit) : EB := reg0 (hid l_LAdd_26) 1
@[simp] def b_LAdd_28 (_ : Unit) : EB := .cond (.t 31) .skip (.exit 1)
@[simp] def l_LAdd_29 (_ : Unit) : List EOp := [⟨0, (some 32), none, (.q (.isl 33 (.t 28) (.t 30))), []⟩, ⟨1, (some 33), none, (.q (.lda 33 (.t 32))), []⟩, ⟨2, (some 10), none, (.q (.alloc 54 (([(.int .i64 0)] : List Value) ++ zU8))), []⟩, ⟨3, none, none, (.sto 33 (.t 10) (.t 33)), []⟩]
@[simp] def b_LAdd_30 (_ : Unit) : EB := reg0 (hid l_LAdd_29) 4
@[simp] def l_LAdd_32 (_ : Unit) : List EOp := [⟨6, (some 41), none, (.q (.bin .lss (.t 37) (.t 40))), []⟩, ⟨7, (some 34), none, (.q (.mov (.t 41))), []⟩]
@[simp] def l_LAdd_31 (_ : Unit) : List EOp := ⟨0, (some 35), none, (.q (.fad 0 (.t 10))), []⟩ :: ⟨1, (some 36), none, (.q (.ldc (.t 35))), []⟩ :: ⟨3, (some 38), none, (.q (.fad 0 (.t 6))), []⟩ :: ⟨4, (some 39), none, (.q (.ldc (.t 38))), []⟩ :: ⟨2, (some 37), none, (.call 26 [(.t 36)]), [3, 4]⟩ :: ⟨5, (some 40), none, (.call 26 [(.t 39)]), []⟩ :: hid l_LAdd_32
@[simp] def b_LAdd_33 (_ : Unit) : EB := reg1 (hid l_LAdd_31) 8
@[simp] def l_LAdd_34 (_ : Unit) : List EOp := [⟨0, (some 42), none, (.q (.mov (.t 8))), []⟩, ⟨1, (some 43), none, (.q (.bin .add (.t 42) (.k (.int .i64 1)))), []⟩, ⟨2, (some 8), none, (.q (.mov (.t 43))), []⟩]
@[simp] def b_LAdd_35 (_ : Unit) : EB := reg0 (hid l_LAdd_34) 3
@[simp] def l_LAdd_37 (_ : Unit) : List EOp := [⟨6, (some 51), none, (.q (.bin .eql (.t 47) (.t 50))), []⟩, ⟨7, (some 44), none, (.q (.mov (.t 51))), []⟩]
@[simp] def l_LAdd_36 (_ : Unit) : List EOp := ⟨0, (some 45), none, (.q (.fad 0 (.t 10))), []⟩ :: ⟨1, (some 46), none, (.q (.ldc (.t 45))), []⟩ :: ⟨3, (some 48), none, (.q (.fad 0 (.t 6))), []⟩ :: ⟨4, (some 49), none, (.q (.ldc (.t 48))), []⟩ :: ⟨2, (some 47), none, (.call 26 [(.t 46)]), [3, 4]⟩ :: ⟨5, (some 50), none, (.call 26 [(.t 49)]), []⟩ :: hid l_LAdd_37
@[simp] def b_LAdd_38 (_ : Unit) : EB := reg1 (hid l_LAdd_36) 8
@[simp] def b_LAdd_39 (_ : Unit) : EB := .cond (.t 44) (.exit 2) .skip
@[simp] def b_LAdd_40 (_ : Unit) : EB := .seq (hid b_LAdd_38) (hid b_LAdd_39)
@[simp] def b_LAdd_41 (_ : Unit) : EB := .cond (.t 34) (hid b_LAdd_35) (hid b_LAdd_40)
@[simp] def b_LAdd_42 (_ : Unit) : EB := .seq (hid b_LAdd_33) (hid b_LAdd_41)
@[simp] def b_LAdd_43 (_ : Unit) : EB := .block 3 (hid b_LAdd_42)
@[simp] def l_LAdd_44 (_ : Unit) : List EOp := [⟨0, (some 52), none, (.q (.mov (.t 7))), []⟩, ⟨1, (some 53), none, (.q (.lda 33 (.t 10))), []⟩, ⟨2, (some 54), none, (.q (.bsl 33 (([(.int .i64 0)] : List Value) ++ zU8) 1 [(0, (.t 53))])), []⟩, ⟨3, (some 55), none, (.app 54 33 40 (.t 52) (.t 54)), []⟩, ⟨4, (some 7), none, (.q (.mov (.t 55))), []⟩]
@[simp] def b_LAdd_45 (_ : Unit) : EB := reg0 (hid l_LAdd_44) 5
@[simp] def b_LAdd_46 (_ : Unit) : EB := .seq (hid b_LAdd_43) (hid b_LAdd_45)
@[simp] def b_LAdd_47 (_ : Unit) : EB := .seq (hid b_LAdd_30) (hid b_LAdd_46)
@[simp] def b_LAdd_48 (_ : Unit) : EB := .block 2 (hid b_LAdd_47)
@[simp] def l_LAdd_49 (_ : Unit) : List EOp := [⟨0, (some 56), none, (.q (.bin .add (.t 30) (.k (.int .i64 1)))), []⟩, ⟨1, (some 30), none, (.q (.mov (.t 56))), []⟩]
@[simp] def b_LAdd_50 (_ : Unit) : EB := reg0 (hid l_LAdd_49) 2
@[simp] def b_LAdd_51 (_ : Unit) : EB := .seq (hid b_LAdd_48) (hid b_LAdd_50)
@[simp] def b_LAdd_52 (_ : Unit) : EB := .seq (hid b_LAdd_28) (hid b_LAdd_51)
@[simp] def b_LAdd_53 (_ : Unit) : EB := .seq (hid b_LAdd_27) (hid b_LAdd_52)
@[simp] def b_LAdd_54 (_ : Unit) : EB := .loop (hid b_LAdd_53)
@[simp] def b_LAdd_55 (_ : Unit) : EB := .block 1 (hid b_LAdd_54)
@[simp] def b_LAdd_56 (_ : Unit) : EB := .seq (hid b_LAdd_25) (hid b_LAdd_55)
@[simp] def l_LAdd_57 (_ : Unit) : List EOp := [⟨0, (some 57), none, (.q (.lda 33 (.t 6))), []⟩, ⟨1, (some 58), none, (.q (.mov (.t 7))), []⟩, ⟨2, (some 59), none, (.q (.mov (.t 8))), []⟩, ⟨3, (some 60), none, (.q (.ssl 33 (.t 58) none (some (.t 59)))), []⟩, ⟨4, (some 61), none, (.call 27 [(.t 57), (.t 60)]), []⟩, ⟨5, (some 62), none, (.q (.un .not (.t 61))), []⟩]
@[simp] def b_LAdd_58 (_ : Unit) : EB := reg0 (hid l_LAdd_57) 6
@[simp] def l_LAdd_59 (_ : Unit) : List EOp := [⟨0, (some 63), none, (.q (.build [(.int .i64 0), (.slice none 0 0)] [])), []⟩, ⟨1, (some 64), none, (.q (.mki 52 (.k (.int .i64 11)))), []⟩, ⟨2, none, none, (.fz (.sto 2 (.t 4) (.t 63))), []⟩, ⟨3, (some 5), none, (.q (.mov (.t 64))), []⟩]
@[simp] def b_LAdd_60 (_ : Unit) : EB := reg0 (hid l_LAdd_59) 4
@[simp] def b_LAdd_61 (_ : Unit) : EB := .seq (hid b_LAdd_60) .ret
@[simp] def b_LAdd_62 (_ : Unit) : EB := .cond (.t 62) (hid b_LAdd_61) .skip
@[simp] def b_LAdd_63 (_ : Unit) : EB := .seq (hid b_LAdd_58) (hid b_LAdd_62)
@[simp] def l_LAdd_65 (_ : Unit) : List EOp := [⟨6, (some 71), none, (.q (.bsr 54 33 (([(.int .i64 0)] : List Value) ++ zU8) 1 [(0, (.t 70))])), []⟩, ⟨7, (some 72), none, (.call 28 [(.t 68), (.t 69), (.t 71)]), [0, 1, 2]⟩, ⟨8, (some 73), none, (.q (.build [(.int .i64 0), (.slice none 0 0)] [(0, 1, (.t 67)), (1, 1, (.t 72))])), []⟩, ⟨9, none, none, (.fz (.sto 2 (.t 4) (.t 73))), []⟩, ⟨10, (some 5), none, (.q (.mov (.k .nilIface))), []⟩]
@[simp] def l_LAdd_64 (_ : Unit) : List EOp := ⟨0, (some 65), none, (.q (.fad 0 (.t 2))), []⟩ :: ⟨1, (some 66), none, (.q (.ldc (.t 65))), []⟩ :: ⟨2, (some 67), none, (.q (.bin .sub (.t 66) (.k (.int .i64 1)))), []⟩ :: ⟨3, (some 68), none, (.q (.mov (.t 7))), []⟩ :: ⟨4, (some 69), none, (.q (.mov (.t 8))), []⟩ :: ⟨5, (some 70), none, (.q (.lda 33 (.t 6))), []⟩ :: hid l_LAdd_65
@[simp] def b_LAdd_66 (_ : Unit) : EB := reg1 (hid l_LAdd_64) 11
@[simp] def b_LAdd_67 (_ : Unit) : EB := .seq (hid b_LAdd_66) .ret
@[simp] def b_LAdd_68 (_ : Unit) : EB := .seq (hid b_LAdd_63) (hid b_LAdd_67)
@[simp] def b_LAdd_69 (_ : Unit) : EB := .seq (hid b_LAdd_56) (hid b_LAdd_68)
@[simp] def b_LAdd_70 (_ : Unit) : EB := .seq (hid b_LAdd_23) (hid b_LAdd_69)
@[simp] def b_LAdd_71 (_ : Unit) : EB := .seq (hid b_LAdd_21) (hid b_LAdd_70)
@[simp] def b_LAdd_72 (_ : Unit) : EB := .seq (hid b_LAdd_19) (hid b_LAdd_71)
@[simp] def b_LAdd_73 (_ : Unit) : EB := .seq (hid b_LAdd_17) (hid b_LAdd_72)
@[simp] def b_LAdd_74 (_ : Unit) : EB := .seq (hid b_LAdd_2) (hid b_LAdd_73)
def c_LAdd : EB × List QOp × Nat := ((hid b_LAdd_74), [(.lda 2 (.t 4)), (.mov (.t 5))], 74)
theorem k_LAdd : cfun Tryd.prog 14 = some c_LAdd := by kernel_rfl


theorem LCheck_ok (l : Lad) (hl : l.ok) : ECalls Tryd.prog 8 [LV l] [] fun y H' => H' = [] ∧ y = .lit (if mayB l = true then .nilIface else errV 1) := by
  refine ecalls k_LCheck ?_
  simp [c_LCheck, LV, ladC, -errV_0]
  refine call0 (Lmay_ok l hl) (by simp [LV, ladC]) ?_
  rintro y H' ⟨rfl, rfl⟩
  refine ⟨.inl (by simp), le_ok rfl, ?_⟩
  cases mayB l
  · simp [-errV_0]
    exact fin [] (by decide) rfl rfl rfl ⟨rfl, rfl⟩
  · simp [-errV_0]
    exact fin [] (by decide) rfl rfl rfl ⟨rfl, rfl⟩
theorem LBegin_ok : ECalls Tryd.prog 19 [] [] fun y H' => H' = [] ∧ y = LV ⟨1099511627775, []⟩ := by
  refine ecalls k_LBegin ?_
  simp [c_LBegin]
  refine finW _ (weak_nlB (o := 0) (k := 1) 33 rfl rfl) ?_
  exact fin [] (by decide) rfl rfl rfl ⟨rfl, rfl⟩

def LAE (q : Lad × Nat) : EV := .tup [.agg (ladC q.1), .c (.fz (.lit (errV q.2)))]
@[simp] theorem errV_11' : Value.iface 52 (.int .i64 11) = errV 11 := rfl
@[simp] theorem errV_31' : Value.iface 52 (.int .i64 31) = errV 31 := rfl
theorem filt_succ (p : Stp → Bool) {l : List Stp} {i : Nat} {x : Stp} (h : l[i]? = some x) : (l.take (i + 1)).filter p = (l.take i).filter p ++ if p x = true then [x] else [] := by
  have hi := lt_len h
  have e := (List.getElem?_eq_some_iff.1 h).2
  rw [List.take_succ_eq_append_getElem hi, e, List.filter_append]
  congr 1
  simp only [List.filter_cons, List.filter_nil]

set_option maxHeartbeats 8000000 in
theorem LAdd_ok (l : Lad) (h : List UInt8) (hl : l.ok) (h32 : h.length = 32) (hlen : l.steps.length ≤ 60) : ECalls Tryd.prog 14 [LV l, HV h] [] fun y H' => H' = [] ∧ y = LAE (addL l h) := by
  obtain ⟨⟨nx0, nx1⟩, hst, _⟩ := id hl
  have t32 : List.take 32 h = h := List.take_of_length_le (by omega)
  have hcn : hc [] = [] := rfl
  have ht32 : List.take 32 (hc h) = hc h := List.take_of_length_le (by rw [hc_len]; omega)
  have hcl0 : (hc h).length = 32 := by rw [hc_len, h32]
  refine ecalls k_LAdd ?_
  simp [c_LAdd, LV, ladC, HV, h32, t32, ht32, -errV_0]
  refine call0 (Lmay_ok l hl) (by simp [LV, ladC]) ?_
  rintro y H' ⟨rfl, rfl⟩
  refine ⟨.inl (by simp), le_ok rfl, ?_⟩
  by_cases hm : mayL l
  rotate_left
  · have ha : addL l h = (zLad, 1) := by unfold addL; rw [if_pos hm]
    rw [ha, mayB_f hm]
    simp [LAE, ladC, zLad, stpv, -errV_0]
    refine finW _ (weak_nlB (o := 32) (k := 1) 33 rfl rfl) ?_
    exact fin [] (by decide) rfl rfl rfl ⟨rfl, rfl⟩
  rw [mayB_t hm]
  by_cases hn : l.nxt < 0
  · have ha : addL l h = (zLad, 31) := by unfold addL; rw [if_neg (fun q => q hm), if_pos hn]
    rw [ha]
    simp [LAE, ladC, zLad, stpv, hn, -errV_0]
    refine finW _ (weak_nlB (o := 32) (k := 1) 33 rfl rfl) ?_
    exact fin [] (by decide) rfl rfl rfl ⟨rfl, rfl⟩
  have ha : addL l h = if agrS ⟨l.nxt, h⟩ (lwrS (rkI l.nxt) l.steps) = false then (zLad, 11) else (⟨l.nxt - 1, lwrS (rkI l.nxt) l.steps ++ ⟨l.nxt, h⟩ :: highS (rkI l.nxt) l.steps⟩, 0) := by unfold addL; rw [if_neg (fun q => q hm), if_neg hn]
  have hnp : 0 ≤ l.nxt := by omega
  have hmx := hm.2.1
  obtain ⟨a, haN⟩ : ∃ a : Nat, l.nxt.toNat = a := ⟨_, rfl⟩
  have han : l.nxt = (a : Int) := by omega
  have hso : (Stp.mk l.nxt h).ok := ⟨hnp, by dsimp only; omega, h32⟩
  have hsteps := may_ok' hl hm
  have scl := stpC_len hso.sec
  have sct := stpC_take hso.sec
  have hpw := may_pw hm
  have hoff := offS_eq (rkI l.nxt) hpw
  obtain ⟨r, hr⟩ : ∃ r, rkI l.nxt = r := ⟨_, rfl⟩
  have hra : rk a = r := by rw [← hr]; unfold rkI; rw [haN]
  have hLr := Lrank_ok a (by omega)
  rw [hra, ← han] at hLr
  rw [ha]
  rw [hr] at hoff ⊢
  have hz32 : List.drop 32 hz = [] := rfl
  simp [hn, hnp, h32, t32, hcn, hz32, -errV_0]
  refine loopW _ (weak_nilR 7 54 33 rfl (by decide)) ?_
  simp
  obtain ⟨Q, hQ⟩ : ∃ Q, LAE (if agrS { num := l.nxt, sec := h } (lwrS r l.steps) = false then (zLad, 11) else ({ nxt := l.nxt - 1, steps := lwrS r l.steps ++ { num := l.nxt, sec := h } :: highS r l.steps }, 0)) = Q := ⟨_, rfl⟩
  simp only [hQ]
  refine eloop (α := Nat) (fun i => i ≤ l.steps.length) (fun i => l.steps.length - i)
    (fun i => [.any, .any, .v (.c (.ptr 0 0)), .any, .v (.c (.ptr 1 0)), .any, .v (.c (.ptr 2 0)), .v (.c (.row 3 (offS r (l.steps.take i)).length)), NV (lwrS r (l.steps.take i)).length, .any, .any, .any, .any, .any, .any, .any, .any, .any, .any, .any, .any, .any, .any, .any, .any, .any, .any, .any, SLv l.steps, NV l.steps.length, NV i, .any, .any, .any, .any, .any, .any, .any, .any, .any, .any, .any, .any, .any, .any, .any, .any, .any, .any, .any, .any, .any, .any, .any, .any, .any, .any, .any, .any, .any, .any, .any, .any, .any, .any, .any, .any, .any, .any, .any, .any, .any, .any, .any])
    (fun i => [some (.box 31 (ladC l)), some (.box 31 [.fz (.lit (.int .i64 0)), .fz (.lit (.slice none 0 0))]), some (.box 54 (stpC ⟨l.nxt, h⟩)), some (.row 54 33 (stpv (offS r (l.steps.take i))))]) 0 [0, 32, 256, 384]
    (Nat.zero_le _) (by simp [NV, SLv, offS, lwrS]) (by simp [ladC, stpC, offS, stpv]) (by simp [ladC, stpC]) (by simp) (by simp) ?_
  intro i hi
  by_cases hlt : i < l.steps.length
  · have hli : (i : Int) < (l.steps.length : Int) := by omega
    obtain ⟨x, hx⟩ : ∃ x, l.steps[i]? = some x := ⟨l.steps[i], by simp [hlt]⟩
    have hge : (stpv l.steps)[i]'(by simp [hlt]) = stpF x := by
      have e := stpv_get hx
      rw [List.getElem?_eq_getElem (by simp [hlt])] at e
      exact Option.some.inj e
    have hxo := hsteps x (List.mem_of_getElem? hx)
    have hx32 := hxo.sec
    have hxlo := hxo.lo
    have hxhi := hxo.hi
    have hfl := stpF_len hx32
    have hcl := stpC_len hx32
    have hct := stpC_take hx32
    obtain ⟨b, hb⟩ : ∃ b : Nat, x.num.toNat = b := ⟨_, rfl⟩
    have hbn : x.num = (b : Int) := by omega
    obtain ⟨q, hq⟩ : ∃ q, rkI x.num = q := ⟨_, rfl⟩
    have hqb : rk b = q := by rw [← hq]; unfold rkI; rw [hb]
    have hLx := Lrank_ok b (by omega)
    rw [hqb, ← hbn] at hLx
    have hq40 : q ≤ 40 := by rw [← hqb]; exact rk_le b
    have w2 : IntKind.i64.wrap ((i : Int) + 1) = ((i + 1 : Nat) : Int) := wrap_i64 (by omega) (by omega)
    have hs1 : offS r (l.steps.take (i + 1)) = offS r (l.steps.take i) ++ if decide (q ≠ r) = true then [x] else [] := by have := filt_succ (fun z : Stp => decide (rkI z.num ≠ r)) hx; simp only [hq] at this; exact this
    have hs2 : lwrS r (l.steps.take (i + 1)) = lwrS r (l.steps.take i) ++ if decide (q < r) = true then [x] else [] := by have := filt_succ (fun z : Stp => decide (rkI z.num < r)) hx; simp only [hq] at this; exact this
    have hol : (offS r (l.steps.take i)).length ≤ 60 := Nat.le_trans (List.length_filter_le _ _) (by rw [List.length_take]; omega)
    have hwl : (lwrS r (l.steps.take i)).length ≤ 60 := Nat.le_trans (List.length_filter_le _ _) (by rw [List.length_take]; omega)
    simp [NV, SLv, ladC, hlt, hli, hge, hfl, hcl, hct, stpF_fz, se0, sp0, scl, sct]
    refine call0 hLx (by simp [NV]) ?_
    rintro y H' ⟨rfl, rfl⟩
    refine ⟨.inl (by simp [NV]), le_ok rfl, ?_⟩
    simp [NV, SLv, ladC, se0, sp0]
    refine call0 hLr (by simp [NV]) ?_
    rintro y H' ⟨rfl, rfl⟩
    refine ⟨.inl (by simp [NV]), le_ok rfl, ?_⟩
    rcases Nat.lt_trichotomy q r with hqr | hqr | hqr
    · rw [if_pos (decide_eq_true (show q ≠ r by omega))] at hs1
      rw [if_pos (decide_eq_true hqr)] at hs2
      have hl1 : (offS r (l.steps.take (i + 1))).length = (offS r (l.steps.take i)).length + 1 := by rw [hs1]; simp
      have hl2 : (lwrS r (l.steps.take (i + 1))).length = (lwrS r (l.steps.take i)).length + 1 := by rw [hs2]; simp
      have hv1 : stpv (offS r (l.steps.take (i + 1))) = stpv (offS r (l.steps.take i)) ++ [stpF x] := by rw [hs1]; simp [stpv]
      have w3 : IntKind.i64.wrap (((lwrS r (l.steps.take i)).length : Int) + 1) = (((lwrS r (l.steps.take i)).length + 1 : Nat) : Int) := wrap_i64 (by omega) (by omega)
      simp [NV, SLv, ladC, hqr, w2, w3, hcn, hcl, hct, hfl, -Int.natCast_add]
      refine ⟨by omega, ?_⟩
      exact round (i + 1) [0, 1, 2, 308] (by omega) (by omega) (by simp [NV, SLv, hl1, hl2]) (by simp [ladC, hv1]) (by simp [ladC]) (by simp) (by simp)
    · subst hqr
      rw [if_neg (by simp), List.append_nil] at hs1 hs2
      simp [NV, SLv, ladC, hcn, se0, sp0]
      refine call0 hLx (by simp [NV]) ?_
      rintro y H' ⟨rfl, rfl⟩
      refine ⟨.inl (by simp [NV]), le_ok rfl, ?_⟩
      simp [NV, SLv, ladC, hcn, se0, sp0]
      refine call0 hLr (by simp [NV]) ?_
      rintro y H' ⟨rfl, rfl⟩
      refine ⟨.inl (by simp [NV]), le_ok rfl, ?_⟩
      simp [NV, SLv, ladC, w2, hcn, -Int.natCast_add]
      exact round (i + 1) [0, 1, 2, 3] (by omega) (by omega) (by simp [NV, SLv, hs1, hs2]) (by simp [ladC, hs1]) (by simp [ladC]) (by simp) (by simp)
    · rw [if_pos (decide_eq_true (show q ≠ r by omega))] at hs1
      rw [if_neg (by simp; omega), List.append_nil] at hs2
      have hl1 : (offS r (l.steps.take (i + 1))).length = (offS r (l.steps.take i)).length + 1 := by rw [hs1]; simp
      have hv1 : stpv (offS r (l.steps.take (i + 1))) = stpv (offS r (l.steps.take i)) ++ [stpF x] := by rw [hs1]; simp [stpv]
      have nqr : ¬ q < r := by omega
      have nqe : ¬ q = r := by omega
      simp [NV, SLv, ladC, nqr, hcn, se0, sp0]
      refine call0 hLx (by simp [NV]) ?_
      rintro y H' ⟨rfl, rfl⟩
      refine ⟨.inl (by simp [NV]), le_ok rfl, ?_⟩
      simp [NV, SLv, ladC, hcn, se0, sp0]
      refine call0 hLr (by simp [NV]) ?_
      rintro y H' ⟨rfl, rfl⟩
      refine ⟨.inl (by simp [NV]), le_ok rfl, ?_⟩
      have nqe' : ¬ (q : Int) = (r : Int) := by omega
      simp [NV, SLv, ladC, nqe', nqe, w2, hcn, hcl, hct, hfl, -Int.natCast_add]
      refine ⟨by omega, ?_⟩
      exact round (i + 1) [0, 1, 2, 388] (by omega) (by omega) (by simp [NV, SLv, hl1, hs2]) (by simp [ladC, hv1]) (by simp [ladC]) (by simp) (by simp)
  · have hie : i = l.steps.length := by omega
    subst hie
    obtain ⟨Hh, hH⟩ : ∃ Hh, highS r l.steps = Hh := ⟨_, rfl⟩
    have hlow : ∀ x ∈ lwrS r l.steps, x.ok := fun x hx => hsteps x (List.mem_filter.1 hx).1
    have hoL : (offS r l.steps).length ≤ 60 := Nat.le_trans (List.length_filter_le _ _) hlen
    obtain ⟨Ll, hL⟩ : ∃ Ll, lwrS r l.steps = Ll := ⟨_, rfl⟩
    rw [hL] at hlow
    rw [hL, hH] at hoff hQ
    have hlH : Ll.length + Hh.length ≤ 60 := by rw [hoff] at hoL; simpa using hoL
    have htk : List.take Ll.length (stpv (Ll ++ Hh)) = stpv Ll := by
      unfold stpv
      rw [List.map_append]
      have e : Ll.length = (List.map stpF Ll).length := by simp
      rw [e, List.take_left]
    have hdr : List.drop Ll.length (stpv (Ll ++ Hh)) = stpv Hh := by
      unfold stpv
      rw [List.map_append]
      have e : Ll.length = (List.map stpF Ll).length := by simp
      rw [e, List.drop_left]
    have hag := Lagr_ok ⟨l.nxt, h⟩ Ll hso hlow (by omega)
    obtain ⟨S, hS⟩ : ∃ S : Stp, ⟨l.nxt, h⟩ = S := ⟨_, rfl⟩
    have hSf : stpF S = .lit (.int .i64 l.nxt) :: hf h := by rw [← hS]; rfl
    rw [hS] at scl sct hag hQ hso
    simp [NV, SLv, ladC, hoff, hL, hS, scl, sct]
    refine call0 hag (by simp [SLv, htk]) ?_
    rintro y H' ⟨rfl, rfl⟩
    refine ⟨.inr ⟨rfl, by simp⟩, le_ok rfl, ?_⟩
    cases ha2 : agrS S Ll with
    | false =>
      rw [ha2, if_pos rfl] at hQ
      rw [← hQ]
      simp [LAE, ladC, zLad, stpv, -errV_0]
      refine finW _ (weak_nlB (o := 1) (k := 1) 33 rfl rfl) ?_
      exact fin [] (by decide) rfl rfl rfl ⟨rfl, rfl⟩
    | true =>
      rw [ha2, if_neg (by simp)] at hQ
      rw [← hQ]
      have hins := InsS.ins_ok (stpv (Ll ++ Hh)) (stpF S) Ll.length (by simp) (by simp; omega)
      rw [htk, hdr] at hins
      have hv : stpv Ll ++ stpF S :: stpv Hh = stpv (Ll ++ S :: Hh) := by simp [stpv]
      rw [hv] at hins
      have w1 : IntKind.i64.wrap (l.nxt - 1) = l.nxt - 1 := wrap_i64 (by omega) (by omega)
      simp at hins
      simp [scl, sct, ladC, w1, -errV_0]
      refine ⟨stpF_len hso.sec, ?_⟩
      refine callH [3, 212] hins (by simp) (by simp) (by simp) (by simp) (by simp) ?_
      rintro y H' ⟨rfl, rfl⟩
      refine ⟨.inl (by simp), by simp, ?_⟩
      simp [-errV_0]
      refine finW _ (weak_frz (o := 228) (ty := 54) (es := 33) (xs := stpv (Ll ++ S :: Hh)) rfl) ?_
      have tt : List.take (Ll.length + Hh.length + 1) (stpv (Ll ++ S :: Hh)) = stpv (Ll ++ S :: Hh) := List.take_of_length_le (by simp; omega)
      exact fin [] (by decide) rfl rfl rfl ⟨rfl, by simp [LAE, ladC, tt, errV, -errV_0]⟩

end Go.Proofs.YtdeeophiffchjaaDoor

namespace Go.Proofs.YtdeeophiffchjaaDoor
open Go Go.EW
set_option linter.unusedSimpArgs false
set_option linter.unusedVariables false

@[simp] def l_LGet_1 (_ : Unit) : List EOp := [⟨0, (some 2), none, (.q (.box 31 (.t 0))), []⟩, ⟨1, (some 4), none, (.q (.alloc 35 zU8)), []⟩, ⟨2, (some 5), none, (.q (.mov (.k .nilIface))), []⟩]
@[simp] def b_LGet_2 (_ : Unit) : EB := reg0 (hid l_LGet_1) 3
@[simp] def l_LGet_3 (_ : Unit) : List EOp := [⟨0, (some 9), none, (.q (.lda 2 (.t 2))), []⟩, ⟨1, (some 10), none, (.call 20 [(.t 9)]), []⟩, ⟨2, (some 11), none, (.q (.un .not (.t 10))), []⟩, ⟨3, (some 8), none, (.q (.mov (.t 11))), []⟩]
@[simp] def b_LGet_4 (_ : Unit) : EB := reg0 (hid l_LGet_3) 4
@[simp] def l_LGet_5 (_ : Unit) : List EOp := [⟨0, (some 12), none, (.q (.build zU8 [])), []⟩, ⟨1, (some 13), none, (.q (.mki 52 (.k (.int .i64 1)))), []⟩, ⟨2, none, none, (.sto 32 (.t 4) (.t 12)), []⟩, ⟨3, (some 5), none, (.q (.mov (.t 13))), []⟩]
@[simp] def b_LGet_6 (_ : Unit) : EB := reg0 (hid l_LGet_5) 4
@[simp] def b_LGet_7 (_ : Unit) : EB := .seq (hid b_LGet_6) .ret
@[simp] def l_LGet_9 (_ : Unit) : List EOp := [⟨6, (some 14), none, (.q (.mov (.t 20))), []⟩]
@[simp] def l_LGet_8 (_ : Unit) : List EOp := ⟨0, (some 15), none, (.q (.mov (.t 1))), []⟩ :: ⟨1, (some 16), none, (.q (.bin .lss (.t 15) (.k (.int .i64 0)))), []⟩ :: ⟨2, (some 17), none, (.q (.mov (.t 16))), []⟩ :: ⟨3, (some 18), (some (17, false)), (.q (.mov (.t 1))), []⟩ :: ⟨4, (some 19), (some (17, false)), (.q (.bin .gtr (.t 18) (.k (.int .i64 1099511627775)))), []⟩ :: ⟨5, (some 20), none, (.q (.pick (.t 17) (.k (.bool true)) (.t 19))), []⟩ :: hid l_LGet_9
@[simp] def b_LGet_10 (_ : Unit) : EB := reg0 (hid l_LGet_8) 7
@[simp] def l_LGet_11 (_ : Unit) : List EOp := [⟨0, (some 21), none, (.q (.build zU8 [])), []⟩, ⟨1, (some 22), none, (.q (.mki 52 (.k (.int .i64 4)))), []⟩, ⟨2, none, none, (.sto 32 (.t 4) (.t 21)), []⟩, ⟨3, (some 5), none, (.q (.mov (.t 22))), []⟩]
@[simp] def b_LGet_12 (_ : Unit) : EB := reg0 (hid l_LGet_11) 4
@[simp] def b_LGet_13 (_ : Unit) : EB := .seq (hid b_LGet_12) .ret
@[simp] def b_LGet_14 (_ : Unit) : EB := .cond (.t 14) (hid b_LGet_13) .skip
@[simp] def b_LGet_15 (_ : Unit) : EB := .seq (hid b_LGet_10) (hid b_LGet_14)
@[simp] def b_LGet_16 (_ : Unit) : EB := .cond (.t 8) (hid b_LGet_7) (hid b_LGet_15)
@[simp] def b_LGet_17 (_ : Unit) : EB := .seq (hid b_LGet_4) (hid b_LGet_16)
@[simp] def b_LGet_18 (_ : Unit) : EB := .block 0 (hid b_LGet_17)
@[simp] def l_LGet_19 (_ : Unit) : List EOp := [⟨0, (some 23), none, (.q (.mov (.t 1))), []⟩, ⟨1, (some 24), none, (.q (.fad 0 (.t 2))), []⟩, ⟨2, (some 25), none, (.q (.ldc (.t 24))), []⟩, ⟨3, (some 26), none, (.q (.bin .gtr (.t 23) (.t 25))), []⟩]
@[simp] def b_LGet_20 (_ : Unit) : EB := reg0 (hid l_LGet_19) 4
@[simp] def l_LGet_21 (_ : Unit) : List EOp := [⟨0, (some 27), none, (.q (.fad 1 (.t 2))), []⟩, ⟨1, (some 28), none, (.q (.ldc (.t 27))), []⟩, ⟨2, (some 29), none, (.q (.len (.t 28))), []⟩, ⟨3, (some 30), none, (.q (.mov (.k (.int .i64 0)))), []⟩]
@[simp] def b_LGet_22 (_ : Unit) : EB := reg0 (hid l_LGet_21) 4
@[simp] def l_LGet_23 (_ : Unit) : List EOp := [⟨0, (some 31), none, (.q (.bin .lss (.t 30) (.t 29))), []⟩]
@[simp] def b_LGet_24 (_ : Unit) : EB := reg0 (hid l_LGet_23) 1
@[simp] def b_LGet_25 (_ : Unit) : EB := .cond (.t 31) .skip (.exit 1)
@[simp] def l_LGet_26 (_ : Unit) : List EOp := [⟨0, (some 32), none, (.q (.isl 33 (.t 28) (.t 30))), []⟩, ⟨1, (some 33), none, (.q (.lda 33 (.t 32))), []⟩, ⟨2, (some 7), none, (.q (.alloc 54 (([(.int .i64 0)] : List Value) ++ zU8))), []⟩, ⟨3, none, none, (.sto 33 (.t 7) (.t 33)), []⟩]
@[simp] def b_LGet_27 (_ : Unit) : EB := reg0 (hid l_LGet_26) 4
@[simp] def l_LGet_28 (_ : Unit) : List EOp := [⟨0, (some 34), none, (.q (.lda 33 (.t 7))), []⟩, ⟨1, (some 35), none, (.q (.mov (.t 1))), []⟩, ⟨2, (some 36), none, (.call 30 [(.t 34), (.t 35)]), []⟩]
@[simp] def b_LGet_29 (_ : Unit) : EB := reg0 (hid l_LGet_28) 3
@[simp] def l_LGet_30 (_ : Unit) : List EOp := [⟨0, (some 37), none, (.q (.lda 33 (.t 7))), []⟩, ⟨1, (some 38), none, (.q (.mov (.t 1))), []⟩, ⟨2, (some 39), none, (.call 31 [(.t 37), (.t 38)]), []⟩, ⟨3, none, none, (.sto 32 (.t 4) (.t 39)), []⟩, ⟨4, (some 5), none, (.q (.mov (.k .nilIface))), []⟩]
@[simp] def b_LGet_31 (_ : Unit) : EB := reg0 (hid l_LGet_30) 5
@[simp] def b_LGet_32 (_ : Unit) : EB := .seq (hid b_LGet_31) .ret
@[simp] def b_LGet_33 (_ : Unit) : EB := .cond (.t 36) (hid b_LGet_32) .skip
@[simp] def b_LGet_34 (_ : Unit) : EB := .seq (hid b_LGet_29) (hid b_LGet_33)
@[simp] def b_LGet_35 (_ : Unit) : EB := .seq (hid b_LGet_27) (hid b_LGet_34)
@[simp] def b_LGet_36 (_ : Unit) : EB := .block 2 (hid b_LGet_35)
@[simp] def l_LGet_37 (_ : Unit) : List EOp := [⟨0, (some 40), none, (.q (.bin .add (.t 30) (.k (.int .i64 1)))), []⟩, ⟨1, (some 30), none, (.q (.mov (.t 40))), []⟩]
@[simp] def b_LGet_38 (_ : Unit) : EB := reg0 (hid l_LGet_37) 2
@[simp] def b_LGet_39 (_ : Unit) : EB := .seq (hid b_LGet_36) (hid b_LGet_38)
@[simp] def b_LGet_40 (_ : Unit) : EB := .seq (hid b_LGet_25) (hid b_LGet_39)
@[simp] def b_LGet_41 (_ : Unit) : EB := .seq (hid b_LGet_24) (hid b_LGet_40)
@[simp] def b_LGet_42 (_ : Unit) : EB := .loop (hid b_LGet_41)
@[simp] def b_LGet_43 (_ : Unit) : EB := .block 1 (hid b_LGet_42)
@[simp] def b_LGet_44 (_ : Unit) : EB := .seq (hid b_LGet_22) (hid b_LGet_43)
@[simp] def b_LGet_45 (_ : Unit) : EB := .cond (.t 26) (hid b_LGet_44) .skip
@[simp] def b_LGet_46 (_ : Unit) : EB := .seq (hid b_LGet_20) (hid b_LGet_45)
@[simp] def l_LGet_47 (_ : Unit) : List EOp := [⟨0, (some 41), none, (.q (.build zU8 [])), []⟩, ⟨1, (some 42), none, (.q (.mki 52 (.k (.int .i64 8)))), []⟩, ⟨2, none, none, (.sto 32 (.t 4) (.t 41)), []⟩, ⟨3, (some 5), none, (.q (.mov (.t 42))), []⟩]
@[simp] def b_LGet_48 (_ : Unit) : EB := reg0 (hid l_LGet_47) 4
@[simp] def b_LGet_49 (_ : Unit) : EB := .seq (hid b_LGet_48) .ret
@[simp] def b_LGet_50 (_ : Unit) : EB := .seq (hid b_LGet_46) (hid b_LGet_49)
@[simp] def b_LGet_51 (_ : Unit) : EB := .seq (hid b_LGet_18) (hid b_LGet_50)
@[simp] def b_LGet_52 (_ : Unit) : EB := .seq (hid b_LGet_2) (hid b_LGet_51)
def c_LGet : EB × List QOp × Nat := ((hid b_LGet_52), [(.lda 32 (.t 4)), (.mov (.t 5))], 43)
theorem k_LGet : cfun Tryd.prog 17 = some c_LGet := by kernel_rfl


@[simp] theorem errV_8' : Value.iface 52 (.int .i64 8) = errV 8 := rfl
def HE (q : List UInt8 × Nat) : EV := .tup [.agg (hc q.1), .c (.fz (.lit (errV q.2)))]
def RHE (q : List UInt8 × Nat) : EV := .tup [.agg (hc q.1), .c (.fz (.lit (.int .i64 q.2)))]
theorem rep_hz : List.replicate 32 (0 : UInt8) = hz := rfl
theorem getA_at {n : Nat} : ∀ {l : List Stp} {i : Nat} {s : Stp}, (∀ (k : Nat) (x : Stp), k < i → l[k]? = some x → mkS x n = false) → l[i]? = some s → mkS s n = true → getA n l = some (ofS s n)
  | [], i, s, _, hi, _ => by simp at hi
  | a :: r, 0, s, _, hi, e => by
    simp only [List.getElem?_cons_zero, Option.some.injEq] at hi
    subst hi
    simp [getA, e]
  | a :: r, i + 1, s, h, hi, e => by
    have h0 := h 0 a (Nat.succ_pos i) (by simp)
    unfold getA
    rw [if_neg (by rw [h0]; simp)]
    exact getA_at (i := i) (fun k x hk hx => h (k + 1) x (by omega) (by simpa using hx)) (by simpa using hi) e
theorem getA_no {n : Nat} : ∀ {l : List Stp}, (∀ (k : Nat) (x : Stp), l[k]? = some x → mkS x n = false) → getA n l = none
  | [], _ => rfl
  | a :: r, h => by
    unfold getA
    rw [if_neg (by rw [h 0 a (by simp)]; simp)]
    exact getA_no fun k x hx => h (k + 1) x (by simpa using hx)

set_option maxHeartbeats 8000000 in
theorem LGet_ok (l : Lad) (n : Int) (hl : l.ok) (hn : -9223372036854775808 ≤ n ∧ n ≤ 9223372036854775807) : ECalls Tryd.prog 17 [LV l, NV n] [] fun y H' => H' = [] ∧ y = HE (getL l n) := by
  obtain ⟨⟨nx0, nx1⟩, hst, hlen⟩ := id hl
  have hcn : hc [] = [] := rfl
  refine ecalls k_LGet ?_
  simp [c_LGet, LV, ladC, NV, -errV_0]
  refine call0 (Lmay_ok l hl) (by simp [LV, ladC]) ?_
  rintro y H' ⟨rfl, rfl⟩
  refine ⟨.inl (by simp), le_ok rfl, ?_⟩
  by_cases hm : mayL l
  rotate_left
  · have ha : getL l n = (hz, 1) := by unfold getL; rw [if_pos hm, rep_hz]
    rw [ha, mayB_f hm]
    simp [HE, -errV_0]
    exact fin [] (by decide) rfl rfl rfl ⟨rfl, rfl⟩
  rw [mayB_t hm]
  by_cases h0 : n < 0
  · have h0' : ¬ 0 ≤ n := by omega
    have ha : getL l n = (hz, 4) := by unfold getL; rw [if_neg (fun q => q hm), if_pos (.inl h0), rep_hz]
    rw [ha]
    simp [HE, h0, h0', -errV_0]
    exact fin [] (by decide) rfl rfl rfl ⟨rfl, rfl⟩
  have h0' : 0 ≤ n := by omega
  by_cases h1 : 1099511627775 < n
  · have ha : getL l n = (hz, 4) := by unfold getL; rw [if_neg (fun q => q hm), if_pos (.inr h1), rep_hz]
    rw [ha]
    simp [HE, h0, h0', h1, -errV_0]
    exact fin [] (by decide) rfl rfl rfl ⟨rfl, rfl⟩
  have h1' : n ≤ 1099511627775 := by omega
  by_cases h2 : n ≤ l.nxt
  · have h2' : ¬ l.nxt < n := by omega
    have ha : getL l n = (hz, 8) := by unfold getL; rw [if_neg (fun q => q hm), if_neg (by omega), if_pos h2, rep_hz]
    rw [ha]
    simp [HE, h0, h0', h1, h1', h2, h2', -errV_0]
    exact fin [] (by decide) rfl rfl rfl ⟨rfl, rfl⟩
  have h2' : l.nxt < n := by omega
  obtain ⟨b, hb⟩ : ∃ b : Nat, n.toNat = b := ⟨_, rfl⟩
  have hbn : n = (b : Int) := by omega
  have hg : getL l n = match getA b l.steps with
    | some h => (h, 0)
    | none => (hz, 8) := by
    unfold getL
    rw [if_neg (fun q => q hm), if_neg (by omega), if_neg h2, hb, rep_hz]
    rfl
  rw [hg]
  have hsteps := may_ok' hl hm
  subst hbn
  obtain ⟨Q, hQ⟩ : ∃ Q, (match getA b l.steps with
    | some h => (h, 0)
    | none => (hz, 8)) = Q := ⟨_, rfl⟩
  rw [hQ]
  simp [h0, h0', h1, h1', h2, h2', -errV_0]
  refine eloop (α := Nat) (fun i => i ≤ l.steps.length ∧ ∀ (k : Nat) (x : Stp), k < i → l.steps[k]? = some x → mkS x b = false) (fun i => l.steps.length - i)
    (fun i => [.any, NV b, .any, .any, .v (.c (.ptr 0 0)), .any, .any, .any, .any, .any, .any, .any, .any, .any, .any, .any, .any, .any, .any, .any, .any, .any, .any, .any, .any, .any, .any, .any, SLv l.steps, NV l.steps.length, NV i, .any, .any, .any, .any, .any, .any, .any, .any, .any, .any, .any, .any]) (fun _ => [some (.box 35 (hc hz))]) 0 [16]
    ⟨Nat.zero_le _, fun k x h => by omega⟩ (by simp [NV, SLv]) (by simp) (by simp) (by simp) (by simp) ?_
  rintro i ⟨hi, hno⟩
  by_cases hlt : i < l.steps.length
  · have hli : (i : Int) < (l.steps.length : Int) := by omega
    obtain ⟨x, hx⟩ : ∃ x, l.steps[i]? = some x := ⟨l.steps[i], by simp [hlt]⟩
    have hge : (stpv l.steps)[i]'(by simp [hlt]) = stpF x := by
      have e := stpv_get hx
      rw [List.getElem?_eq_getElem (by simp [hlt])] at e
      exact Option.some.inj e
    have hxo := hsteps x (List.mem_of_getElem? hx)
    have hx32 := hxo.sec
    have hfl := stpF_len hx32
    have hcl := stpC_len hx32
    have hct := stpC_take hx32
    have hmk := Lmk_ok x b hxo (by omega)
    have hof := Lof_ok x b hxo (by omega)
    have w2 : IntKind.i64.wrap ((i : Int) + 1) = ((i + 1 : Nat) : Int) := wrap_i64 (by omega) (by omega)
    have hol : (ofS x b).length = 32 := by unfold ofS; exact clS_len _ _ _ hx32
    simp [NV, SLv, hlt, hli, hge, hfl, hcl, hct, stpF_fz, hcn]
    refine call0 hmk (by simp [NV]) ?_
    rintro y H' ⟨rfl, rfl⟩
    refine ⟨.inl (by simp), le_ok rfl, ?_⟩
    cases hM : mkS x b with
    | true =>
      have hgA := getA_at hno hx hM
      rw [hgA] at hQ
      obtain ⟨O, hO⟩ : ∃ O, ofS x b = O := ⟨_, rfl⟩
      rw [hO] at hof hol hQ
      dsimp only at hQ
      rw [← hQ]
      have tO : List.take 32 O = O := List.take_of_length_le (by omega)
      simp [NV, hcl, hct, hcn, -errV_0]
      refine call0 hof (by simp [NV]) ?_
      rintro y H' ⟨rfl, rfl⟩
      refine ⟨.inl (by simp [HV]), le_ok rfl, ?_⟩
      simp [HV, HE, hol, tO, hcn, -errV_0]
      exact fin [] (by decide) (v := .tup [.agg (hc O), .c (.fz (.lit (errV 0)))]) (by simp [resV, resT, evT, asT, fzEO, tO, hol]) (by simp [conR, conTs, conT, tO, hol]) rfl ⟨rfl, rfl⟩
    | false =>
      simp [NV, w2, -Int.natCast_add, -errV_0]
      refine round (i + 1) [0] ⟨by omega, ?_⟩ (by omega) (by simp [NV, SLv]) (by simp) (by simp) (by simp) (by simp)
      intro k z hk hz'
      rcases Nat.lt_or_ge k i with h3 | h3
      · exact hno k z h3 hz'
      · obtain rfl : k = i := by omega
        rw [hx] at hz'
        cases hz'
        exact hM
  · have hie : i = l.steps.length := by omega
    subst hie
    have hgA : getA b l.steps = none := getA_no fun k x hx => hno k x (lt_len hx) hx
    rw [hgA] at hQ
    dsimp only at hQ
    rw [← hQ]
    simp [NV, SLv, HE, hcn, -errV_0]
    exact fin [] (by decide) rfl rfl rfl ⟨rfl, rfl⟩

end Go.Proofs.YtdeeophiffchjaaDoor

namespace Go.Proofs.YtdeeophiffchjaaDoor
open Go Go.EW
set_option linter.unusedSimpArgs false
set_option linter.unusedVariables false

@[simp] def l_RGet_1 (_ : Unit) : List EOp := [⟨0, (some 2), none, (.q (.box 24 (.t 0))), []⟩, ⟨1, (some 4), none, (.q (.alloc 35 zU8)), []⟩, ⟨2, (some 5), none, (.q (.mov (.k (.int .i64 0)))), []⟩]
@[simp] def b_RGet_2 (_ : Unit) : EB := reg0 (hid l_RGet_1) 3
@[simp] def l_RGet_3 (_ : Unit) : List EOp := [⟨0, (some 9), none, (.q (.lda 2 (.t 2))), []⟩, ⟨1, (some 10), none, (.call 10 [(.t 9)]), []⟩, ⟨2, (some 11), none, (.q (.un .not (.t 10))), []⟩]
@[simp] def b_RGet_4 (_ : Unit) : EB := reg0 (hid l_RGet_3) 3
@[simp] def l_RGet_5 (_ : Unit) : List EOp := [⟨0, (some 12), none, (.q (.build zU8 [])), []⟩, ⟨1, none, none, (.sto 32 (.t 4) (.t 12)), []⟩, ⟨2, (some 5), none, (.q (.mov (.k (.int .i64 1)))), []⟩]
@[simp] def b_RGet_6 (_ : Unit) : EB := reg0 (hid l_RGet_5) 3
@[simp] def b_RGet_7 (_ : Unit) : EB := .seq (hid b_RGet_6) .ret
@[simp] def b_RGet_8 (_ : Unit) : EB := .cond (.t 11) (hid b_RGet_7) .skip
@[simp] def b_RGet_9 (_ : Unit) : EB := .seq (hid b_RGet_4) (hid b_RGet_8)
@[simp] def l_RGet_10 (_ : Unit) : List EOp := [⟨0, (some 13), none, (.q (.mov (.t 1))), []⟩, ⟨1, (some 14), none, (.q (.bin .lss (.t 13) (.k (.int .i64 0)))), []⟩, ⟨2, (some 15), none, (.q (.mov (.t 14))), []⟩, ⟨3, (some 16), (some (15, false)), (.q (.mov (.t 1))), []⟩, ⟨4, (some 17), (some (15, false)), (.q (.bin .gtr (.t 16) (.k (.int .i64 1099511627775)))), []⟩, ⟨5, (some 18), none, (.q (.pick (.t 15) (.k (.bool true)) (.t 17))), []⟩]
@[simp] def b_RGet_11 (_ : Unit) : EB := reg0 (hid l_RGet_10) 6
@[simp] def l_RGet_12 (_ : Unit) : List EOp := [⟨0, (some 19), none, (.q (.build zU8 [])), []⟩, ⟨1, none, none, (.sto 32 (.t 4) (.t 19)), []⟩, ⟨2, (some 5), none, (.q (.mov (.k (.int .i64 4)))), []⟩]
@[simp] def b_RGet_13 (_ : Unit) : EB := reg0 (hid l_RGet_12) 3
@[simp] def b_RGet_14 (_ : Unit) : EB := .seq (hid b_RGet_13) .ret
@[simp] def b_RGet_15 (_ : Unit) : EB := .cond (.t 18) (hid b_RGet_14) .skip
@[simp] def b_RGet_16 (_ : Unit) : EB := .seq (hid b_RGet_11) (hid b_RGet_15)
@[simp] def l_RGet_17 (_ : Unit) : List EOp := [⟨0, (some 6), none, (.q (.mov (.k (.int .i64 0)))), []⟩]
@[simp] def b_RGet_18 (_ : Unit) : EB := reg0 (hid l_RGet_17) 1
@[simp] def l_RGet_20 (_ : Unit) : List EOp := [⟨6, (some 26), (some (25, true)), (.q (.mov (.t 1))), []⟩, ⟨7, (some 27), (some (25, true)), (.q (.fad 0 (.t 2))), []⟩, ⟨8, (some 28), (some (25, true)), (.q (.ldc (.t 27))), []⟩, ⟨9, (some 29), (some (25, true)), (.q (.bin .gtr (.t 26) (.t 28))), []⟩, ⟨10, (some 30), none, (.q (.pick (.t 25) (.t 29) (.k (.bool false)))), []⟩]
@[simp] def l_RGet_19 (_ : Unit) : List EOp := ⟨0, (some 20), none, (.q (.mov (.t 6))), []⟩ :: ⟨1, (some 21), none, (.q (.fad 1 (.t 2))), []⟩ :: ⟨2, (some 22), none, (.q (.ldc (.t 21))), []⟩ :: ⟨3, (some 23), none, (.q (.len (.t 22))), []⟩ :: ⟨4, (some 24), none, (.q (.bin .lss (.t 20) (.t 23))), []⟩ :: ⟨5, (some 25), none, (.q (.mov (.t 24))), []⟩ :: hid l_RGet_20
@[simp] def b_RGet_21 (_ : Unit) : EB := reg0 (hid l_RGet_19) 11
@[simp] def b_RGet_22 (_ : Unit) : EB := .cond (.t 30) .skip (.exit 0)
@[simp] def b_RGet_23 (_ : Unit) : EB := .seq (hid b_RGet_21) (hid b_RGet_22)
@[simp] def l_RGet_26 (_ : Unit) : List EOp := [⟨12, (some 8), none, (.q (.mov (.t 42))), []⟩]
@[simp] def l_RGet_25 (_ : Unit) : List EOp := ⟨6, (some 40), none, (.call 22 [(.t 38), (.t 39)]), []⟩ :: ⟨7, (some 33), none, (.q (.mov (.t 40))), []⟩ :: ⟨8, (some 41), none, (.q (.ext 0 (.t 33))), []⟩ :: ⟨9, (some 42), none, (.q (.ext 1 (.t 33))), []⟩ :: ⟨10, (some 7), none, (.q (.alloc 35 zU8)), []⟩ :: ⟨11, none, none, (.sto 32 (.t 7) (.t 41)), []⟩ :: hid l_RGet_26
@[simp] def l_RGet_24 (_ : Unit) : List EOp := ⟨0, (some 34), none, (.q (.fad 1 (.t 2))), []⟩ :: ⟨1, (some 35), none, (.q (.ldc (.t 34))), []⟩ :: ⟨2, (some 36), none, (.q (.mov (.t 6))), []⟩ :: ⟨3, (some 37), none, (.q (.isl 33 (.t 35) (.t 36))), []⟩ :: ⟨4, (some 38), none, (.q (.lda 33 (.t 37))), []⟩ :: ⟨5, (some 39), none, (.q (.mov (.t 1))), []⟩ :: hid l_RGet_25
@[simp] def b_RGet_27 (_ : Unit) : EB := reg0 (hid l_RGet_24) 13
@[simp] def l_RGet_28 (_ : Unit) : List EOp := [⟨0, (some 43), none, (.q (.mov (.t 8))), []⟩]
@[simp] def b_RGet_29 (_ : Unit) : EB := reg0 (hid l_RGet_28) 1
@[simp] def l_RGet_30 (_ : Unit) : List EOp := [⟨0, (some 44), none, (.q (.lda 32 (.t 7))), []⟩, ⟨1, none, none, (.sto 32 (.t 4) (.t 44)), []⟩, ⟨2, (some 5), none, (.q (.mov (.k (.int .i64 0)))), []⟩]
@[simp] def b_RGet_31 (_ : Unit) : EB := reg0 (hid l_RGet_30) 3
@[simp] def b_RGet_32 (_ : Unit) : EB := .seq (hid b_RGet_31) .ret
@[simp] def b_RGet_33 (_ : Unit) : EB := .cond (.t 43) (hid b_RGet_32) .skip
@[simp] def b_RGet_34 (_ : Unit) : EB := .seq (hid b_RGet_29) (hid b_RGet_33)
@[simp] def b_RGet_35 (_ : Unit) : EB := .seq (hid b_RGet_27) (hid b_RGet_34)
@[simp] def b_RGet_36 (_ : Unit) : EB := .block 1 (hid b_RGet_35)
@[simp] def l_RGet_37 (_ : Unit) : List EOp := [⟨0, (some 31), none, (.q (.mov (.t 6))), []⟩, ⟨1, (some 32), none, (.q (.bin .add (.t 31) (.k (.int .i64 1)))), []⟩, ⟨2, (some 6), none, (.q (.mov (.t 32))), []⟩]
@[simp] def b_RGet_38 (_ : Unit) : EB := reg0 (hid l_RGet_37) 3
@[simp] def b_RGet_39 (_ : Unit) : EB := .seq (hid b_RGet_36) (hid b_RGet_38)
@[simp] def b_RGet_40 (_ : Unit) : EB := .seq (hid b_RGet_23) (hid b_RGet_39)
@[simp] def b_RGet_41 (_ : Unit) : EB := .loop (hid b_RGet_40)
@[simp] def b_RGet_42 (_ : Unit) : EB := .block 0 (hid b_RGet_41)
@[simp] def b_RGet_43 (_ : Unit) : EB := .seq (hid b_RGet_18) (hid b_RGet_42)
@[simp] def l_RGet_44 (_ : Unit) : List EOp := [⟨0, (some 45), none, (.q (.build zU8 [])), []⟩, ⟨1, none, none, (.sto 32 (.t 4) (.t 45)), []⟩, ⟨2, (some 5), none, (.q (.mov (.k (.int .i64 8)))), []⟩]
@[simp] def b_RGet_45 (_ : Unit) : EB := reg0 (hid l_RGet_44) 3
@[simp] def b_RGet_46 (_ : Unit) : EB := .seq (hid b_RGet_45) .ret
@[simp] def b_RGet_47 (_ : Unit) : EB := .seq (hid b_RGet_43) (hid b_RGet_46)
@[simp] def b_RGet_48 (_ : Unit) : EB := .seq (hid b_RGet_16) (hid b_RGet_47)
@[simp] def b_RGet_49 (_ : Unit) : EB := .seq (hid b_RGet_9) (hid b_RGet_48)
@[simp] def b_RGet_50 (_ : Unit) : EB := .seq (hid b_RGet_2) (hid b_RGet_49)
def c_RGet : EB × List QOp × Nat := ((hid b_RGet_50), [(.lda 32 (.t 4)), (.mov (.t 5))], 46)
theorem k_RGet : cfun Tryd.prog 18 = some c_RGet := by kernel_rfl

@[simp] def l_give_1 (_ : Unit) : List EOp := [⟨0, (some 1), none, (.q (.box 24 (.t 0))), []⟩, ⟨1, (some 2), none, (.q (.alloc 31 [(.int .i64 0), (.slice none 0 0)])), []⟩]
@[simp] def b_give_2 (_ : Unit) : EB := reg0 (hid l_give_1) 2
@[simp] def l_give_3 (_ : Unit) : List EOp := [⟨0, (some 5), none, (.q (.fad 0 (.t 1))), []⟩, ⟨1, (some 6), none, (.q (.ldc (.t 5))), []⟩, ⟨2, (some 7), none, (.q (.build [(.int .i64 0), (.slice none 0 0)] [(0, 1, (.t 6))])), []⟩, ⟨3, (some 3), none, (.q (.alloc 31 [(.int .i64 0), (.slice none 0 0)])), []⟩, ⟨4, none, none, (.fz (.sto 2 (.t 3) (.t 7))), []⟩]
@[simp] def b_give_4 (_ : Unit) : EB := reg0 (hid l_give_3) 5
@[simp] def l_give_5 (_ : Unit) : List EOp := [⟨0, (some 4), none, (.q (.mov (.k (.int .i64 0)))), []⟩]
@[simp] def b_give_6 (_ : Unit) : EB := reg0 (hid l_give_5) 1
@[simp] def l_give_7 (_ : Unit) : List EOp := [⟨0, (some 8), none, (.q (.mov (.t 4))), []⟩, ⟨1, (some 9), none, (.q (.fad 1 (.t 1))), []⟩, ⟨2, (some 10), none, (.q (.ldc (.t 9))), []⟩, ⟨3, (some 11), none, (.q (.len (.t 10))), []⟩, ⟨4, (some 12), none, (.q (.bin .lss (.t 8) (.t 11))), []⟩]
@[simp] def b_give_8 (_ : Unit) : EB := reg0 (hid l_give_7) 5
@[simp] def b_give_9 (_ : Unit) : EB := .cond (.t 12) .skip (.exit 0)
@[simp] def b_give_10 (_ : Unit) : EB := .seq (hid b_give_8) (hid b_give_9)
@[simp] def l_give_12 (_ : Unit) : List EOp := [⟨6, (some 21), none, (.q (.lda 33 (.t 20))), []⟩, ⟨7, (some 22), none, (.q (.bsl 33 (([(.int .i64 0)] : List Value) ++ zU8) 1 [(0, (.t 21))])), []⟩, ⟨8, (some 23), none, (.app 54 33 40 (.t 16) (.t 22)), []⟩, ⟨9, (some 24), none, (.q (.fad 1 (.t 3))), []⟩, ⟨10, none, none, (.fz (.sto 1 (.t 24) (.t 23))), []⟩]
@[simp] def l_give_11 (_ : Unit) : List EOp := ⟨0, (some 15), none, (.q (.fad 1 (.t 3))), []⟩ :: ⟨1, (some 16), none, (.q (.ldc (.t 15))), []⟩ :: ⟨2, (some 17), none, (.q (.fad 1 (.t 1))), []⟩ :: ⟨3, (some 18), none, (.q (.ldc (.t 17))), []⟩ :: ⟨4, (some 19), none, (.q (.mov (.t 4))), []⟩ :: ⟨5, (some 20), none, (.q (.isl 33 (.t 18) (.t 19))), []⟩ :: hid l_give_12
@[simp] def b_give_13 (_ : Unit) : EB := reg0 (hid l_give_11) 11
@[simp] def b_give_14 (_ : Unit) : EB := .block 1 (hid b_give_13)
@[simp] def l_give_15 (_ : Unit) : List EOp := [⟨0, (some 13), none, (.q (.mov (.t 4))), []⟩, ⟨1, (some 14), none, (.q (.bin .add (.t 13) (.k (.int .i64 1)))), []⟩, ⟨2, (some 4), none, (.q (.mov (.t 14))), []⟩]
@[simp] def b_give_16 (_ : Unit) : EB := reg0 (hid l_give_15) 3
@[simp] def b_give_17 (_ : Unit) : EB := .seq (hid b_give_14) (hid b_give_16)
@[simp] def b_give_18 (_ : Unit) : EB := .seq (hid b_give_10) (hid b_give_17)
@[simp] def b_give_19 (_ : Unit) : EB := .loop (hid b_give_18)
@[simp] def b_give_20 (_ : Unit) : EB := .block 0 (hid b_give_19)
@[simp] def b_give_21 (_ : Unit) : EB := .seq (hid b_give_6) (hid b_give_20)
@[simp] def l_give_22 (_ : Unit) : List EOp := [⟨0, (some 25), none, (.q (.lda 2 (.t 3))), []⟩, ⟨1, none, none, (.fz (.sto 2 (.t 2) (.t 25))), []⟩]
@[simp] def b_give_23 (_ : Unit) : EB := reg0 (hid l_give_22) 2
@[simp] def b_give_24 (_ : Unit) : EB := .seq (hid b_give_23) .ret
@[simp] def b_give_25 (_ : Unit) : EB := .seq (hid b_give_21) (hid b_give_24)
@[simp] def b_give_26 (_ : Unit) : EB := .seq (hid b_give_4) (hid b_give_25)
@[simp] def b_give_27 (_ : Unit) : EB := .seq (hid b_give_2) (hid b_give_26)
def c_give : EB × List QOp × Nat := ((hid b_give_27), [(.lda 2 (.t 2))], 26)
theorem k_give : cfun Tryd.prog 9 = some c_give := by kernel_rfl


set_option maxHeartbeats 8000000 in
theorem RGet_ok (l : Lad) (n : Int) (hl : l.ok) (hn : -9223372036854775808 ≤ n ∧ n ≤ 9223372036854775807) : ECalls Tryd.prog 18 [LV l, NV n] [] fun y H' => H' = [] ∧ y = RHE (getL l n) := by
  obtain ⟨⟨nx0, nx1⟩, hst, hlen⟩ := id hl
  have hcn : hc [] = [] := rfl
  refine ecalls k_RGet ?_
  simp [c_RGet, LV, ladC, NV]
  refine call0 (RMay_ok l hl) (by simp [LV, ladC]) ?_
  rintro y H' ⟨rfl, rfl⟩
  refine ⟨.inl (by simp), le_ok rfl, ?_⟩
  by_cases hm : mayL l
  rotate_left
  · have ha : getL l n = (hz, 1) := by unfold getL; rw [if_pos hm, rep_hz]
    rw [ha, mayB_f hm]
    simp [RHE]
    exact fin [] (by decide) rfl rfl rfl ⟨rfl, rfl⟩
  rw [mayB_t hm]
  by_cases h0 : n < 0
  · have h0' : ¬ 0 ≤ n := by omega
    have ha : getL l n = (hz, 4) := by unfold getL; rw [if_neg (fun q => q hm), if_pos (.inl h0), rep_hz]
    rw [ha]
    simp [RHE, h0, h0']
    exact fin [] (by decide) rfl rfl rfl ⟨rfl, rfl⟩
  have h0' : 0 ≤ n := by omega
  by_cases h1 : 1099511627775 < n
  · have ha : getL l n = (hz, 4) := by unfold getL; rw [if_neg (fun q => q hm), if_pos (.inr h1), rep_hz]
    rw [ha]
    simp [RHE, h0, h0', h1]
    exact fin [] (by decide) rfl rfl rfl ⟨rfl, rfl⟩
  have h1' : n ≤ 1099511627775 := by omega
  obtain ⟨b, hb⟩ : ∃ b : Nat, n.toNat = b := ⟨_, rfl⟩
  have hbn : n = (b : Int) := by omega
  have hg : getL l n = if n ≤ l.nxt then (hz, 8) else match getA b l.steps with
    | some h => (h, 0)
    | none => (hz, 8) := by
    unfold getL
    rw [if_neg (fun q => q hm), if_neg (by omega), hb, rep_hz]
    rfl
  rw [hg]
  have hsteps := may_ok' hl hm
  subst hbn
  obtain ⟨Q, hQ⟩ : ∃ Q, (if (b : Int) ≤ l.nxt then (hz, 8) else match getA b l.steps with
    | some h => (h, 0)
    | none => (hz, 8)) = Q := ⟨_, rfl⟩
  rw [hQ]
  simp [h0, h0', h1, h1']
  refine eloop (α := Nat) (fun i => i ≤ l.steps.length ∧ ∀ (k : Nat) (x : Stp), k < i → l.steps[k]? = some x → mkS x b = false) (fun i => l.steps.length - i)
    (fun i => [.any, NV b, .v (.c (.ptr 0 0)), .any, .v (.c (.ptr 1 0)), .any, NV i, .any, .any, .any, .any, .any, .any, .any, .any, .any, .any, .any, .any, .any, .any, .any, .any, .any, .any, .any, .any, .any, .any, .any, .any, .any, .any, .any, .any, .any, .any, .any, .any, .any, .any, .any, .any, .any, .any, .any]) (fun _ => [some (.box 24 (ladC l)), some (.box 35 (hc hz))]) 0 [0, 16]
    ⟨Nat.zero_le _, fun k x h => by omega⟩ (by simp [NV]) (by simp [ladC]) (by simp [ladC]) (by simp) (by simp) ?_
  rintro i ⟨hi, hno⟩
  by_cases hlt : i < l.steps.length
  rotate_left
  · have hie : i = l.steps.length := by omega
    subst hie
    have hgA : getA b l.steps = none := getA_no fun k x hx => hno k x (lt_len hx) hx
    have hQ8 : Q = (hz, 8) := by rw [← hQ, hgA]; split <;> rfl
    rw [hQ8]
    simp [NV, ladC, RHE, hcn]
    exact fin [] (by decide) rfl rfl rfl ⟨rfl, rfl⟩
  have hli : (i : Int) < (l.steps.length : Int) := by omega
  by_cases h2 : (b : Int) ≤ l.nxt
  · have h2' : ¬ l.nxt < (b : Int) := by omega
    have hQ8 : Q = (hz, 8) := by rw [← hQ, if_pos h2]
    rw [hQ8]
    simp [NV, ladC, RHE, hcn, hlt, hli, h2, h2']
    exact fin [] (by decide) rfl rfl rfl ⟨rfl, rfl⟩
  have h2' : l.nxt < (b : Int) := by omega
  rw [if_neg h2] at hQ
  obtain ⟨x, hx⟩ : ∃ x, l.steps[i]? = some x := ⟨l.steps[i], by simp [hlt]⟩
  have hge : (stpv l.steps)[i]'(by simp [hlt]) = stpF x := by
    have e := stpv_get hx
    rw [List.getElem?_eq_getElem (by simp [hlt])] at e
    exact Option.some.inj e
  have hxo := hsteps x (List.mem_of_getElem? hx)
  have hx32 := hxo.sec
  have hfl := stpF_len hx32
  have hcl := stpC_len hx32
  have hct := stpC_take hx32
  have hmk := RMk_ok x b hxo (by omega)
  have w2 : IntKind.i64.wrap ((i : Int) + 1) = ((i + 1 : Nat) : Int) := wrap_i64 (by omega) (by omega)
  have hol : (ofS x b).length = 32 := by unfold ofS; exact clS_len _ _ _ hx32
  simp [NV, ladC, hlt, hli, h2, h2', hge, hfl, hcl, hct, stpF_fz, hcn]
  cases hM : mkS x b with
  | true =>
    rw [hM, if_pos rfl] at hmk
    have hgA := getA_at hno hx hM
    rw [hgA] at hQ
    obtain ⟨O, hO⟩ : ∃ O, ofS x b = O := ⟨_, rfl⟩
    rw [hO] at hmk hol hQ
    dsimp only at hQ
    rw [← hQ]
    have tO : List.take 32 O = O := List.take_of_length_le (by omega)
    refine call0 hmk (by simp [NV]) ?_
    rintro y H' ⟨rfl, rfl⟩
    refine ⟨.inl (by simp), le_ok rfl, ?_⟩
    simp [RHE, hol, tO, hcn]
    exact fin [] (by decide) (v := .tup [.agg (hc O), .c (.fz (.lit (.int .i64 0)))]) (by simp [resV, resT, evT, asT, fzEO, tO, hol]) (by simp [conR, conTs, conT, tO, hol]) rfl ⟨rfl, rfl⟩
  | false =>
    rw [hM, if_neg (by simp)] at hmk
    refine call0 hmk (by simp [NV]) ?_
    rintro y H' ⟨rfl, rfl⟩
    refine ⟨.inl (by simp), le_ok rfl, ?_⟩
    simp [NV, w2, hcn, -Int.natCast_add]
    refine round (i + 1) [0, 1] ⟨by omega, ?_⟩ (by omega) (by simp [NV]) (by simp [ladC]) (by simp [ladC]) (by simp) (by simp)
    intro k z hk hz'
    rcases Nat.lt_or_ge k i with h3 | h3
    · exact hno k z h3 hz'
    · obtain rfl : k = i := by omega
      rw [hx] at hz'
      cases hz'
      exact hM

set_option maxHeartbeats 2000000 in
theorem give_ok (l : Lad) (hl : l.ok) (hlen : l.steps.length ≤ 60) : ECalls Tryd.prog 9 [LV l] [] fun y H' => H' = [] ∧ y = LV l := by
  obtain ⟨⟨nx0, nx1⟩, hst, _⟩ := id hl
  have hcn : hc [] = [] := rfl
  refine ecalls k_give ?_
  simp [c_give, LV, ladC]
  refine loopW _ (weak_nil (o := 80) (k := 1) (ty := 54) (es := 33) rfl rfl (by omega)) ?_
  refine eloop (α := Nat) (fun i => i ≤ l.steps.length) (fun i => l.steps.length - i)
    (fun i => [.any, .v (.c (.ptr 0 0)), .v (.c (.ptr 1 0)), .v (.c (.ptr 2 0)), NV i, .any, .any, .any, .any, .any, .any, .any, .any, .any, .any, .any, .any, .any, .any, .any, .any, .any, .any, .any, .any, .any])
    (fun i => [some (.box 24 (ladC l)), some (.box 31 [.fz (.lit (.int .i64 0)), .fz (.lit (.slice none 0 0))]), some (.box 31 [.fz (.lit (.int .i64 l.nxt)), .row 3 i]), some (.row 54 33 (stpv (l.steps.take i)))]) 0 [0, 16, 80, 128]
    (Nat.zero_le _) (by simp [NV]) (by simp [ladC, stpv]) (by simp) (by simp) (by simp) ?_
  intro i hi
  simp [NV, ladC]
  refine alt (fun hlt => ?_) (fun hlt => ?_)
  · have hln : i < l.steps.length := by omega
    obtain ⟨x, hx⟩ : ∃ x, l.steps[i]? = some x := ⟨l.steps[i], by simp [hln]⟩
    have hge : (stpv l.steps)[i]'(by simp [hln]) = stpF x := by
      have e := stpv_get hx
      rw [List.getElem?_eq_getElem (by simp [hln])] at e
      exact Option.some.inj e
    have hx32 := (hst x (List.mem_of_getElem? hx)).2
    have hfl := stpF_len hx32
    have hcl := stpC_len hx32
    have hct := stpC_take hx32
    have w2 : IntKind.i64.wrap ((i : Int) + 1) = ((i + 1 : Nat) : Int) := wrap_i64 (by omega) (by omega)
    have e2 : stpv (l.steps.take (i + 1)) = stpv (l.steps.take i) ++ [stpF x] := by
      have hi := lt_len hx
      have e := (List.getElem?_eq_some_iff.1 hx).2
      rw [List.take_succ_eq_append_getElem hi, e]
      simp [stpv]
    have hm0 : min i l.steps.length = i := by omega
    simp [hln, hge, hfl, hcl, hct, stpF_fz, w2, hm0, -Int.natCast_add]
    refine ⟨by omega, ?_⟩
    exact round (i + 1) [0, 1, 2, 212] (by omega) (by omega) (by simp [NV]) (by simp [ladC, e2]) (by simp [ladC]) (by simp) (by simp)
  have hil : i = l.steps.length := by omega
  subst hil
  rw [List.take_length]
  simp
  refine finW _ (weak_frz (o := 3) (ty := 54) (es := 33) (xs := stpv l.steps) rfl) ?_
  exact fin [] (by decide) rfl rfl rfl ⟨rfl, by simp [List.take_of_length_le]⟩

end Go.Proofs.YtdeeophiffchjaaDoor

namespace Go.Proofs.YtdeeophiffchjaaDoor
open Go Go.EW
set_option linter.unusedSimpArgs false
set_option linter.unusedVariables false

@[simp] def l_sure_1 (_ : Unit) : List EOp := [⟨0, (some 0), none, (.q (.mov (.k (.bool false)))), []⟩]
@[simp] def b_sure_2 (_ : Unit) : EB := reg0 (hid l_sure_1) 1
@[simp] def l_sure_3 (_ : Unit) : List EOp := [⟨0, (some 11), none, (.call 19 []), []⟩, ⟨1, (some 1), none, (.q (.alloc 31 [(.int .i64 0), (.slice none 0 0)])), []⟩, ⟨2, none, none, (.fz (.sto 2 (.t 1) (.t 11))), []⟩]
@[simp] def b_sure_4 (_ : Unit) : EB := reg0 (hid l_sure_3) 3
@[simp] def l_sure_5 (_ : Unit) : List EOp := [⟨0, (some 12), none, (.q (.fad 0 (.t 1))), []⟩, ⟨1, (some 13), none, (.q (.ldc (.t 12))), []⟩, ⟨2, (some 14), none, (.q (.bin .neq (.t 13) (.k (.int .i64 1099511627775)))), []⟩]
@[simp] def b_sure_6 (_ : Unit) : EB := reg0 (hid l_sure_5) 3
@[simp] def l_sure_7 (_ : Unit) : List EOp := [⟨0, (some 0), none, (.q (.mov (.k (.bool false)))), []⟩]
@[simp] def b_sure_8 (_ : Unit) : EB := reg0 (hid l_sure_7) 1
@[simp] def b_sure_9 (_ : Unit) : EB := .seq (hid b_sure_8) .ret
@[simp] def b_sure_10 (_ : Unit) : EB := .cond (.t 14) (hid b_sure_9) .skip
@[simp] def b_sure_11 (_ : Unit) : EB := .seq (hid b_sure_6) (hid b_sure_10)
@[simp] def l_sure_12 (_ : Unit) : List EOp := [⟨0, (some 2), none, (.q (.mov (.k (.int .i64 0)))), []⟩]
@[simp] def b_sure_13 (_ : Unit) : EB := reg0 (hid l_sure_12) 1
@[simp] def l_sure_14 (_ : Unit) : List EOp := [⟨0, (some 15), none, (.q (.mov (.t 2))), []⟩, ⟨1, (some 16), none, (.q (.bin .lss (.t 15) (.k (.int .i64 3)))), []⟩]
@[simp] def b_sure_15 (_ : Unit) : EB := reg0 (hid l_sure_14) 2
@[simp] def b_sure_16 (_ : Unit) : EB := .cond (.t 16) .skip (.exit 0)
@[simp] def b_sure_17 (_ : Unit) : EB := .seq (hid b_sure_15) (hid b_sure_16)
@[simp] def l_sure_19 (_ : Unit) : List EOp := [⟨6, (some 25), none, (.q (.ext 1 (.t 19))), []⟩, ⟨7, (some 3), none, (.q (.alloc 35 zU8)), []⟩, ⟨8, none, none, (.sto 32 (.t 3) (.t 24)), []⟩, ⟨9, (some 4), none, (.q (.mov (.t 25))), []⟩]
@[simp] def l_sure_18 (_ : Unit) : List EOp := ⟨0, (some 20), none, (.q (.build zU8 [(0, 1, (.k (.int .u8 1)))])), []⟩ :: ⟨1, (some 21), none, (.q (.mov (.t 2))), []⟩ :: ⟨2, (some 22), none, (.q (.bin .sub (.k (.int .i64 1099511627775)) (.t 21))), []⟩ :: ⟨3, (some 23), none, (.call 11 [(.t 20), (.t 22)]), []⟩ :: ⟨4, (some 19), none, (.q (.mov (.t 23))), []⟩ :: ⟨5, (some 24), none, (.q (.ext 0 (.t 19))), []⟩ :: hid l_sure_19
@[simp] def b_sure_20 (_ : Unit) : EB := reg0 (hid l_sure_18) 10
@[simp] def l_sure_22 (_ : Unit) : List EOp := [⟨6, (some 5), none, (.q (.alloc 31 [(.int .i64 0), (.slice none 0 0)])), []⟩, ⟨7, none, none, (.fz (.sto 2 (.t 5) (.t 30))), []⟩, ⟨8, (some 6), none, (.q (.mov (.t 31))), []⟩]
@[simp] def l_sure_21 (_ : Unit) : List EOp := ⟨0, (some 27), none, (.q (.lda 2 (.t 1))), []⟩ :: ⟨1, (some 28), none, (.q (.lda 32 (.t 3))), []⟩ :: ⟨2, (some 29), none, (.call 14 [(.t 27), (.t 28)]), []⟩ :: ⟨3, (some 26), none, (.q (.mov (.t 29))), []⟩ :: ⟨4, (some 30), none, (.q (.ext 0 (.t 26))), []⟩ :: ⟨5, (some 31), none, (.q (.ext 1 (.t 26))), []⟩ :: hid l_sure_22
@[simp] def b_sure_23 (_ : Unit) : EB := reg0 (hid l_sure_21) 9
@[simp] def l_sure_24 (_ : Unit) : List EOp := [⟨0, (some 32), none, (.q (.mov (.t 4))), []⟩, ⟨1, (some 33), none, (.q (.eqi true (.t 32))), []⟩, ⟨2, (some 34), none, (.q (.mov (.t 33))), []⟩, ⟨3, (some 35), (some (34, false)), (.q (.mov (.t 6))), []⟩, ⟨4, (some 36), (some (34, false)), (.q (.eqi true (.t 35))), []⟩, ⟨5, (some 37), none, (.q (.pick (.t 34) (.k (.bool true)) (.t 36))), []⟩]
@[simp] def b_sure_25 (_ : Unit) : EB := reg0 (hid l_sure_24) 6
@[simp] def l_sure_26 (_ : Unit) : List EOp := [⟨0, (some 0), none, (.q (.mov (.k (.bool false)))), []⟩]
@[simp] def b_sure_27 (_ : Unit) : EB := reg0 (hid l_sure_26) 1
@[simp] def b_sure_28 (_ : Unit) : EB := .seq (hid b_sure_27) .ret
@[simp] def b_sure_29 (_ : Unit) : EB := .cond (.t 37) (hid b_sure_28) .skip
@[simp] def b_sure_30 (_ : Unit) : EB := .seq (hid b_sure_25) (hid b_sure_29)
@[simp] def l_sure_31 (_ : Unit) : List EOp := [⟨0, (some 38), none, (.q (.lda 2 (.t 5))), []⟩, ⟨1, none, none, (.fz (.sto 2 (.t 1) (.t 38))), []⟩]
@[simp] def b_sure_32 (_ : Unit) : EB := reg0 (hid l_sure_31) 2
@[simp] def b_sure_33 (_ : Unit) : EB := .seq (hid b_sure_30) (hid b_sure_32)
@[simp] def b_sure_34 (_ : Unit) : EB := .seq (hid b_sure_23) (hid b_sure_33)
@[simp] def b_sure_35 (_ : Unit) : EB := .seq (hid b_sure_20) (hid b_sure_34)
@[simp] def b_sure_36 (_ : Unit) : EB := .block 1 (hid b_sure_35)
@[simp] def l_sure_37 (_ : Unit) : List EOp := [⟨0, (some 17), none, (.q (.mov (.t 2))), []⟩, ⟨1, (some 18), none, (.q (.bin .add (.t 17) (.k (.int .i64 1)))), []⟩, ⟨2, (some 2), none, (.q (.mov (.t 18))), []⟩]
@[simp] def b_sure_38 (_ : Unit) : EB := reg0 (hid l_sure_37) 3
@[simp] def b_sure_39 (_ : Unit) : EB := .seq (hid b_sure_36) (hid b_sure_38)
@[simp] def b_sure_40 (_ : Unit) : EB := .seq (hid b_sure_17) (hid b_sure_39)
@[simp] def b_sure_41 (_ : Unit) : EB := .loop (hid b_sure_40)
@[simp] def b_sure_42 (_ : Unit) : EB := .block 0 (hid b_sure_41)
@[simp] def b_sure_43 (_ : Unit) : EB := .seq (hid b_sure_13) (hid b_sure_42)
@[simp] def l_sure_45 (_ : Unit) : List EOp := [⟨6, none, none, (.sto 32 (.t 7) (.t 42)), []⟩, ⟨7, (some 8), none, (.q (.mov (.t 43))), []⟩]
@[simp] def l_sure_44 (_ : Unit) : List EOp := ⟨0, (some 40), none, (.q (.build zU8 [(0, 1, (.k (.int .u8 1)))])), []⟩ :: ⟨1, (some 41), none, (.call 12 [(.t 40), (.k (.int .i64 1099511627775))]), []⟩ :: ⟨2, (some 39), none, (.q (.mov (.t 41))), []⟩ :: ⟨3, (some 42), none, (.q (.ext 0 (.t 39))), []⟩ :: ⟨4, (some 43), none, (.q (.ext 1 (.t 39))), []⟩ :: ⟨5, (some 7), none, (.q (.alloc 35 zU8)), []⟩ :: hid l_sure_45
@[simp] def b_sure_46 (_ : Unit) : EB := reg0 (hid l_sure_44) 8
@[simp] def l_sure_48 (_ : Unit) : List EOp := [⟨6, none, none, (.sto 32 (.t 9) (.t 47)), []⟩, ⟨7, (some 10), none, (.q (.mov (.t 48))), []⟩]
@[simp] def l_sure_47 (_ : Unit) : List EOp := ⟨0, (some 45), none, (.q (.lda 2 (.t 1))), []⟩ :: ⟨1, (some 46), none, (.call 17 [(.t 45), (.k (.int .i64 1099511627775))]), []⟩ :: ⟨2, (some 44), none, (.q (.mov (.t 46))), []⟩ :: ⟨3, (some 47), none, (.q (.ext 0 (.t 44))), []⟩ :: ⟨4, (some 48), none, (.q (.ext 1 (.t 44))), []⟩ :: ⟨5, (some 9), none, (.q (.alloc 35 zU8)), []⟩ :: hid l_sure_48
@[simp] def b_sure_49 (_ : Unit) : EB := reg0 (hid l_sure_47) 8
@[simp] def l_sure_53 (_ : Unit) : List EOp := [⟨18, (some 0), none, (.q (.mov (.t 66))), []⟩]
@[simp] def l_sure_52 (_ : Unit) : List EOp := ⟨12, (some 61), none, (.q (.pick (.t 56) (.t 60) (.k (.bool false)))), []⟩ :: ⟨13, (some 62), none, (.q (.mov (.t 61))), []⟩ :: ⟨14, (some 63), (some (62, true)), (.q (.lda 2 (.t 1))), []⟩ :: ⟨15, (some 64), (some (62, true)), (.call 8 [(.t 63)]), []⟩ :: ⟨16, (some 65), (some (62, true)), (.q (.eqi false (.t 64))), []⟩ :: ⟨17, (some 66), none, (.q (.pick (.t 62) (.t 65) (.k (.bool false)))), []⟩ :: hid l_sure_53
@[simp] def l_sure_51 (_ : Unit) : List EOp := ⟨6, (some 55), none, (.q (.pick (.t 51) (.t 54) (.k (.bool false)))), []⟩ :: ⟨7, (some 56), none, (.q (.mov (.t 55))), []⟩ :: ⟨8, (some 57), (some (56, true)), (.q (.fad 1 (.t 1))), []⟩ :: ⟨9, (some 58), (some (56, true)), (.q (.ldc (.t 57))), []⟩ :: ⟨10, (some 59), (some (56, true)), (.q (.len (.t 58))), []⟩ :: ⟨11, (some 60), (some (56, true)), (.q (.bin .eql (.t 59) (.k (.int .i64 2)))), []⟩ :: hid l_sure_52
@[simp] def l_sure_50 (_ : Unit) : List EOp := ⟨0, (some 49), none, (.q (.mov (.t 10))), []⟩ :: ⟨1, (some 50), none, (.q (.eqi false (.t 49))), []⟩ :: ⟨2, (some 51), none, (.q (.mov (.t 50))), []⟩ :: ⟨3, (some 52), (some (51, true)), (.q (.lda 32 (.t 9))), []⟩ :: ⟨4, (some 53), (some (51, true)), (.q (.lda 32 (.t 7))), []⟩ :: ⟨5, (some 54), (some (51, true)), (.q (.eqa false 32 .u8 (.t 52) (.t 53))), []⟩ :: hid l_sure_51
@[simp] def b_sure_54 (_ : Unit) : EB := reg0 (hid l_sure_50) 19
@[simp] def b_sure_55 (_ : Unit) : EB := .seq (hid b_sure_54) .ret
@[simp] def b_sure_56 (_ : Unit) : EB := .seq (hid b_sure_49) (hid b_sure_55)
@[simp] def b_sure_57 (_ : Unit) : EB := .seq (hid b_sure_46) (hid b_sure_56)
@[simp] def b_sure_58 (_ : Unit) : EB := .seq (hid b_sure_43) (hid b_sure_57)
@[simp] def b_sure_59 (_ : Unit) : EB := .seq (hid b_sure_11) (hid b_sure_58)
@[simp] def b_sure_60 (_ : Unit) : EB := .seq (hid b_sure_4) (hid b_sure_59)
@[simp] def b_sure_61 (_ : Unit) : EB := .seq (hid b_sure_2) (hid b_sure_60)
def c_sure : EB × List QOp × Nat := ((hid b_sure_61), [(.mov (.t 0))], 67)
theorem k_sure : cfun Tryd.prog 7 = some c_sure := by kernel_rfl


/-- The root of the sample. -/
def r1 : List UInt8 := 1 :: List.replicate 31 0
theorem r1_len : r1.length = 32 := rfl
/-- The ladder of the sample, behind so many secrets. -/
def smp (k : Nat) : Lad := match k with
  | 0 => ⟨1099511627775, []⟩
  | 1 => ⟨1099511627774, [lstp r1 1099511627775]⟩
  | 2 => ⟨1099511627773, [lstp r1 1099511627775, lstp r1 1099511627774]⟩
  | _ => ⟨1099511627772, [lstp r1 1099511627773, lstp r1 1099511627774]⟩
theorem lstp_ok (n : Nat) (h : n ≤ 1099511627775) : (-9223372036854775808 ≤ (lstp r1 n).num ∧ (lstp r1 n).num ≤ 9223372036854775807) ∧ (lstp r1 n).sec.length = 32 :=
  ⟨by unfold lstp; dsimp only; omega, clS_len n 40 r1 r1_len⟩
theorem smp_ok (k : Nat) : (smp k).ok ∧ (smp k).steps.length ≤ 2 := by
  have a := lstp_ok 1099511627775 (by omega)
  have b := lstp_ok 1099511627774 (by omega)
  have c := lstp_ok 1099511627773 (by omega)
  match k with
  | 0 => exact ⟨⟨by simp [smp], by simp [smp], by simp [smp]⟩, by simp [smp]⟩
  | 1 => exact ⟨⟨by simp [smp], by simpa [smp] using a, by simp [smp]⟩, by simp [smp]⟩
  | 2 => exact ⟨⟨by simp [smp], by
      intro s hs
      simp only [smp, List.mem_cons, List.mem_nil_iff, or_false] at hs
      rcases hs with rfl | rfl
      · exact a
      · exact b, by simp [smp]⟩, by simp [smp]⟩
  | k + 3 => exact ⟨⟨by simp [smp], by
      intro s hs
      simp only [smp, List.mem_cons, List.mem_nil_iff, or_false] at hs
      rcases hs with rfl | rfl
      · exact c
      · exact b, by simp [smp]⟩, by simp [smp]⟩
theorem smp_mak (k : Nat) (h : k < 3) : makS r1 (1099511627775 - (k : Int)) = (clS (1099511627775 - k) 40 r1, 0) := by
  unfold makS
  rw [if_neg (by omega), show (1099511627775 - (k : Int)).toNat = 1099511627775 - k by omega]
theorem smp_add (k : Nat) (h : k < 3) : addL (smp k) (clS (1099511627775 - k) 40 r1) = (smp (k + 1), 0) := by
  match k, h with
  | 0, _ => exact sure_1 r1
  | 1, _ => exact sure_2 r1
  | 2, _ => exact sure_3 r1
  | k + 3, h => omega

set_option maxHeartbeats 8000000 in
theorem sure_ok : ECalls Tryd.prog 7 [] [] fun y H' => H' = [] ∧ y = .lit (.bool true) := by
  refine ecalls k_sure ?_
  simp [c_sure]
  refine call0 LBegin_ok (by simp) ?_
  rintro y H' ⟨rfl, rfl⟩
  refine ⟨.inl (by simp [LV, ladC]), le_ok rfl, ?_⟩
  simp [LV, ladC, stpv]
  refine eloop (α := Nat) (fun k => k ≤ 3) (fun k => 3 - k) (fun k => [.any, .v (.c (.ptr 0 0)), NV k, .any, .any, .any, .any, .any, .any, .any, .any, .any, .any, .any, .any, .any, .any, .any, .any, .any, .any, .any, .any, .any, .any, .any, .any, .any, .any, .any, .any, .any, .any, .any, .any, .any, .any, .any, .any, .any, .any, .any, .any, .any, .any, .any, .any, .any, .any, .any, .any, .any, .any, .any, .any, .any, .any, .any, .any, .any, .any, .any, .any, .any, .any, .any, .any]) (fun k => [some (.box 31 (ladC (smp k)))]) 0 [32]
    (by omega) (by simp [NV]) (by simp [smp, ladC, stpv]) (by simp [ladC]) (by simp) (by simp) ?_
  intro k hk
  by_cases hlt : k < 3
  · have hli : (k : Int) < 3 := by omega
    have w1 : IntKind.i64.wrap (1099511627775 - (k : Int)) = 1099511627775 - (k : Int) := wrap_i64 (by omega) (by omega)
    have w2 : IntKind.i64.wrap ((k : Int) + 1) = ((k + 1 : Nat) : Int) := wrap_i64 (by omega) (by omega)
    have hmk := LMake_ok r1 (1099511627775 - (k : Int)) r1_len (by omega)
    rw [smp_mak k hlt] at hmk
    have hs32 := clS_len (1099511627775 - k) 40 r1 r1_len
    have had := LAdd_ok (smp k) (clS (1099511627775 - k) 40 r1) (smp_ok k).1 hs32 (by have := (smp_ok k).2; omega)
    rw [smp_add k hlt] at had
    obtain ⟨S, hS⟩ : ∃ S, clS (1099511627775 - k) 40 r1 = S := ⟨_, rfl⟩
    rw [hS] at hmk had hs32
    have tS : List.take 32 S = S := List.take_of_length_le (by omega)
    have hcn : hc [] = [] := rfl
    have hr1 : (.fz (.lit (.int .u8 1)) :: (hc hz).tail) = hc r1 := rfl
    simp [NV, hli, hlt, w1, hr1]
    refine call0 hmk (by simp [HV, NV]) ?_
    rintro y H' ⟨rfl, rfl⟩
    refine ⟨.inl (by simp), le_ok rfl, ?_⟩
    simp [NV, ladC, hs32, tS, hcn, -errV_0]
    refine call0 had (by simp [LV, ladC, HV]) ?_
    rintro y H' ⟨rfl, rfl⟩
    refine ⟨.inl (by simp [LAE, ladC]), le_ok rfl, ?_⟩
    simp [LAE, ladC, NV, w2, -Int.natCast_add, -errV_0]
    exact round (k + 1) [0] (by omega) (by omega) (by simp [NV]) (by simp [ladC]) (by simp [ladC]) (by simp) (by simp)
  · obtain rfl : k = 3 := by omega
    have hr1 : (.fz (.lit (.int .u8 1)) :: (hc hz).tail) = hc r1 := rfl
    have hcn : hc [] = [] := rfl
    have hmk := RMake_ok r1 1099511627775 r1_len (by omega)
    have e0 := smp_mak 0 (by omega)
    rw [show (1099511627775 : Int) - ((0 : Nat) : Int) = 1099511627775 by omega, Nat.sub_zero] at e0
    rw [e0] at hmk
    have hge := LGet_ok (smp 3) 1099511627775 (smp_ok 3).1 (by omega)
    have e1 : getL (smp 3) 1099511627775 = (clS 1099511627775 40 r1, 0) := sure_get r1
    rw [e1] at hge
    have hck := LCheck_ok (smp 3) (smp_ok 3).1
    rw [mayB_t (show mayL (smp 3) from sure_may r1), if_pos rfl] at hck
    have hS32 := clS_len 1099511627775 40 r1 r1_len
    obtain ⟨S, hS⟩ : ∃ S, clS 1099511627775 40 r1 = S := ⟨_, rfl⟩
    rw [hS] at hmk hge hS32
    have tS : List.take 32 S = S := List.take_of_length_le (by omega)
    have hl2 : (smp 3).steps.length = 2 := rfl
    obtain ⟨L3, h3⟩ : ∃ L3, smp 3 = L3 := ⟨_, rfl⟩
    rw [h3] at hge hck hl2
    simp [NV, hr1, h3, -errV_0]
    refine call0 hmk (by simp [HV, NV]) ?_
    rintro y H' ⟨rfl, rfl⟩
    refine ⟨.inl (by simp), le_ok rfl, ?_⟩
    simp [NV, ladC, hS32, tS, hcn, -errV_0]
    refine call0 hge (by simp [LV, ladC, NV]) ?_
    rintro y H' ⟨rfl, rfl⟩
    refine ⟨.inl (by simp [HE]), le_ok rfl, ?_⟩
    simp [HE, NV, ladC, hS32, tS, hcn, hl2, -errV_0]
    refine call0 hck (by simp [LV, ladC]) ?_
    rintro y H' ⟨rfl, rfl⟩
    refine ⟨.inl (by simp), le_ok rfl, ?_⟩
    simp
    exact fin [] (by decide) rfl rfl rfl ⟨rfl, rfl⟩

end Go.Proofs.YtdeeophiffchjaaDoor

namespace Go.Proofs.YtdeeophiffchjaaDoor
open Go Go.EW
set_option linter.unusedSimpArgs false

def i64r (n : Int) : Prop := -9223372036854775808 ≤ n ∧ n ≤ 9223372036854775807
def Stp.ok0 (s : Stp) : Prop := i64r s.num ∧ s.sec.length = 32
theorem opn_stp : Opn BB Tryd.prog 55 stpF Stp.ok0 (fun _ => 1) :=
  (opn_struct (tot := 33) bok Tryd.underlying55 (by kernel_rfl)
    (opnFs_cons bok (n := 1) (tot := 32) opn_i64 rfl (by kernel_rfl) (opnFs_cons bok (n := 32) (tot := 0) opn_hash rfl (by kernel_rfl) opnFs_nil))).map
    (fun p => (⟨p.1, p.2.1⟩ : Stp)) (by rintro ⟨a, b, u⟩ _; simp [stpF]) (by rintro ⟨a, b, u⟩ h; exact ⟨h.1, h.2.1⟩) (by rintro ⟨a, b, u⟩ _; simp)
theorem opn_stps : Opn BB Tryd.prog 22 (fun l : List Stp => [FV.sl 33 (stpv l)]) (fun l => ∀ s ∈ l, s.ok0) (fun l => l.length) :=
  (opn_slice bok (by kernel_rfl) (by kernel_rfl) (by omega) opn_stp).map id (fun _ _ => rfl) (fun _ h => h.1) (fun l _ => by rw [sumB_one]; simp)
def ladF (l : Lad) : List FV := [.lit (.int .i64 l.nxt), .sl 33 (stpv l.steps)]
def Lad.ok0 (l : Lad) : Prop := i64r l.nxt ∧ ∀ s ∈ l.steps, s.ok0
theorem opn_lad : Opn BB Tryd.prog 24 ladF Lad.ok0 (fun l => l.steps.length) :=
  (opn_struct (tot := 2) bok Tryd.underlying24 (by kernel_rfl)
    (opnFs_cons bok (n := 1) (tot := 1) opn_i64 rfl (by kernel_rfl) (opnFs_cons bok (n := 1) (tot := 0) opn_stps rfl (by kernel_rfl) opnFs_nil))).map
    (fun p => (⟨p.1, p.2.1⟩ : Lad)) (by rintro ⟨a, b, u⟩ _; simp [ladF]) (by rintro ⟨a, b, u⟩ h; exact ⟨h.1, h.2.1⟩) (by rintro ⟨a, b, u⟩ _; simp; omega)
theorem ladF_fz (l : Lad) : (ladF l).map EC.fz = ladC l := rfl
theorem lad_ok {l : Lad} (h : l.ok0) (hb : l.steps.length ≤ 1048576) : l.ok := ⟨h.1, h.2, by omega⟩
def zHashV : Array Value := (List.replicate 32 (Value.int .u8 0)).toArray
def zHashD {H : Type} : DataW H := .agg (List.replicate 32 (.lit (.int .u8 0)))

end Go.Proofs.YtdeeophiffchjaaDoor
