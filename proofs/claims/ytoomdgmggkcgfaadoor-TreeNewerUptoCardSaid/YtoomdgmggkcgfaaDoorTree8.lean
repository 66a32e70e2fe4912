import Derived.Test.YtoomdgmggkcgfaaDoorTree7
namespace Go.Proofs.YtoomdgmggkcgfaaDoor
open Go Go.EW
set_option linter.unusedSimpArgs false
set_option linter.unusedVariables false

@[simp] def l_RTNext_1 (_ : Unit) : List EOp := [⟨0, (some 2), none, (.q (.box 28 (.t 0))), []⟩, ⟨1, (some 4), none, (.q (.mov (.k (.slice none 0 0)))), []⟩, ⟨2, (some 5), none, (.q (.mov (.k (.int .i64 0)))), []⟩]
@[simp] def b_RTNext_2 (_ : Unit) : EB := reg0 (hid l_RTNext_1) 3
@[simp] def l_RTNext_3 (_ : Unit) : List EOp := [⟨0, (some 11), none, (.q (.lda 40 (.t 2))), []⟩, ⟨1, (some 12), none, (.q (.mov (.t 1))), []⟩, ⟨2, (some 13), none, (.call 34 [(.t 11), (.t 12)]), []⟩, ⟨3, (some 6), none, (.q (.mov (.t 13))), []⟩]
@[simp] def b_RTNext_4 (_ : Unit) : EB := reg0 (hid l_RTNext_3) 4
@[simp] def l_RTNext_5 (_ : Unit) : List EOp := [⟨0, (some 14), none, (.q (.mov (.t 6))), []⟩, ⟨1, (some 15), none, (.q (.bin .neq (.t 14) (.k (.int .i64 0)))), []⟩]
@[simp] def b_RTNext_6 (_ : Unit) : EB := reg0 (hid l_RTNext_5) 2
@[simp] def l_RTNext_7 (_ : Unit) : List EOp := [⟨0, (some 16), none, (.q (.mov (.t 6))), []⟩, ⟨1, (some 4), none, (.q (.mov (.k (.slice none 0 0)))), []⟩, ⟨2, (some 5), none, (.q (.mov (.t 16))), []⟩]
@[simp] def b_RTNext_8 (_ : Unit) : EB := reg0 (hid l_RTNext_7) 3
@[simp] def b_RTNext_9 (_ : Unit) : EB := .seq (hid b_RTNext_8) .ret
@[simp] def b_RTNext_10 (_ : Unit) : EB := .cond (.t 15) (hid b_RTNext_9) .skip
@[simp] def b_RTNext_11 (_ : Unit) : EB := .seq (hid b_RTNext_6) (hid b_RTNext_10)
@[simp] def l_RTNext_12 (_ : Unit) : List EOp := [⟨0, (some 7), none, (.q (.mov (.k (.int .i64 (-1))))), []⟩]
@[simp] def b_RTNext_13 (_ : Unit) : EB := reg0 (hid l_RTNext_12) 1
@[simp] def l_RTNext_14 (_ : Unit) : List EOp := [⟨0, (some 8), none, (.q (.mov (.k (.int .i64 0)))), []⟩]
@[simp] def b_RTNext_15 (_ : Unit) : EB := reg0 (hid l_RTNext_14) 1
@[simp] def l_RTNext_16 (_ : Unit) : List EOp := [⟨0, (some 17), none, (.q (.mov (.t 8))), []⟩, ⟨1, (some 18), none, (.q (.mov (.t 1))), []⟩, ⟨2, (some 19), none, (.q (.len (.t 18))), []⟩, ⟨3, (some 20), none, (.q (.bin .lss (.t 17) (.t 19))), []⟩]
@[simp] def b_RTNext_17 (_ : Unit) : EB := reg0 (hid l_RTNext_16) 4
@[simp] def b_RTNext_18 (_ : Unit) : EB := .cond (.t 20) .skip (.exit 0)
@[simp] def b_RTNext_19 (_ : Unit) : EB := .seq (hid b_RTNext_17) (hid b_RTNext_18)
@[simp] def l_RTNext_21 (_ : Unit) : List EOp := [⟨6, (some 29), none, (.q (.bin .sub (.t 26) (.t 28))), []⟩, ⟨7, (some 30), none, (.q (.fad 37 (.t 2))), []⟩, ⟨8, (some 31), none, (.q (.ldc (.t 30))), []⟩, ⟨9, (some 32), none, (.q (.bin .geq (.t 29) (.t 31))), []⟩]
@[simp] def l_RTNext_20 (_ : Unit) : List EOp := ⟨0, (some 23), none, (.q (.mov (.t 1))), []⟩ :: ⟨1, (some 24), none, (.q (.mov (.t 8))), []⟩ :: ⟨2, (some 25), none, (.q (.isl 1 (.t 23) (.t 24))), []⟩ :: ⟨3, (some 26), none, (.q (.ldc (.t 25))), []⟩ :: ⟨4, (some 27), none, (.q (.fad 38 (.t 2))), []⟩ :: ⟨5, (some 28), none, (.q (.ldc (.t 27))), []⟩ :: hid l_RTNext_21
@[simp] def b_RTNext_22 (_ : Unit) : EB := reg0 (hid l_RTNext_20) 10
@[simp] def l_RTNext_23 (_ : Unit) : List EOp := [⟨0, (some 33), none, (.q (.mov (.t 8))), []⟩, ⟨1, (some 7), none, (.q (.mov (.t 33))), []⟩]
@[simp] def b_RTNext_24 (_ : Unit) : EB := reg0 (hid l_RTNext_23) 2
@[simp] def b_RTNext_25 (_ : Unit) : EB := .cond (.t 32) (hid b_RTNext_24) .skip
@[simp] def b_RTNext_26 (_ : Unit) : EB := .seq (hid b_RTNext_22) (hid b_RTNext_25)
@[simp] def b_RTNext_27 (_ : Unit) : EB := .block 1 (hid b_RTNext_26)
@[simp] def l_RTNext_28 (_ : Unit) : List EOp := [⟨0, (some 21), none, (.q (.mov (.t 8))), []⟩, ⟨1, (some 22), none, (.q (.bin .add (.t 21) (.k (.int .i64 1)))), []⟩, ⟨2, (some 8), none, (.q (.mov (.t 22))), []⟩]
@[simp] def b_RTNext_29 (_ : Unit) : EB := reg0 (hid l_RTNext_28) 3
@[simp] def b_RTNext_30 (_ : Unit) : EB := .seq (hid b_RTNext_27) (hid b_RTNext_29)
@[simp] def b_RTNext_31 (_ : Unit) : EB := .seq (hid b_RTNext_19) (hid b_RTNext_30)
@[simp] def b_RTNext_32 (_ : Unit) : EB := .loop (hid b_RTNext_31)
@[simp] def b_RTNext_33 (_ : Unit) : EB := .block 0 (hid b_RTNext_32)
@[simp] def b_RTNext_34 (_ : Unit) : EB := .seq (hid b_RTNext_15) (hid b_RTNext_33)
@[simp] def l_RTNext_35 (_ : Unit) : List EOp := [⟨0, (some 34), none, (.q (.mov (.t 7))), []⟩, ⟨1, (some 35), none, (.q (.bin .lss (.t 34) (.k (.int .i64 0)))), []⟩]
@[simp] def b_RTNext_36 (_ : Unit) : EB := reg0 (hid l_RTNext_35) 2
@[simp] def l_RTNext_37 (_ : Unit) : List EOp := [⟨0, (some 4), none, (.q (.mov (.k (.slice none 0 0)))), []⟩, ⟨1, (some 5), none, (.q (.mov (.k (.int .i64 30)))), []⟩]
@[simp] def b_RTNext_38 (_ : Unit) : EB := reg0 (hid l_RTNext_37) 2
@[simp] def b_RTNext_39 (_ : Unit) : EB := .seq (hid b_RTNext_38) .ret
@[simp] def b_RTNext_40 (_ : Unit) : EB := .cond (.t 35) (hid b_RTNext_39) .skip
@[simp] def b_RTNext_41 (_ : Unit) : EB := .seq (hid b_RTNext_36) (hid b_RTNext_40)
@[simp] def l_RTNext_42 (_ : Unit) : List EOp := [⟨0, (some 9), none, (.q (.mov (.k (.slice none 0 0)))), []⟩]
@[simp] def b_RTNext_43 (_ : Unit) : EB := reg0 (hid l_RTNext_42) 1
@[simp] def l_RTNext_44 (_ : Unit) : List EOp := [⟨0, (some 10), none, (.q (.mov (.k (.int .i64 0)))), []⟩]
@[simp] def b_RTNext_45 (_ : Unit) : EB := reg0 (hid l_RTNext_44) 1
@[simp] def l_RTNext_46 (_ : Unit) : List EOp := [⟨0, (some 36), none, (.q (.mov (.t 10))), []⟩, ⟨1, (some 37), none, (.q (.mov (.t 1))), []⟩, ⟨2, (some 38), none, (.q (.len (.t 37))), []⟩, ⟨3, (some 39), none, (.q (.bin .lss (.t 36) (.t 38))), []⟩]
@[simp] def b_RTNext_47 (_ : Unit) : EB := reg0 (hid l_RTNext_46) 4
@[simp] def b_RTNext_48 (_ : Unit) : EB := .cond (.t 39) .skip (.exit 2)
@[simp] def b_RTNext_49 (_ : Unit) : EB := .seq (hid b_RTNext_47) (hid b_RTNext_48)
@[simp] def l_RTNext_50 (_ : Unit) : List EOp := [⟨0, (some 48), none, (.q (.mov (.t 10))), []⟩, ⟨1, (some 49), none, (.q (.mov (.t 7))), []⟩, ⟨2, (some 50), none, (.q (.bin .lss (.t 48) (.t 49))), []⟩, ⟨3, (some 47), none, (.q (.mov (.t 50))), []⟩]
@[simp] def b_RTNext_51 (_ : Unit) : EB := reg0 (hid l_RTNext_50) 4
@[simp] def l_RTNext_53 (_ : Unit) : List EOp := [⟨6, (some 57), none, (.app 3 1 8 (.t 51) (.t 56)), []⟩, ⟨7, (some 9), none, (.q (.mov (.t 57))), []⟩]
@[simp] def l_RTNext_52 (_ : Unit) : List EOp := ⟨0, (some 51), none, (.q (.mov (.t 9))), []⟩ :: ⟨1, (some 52), none, (.q (.mov (.t 1))), []⟩ :: ⟨2, (some 53), none, (.q (.mov (.t 10))), []⟩ :: ⟨3, (some 54), none, (.q (.isl 1 (.t 52) (.t 53))), []⟩ :: ⟨4, (some 55), none, (.q (.ldc (.t 54))), []⟩ :: ⟨5, (some 56), none, (.q (.bsl 1 [(.int .i64 0)] 1 [(0, (.t 55))])), []⟩ :: hid l_RTNext_53
@[simp] def b_RTNext_54 (_ : Unit) : EB := reg0 (hid l_RTNext_52) 8
@[simp] def l_RTNext_55 (_ : Unit) : List EOp := [⟨0, (some 59), none, (.q (.mov (.t 10))), []⟩, ⟨1, (some 60), none, (.q (.mov (.t 7))), []⟩, ⟨2, (some 61), none, (.q (.bin .eql (.t 59) (.t 60))), []⟩, ⟨3, (some 58), none, (.q (.mov (.t 61))), []⟩]
@[simp] def b_RTNext_56 (_ : Unit) : EB := reg0 (hid l_RTNext_55) 4
@[simp] def l_RTNext_58 (_ : Unit) : List EOp := [⟨6, (some 68), none, (.q (.ldc (.t 67))), []⟩, ⟨7, (some 69), none, (.q (.bin .sub (.t 66) (.t 68))), []⟩, ⟨8, (some 70), none, (.q (.bsl 1 [(.int .i64 0)] 1 [(0, (.t 69))])), []⟩, ⟨9, (some 71), none, (.app 3 1 8 (.t 62) (.t 70)), []⟩, ⟨10, (some 9), none, (.q (.mov (.t 71))), []⟩]
@[simp] def l_RTNext_57 (_ : Unit) : List EOp := ⟨0, (some 62), none, (.q (.mov (.t 9))), []⟩ :: ⟨1, (some 63), none, (.q (.mov (.t 1))), []⟩ :: ⟨2, (some 64), none, (.q (.mov (.t 10))), []⟩ :: ⟨3, (some 65), none, (.q (.isl 1 (.t 63) (.t 64))), []⟩ :: ⟨4, (some 66), none, (.q (.ldc (.t 65))), []⟩ :: ⟨5, (some 67), none, (.q (.fad 38 (.t 2))), []⟩ :: hid l_RTNext_58
@[simp] def b_RTNext_59 (_ : Unit) : EB := reg0 (hid l_RTNext_57) 11
@[simp] def l_RTNext_60 (_ : Unit) : List EOp := [⟨0, (some 42), none, (.q (.mov (.t 9))), []⟩, ⟨1, (some 43), none, (.q (.fad 36 (.t 2))), []⟩, ⟨2, (some 44), none, (.q (.ldc (.t 43))), []⟩, ⟨3, (some 45), none, (.q (.bsl 1 [(.int .i64 0)] 1 [(0, (.t 44))])), []⟩, ⟨4, (some 46), none, (.app 3 1 8 (.t 42) (.t 45)), []⟩, ⟨5, (some 9), none, (.q (.mov (.t 46))), []⟩]
@[simp] def b_RTNext_61 (_ : Unit) : EB := reg0 (hid l_RTNext_60) 6
@[simp] def b_RTNext_62 (_ : Unit) : EB := .cond (.t 58) (hid b_RTNext_59) (hid b_RTNext_61)
@[simp] def b_RTNext_63 (_ : Unit) : EB := .seq (hid b_RTNext_56) (hid b_RTNext_62)
@[simp] def b_RTNext_64 (_ : Unit) : EB := .cond (.t 47) (hid b_RTNext_54) (hid b_RTNext_63)
@[simp] def b_RTNext_65 (_ : Unit) : EB := .seq (hid b_RTNext_51) (hid b_RTNext_64)
@[simp] def b_RTNext_66 (_ : Unit) : EB := .block 4 (hid b_RTNext_65)
@[simp] def b_RTNext_67 (_ : Unit) : EB := .block 3 (hid b_RTNext_66)
@[simp] def l_RTNext_68 (_ : Unit) : List EOp := [⟨0, (some 40), none, (.q (.mov (.t 10))), []⟩, ⟨1, (some 41), none, (.q (.bin .add (.t 40) (.k (.int .i64 1)))), []⟩, ⟨2, (some 10), none, (.q (.mov (.t 41))), []⟩]
@[simp] def b_RTNext_69 (_ : Unit) : EB := reg0 (hid l_RTNext_68) 3
@[simp] def b_RTNext_70 (_ : Unit) : EB := .seq (hid b_RTNext_67) (hid b_RTNext_69)
@[simp] def b_RTNext_71 (_ : Unit) : EB := .seq (hid b_RTNext_49) (hid b_RTNext_70)
@[simp] def b_RTNext_72 (_ : Unit) : EB := .loop (hid b_RTNext_71)
@[simp] def b_RTNext_73 (_ : Unit) : EB := .block 2 (hid b_RTNext_72)
@[simp] def b_RTNext_74 (_ : Unit) : EB := .seq (hid b_RTNext_45) (hid b_RTNext_73)
@[simp] def l_RTNext_75 (_ : Unit) : List EOp := [⟨0, (some 72), none, (.q (.mov (.t 9))), []⟩, ⟨1, (some 4), none, (.q (.mov (.t 72))), []⟩, ⟨2, (some 5), none, (.q (.mov (.k (.int .i64 0)))), []⟩]
@[simp] def b_RTNext_76 (_ : Unit) : EB := reg0 (hid l_RTNext_75) 3
@[simp] def b_RTNext_77 (_ : Unit) : EB := .seq (hid b_RTNext_76) .ret
@[simp] def b_RTNext_78 (_ : Unit) : EB := .seq (hid b_RTNext_74) (hid b_RTNext_77)
@[simp] def b_RTNext_79 (_ : Unit) : EB := .seq (hid b_RTNext_43) (hid b_RTNext_78)
@[simp] def b_RTNext_80 (_ : Unit) : EB := .seq (hid b_RTNext_41) (hid b_RTNext_79)
@[simp] def b_RTNext_81 (_ : Unit) : EB := .seq (hid b_RTNext_34) (hid b_RTNext_80)
@[simp] def b_RTNext_82 (_ : Unit) : EB := .seq (hid b_RTNext_13) (hid b_RTNext_81)
@[simp] def b_RTNext_83 (_ : Unit) : EB := .seq (hid b_RTNext_11) (hid b_RTNext_82)
@[simp] def b_RTNext_84 (_ : Unit) : EB := .seq (hid b_RTNext_4) (hid b_RTNext_83)
@[simp] def b_RTNext_85 (_ : Unit) : EB := .seq (hid b_RTNext_2) (hid b_RTNext_84)
def c_RTNext : EB × List QOp × Nat := ((hid b_RTNext_85), [(.mov (.t 4)), (.mov (.t 5))], 73)
theorem k_RTNext : cfun Tryd.prog 17 = some c_RTNext := by kernel_rfl


theorem lastT_succ (c : Cfg) (p : List Int) {i : Nat} {x : Int} (h : p[i]? = some x) : lastT c p (i + 1) = if c.lst ≤ x - c.stp then (i : Int) else lastT c p i := by simp [lastT, h]

set_option maxRecDepth 8000 in
set_option maxHeartbeats 8000000 in
theorem RTNext_ok (c : Cfg) (p : List Int) (hc : c.ok) (hl : p.length ≤ 100000000) : ECalls Tryd.prog 17 [CV c, IL p] [] fun y H' => H' = [] ∧ y = PI (nextT c p) := by
  have h32 := hc.1
  have t40 := tk40 h32
  refine ecalls k_RTNext ?_
  simp [c_RTNext, CV, cfgC, cfgT, IL, h32, t40]
  refine call0 (RIs_ok c p hc hl) (by simp [CV, cfgC, cfgT, IL]) ?_
  rintro y H' ⟨rfl, rfl⟩
  refine ⟨.inl (by simp [t40]), le_ok rfl, ?_⟩
  by_cases hk : hasT c p = 0
  rotate_left
  · have hh : nextT c p = ([], hasT c p) := by simp [nextT, hk]
    rw [hh]
    simp [hk, I]
    refine finW _ (weak_nilF 4 1 rfl) ?_
    exact fin [] (by decide) rfl rfl rfl ⟨rfl, rfl⟩
  obtain ⟨hk0, hkd, hko⟩ := has_all hk
  obtain ⟨hR, hA, -, -⟩ := chk_okR hk0
  obtain ⟨r1, r2, r3, r4, r5, r6, r7⟩ := id hR
  have hsb : c.stp ≤ 9223372036854775807 := hc.2.2.2.2.2.2.2.1.2
  simp [hk, I, h32]
  refine eloop (α := Nat) (fun i => i ≤ p.length) (fun i => p.length - i)
    (fun i => [.any, IL p, Ptr 0, .any, .any, .any, .any, I .i64 (lastT c p i), I .i64 i, .any, .any, .any, .any, .any, .any, .any, .any, .any, .any, .any, .any, .any, .any, .any, .any, .any, .any, .any, .any, .any, .any, .any, .any, .any, .any, .any, .any, .any, .any, .any, .any, .any, .any, .any, .any, .any, .any, .any, .any, .any, .any, .any, .any, .any, .any, .any, .any, .any, .any, .any, .any, .any, .any, .any, .any, .any, .any, .any, .any, .any, .any, .any, .any]) (fun _ => [some (.box 28 (cfgC c))]) 0 [0]
    (Nat.zero_le _) (by simp [I, IL, Ptr, lastT]) (by simp [cfgC, cfgT]) (by simp) (by simp) (by simp) ?_
  intro i hi
  simp [I, IL, Ptr, cfgC, cfgT, h32]
  refine alt (fun hlt => ?_) (fun hlt => ?_)
  · obtain ⟨x, hx⟩ : ∃ x, p[i]? = some x := ⟨p[i], by simp [hlt]⟩
    have hcb := intv_get hx
    have ho := hko x (List.mem_of_getElem? hx)
    obtain ⟨o1, o2, o3⟩ := ok_of_odd ho
    have w1 : IntKind.i64.wrap (x - c.stp) = x - c.stp := wrap_i64 (by omega) (by omega)
    have w2 : IntKind.i64.wrap ((i : Int) + 1) = ((i + 1 : Nat) : Int) := wrap_i64 (by omega) (by omega)
    have hls := lastT_succ c p hx
    by_cases hle : c.lst ≤ x - c.stp
    · rw [if_pos hle] at hls
      simp [hcb, h32, w1, w2, hle, -Int.natCast_add]
      exact round (i + 1) [0] (by omega) (by omega) (by simp [hls]) (by simp [cfgC, cfgT]) (by simp) (by simp) (by simp)
    · rw [if_neg hle] at hls
      simp [hcb, h32, w1, w2, hle, -Int.natCast_add]
      exact round (i + 1) [0] (by omega) (by omega) (by simp [hls]) (by simp [cfgC, cfgT]) (by simp) (by simp) (by simp)
  have hil : i = p.length := by omega
  subst hil
  have hlb := lastT_b c p p.length
  by_cases hneg : lastT c p p.length < 0
  · have hh : nextT c p = ([], 30) := by simp [nextT, hk, hneg]
    rw [hh]
    simp [hneg]
    refine finW _ (weak_nilF 4 1 rfl) ?_
    exact fin [] (by decide) rfl rfl rfl ⟨rfl, rfl⟩
  have hh : nextT c p = (upTo p.length (nxT c p (lastT c p p.length)), 0) := by simp [nextT, hk, hneg]
  rw [hh]
  obtain ⟨a, ha⟩ : ∃ a : Nat, lastT c p p.length = a := ⟨(lastT c p p.length).toNat, by omega⟩
  rw [ha] at hlb ⊢
  simp [show ¬ ((a : Int) < 0) by omega]
  refine loopW _ (weak_nilR 9 3 1 rfl (by omega)) ?_
  refine eloop (α := Nat) (fun i => i ≤ p.length) (fun i => p.length - i)
    (fun i => [.any, IL p, Ptr 0, .any, .any, .any, .any, I .i64 a, .any, .v (.c (.row 1 i)), I .i64 i, .any, .any, .any, .any, .any, .any, .any, .any, .any, .any, .any, .any, .any, .any, .any, .any, .any, .any, .any, .any, .any, .any, .any, .any, .any, .any, .any, .any, .any, .any, .any, .any, .any, .any, .any, .any, .any, .any, .any, .any, .any, .any, .any, .any, .any, .any, .any, .any, .any, .any, .any, .any, .any, .any, .any, .any, .any, .any, .any, .any, .any, .any]) (fun i => [some (.box 28 (cfgC c)), some (.row 3 1 (intv (upTo i (nxT c p a))))]) 0 [0, 129]
    (Nat.zero_le _) (by simp [I, IL, Ptr]) (by simp [cfgC, cfgT, intv, upTo]) (by simp) (by simp) (by simp) ?_
  intro i hi
  simp [I, IL, Ptr, cfgC, cfgT, h32]
  refine alt (fun hlt => ?_) (fun hlt => ?_)
  · obtain ⟨x, hx⟩ : ∃ x, p[i]? = some x := ⟨p[i], by simp [hlt]⟩
    have hcb := intv_get hx
    have ho := hko x (List.mem_of_getElem? hx)
    obtain ⟨o1, o2, o3⟩ := ok_of_odd ho
    have w1 : IntKind.i64.wrap (x - c.stp) = x - c.stp := wrap_i64 (by omega) (by omega)
    have w2 : IntKind.i64.wrap ((i : Int) + 1) = ((i + 1 : Nat) : Int) := wrap_i64 (by omega) (by omega)
    have e1 : intv (upTo (i + 1) (nxT c p a)) = intv (upTo i (nxT c p a)) ++ [[.lit (.int .i64 (nxT c p a i))]] := by rw [upTo_succ, intv_app]; rfl
    by_cases h1 : i < a
    · have en : nxT c p a i = x := by simp [nxT, h1, hx]
      rw [en] at e1
      simp [hcb, h32, w1, w2, h1, upTo_len, -Int.natCast_add]
      exact ⟨by omega, round (i + 1) [0, 226] (by omega) (by omega) (by simp) (by simp [e1]) (by simp) (by simp) (by simp)⟩
    by_cases h2 : i = a
    · subst h2
      have en : nxT c p i i = x - c.stp := by simp [nxT, hx]
      rw [en] at e1
      simp [hcb, h32, w1, w2, h1, upTo_len, -Int.natCast_add]
      exact ⟨by omega, round (i + 1) [0, 338] (by omega) (by omega) (by simp) (by simp [e1]) (by simp) (by simp) (by simp)⟩
    · have en : nxT c p a i = c.fst := by
        unfold nxT
        rw [if_neg (by omega), if_neg (by omega)]
      have h2' : ¬ ((i : Int) = (a : Int)) := by omega
      rw [en] at e1
      simp [hcb, h32, w1, w2, h1, h2, h2', upTo_len, -Int.natCast_add]
      exact ⟨by omega, round (i + 1) [0, 258] (by omega) (by omega) (by simp) (by simp [e1]) (by simp) (by simp) (by simp)⟩
  have hil : i = p.length := by omega
  subst hil
  simp
  refine finW _ (weak_frz (o := 1) (ty := 3) (es := 1) (xs := intv (upTo p.length (nxT c p a))) rfl) ?_
  exact fin [] (by decide) rfl rfl rfl ⟨rfl, by simp [PI, List.take_of_length_le, upTo_len]⟩

end Go.Proofs.YtoomdgmggkcgfaaDoor
