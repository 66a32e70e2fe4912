import Derived.Test.YtbbcofojjgofmaaRT
import Derived.Test.YtbbcofojjgofmaaEnc6
namespace Go.Proofs.Ytbbcofojjgofmaa
open Go Go.EW
set_option linter.unusedSimpArgs false
set_option linter.unusedVariables false

@[simp] def l_EncBack_1 (_ : Unit) : List EOp := [⟨0, (some 2), none, (.q (.mov (.k (.bool false)))), []⟩]
@[simp] def b_EncBack_2 (_ : Unit) : EB := reg0 (hid l_EncBack_1) 1
@[simp] def l_EncBack_3 (_ : Unit) : List EOp := [⟨0, (some 9), none, (.call 6 []), []⟩, ⟨1, (some 3), none, (.q (.mov (.t 9))), []⟩]
@[simp] def b_EncBack_4 (_ : Unit) : EB := reg0 (hid l_EncBack_3) 2
@[simp] def l_EncBack_5 (_ : Unit) : List EOp := [⟨0, (some 4), none, (.q (.mov (.k (.int .i64 0)))), []⟩]
@[simp] def b_EncBack_6 (_ : Unit) : EB := reg0 (hid l_EncBack_5) 1
@[simp] def l_EncBack_8 (_ : Unit) : List EOp := [⟨6, (some 16), (some (14, true)), (.q (.bin .lss (.t 15) (.k (.int .i64 200)))), []⟩, ⟨7, (some 17), none, (.q (.pick (.t 14) (.t 16) (.k (.bool false)))), []⟩]
@[simp] def l_EncBack_7 (_ : Unit) : List EOp := ⟨0, (some 10), none, (.q (.mov (.t 4))), []⟩ :: ⟨1, (some 11), none, (.q (.mov (.t 0))), []⟩ :: ⟨2, (some 12), none, (.q (.len (.t 11))), []⟩ :: ⟨3, (some 13), none, (.q (.bin .lss (.t 10) (.t 12))), []⟩ :: ⟨4, (some 14), none, (.q (.mov (.t 13))), []⟩ :: ⟨5, (some 15), (some (14, true)), (.q (.mov (.t 4))), []⟩ :: hid l_EncBack_8
@[simp] def b_EncBack_9 (_ : Unit) : EB := reg0 (hid l_EncBack_7) 8
@[simp] def b_EncBack_10 (_ : Unit) : EB := .cond (.t 17) .skip (.exit 0)
@[simp] def b_EncBack_11 (_ : Unit) : EB := .seq (hid b_EncBack_9) (hid b_EncBack_10)
@[simp] def l_EncBack_13 (_ : Unit) : List EOp := [⟨6, (some 3), none, (.q (.mov (.t 25))), []⟩]
@[simp] def l_EncBack_12 (_ : Unit) : List EOp := ⟨0, (some 20), none, (.q (.mov (.t 3))), []⟩ :: ⟨1, (some 21), none, (.q (.mov (.t 0))), []⟩ :: ⟨2, (some 22), none, (.q (.mov (.t 4))), []⟩ :: ⟨3, (some 23), none, (.q (.isl 35 (.t 21) (.t 22))), []⟩ :: ⟨4, (some 24), none, (.q (.lda 35 (.t 23))), []⟩ :: ⟨5, (some 25), none, (.call 7 [(.t 20), (.t 24)]), []⟩ :: hid l_EncBack_13
@[simp] def b_EncBack_14 (_ : Unit) : EB := reg0 (hid l_EncBack_12) 7
@[simp] def b_EncBack_15 (_ : Unit) : EB := .block 1 (hid b_EncBack_14)
@[simp] def l_EncBack_16 (_ : Unit) : List EOp := [⟨0, (some 18), none, (.q (.mov (.t 4))), []⟩, ⟨1, (some 19), none, (.q (.bin .add (.t 18) (.k (.int .i64 1)))), []⟩, ⟨2, (some 4), none, (.q (.mov (.t 19))), []⟩]
@[simp] def b_EncBack_17 (_ : Unit) : EB := reg0 (hid l_EncBack_16) 3
@[simp] def b_EncBack_18 (_ : Unit) : EB := .seq (hid b_EncBack_15) (hid b_EncBack_17)
@[simp] def b_EncBack_19 (_ : Unit) : EB := .seq (hid b_EncBack_11) (hid b_EncBack_18)
@[simp] def b_EncBack_20 (_ : Unit) : EB := .loop (hid b_EncBack_19)
@[simp] def b_EncBack_21 (_ : Unit) : EB := .block 0 (hid b_EncBack_20)
@[simp] def b_EncBack_22 (_ : Unit) : EB := .seq (hid b_EncBack_6) (hid b_EncBack_21)
@[simp] def l_EncBack_23 (_ : Unit) : List EOp := [⟨0, (some 26), none, (.q (.mov (.t 3))), []⟩, ⟨1, (some 27), none, (.call 9 [(.t 26)]), []⟩, ⟨2, (some 28), none, (.call 12 [(.t 27)]), []⟩, ⟨3, (some 5), none, (.q (.mov (.t 28))), []⟩]
@[simp] def b_EncBack_24 (_ : Unit) : EB := reg0 (hid l_EncBack_23) 4
@[simp] def l_EncBack_25 (_ : Unit) : List EOp := [⟨0, (some 6), none, (.q (.mov (.k (.int .i64 0)))), []⟩]
@[simp] def b_EncBack_26 (_ : Unit) : EB := reg0 (hid l_EncBack_25) 1
@[simp] def l_EncBack_28 (_ : Unit) : List EOp := [⟨6, (some 35), (some (33, true)), (.q (.bin .lss (.t 34) (.k (.int .i64 200)))), []⟩, ⟨7, (some 36), none, (.q (.pick (.t 33) (.t 35) (.k (.bool false)))), []⟩]
@[simp] def l_EncBack_27 (_ : Unit) : List EOp := ⟨0, (some 29), none, (.q (.mov (.t 6))), []⟩ :: ⟨1, (some 30), none, (.q (.mov (.t 0))), []⟩ :: ⟨2, (some 31), none, (.q (.len (.t 30))), []⟩ :: ⟨3, (some 32), none, (.q (.bin .lss (.t 29) (.t 31))), []⟩ :: ⟨4, (some 33), none, (.q (.mov (.t 32))), []⟩ :: ⟨5, (some 34), (some (33, true)), (.q (.mov (.t 6))), []⟩ :: hid l_EncBack_28
@[simp] def b_EncBack_29 (_ : Unit) : EB := reg0 (hid l_EncBack_27) 8
@[simp] def b_EncBack_30 (_ : Unit) : EB := .cond (.t 36) .skip (.exit 2)
@[simp] def b_EncBack_31 (_ : Unit) : EB := .seq (hid b_EncBack_29) (hid b_EncBack_30)
@[simp] def l_EncBack_32 (_ : Unit) : List EOp := [⟨0, (some 39), none, (.q (.mov (.t 0))), []⟩, ⟨1, (some 40), none, (.q (.mov (.t 6))), []⟩, ⟨2, (some 41), none, (.q (.isl 35 (.t 39) (.t 40))), []⟩, ⟨3, (some 42), none, (.q (.lda 35 (.t 41))), []⟩, ⟨4, (some 7), none, (.q (.alloc 30 (([(.int .i64 0), (.int .i64 0), (.slice none 0 0)] : List Value) ++ zU8))), []⟩, ⟨5, none, none, (.fz (.sto 35 (.t 7) (.t 42))), []⟩]
@[simp] def b_EncBack_33 (_ : Unit) : EB := reg0 (hid l_EncBack_32) 6
@[simp] def l_EncBack_34 (_ : Unit) : List EOp := [⟨0, (some 8), none, (.q (.mov (.k (.bool false)))), []⟩]
@[simp] def b_EncBack_35 (_ : Unit) : EB := reg0 (hid l_EncBack_34) 1
@[simp] def l_EncBack_36 (_ : Unit) : List EOp := [⟨0, (some 43), none, (.q (.fad 0 (.t 7))), []⟩, ⟨1, (some 44), none, (.q (.ldc (.t 43))), []⟩, ⟨2, (some 45), none, (.q (.cnv .u64 (.t 44))), []⟩, ⟨3, (some 46), none, (.q (.bin .rem (.t 45) (.k (.int .u64 4)))), []⟩, ⟨4, (some 47), none, (.q (.cnv .i64 (.t 46))), []⟩]
@[simp] def b_EncBack_37 (_ : Unit) : EB := reg0 (hid l_EncBack_36) 5
@[simp] def l_EncBack_38 (_ : Unit) : List EOp := [⟨0, (some 54), none, (.q (.bin .eql (.t 47) (.k (.int .i64 0)))), []⟩, ⟨1, (some 53), none, (.q (.mov (.t 54))), []⟩]
@[simp] def b_EncBack_39 (_ : Unit) : EB := reg0 (hid l_EncBack_38) 2
@[simp] def l_EncBack_41 (_ : Unit) : List EOp := [⟨6, (some 8), none, (.q (.mov (.t 60))), []⟩]
@[simp] def l_EncBack_40 (_ : Unit) : List EOp := ⟨0, (some 55), none, (.q (.mov (.t 5))), []⟩ :: ⟨2, (some 57), none, (.q (.fad 1 (.t 7))), []⟩ :: ⟨3, (some 58), none, (.q (.ldc (.t 57))), []⟩ :: ⟨4, (some 59), none, (.q (.cnv .u64 (.t 58))), []⟩ :: ⟨1, (some 56), none, (.call 13 [(.t 55), (.k (.int .u64 18446744073709551615))]), [2, 3, 4]⟩ :: ⟨5, (some 60), none, (.q (.bin .eql (.t 56) (.t 59))), []⟩ :: hid l_EncBack_41
@[simp] def b_EncBack_42 (_ : Unit) : EB := reg1 (hid l_EncBack_40) 7
@[simp] def l_EncBack_43 (_ : Unit) : List EOp := [⟨0, (some 62), none, (.q (.bin .eql (.t 47) (.k (.int .i64 1)))), []⟩, ⟨1, (some 61), none, (.q (.mov (.t 62))), []⟩]
@[simp] def b_EncBack_44 (_ : Unit) : EB := reg0 (hid l_EncBack_43) 2
@[simp] def l_EncBack_45 (_ : Unit) : List EOp := [⟨0, (some 63), none, (.q (.mov (.t 5))), []⟩, ⟨2, (some 65), none, (.q (.fad 1 (.t 7))), []⟩, ⟨3, (some 66), none, (.q (.ldc (.t 65))), []⟩, ⟨1, (some 64), none, (.call 14 [(.t 63)]), [2, 3]⟩, ⟨4, (some 67), none, (.q (.bin .eql (.t 64) (.t 66))), []⟩, ⟨5, (some 8), none, (.q (.mov (.t 67))), []⟩]
@[simp] def b_EncBack_46 (_ : Unit) : EB := reg1 (hid l_EncBack_45) 6
@[simp] def l_EncBack_47 (_ : Unit) : List EOp := [⟨0, (some 69), none, (.q (.bin .eql (.t 47) (.k (.int .i64 2)))), []⟩, ⟨1, (some 68), none, (.q (.mov (.t 69))), []⟩]
@[simp] def b_EncBack_48 (_ : Unit) : EB := reg0 (hid l_EncBack_47) 2
@[simp] def l_EncBack_50 (_ : Unit) : List EOp := [⟨8, (some 78), none, (.q (.b2s (.t 77))), []⟩, ⟨4, (some 74), none, (.call 15 [(.t 70), (.t 73)]), [6, 7, 8]⟩, ⟨5, (some 75), none, (.q (.b2s (.t 74))), []⟩, ⟨9, (some 79), none, (.q (.bin .eql (.t 75) (.t 78))), []⟩, ⟨10, (some 8), none, (.q (.mov (.t 79))), []⟩]
@[simp] def l_EncBack_49 (_ : Unit) : List EOp := ⟨0, (some 70), none, (.q (.mov (.t 5))), []⟩ :: ⟨1, (some 71), none, (.q (.fad 2 (.t 7))), []⟩ :: ⟨2, (some 72), none, (.q (.ldc (.t 71))), []⟩ :: ⟨3, (some 73), none, (.q (.len (.t 72))), []⟩ :: ⟨6, (some 76), none, (.q (.fad 2 (.t 7))), []⟩ :: ⟨7, (some 77), none, (.q (.ldc (.t 76))), []⟩ :: hid l_EncBack_50
@[simp] def b_EncBack_51 (_ : Unit) : EB := reg1 (hid l_EncBack_49) 11
@[simp] def l_EncBack_52 (_ : Unit) : List EOp := [⟨0, (some 48), none, (.q (.mov (.t 5))), []⟩, ⟨2, (some 50), none, (.q (.fad 3 (.t 7))), []⟩, ⟨3, (some 51), none, (.q (.lda 32 (.t 50))), []⟩, ⟨1, (some 49), none, (.call 16 [(.t 48)]), [2, 3]⟩, ⟨4, (some 52), none, (.q (.eqa false 32 .u8 (.t 49) (.t 51))), []⟩, ⟨5, (some 8), none, (.q (.mov (.t 52))), []⟩]
@[simp] def b_EncBack_53 (_ : Unit) : EB := reg1 (hid l_EncBack_52) 6
@[simp] def b_EncBack_54 (_ : Unit) : EB := .cond (.t 68) (hid b_EncBack_51) (hid b_EncBack_53)
@[simp] def b_EncBack_55 (_ : Unit) : EB := .seq (hid b_EncBack_48) (hid b_EncBack_54)
@[simp] def b_EncBack_56 (_ : Unit) : EB := .cond (.t 61) (hid b_EncBack_46) (hid b_EncBack_55)
@[simp] def b_EncBack_57 (_ : Unit) : EB := .seq (hid b_EncBack_44) (hid b_EncBack_56)
@[simp] def b_EncBack_58 (_ : Unit) : EB := .cond (.t 53) (hid b_EncBack_42) (hid b_EncBack_57)
@[simp] def b_EncBack_59 (_ : Unit) : EB := .seq (hid b_EncBack_39) (hid b_EncBack_58)
@[simp] def b_EncBack_60 (_ : Unit) : EB := .block 4 (hid b_EncBack_59)
@[simp] def b_EncBack_61 (_ : Unit) : EB := .seq (hid b_EncBack_37) (hid b_EncBack_60)
@[simp] def l_EncBack_62 (_ : Unit) : List EOp := [⟨0, (some 80), none, (.q (.mov (.t 8))), []⟩, ⟨1, (some 81), none, (.q (.un .not (.t 80))), []⟩]
@[simp] def b_EncBack_63 (_ : Unit) : EB := reg0 (hid l_EncBack_62) 2
@[simp] def l_EncBack_64 (_ : Unit) : List EOp := [⟨0, (some 2), none, (.q (.mov (.k (.bool false)))), []⟩]
@[simp] def b_EncBack_65 (_ : Unit) : EB := reg0 (hid l_EncBack_64) 1
@[simp] def b_EncBack_66 (_ : Unit) : EB := .seq (hid b_EncBack_65) .ret
@[simp] def b_EncBack_67 (_ : Unit) : EB := .cond (.t 81) (hid b_EncBack_66) .skip
@[simp] def b_EncBack_68 (_ : Unit) : EB := .seq (hid b_EncBack_63) (hid b_EncBack_67)
@[simp] def b_EncBack_69 (_ : Unit) : EB := .seq (hid b_EncBack_61) (hid b_EncBack_68)
@[simp] def b_EncBack_70 (_ : Unit) : EB := .seq (hid b_EncBack_35) (hid b_EncBack_69)
@[simp] def b_EncBack_71 (_ : Unit) : EB := .seq (hid b_EncBack_33) (hid b_EncBack_70)
@[simp] def b_EncBack_72 (_ : Unit) : EB := .block 3 (hid b_EncBack_71)
@[simp] def l_EncBack_73 (_ : Unit) : List EOp := [⟨0, (some 37), none, (.q (.mov (.t 6))), []⟩, ⟨1, (some 38), none, (.q (.bin .add (.t 37) (.k (.int .i64 1)))), []⟩, ⟨2, (some 6), none, (.q (.mov (.t 38))), []⟩]
@[simp] def b_EncBack_74 (_ : Unit) : EB := reg0 (hid l_EncBack_73) 3
@[simp] def b_EncBack_75 (_ : Unit) : EB := .seq (hid b_EncBack_72) (hid b_EncBack_74)
@[simp] def b_EncBack_76 (_ : Unit) : EB := .seq (hid b_EncBack_31) (hid b_EncBack_75)
@[simp] def b_EncBack_77 (_ : Unit) : EB := .loop (hid b_EncBack_76)
@[simp] def b_EncBack_78 (_ : Unit) : EB := .block 2 (hid b_EncBack_77)
@[simp] def b_EncBack_79 (_ : Unit) : EB := .seq (hid b_EncBack_26) (hid b_EncBack_78)
@[simp] def l_EncBack_81 (_ : Unit) : List EOp := [⟨6, (some 88), (some (85, true)), (.q (.bin .eql (.t 87) (.k (.int .i64 0)))), []⟩, ⟨7, (some 89), none, (.q (.pick (.t 85) (.t 88) (.k (.bool false)))), []⟩, ⟨8, (some 90), none, (.q (.mov (.t 89))), []⟩, ⟨9, (some 91), (some (90, true)), (.call 10 []), []⟩, ⟨10, (some 92), none, (.q (.pick (.t 90) (.t 91) (.k (.bool false)))), []⟩, ⟨11, (some 2), none, (.q (.mov (.t 92))), []⟩]
@[simp] def l_EncBack_80 (_ : Unit) : List EOp := ⟨0, (some 82), none, (.q (.mov (.t 5))), []⟩ :: ⟨1, (some 83), none, (.call 17 [(.t 82)]), []⟩ :: ⟨2, (some 84), none, (.q (.eqi false (.t 83))), []⟩ :: ⟨3, (some 85), none, (.q (.mov (.t 84))), []⟩ :: ⟨4, (some 86), (some (85, true)), (.q (.mov (.t 5))), []⟩ :: ⟨5, (some 87), (some (85, true)), (.call 18 [(.t 86)]), []⟩ :: hid l_EncBack_81
@[simp] def b_EncBack_82 (_ : Unit) : EB := reg0 (hid l_EncBack_80) 12
@[simp] def b_EncBack_83 (_ : Unit) : EB := .seq (hid b_EncBack_82) .ret
@[simp] def b_EncBack_84 (_ : Unit) : EB := .seq (hid b_EncBack_79) (hid b_EncBack_83)
@[simp] def b_EncBack_85 (_ : Unit) : EB := .seq (hid b_EncBack_24) (hid b_EncBack_84)
@[simp] def b_EncBack_86 (_ : Unit) : EB := .seq (hid b_EncBack_22) (hid b_EncBack_85)
@[simp] def b_EncBack_87 (_ : Unit) : EB := .seq (hid b_EncBack_4) (hid b_EncBack_86)
@[simp] def b_EncBack_88 (_ : Unit) : EB := .seq (hid b_EncBack_2) (hid b_EncBack_87)
def c_EncBack : EB × List QOp × Nat := ((hid b_EncBack_88), [(.mov (.t 2))], 93)
theorem k_EncBack : cfun Try.prog 5 = some c_EncBack := by kernel_rfl


set_option maxRecDepth 8000 in
set_option maxHeartbeats 8000000 in
theorem EncBack_ok (l : List Th) (hl : ∀ x ∈ l, x.ok) (hb : bulk (l.take 200) ≤ 800000000) :
    ECalls Try.prog 5 [Ths l] [] fun y H' => H' = [] ∧ y = .lit (.bool true) := by
  refine ecalls k_EncBack ?_
  simp [c_EncBack, Ths]
  refine call0 (New_ok) (by simp [Ptr, NP, I, R, RO, WO, RdO, Bs, EV.lit]) ?_
  rintro y H' ⟨rfl, rfl⟩
  refine ⟨.inl (by simp [Ptr, NP, I, R, RO, WO, RdO, Bs, EV.lit]), le_ok rfl, ?_⟩
  simp [Ptr, NP, I, R, RO, WO, RdO, Bs, EV.lit]
  refine eloop (α := Nat) (fun i => i ≤ l.length ∧ i ≤ 200) (fun i => 200 - i)
    (fun i => [Ths l, .any, .any, Ptr 0, I .i64 i, .any, .any, .any, .any, .any, .any, .any, .any, .any, .any, .any, .any, .any, .any, .any, .any, .any, .any, .any, .any, .any, .any, .any, .any, .any, .any, .any, .any, .any, .any, .any, .any, .any, .any, .any, .any, .any, .any, .any, .any, .any, .any, .any, .any, .any, .any, .any, .any, .any, .any, .any, .any, .any, .any, .any, .any, .any, .any, .any, .any, .any, .any, .any, .any, .any, .any, .any, .any, .any, .any, .any, .any, .any, .any, .any, .any, .any, .any, .any, .any, .any, .any, .any, .any, .any, .any, .any, .any]) (fun i => [some (WO 1 (laysB (l.take i))), some (RO (laysB (l.take i)))]) 0 [16, 17]
    (by simp) (by simp [Ths, Ptr, I]) (by simp [WO, RO, laysB]) (by simp) (by simp) (by simp) ?_
  rintro i ⟨hi, hi2⟩
  have hlb : (laysB (l.take i)).length ≤ 800000000 := by
    have h1 := lays_len (l.take i) (fun y hy => hl y (List.mem_of_mem_take hy))
    have h2 := bulk_take (l.take 200) i
    rw [List.take_take, show min i 200 = i by omega] at h2
    omega
  simp [Ths, Ptr, I, WO, RO]
  by_cases hr : i < l.length ∧ (i : Int) < 200
  · obtain ⟨hp, hq⟩ := hr
    obtain ⟨x, hx⟩ : ∃ x, l[i]? = some x := ⟨l[i], by simp [hp]⟩
    have hxo := hl x (List.mem_of_getElem? hx)
    have hts : l.take (i + 1) = l.take i ++ [x] := by rw [List.take_add_one, hx]; rfl
    have hxe : l[i] = x := by rw [List.getElem?_eq_getElem hp] at hx; exact Option.some.inj hx
    have e1 := thF_len hxo
    have e2 := thF_take hxo
    have w1 : IntKind.i64.wrap ((i : Int) + 1) = ((i + 1 : Nat) : Int) := wrap_i64 (by omega) (by omega)
    have hls : laysB (l.take (i + 1)) = laysB (l.take i) ++ layB x := by rw [hts, lays_snoc]
    simp [hp, hq, hxe, e1, e2]
    refine callH [0, 1] (lay_ok (laysB (l.take i)) x hxo (by omega)) (by simp [Ptr, thC]) (by simp [WO, RO]) (by simp) (by simp) (by simp) ?_
    rintro y H' ⟨rfl, rfl⟩
    refine ⟨.inl (by simp [thC]), le_ok rfl, ?_⟩
    simp [Ptr, w1, -Int.natCast_add]
    exact round (i + 1) [0, 210] ⟨by omega, by omega⟩ (by omega) (by simp) (by simp [hls, WO, RO]) (by simp) (by simp) (by simp)
  by_cases hp : i < l.length
  · have hq : ¬ (i : Int) < 200 := fun h => hr ⟨hp, h⟩
    simp [hp, hq]
    refine callH [0, 1] (WDone_ok (laysB (l.take i)) (by omega)) (by simp [Ptr, NP, I, R, RO, WO, RdO, Bs, EV.lit]) (by simp [Ptr, NP, I, R, RO, WO, RdO, Bs, EV.lit]) (by simp) (by simp [Ptr, NP, I, R, RO, WO, RdO, Bs, EV.lit]) (by simp [Wok]) ?_
    rintro y H' ⟨rfl, rfl⟩
    refine ⟨.inl (by simp [Ptr, NP, I, R, RO, WO, RdO, Bs, EV.lit]), le_ok rfl, ?_⟩
    simp [WO, RO, R]
    refine callH [146] (Read_own (laysB (l.take i))) (by simp [Ptr, NP, I, R, RO, WO, RdO, Bs, EV.lit]) (by simp [Ptr, NP, I, R, RO, WO, RdO, Bs, EV.lit]) (by simp) (by simp [Ptr, NP, I, R, RO, WO, RdO, Bs, EV.lit]) (by simp [Wok]) ?_
    rintro y H' ⟨rfl, rfl⟩
    refine ⟨.inl (by simp [Ptr, NP, I, R, RO, WO, RdO, Bs, EV.lit]), le_ok rfl, ?_⟩
    simp [RdO, Ptr]
    refine eloop (α := Nat) (fun j => j ≤ i) (fun j => i - j)
      (fun j => [Ths l, .any, .any, .any, .any, Ptr 0, I .i64 j, .any, .any, .any, .any, .any, .any, .any, .any, .any, .any, .any, .any, .any, .any, .any, .any, .any, .any, .any, .any, .any, .any, .any, .any, .any, .any, .any, .any, .any, .any, .any, .any, .any, .any, .any, .any, .any, .any, .any, .any, .any, .any, .any, .any, .any, .any, .any, .any, .any, .any, .any, .any, .any, .any, .any, .any, .any, .any, .any, .any, .any, .any, .any, .any, .any, .any, .any, .any, .any, .any, .any, .any, .any, .any, .any, .any, .any, .any, .any, .any, .any, .any, .any, .any, .any, .any]) (fun j => [some (RdO (laysB (l.take i)) (laysB (l.take j)).length 0)]) 0 [162]
      (by simp) (by simp [Ths, Ptr, I]) (by simp [RdO, laysB]) (by simp) (by simp) (by simp) ?_
    intro j hj
    simp [Ths, Ptr, I, RdO]
    by_cases hji : j < i
    · obtain ⟨x, hx⟩ : ∃ x, l[j]? = some x := ⟨l[j]'(by omega), by simp⟩
      have hxo := hl x (List.mem_of_getElem? hx)
      have hcb : (l.map thF)[j]? = some (thF x) := by simp [hx]
      have e1 := thF_len hxo
      have e2 := thF_take hxo
      obtain ⟨r, hL⟩ : ∃ r, laysB (l.take i) = laysB (l.take j) ++ (layB x ++ r) := by
        refine ⟨laysB ((l.drop (j + 1)).take (i - (j + 1))), ?_⟩
        have h1 : l.take i = l.take (j + 1) ++ (l.drop (j + 1)).take (i - (j + 1)) := by rw [← List.take_add, show j + 1 + (i - (j + 1)) = i by omega]
        rw [h1, show l.take (j + 1) = l.take j ++ [x] by rw [List.take_add_one, hx]; rfl]
        simp [laysB]
      have hnx : laysB (l.take (j + 1)) = laysB (l.take j) ++ layB x := by rw [List.take_add_one, hx]; exact lays_snoc _ _
      have hdr : (laysB (l.take i)).drop (laysB (l.take j)).length = layB x ++ r := by rw [hL, List.drop_left]
      have hpl : (laysB (l.take j)).length ≤ (laysB (l.take i)).length := by rw [hL, List.length_append]; omega
      have w2 : IntKind.i64.wrap ((j : Int) + 1) = ((j + 1 : Nat) : Int) := wrap_i64 (by omega) (by omega)
      have h200 : (j : Int) < 200 := by omega
      have hjl : j < l.length := by omega
      have hkd := kd_eq x
      have hkl := kd_lt x
      have hxe : l[j] = x := by rw [List.getElem?_eq_getElem hjl] at hx; exact Option.some.inj hx
      have h32 : x.h.length = 32 := hxo.2.2.2.2.2
      have e3 : (thC x).length = 35 := by simp [thC, h32]
      have e4 : List.drop 35 (EC.fz (.lit (.int .i64 0)) :: EC.fz (.lit (.int .i64 0)) :: EC.fz (.lit (.slice none 0 0)) :: hc hz) = ([] : List EC) := rfl
      simp [hjl, h200, hxe, e1, e2, e3, e4]
      simp [thC, hkd]
      refine alt (fun k0 => ?_) (fun k0 => ?_)
      · have hlx : layB x = uintB (u64n x.n) := by rw [layB, if_pos (by omega)]
        rw [hlx] at hnx hdr
        have hrt := num_rt (u64n_lt x.n) (most := 18446744073709551615) (by have := u64n_lt x.n; omega) r
        have hrd := RdUint_ok (laysB (l.take i)) (laysB (l.take j)).length 18446744073709551615 hpl (by omega) (by omega)
        rw [hdr, hrt] at hrd
        simp
        refine callH [0] (hrd) (by simp [Ptr, NP, I, R, RO, WO, RdO, Bs, EV.lit]) (by simp [Ptr, NP, I, R, RO, WO, RdO, Bs, EV.lit]) (by simp) (by simp [Ptr, NP, I, R, RO, WO, RdO, Bs, EV.lit]) (by simp [Wok]) ?_
        rintro y H' ⟨rfl, rfl⟩
        refine ⟨.inl (by simp [Ptr, NP, I, R, RO, WO, RdO, Bs, EV.lit]), le_ok rfl, ?_⟩
        simp [I, RdO, wrap_u64n, w2, -Int.natCast_add]
        exact round (j + 1) [0] (by omega) (by omega) (by simp) (by simp [hnx, RdO]) (by simp) (by simp) (by simp)
      simp [hkd]
      refine alt (fun k1 => ?_) (fun k1 => ?_)
      · have hlx : layB x = intB x.n := by rw [layB, if_neg (by omega), if_pos (by omega)]
        rw [hlx] at hnx hdr
        have hrt := int_rt hxo.2.2.1 hxo.2.2.2.1 r
        have hrd := RdInt_ok (laysB (l.take i)) (laysB (l.take j)).length hpl (by omega)
        rw [hdr, hrt] at hrd
        simp
        refine callH [0] (hrd) (by simp [Ptr, NP, I, R, RO, WO, RdO, Bs, EV.lit]) (by simp [Ptr, NP, I, R, RO, WO, RdO, Bs, EV.lit]) (by simp) (by simp [Ptr, NP, I, R, RO, WO, RdO, Bs, EV.lit]) (by simp [Wok]) ?_
        rintro y H' ⟨rfl, rfl⟩
        refine ⟨.inl (by simp [Ptr, NP, I, R, RO, WO, RdO, Bs, EV.lit]), le_ok rfl, ?_⟩
        simp [I, RdO, w2, -Int.natCast_add]
        exact round (j + 1) [0] (by omega) (by omega) (by simp) (by simp [hnx, RdO]) (by simp) (by simp) (by simp)
      simp [hkd]
      refine alt (fun k2 => ?_) (fun k2 => ?_)
      · have hlx : layB x = bytesB x.b := by rw [layB, if_neg (by omega), if_neg (by omega), if_pos (by omega)]
        rw [hlx] at hnx hdr
        have hrt : bytZ (bytesB x.b ++ r) (x.b.length : Int) = (0, x.b, (bytesB x.b).length) := by
          rw [bytZ, if_neg (by omega), Int.toNat_natCast]
          exact byt_rt x.b x.b.length r (Nat.le_refl _)
        have hrd := RdBytes_ok (laysB (l.take i)) (laysB (l.take j)).length (x.b.length : Int) hpl (by omega)
        rw [hdr, hrt] at hrd
        simp
        refine callH [0] (hrd) (by simp [Ptr, NP, I, R, RO, WO, RdO, Bs, EV.lit]) (by simp [Ptr, NP, I, R, RO, WO, RdO, Bs, EV.lit]) (by simp) (by simp [Ptr, NP, I, R, RO, WO, RdO, Bs, EV.lit]) (by simp [Wok]) ?_
        rintro y H' ⟨rfl, rfl⟩
        refine ⟨.inl (by simp [Ptr, NP, I, R, RO, WO, RdO, Bs, EV.lit]), le_ok rfl, ?_⟩
        simp [I, RdO, Bs, w2, -Int.natCast_add]
        exact round (j + 1) [0] (by omega) (by omega) (by simp) (by simp [hnx, RdO]) (by simp) (by simp) (by simp)
      have hlx : layB x = x.h := by rw [layB, if_neg (by omega), if_neg (by omega), if_neg (by omega)]
      rw [hlx] at hnx hdr
      have ht32 : x.h.take 32 = x.h := List.take_of_length_le (by omega)
      have hrt : hashS (x.h ++ r) = (0, x.h, x.h.length) := by
        rw [hashS, if_neg (by rw [List.length_append]; omega), List.take_append_of_le_length (by omega), ht32, h32]
      have hrd := RdHash_ok (laysB (l.take i)) (laysB (l.take j)).length hpl (by omega)
      rw [hdr, hrt] at hrd
      simp [h32, ht32]
      refine callH [0] (hrd) (by simp [Ptr, NP, I, R, RO, WO, RdO, Bs, EV.lit]) (by simp [Ptr, NP, I, R, RO, WO, RdO, Bs, EV.lit]) (by simp) (by simp [Ptr, NP, I, R, RO, WO, RdO, Bs, EV.lit]) (by simp [Wok]) ?_
      rintro y H' ⟨rfl, rfl⟩
      refine ⟨.inl (by simp [Ptr, NP, I, R, RO, WO, RdO, Bs, EV.lit]), le_ok rfl, ?_⟩
      simp [I, RdO, Ag, h32, ht32, w2, -Int.natCast_add]
      exact round (j + 1) [0] (by omega) (by omega) (by simp) (by simp [hnx, RdO, h32]) (by simp) (by simp) (by simp)
    have hij : j = i := by omega
    subst hij
    by_cases hjl : j < l.length
    · have h200 : ¬ (j : Int) < 200 := by omega
      simp [hjl, h200]
      refine callH [0] (RdDone_ok (laysB (l.take j)) (laysB (l.take j)).length 0 (Nat.le_refl _)) (by simp [Ptr, NP, I, R, RO, WO, RdO, Bs, EV.lit]) (by simp [Ptr, NP, I, R, RO, WO, RdO, Bs, EV.lit]) (by simp) (by simp [Ptr, NP, I, R, RO, WO, RdO, Bs, EV.lit]) (by simp [Wok]) ?_
      rintro y H' ⟨rfl, rfl⟩
      refine ⟨.inl (by simp [Ptr, NP, I, R, RO, WO, RdO, Bs, EV.lit]), le_ok rfl, ?_⟩
      simp [RdO, -errV_0]
      refine callH [0] (RdLeft_ok (laysB (l.take j)) (laysB (l.take j)).length 0 (Nat.le_refl _)) (by simp [Ptr, NP, I, R, RO, WO, RdO, Bs, EV.lit]) (by simp [Ptr, NP, I, R, RO, WO, RdO, Bs, EV.lit]) (by simp) (by simp [Ptr, NP, I, R, RO, WO, RdO, Bs, EV.lit]) (by simp [Wok]) ?_
      rintro y H' ⟨rfl, rfl⟩
      refine ⟨.inl (by simp [Ptr, NP, I, R, RO, WO, RdO, Bs, EV.lit]), le_ok rfl, ?_⟩
      simp [I, RdO]
      refine call0 (sure_ok) (by simp [Ptr, NP, I, R, RO, WO, RdO, Bs, EV.lit]) ?_
      rintro y H' ⟨rfl, rfl⟩
      refine ⟨.inl (by simp [Ptr, NP, I, R, RO, WO, RdO, Bs, EV.lit]), le_ok rfl, ?_⟩
      simp [Ptr, NP, I, R, RO, WO, RdO, Bs, EV.lit]
      exact fin [] (by decide) rfl rfl rfl ⟨rfl, rfl⟩
    · simp [hjl]
      refine callH [0] (RdDone_ok (laysB (l.take j)) (laysB (l.take j)).length 0 (Nat.le_refl _)) (by simp [Ptr, NP, I, R, RO, WO, RdO, Bs, EV.lit]) (by simp [Ptr, NP, I, R, RO, WO, RdO, Bs, EV.lit]) (by simp) (by simp [Ptr, NP, I, R, RO, WO, RdO, Bs, EV.lit]) (by simp [Wok]) ?_
      rintro y H' ⟨rfl, rfl⟩
      refine ⟨.inl (by simp [Ptr, NP, I, R, RO, WO, RdO, Bs, EV.lit]), le_ok rfl, ?_⟩
      simp [RdO, -errV_0]
      refine callH [0] (RdLeft_ok (laysB (l.take j)) (laysB (l.take j)).length 0 (Nat.le_refl _)) (by simp [Ptr, NP, I, R, RO, WO, RdO, Bs, EV.lit]) (by simp [Ptr, NP, I, R, RO, WO, RdO, Bs, EV.lit]) (by simp) (by simp [Ptr, NP, I, R, RO, WO, RdO, Bs, EV.lit]) (by simp [Wok]) ?_
      rintro y H' ⟨rfl, rfl⟩
      refine ⟨.inl (by simp [Ptr, NP, I, R, RO, WO, RdO, Bs, EV.lit]), le_ok rfl, ?_⟩
      simp [I, RdO]
      refine call0 (sure_ok) (by simp [Ptr, NP, I, R, RO, WO, RdO, Bs, EV.lit]) ?_
      rintro y H' ⟨rfl, rfl⟩
      refine ⟨.inl (by simp [Ptr, NP, I, R, RO, WO, RdO, Bs, EV.lit]), le_ok rfl, ?_⟩
      simp [Ptr, NP, I, R, RO, WO, RdO, Bs, EV.lit]
      exact fin [] (by decide) rfl rfl rfl ⟨rfl, rfl⟩
  · simp [hp]
    refine callH [0, 1] (WDone_ok (laysB (l.take i)) (by omega)) (by simp [Ptr, NP, I, R, RO, WO, RdO, Bs, EV.lit]) (by simp [Ptr, NP, I, R, RO, WO, RdO, Bs, EV.lit]) (by simp) (by simp [Ptr, NP, I, R, RO, WO, RdO, Bs, EV.lit]) (by simp [Wok]) ?_
    rintro y H' ⟨rfl, rfl⟩
    refine ⟨.inl (by simp [Ptr, NP, I, R, RO, WO, RdO, Bs, EV.lit]), le_ok rfl, ?_⟩
    simp [WO, RO, R]
    refine callH [146] (Read_own (laysB (l.take i))) (by simp [Ptr, NP, I, R, RO, WO, RdO, Bs, EV.lit]) (by simp [Ptr, NP, I, R, RO, WO, RdO, Bs, EV.lit]) (by simp) (by simp [Ptr, NP, I, R, RO, WO, RdO, Bs, EV.lit]) (by simp [Wok]) ?_
    rintro y H' ⟨rfl, rfl⟩
    refine ⟨.inl (by simp [Ptr, NP, I, R, RO, WO, RdO, Bs, EV.lit]), le_ok rfl, ?_⟩
    simp [RdO, Ptr]
    refine eloop (α := Nat) (fun j => j ≤ i) (fun j => i - j)
      (fun j => [Ths l, .any, .any, .any, .any, Ptr 0, I .i64 j, .any, .any, .any, .any, .any, .any, .any, .any, .any, .any, .any, .any, .any, .any, .any, .any, .any, .any, .any, .any, .any, .any, .any, .any, .any, .any, .any, .any, .any, .any, .any, .any, .any, .any, .any, .any, .any, .any, .any, .any, .any, .any, .any, .any, .any, .any, .any, .any, .any, .any, .any, .any, .any, .any, .any, .any, .any, .any, .any, .any, .any, .any, .any, .any, .any, .any, .any, .any, .any, .any, .any, .any, .any, .any, .any, .any, .any, .any, .any, .any, .any, .any, .any, .any, .any, .any]) (fun j => [some (RdO (laysB (l.take i)) (laysB (l.take j)).length 0)]) 0 [162]
      (by simp) (by simp [Ths, Ptr, I]) (by simp [RdO, laysB]) (by simp) (by simp) (by simp) ?_
    intro j hj
    simp [Ths, Ptr, I, RdO]
    by_cases hji : j < i
    · obtain ⟨x, hx⟩ : ∃ x, l[j]? = some x := ⟨l[j]'(by omega), by simp⟩
      have hxo := hl x (List.mem_of_getElem? hx)
      have hcb : (l.map thF)[j]? = some (thF x) := by simp [hx]
      have e1 := thF_len hxo
      have e2 := thF_take hxo
      obtain ⟨r, hL⟩ : ∃ r, laysB (l.take i) = laysB (l.take j) ++ (layB x ++ r) := by
        refine ⟨laysB ((l.drop (j + 1)).take (i - (j + 1))), ?_⟩
        have h1 : l.take i = l.take (j + 1) ++ (l.drop (j + 1)).take (i - (j + 1)) := by rw [← List.take_add, show j + 1 + (i - (j + 1)) = i by omega]
        rw [h1, show l.take (j + 1) = l.take j ++ [x] by rw [List.take_add_one, hx]; rfl]
        simp [laysB]
      have hnx : laysB (l.take (j + 1)) = laysB (l.take j) ++ layB x := by rw [List.take_add_one, hx]; exact lays_snoc _ _
      have hdr : (laysB (l.take i)).drop (laysB (l.take j)).length = layB x ++ r := by rw [hL, List.drop_left]
      have hpl : (laysB (l.take j)).length ≤ (laysB (l.take i)).length := by rw [hL, List.length_append]; omega
      have w2 : IntKind.i64.wrap ((j : Int) + 1) = ((j + 1 : Nat) : Int) := wrap_i64 (by omega) (by omega)
      have h200 : (j : Int) < 200 := by omega
      have hjl : j < l.length := by omega
      have hkd := kd_eq x
      have hkl := kd_lt x
      have hxe : l[j] = x := by rw [List.getElem?_eq_getElem hjl] at hx; exact Option.some.inj hx
      have h32 : x.h.length = 32 := hxo.2.2.2.2.2
      have e3 : (thC x).length = 35 := by simp [thC, h32]
      have e4 : List.drop 35 (EC.fz (.lit (.int .i64 0)) :: EC.fz (.lit (.int .i64 0)) :: EC.fz (.lit (.slice none 0 0)) :: hc hz) = ([] : List EC) := rfl
      simp [hjl, h200, hxe, e1, e2, e3, e4]
      simp [thC, hkd]
      refine alt (fun k0 => ?_) (fun k0 => ?_)
      · have hlx : layB x = uintB (u64n x.n) := by rw [layB, if_pos (by omega)]
        rw [hlx] at hnx hdr
        have hrt := num_rt (u64n_lt x.n) (most := 18446744073709551615) (by have := u64n_lt x.n; omega) r
        have hrd := RdUint_ok (laysB (l.take i)) (laysB (l.take j)).length 18446744073709551615 hpl (by omega) (by omega)
        rw [hdr, hrt] at hrd
        simp
        refine callH [0] (hrd) (by simp [Ptr, NP, I, R, RO, WO, RdO, Bs, EV.lit]) (by simp [Ptr, NP, I, R, RO, WO, RdO, Bs, EV.lit]) (by simp) (by simp [Ptr, NP, I, R, RO, WO, RdO, Bs, EV.lit]) (by simp [Wok]) ?_
        rintro y H' ⟨rfl, rfl⟩
        refine ⟨.inl (by simp [Ptr, NP, I, R, RO, WO, RdO, Bs, EV.lit]), le_ok rfl, ?_⟩
        simp [I, RdO, wrap_u64n, w2, -Int.natCast_add]
        exact round (j + 1) [0] (by omega) (by omega) (by simp) (by simp [hnx, RdO]) (by simp) (by simp) (by simp)
      simp [hkd]
      refine alt (fun k1 => ?_) (fun k1 => ?_)
      · have hlx : layB x = intB x.n := by rw [layB, if_neg (by omega), if_pos (by omega)]
        rw [hlx] at hnx hdr
        have hrt := int_rt hxo.2.2.1 hxo.2.2.2.1 r
        have hrd := RdInt_ok (laysB (l.take i)) (laysB (l.take j)).length hpl (by omega)
        rw [hdr, hrt] at hrd
        simp
        refine callH [0] (hrd) (by simp [Ptr, NP, I, R, RO, WO, RdO, Bs, EV.lit]) (by simp [Ptr, NP, I, R, RO, WO, RdO, Bs, EV.lit]) (by simp) (by simp [Ptr, NP, I, R, RO, WO, RdO, Bs, EV.lit]) (by simp [Wok]) ?_
        rintro y H' ⟨rfl, rfl⟩
        refine ⟨.inl (by simp [Ptr, NP, I, R, RO, WO, RdO, Bs, EV.lit]), le_ok rfl, ?_⟩
        simp [I, RdO, w2, -Int.natCast_add]
        exact round (j + 1) [0] (by omega) (by omega) (by simp) (by simp [hnx, RdO]) (by simp) (by simp) (by simp)
      simp [hkd]
      refine alt (fun k2 => ?_) (fun k2 => ?_)
      · have hlx : layB x = bytesB x.b := by rw [layB, if_neg (by omega), if_neg (by omega), if_pos (by omega)]
        rw [hlx] at hnx hdr
        have hrt : bytZ (bytesB x.b ++ r) (x.b.length : Int) = (0, x.b, (bytesB x.b).length) := by
          rw [bytZ, if_neg (by omega), Int.toNat_natCast]
          exact byt_rt x.b x.b.length r (Nat.le_refl _)
        have hrd := RdBytes_ok (laysB (l.take i)) (laysB (l.take j)).length (x.b.length : Int) hpl (by omega)
        rw [hdr, hrt] at hrd
        simp
        refine callH [0] (hrd) (by simp [Ptr, NP, I, R, RO, WO, RdO, Bs, EV.lit]) (by simp [Ptr, NP, I, R, RO, WO, RdO, Bs, EV.lit]) (by simp) (by simp [Ptr, NP, I, R, RO, WO, RdO, Bs, EV.lit]) (by simp [Wok]) ?_
        rintro y H' ⟨rfl, rfl⟩
        refine ⟨.inl (by simp [Ptr, NP, I, R, RO, WO, RdO, Bs, EV.lit]), le_ok rfl, ?_⟩
        simp [I, RdO, Bs, w2, -Int.natCast_add]
        exact round (j + 1) [0] (by omega) (by omega) (by simp) (by simp [hnx, RdO]) (by simp) (by simp) (by simp)
      have hlx : layB x = x.h := by rw [layB, if_neg (by omega), if_neg (by omega), if_neg (by omega)]
      rw [hlx] at hnx hdr
      have ht32 : x.h.take 32 = x.h := List.take_of_length_le (by omega)
      have hrt : hashS (x.h ++ r) = (0, x.h, x.h.length) := by
        rw [hashS, if_neg (by rw [List.length_append]; omega), List.take_append_of_le_length (by omega), ht32, h32]
      have hrd := RdHash_ok (laysB (l.take i)) (laysB (l.take j)).length hpl (by omega)
      rw [hdr, hrt] at hrd
      simp [h32, ht32]
      refine callH [0] (hrd) (by simp [Ptr, NP, I, R, RO, WO, RdO, Bs, EV.lit]) (by simp [Ptr, NP, I, R, RO, WO, RdO, Bs, EV.lit]) (by simp) (by simp [Ptr, NP, I, R, RO, WO, RdO, Bs, EV.lit]) (by simp [Wok]) ?_
      rintro y H' ⟨rfl, rfl⟩
      refine ⟨.inl (by simp [Ptr, NP, I, R, RO, WO, RdO, Bs, EV.lit]), le_ok rfl, ?_⟩
      simp [I, RdO, Ag, h32, ht32, w2, -Int.natCast_add]
      exact round (j + 1) [0] (by omega) (by omega) (by simp) (by simp [hnx, RdO, h32]) (by simp) (by simp) (by simp)
    have hij : j = i := by omega
    subst hij
    by_cases hjl : j < l.length
    · have h200 : ¬ (j : Int) < 200 := by omega
      simp [hjl, h200]
      refine callH [0] (RdDone_ok (laysB (l.take j)) (laysB (l.take j)).length 0 (Nat.le_refl _)) (by simp [Ptr, NP, I, R, RO, WO, RdO, Bs, EV.lit]) (by simp [Ptr, NP, I, R, RO, WO, RdO, Bs, EV.lit]) (by simp) (by simp [Ptr, NP, I, R, RO, WO, RdO, Bs, EV.lit]) (by simp [Wok]) ?_
      rintro y H' ⟨rfl, rfl⟩
      refine ⟨.inl (by simp [Ptr, NP, I, R, RO, WO, RdO, Bs, EV.lit]), le_ok rfl, ?_⟩
      simp [RdO, -errV_0]
      refine callH [0] (RdLeft_ok (laysB (l.take j)) (laysB (l.take j)).length 0 (Nat.le_refl _)) (by simp [Ptr, NP, I, R, RO, WO, RdO, Bs, EV.lit]) (by simp [Ptr, NP, I, R, RO, WO, RdO, Bs, EV.lit]) (by simp) (by simp [Ptr, NP, I, R, RO, WO, RdO, Bs, EV.lit]) (by simp [Wok]) ?_
      rintro y H' ⟨rfl, rfl⟩
      refine ⟨.inl (by simp [Ptr, NP, I, R, RO, WO, RdO, Bs, EV.lit]), le_ok rfl, ?_⟩
      simp [I, RdO]
      refine call0 (sure_ok) (by simp [Ptr, NP, I, R, RO, WO, RdO, Bs, EV.lit]) ?_
      rintro y H' ⟨rfl, rfl⟩
      refine ⟨.inl (by simp [Ptr, NP, I, R, RO, WO, RdO, Bs, EV.lit]), le_ok rfl, ?_⟩
      simp [Ptr, NP, I, R, RO, WO, RdO, Bs, EV.lit]
      exact fin [] (by decide) rfl rfl rfl ⟨rfl, rfl⟩
    · simp [hjl]
      refine callH [0] (RdDone_ok (laysB (l.take j)) (laysB (l.take j)).length 0 (Nat.le_refl _)) (by simp [Ptr, NP, I, R, RO, WO, RdO, Bs, EV.lit]) (by simp [Ptr, NP, I, R, RO, WO, RdO, Bs, EV.lit]) (by simp) (by simp [Ptr, NP, I, R, RO, WO, RdO, Bs, EV.lit]) (by simp [Wok]) ?_
      rintro y H' ⟨rfl, rfl⟩
      refine ⟨.inl (by simp [Ptr, NP, I, R, RO, WO, RdO, Bs, EV.lit]), le_ok rfl, ?_⟩
      simp [RdO, -errV_0]
      refine callH [0] (RdLeft_ok (laysB (l.take j)) (laysB (l.take j)).length 0 (Nat.le_refl _)) (by simp [Ptr, NP, I, R, RO, WO, RdO, Bs, EV.lit]) (by simp [Ptr, NP, I, R, RO, WO, RdO, Bs, EV.lit]) (by simp) (by simp [Ptr, NP, I, R, RO, WO, RdO, Bs, EV.lit]) (by simp [Wok]) ?_
      rintro y H' ⟨rfl, rfl⟩
      refine ⟨.inl (by simp [Ptr, NP, I, R, RO, WO, RdO, Bs, EV.lit]), le_ok rfl, ?_⟩
      simp [I, RdO]
      refine call0 (sure_ok) (by simp [Ptr, NP, I, R, RO, WO, RdO, Bs, EV.lit]) ?_
      rintro y H' ⟨rfl, rfl⟩
      refine ⟨.inl (by simp [Ptr, NP, I, R, RO, WO, RdO, Bs, EV.lit]), le_ok rfl, ?_⟩
      simp [Ptr, NP, I, R, RO, WO, RdO, Bs, EV.lit]
      exact fin [] (by decide) rfl rfl rfl ⟨rfl, rfl⟩

end Go.Proofs.Ytbbcofojjgofmaa
