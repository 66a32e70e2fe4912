import Derived.Test.YtpohjnhlhfbnaaaDoorState7
import Derived.Test.YtpohjnhlhfbnaaaDoorEnc3
namespace Go.Proofs.YtpohjnhlhfbnaaaDoor
open Go Go.EW
set_option linter.unusedSimpArgs false
set_option linter.unusedVariables false

@[simp] def l_REncode_1 (_ : Unit) : List EOp := [⟨0, (some 1), none, (.q (.box 26 (.t 0))), []⟩, ⟨1, (some 2), none, (.q (.mov (.k (.slice none 0 0)))), []⟩]
@[simp] def b_REncode_2 (_ : Unit) : EB := reg0 (hid l_REncode_1) 2
@[simp] def l_REncode_5 (_ : Unit) : List EOp := [⟨8, (some 17), none, (.call 76 [(.t 12), (.t 16)]), [9, 10, 11, 12]⟩, ⟨13, (some 22), none, (.call 76 [(.t 17), (.t 21)]), []⟩, ⟨14, (some 3), none, (.q (.mov (.t 22))), []⟩]
@[simp] def l_REncode_4 (_ : Unit) : List EOp := ⟨7, (some 16), none, (.q (.cnv .u64 (.t 15))), []⟩ :: ⟨9, (some 18), none, (.q (.fad 1 (.t 1))), []⟩ :: ⟨10, (some 19), none, (.q (.iad 2 1 (.t 18) (.k (.int .i64 1)))), []⟩ :: ⟨11, (some 20), none, (.q (.ldc (.t 19))), []⟩ :: ⟨12, (some 21), none, (.q (.cnv .u64 (.t 20))), []⟩ :: ⟨3, (some 12), none, (.call 76 [(.k (.slice none 0 0)), (.t 11)]), [4, 5, 6, 7, 9, 10, 11, 12]⟩ :: hid l_REncode_5
@[simp] def l_REncode_3 (_ : Unit) : List EOp := ⟨0, (some 9), none, (.q (.fad 0 (.t 1))), []⟩ :: ⟨1, (some 10), none, (.q (.ldc (.t 9))), []⟩ :: ⟨2, (some 11), none, (.q (.cnv .u64 (.t 10))), []⟩ :: ⟨4, (some 13), none, (.q (.fad 1 (.t 1))), []⟩ :: ⟨5, (some 14), none, (.q (.iad 2 1 (.t 13) (.k (.int .i64 0)))), []⟩ :: ⟨6, (some 15), none, (.q (.ldc (.t 14))), []⟩ :: hid l_REncode_4
@[simp] def b_REncode_6 (_ : Unit) : EB := reg1 (hid l_REncode_3) 15
@[simp] def l_REncode_8 (_ : Unit) : List EOp := [⟨6, (some 3), none, (.q (.mov (.t 28))), []⟩]
@[simp] def l_REncode_7 (_ : Unit) : List EOp := ⟨0, (some 23), none, (.q (.mov (.t 3))), []⟩ :: ⟨1, (some 24), none, (.q (.fad 3 (.t 1))), []⟩ :: ⟨2, (some 25), none, (.q (.ldc (.t 24))), []⟩ :: ⟨3, (some 26), none, (.q (.len (.t 25))), []⟩ :: ⟨4, (some 27), none, (.q (.cnv .u64 (.t 26))), []⟩ :: ⟨5, (some 28), none, (.call 76 [(.t 23), (.t 27)]), []⟩ :: hid l_REncode_8
@[simp] def b_REncode_9 (_ : Unit) : EB := reg0 (hid l_REncode_7) 7
@[simp] def l_REncode_10 (_ : Unit) : List EOp := [⟨0, (some 4), none, (.q (.mov (.k (.int .i64 0)))), []⟩]
@[simp] def b_REncode_11 (_ : Unit) : EB := reg0 (hid l_REncode_10) 1
@[simp] def l_REncode_12 (_ : Unit) : List EOp := [⟨0, (some 29), none, (.q (.mov (.t 4))), []⟩, ⟨1, (some 30), none, (.q (.fad 3 (.t 1))), []⟩, ⟨2, (some 31), none, (.q (.ldc (.t 30))), []⟩, ⟨3, (some 32), none, (.q (.len (.t 31))), []⟩, ⟨4, (some 33), none, (.q (.bin .lss (.t 29) (.t 32))), []⟩]
@[simp] def b_REncode_13 (_ : Unit) : EB := reg0 (hid l_REncode_12) 5
@[simp] def b_REncode_14 (_ : Unit) : EB := .cond (.t 33) .skip (.exit 0)
@[simp] def b_REncode_15 (_ : Unit) : EB := .seq (hid b_REncode_13) (hid b_REncode_14)
@[simp] def l_REncode_17 (_ : Unit) : List EOp := [⟨6, none, none, (.sto 36 (.t 5) (.t 40)), []⟩]
@[simp] def l_REncode_16 (_ : Unit) : List EOp := ⟨0, (some 36), none, (.q (.fad 3 (.t 1))), []⟩ :: ⟨1, (some 37), none, (.q (.ldc (.t 36))), []⟩ :: ⟨2, (some 38), none, (.q (.mov (.t 4))), []⟩ :: ⟨3, (some 39), none, (.q (.isl 36 (.t 37) (.t 38))), []⟩ :: ⟨4, (some 40), none, (.q (.lda 36 (.t 39))), []⟩ :: ⟨5, (some 5), none, (.q (.alloc 54 (([(.int .i64 0), (.int .i64 0), (.int .i64 0), (.int .i64 0)] : List Value) ++ zU8))), []⟩ :: hid l_REncode_17
@[simp] def b_REncode_18 (_ : Unit) : EB := reg0 (hid l_REncode_16) 7
@[simp] def l_REncode_21 (_ : Unit) : List EOp := [⟨15, (some 56), none, (.q (.cnv .u64 (.t 55))), []⟩, ⟨4, (some 45), none, (.call 76 [(.t 41), (.t 44)]), [5, 6, 7, 9, 10, 11, 13, 14, 15]⟩, ⟨8, (some 49), none, (.call 76 [(.t 45), (.t 48)]), [9, 10, 11, 13, 14, 15]⟩, ⟨12, (some 53), none, (.call 76 [(.t 49), (.t 52)]), [13, 14, 15]⟩, ⟨16, (some 57), none, (.call 76 [(.t 53), (.t 56)]), []⟩, ⟨17, (some 3), none, (.q (.mov (.t 57))), []⟩]
@[simp] def l_REncode_20 (_ : Unit) : List EOp := ⟨7, (some 48), none, (.q (.cnv .u64 (.t 47))), []⟩ :: ⟨9, (some 50), none, (.q (.fad 2 (.t 5))), []⟩ :: ⟨10, (some 51), none, (.q (.ldc (.t 50))), []⟩ :: ⟨11, (some 52), none, (.q (.cnv .u64 (.t 51))), []⟩ :: ⟨13, (some 54), none, (.q (.fad 3 (.t 5))), []⟩ :: ⟨14, (some 55), none, (.q (.ldc (.t 54))), []⟩ :: hid l_REncode_21
@[simp] def l_REncode_19 (_ : Unit) : List EOp := ⟨0, (some 41), none, (.q (.mov (.t 3))), []⟩ :: ⟨1, (some 42), none, (.q (.fad 0 (.t 5))), []⟩ :: ⟨2, (some 43), none, (.q (.ldc (.t 42))), []⟩ :: ⟨3, (some 44), none, (.q (.cnv .u64 (.t 43))), []⟩ :: ⟨5, (some 46), none, (.q (.fad 1 (.t 5))), []⟩ :: ⟨6, (some 47), none, (.q (.ldc (.t 46))), []⟩ :: hid l_REncode_20
@[simp] def b_REncode_22 (_ : Unit) : EB := reg1 (hid l_REncode_19) 18
@[simp] def l_REncode_23 (_ : Unit) : List EOp := [⟨0, (some 58), none, (.q (.mov (.t 3))), []⟩, ⟨1, (some 59), none, (.q (.fad 4 (.t 5))), []⟩, ⟨2, (some 60), none, (.q (.lda 32 (.t 59))), []⟩, ⟨3, (some 61), none, (.call 77 [(.t 58), (.t 60)]), []⟩, ⟨4, (some 3), none, (.q (.mov (.t 61))), []⟩]
@[simp] def b_REncode_24 (_ : Unit) : EB := reg0 (hid l_REncode_23) 5
@[simp] def b_REncode_25 (_ : Unit) : EB := .seq (hid b_REncode_22) (hid b_REncode_24)
@[simp] def b_REncode_26 (_ : Unit) : EB := .seq (hid b_REncode_18) (hid b_REncode_25)
@[simp] def b_REncode_27 (_ : Unit) : EB := .block 1 (hid b_REncode_26)
@[simp] def l_REncode_28 (_ : Unit) : List EOp := [⟨0, (some 34), none, (.q (.mov (.t 4))), []⟩, ⟨1, (some 35), none, (.q (.bin .add (.t 34) (.k (.int .i64 1)))), []⟩, ⟨2, (some 4), none, (.q (.mov (.t 35))), []⟩]
@[simp] def b_REncode_29 (_ : Unit) : EB := reg0 (hid l_REncode_28) 3
@[simp] def b_REncode_30 (_ : Unit) : EB := .seq (hid b_REncode_27) (hid b_REncode_29)
@[simp] def b_REncode_31 (_ : Unit) : EB := .seq (hid b_REncode_15) (hid b_REncode_30)
@[simp] def b_REncode_32 (_ : Unit) : EB := .loop (hid b_REncode_31)
@[simp] def b_REncode_33 (_ : Unit) : EB := .block 0 (hid b_REncode_32)
@[simp] def b_REncode_34 (_ : Unit) : EB := .seq (hid b_REncode_11) (hid b_REncode_33)
@[simp] def l_REncode_36 (_ : Unit) : List EOp := [⟨6, (some 3), none, (.q (.mov (.t 67))), []⟩]
@[simp] def l_REncode_35 (_ : Unit) : List EOp := ⟨0, (some 62), none, (.q (.mov (.t 3))), []⟩ :: ⟨1, (some 63), none, (.q (.fad 4 (.t 1))), []⟩ :: ⟨2, (some 64), none, (.q (.ldc (.t 63))), []⟩ :: ⟨3, (some 65), none, (.q (.len (.t 64))), []⟩ :: ⟨4, (some 66), none, (.q (.cnv .u64 (.t 65))), []⟩ :: ⟨5, (some 67), none, (.call 76 [(.t 62), (.t 66)]), []⟩ :: hid l_REncode_36
@[simp] def b_REncode_37 (_ : Unit) : EB := reg0 (hid l_REncode_35) 7
@[simp] def l_REncode_38 (_ : Unit) : List EOp := [⟨0, (some 6), none, (.q (.mov (.k (.int .i64 0)))), []⟩]
@[simp] def b_REncode_39 (_ : Unit) : EB := reg0 (hid l_REncode_38) 1
@[simp] def l_REncode_40 (_ : Unit) : List EOp := [⟨0, (some 68), none, (.q (.mov (.t 6))), []⟩, ⟨1, (some 69), none, (.q (.fad 4 (.t 1))), []⟩, ⟨2, (some 70), none, (.q (.ldc (.t 69))), []⟩, ⟨3, (some 71), none, (.q (.len (.t 70))), []⟩, ⟨4, (some 72), none, (.q (.bin .lss (.t 68) (.t 71))), []⟩]
@[simp] def b_REncode_41 (_ : Unit) : EB := reg0 (hid l_REncode_40) 5
@[simp] def b_REncode_42 (_ : Unit) : EB := .cond (.t 72) .skip (.exit 2)
@[simp] def b_REncode_43 (_ : Unit) : EB := .seq (hid b_REncode_41) (hid b_REncode_42)
@[simp] def l_REncode_45 (_ : Unit) : List EOp := [⟨6, none, none, (.fz (.sto 3 (.t 7) (.t 79))), []⟩]
@[simp] def l_REncode_44 (_ : Unit) : List EOp := ⟨0, (some 75), none, (.q (.fad 4 (.t 1))), []⟩ :: ⟨1, (some 76), none, (.q (.ldc (.t 75))), []⟩ :: ⟨2, (some 77), none, (.q (.mov (.t 6))), []⟩ :: ⟨3, (some 78), none, (.q (.isl 3 (.t 76) (.t 77))), []⟩ :: ⟨4, (some 79), none, (.q (.lda 3 (.t 78))), []⟩ :: ⟨5, (some 7), none, (.q (.alloc 57 [(.int .i64 0), (.int .i64 0), (.slice none 0 0)])), []⟩ :: hid l_REncode_45
@[simp] def b_REncode_46 (_ : Unit) : EB := reg0 (hid l_REncode_44) 7
@[simp] def l_REncode_49 (_ : Unit) : List EOp := [⟨8, (some 88), none, (.call 76 [(.t 84), (.t 87)]), [9, 10, 11, 12]⟩, ⟨13, (some 93), none, (.call 76 [(.t 88), (.t 92)]), []⟩, ⟨14, (some 3), none, (.q (.mov (.t 93))), []⟩]
@[simp] def l_REncode_48 (_ : Unit) : List EOp := ⟨7, (some 87), none, (.q (.cnv .u64 (.t 86))), []⟩ :: ⟨9, (some 89), none, (.q (.fad 2 (.t 7))), []⟩ :: ⟨10, (some 90), none, (.q (.ldc (.t 89))), []⟩ :: ⟨11, (some 91), none, (.q (.len (.t 90))), []⟩ :: ⟨12, (some 92), none, (.q (.cnv .u64 (.t 91))), []⟩ :: ⟨4, (some 84), none, (.call 76 [(.t 80), (.t 83)]), [5, 6, 7, 9, 10, 11, 12]⟩ :: hid l_REncode_49
@[simp] def l_REncode_47 (_ : Unit) : List EOp := ⟨0, (some 80), none, (.q (.mov (.t 3))), []⟩ :: ⟨1, (some 81), none, (.q (.fad 0 (.t 7))), []⟩ :: ⟨2, (some 82), none, (.q (.ldc (.t 81))), []⟩ :: ⟨3, (some 83), none, (.q (.cnv .u64 (.t 82))), []⟩ :: ⟨5, (some 85), none, (.q (.fad 1 (.t 7))), []⟩ :: ⟨6, (some 86), none, (.q (.ldc (.t 85))), []⟩ :: hid l_REncode_48
@[simp] def b_REncode_50 (_ : Unit) : EB := reg1 (hid l_REncode_47) 15
@[simp] def l_REncode_51 (_ : Unit) : List EOp := [⟨0, (some 8), none, (.q (.mov (.k (.int .i64 0)))), []⟩]
@[simp] def b_REncode_52 (_ : Unit) : EB := reg0 (hid l_REncode_51) 1
@[simp] def l_REncode_53 (_ : Unit) : List EOp := [⟨0, (some 94), none, (.q (.mov (.t 8))), []⟩, ⟨1, (some 95), none, (.q (.fad 2 (.t 7))), []⟩, ⟨2, (some 96), none, (.q (.ldc (.t 95))), []⟩, ⟨3, (some 97), none, (.q (.len (.t 96))), []⟩, ⟨4, (some 98), none, (.q (.bin .lss (.t 94) (.t 97))), []⟩]
@[simp] def b_REncode_54 (_ : Unit) : EB := reg0 (hid l_REncode_53) 5
@[simp] def b_REncode_55 (_ : Unit) : EB := .cond (.t 98) .skip (.exit 4)
@[simp] def b_REncode_56 (_ : Unit) : EB := .seq (hid b_REncode_54) (hid b_REncode_55)
@[simp] def l_REncode_58 (_ : Unit) : List EOp := [⟨6, (some 107), none, (.q (.cnv .u64 (.t 106))), []⟩, ⟨7, (some 108), none, (.call 76 [(.t 101), (.t 107)]), []⟩, ⟨8, (some 3), none, (.q (.mov (.t 108))), []⟩]
@[simp] def l_REncode_57 (_ : Unit) : List EOp := ⟨0, (some 101), none, (.q (.mov (.t 3))), []⟩ :: ⟨1, (some 102), none, (.q (.fad 2 (.t 7))), []⟩ :: ⟨2, (some 103), none, (.q (.ldc (.t 102))), []⟩ :: ⟨3, (some 104), none, (.q (.mov (.t 8))), []⟩ :: ⟨4, (some 105), none, (.q (.isl 1 (.t 103) (.t 104))), []⟩ :: ⟨5, (some 106), none, (.q (.ldc (.t 105))), []⟩ :: hid l_REncode_58
@[simp] def b_REncode_59 (_ : Unit) : EB := reg0 (hid l_REncode_57) 9
@[simp] def b_REncode_60 (_ : Unit) : EB := .block 5 (hid b_REncode_59)
@[simp] def l_REncode_61 (_ : Unit) : List EOp := [⟨0, (some 99), none, (.q (.mov (.t 8))), []⟩, ⟨1, (some 100), none, (.q (.bin .add (.t 99) (.k (.int .i64 1)))), []⟩, ⟨2, (some 8), none, (.q (.mov (.t 100))), []⟩]
@[simp] def b_REncode_62 (_ : Unit) : EB := reg0 (hid l_REncode_61) 3
@[simp] def b_REncode_63 (_ : Unit) : EB := .seq (hid b_REncode_60) (hid b_REncode_62)
@[simp] def b_REncode_64 (_ : Unit) : EB := .seq (hid b_REncode_56) (hid b_REncode_63)
@[simp] def b_REncode_65 (_ : Unit) : EB := .loop (hid b_REncode_64)
@[simp] def b_REncode_66 (_ : Unit) : EB := .block 4 (hid b_REncode_65)
@[simp] def b_REncode_67 (_ : Unit) : EB := .seq (hid b_REncode_52) (hid b_REncode_66)
@[simp] def b_REncode_68 (_ : Unit) : EB := .seq (hid b_REncode_50) (hid b_REncode_67)
@[simp] def b_REncode_69 (_ : Unit) : EB := .seq (hid b_REncode_46) (hid b_REncode_68)
@[simp] def b_REncode_70 (_ : Unit) : EB := .block 3 (hid b_REncode_69)
@[simp] def l_REncode_71 (_ : Unit) : List EOp := [⟨0, (some 73), none, (.q (.mov (.t 6))), []⟩, ⟨1, (some 74), none, (.q (.bin .add (.t 73) (.k (.int .i64 1)))), []⟩, ⟨2, (some 6), none, (.q (.mov (.t 74))), []⟩]
@[simp] def b_REncode_72 (_ : Unit) : EB := reg0 (hid l_REncode_71) 3
@[simp] def b_REncode_73 (_ : Unit) : EB := .seq (hid b_REncode_70) (hid b_REncode_72)
@[simp] def b_REncode_74 (_ : Unit) : EB := .seq (hid b_REncode_43) (hid b_REncode_73)
@[simp] def b_REncode_75 (_ : Unit) : EB := .loop (hid b_REncode_74)
@[simp] def b_REncode_76 (_ : Unit) : EB := .block 2 (hid b_REncode_75)
@[simp] def b_REncode_77 (_ : Unit) : EB := .seq (hid b_REncode_39) (hid b_REncode_76)
@[simp] def l_REncode_78 (_ : Unit) : List EOp := [⟨0, (some 109), none, (.q (.mov (.t 3))), []⟩, ⟨1, (some 2), none, (.q (.mov (.t 109))), []⟩]
@[simp] def b_REncode_79 (_ : Unit) : EB := reg0 (hid l_REncode_78) 2
@[simp] def b_REncode_80 (_ : Unit) : EB := .seq (hid b_REncode_79) .ret
@[simp] def b_REncode_81 (_ : Unit) : EB := .seq (hid b_REncode_77) (hid b_REncode_80)
@[simp] def b_REncode_82 (_ : Unit) : EB := .seq (hid b_REncode_37) (hid b_REncode_81)
@[simp] def b_REncode_83 (_ : Unit) : EB := .seq (hid b_REncode_34) (hid b_REncode_82)
@[simp] def b_REncode_84 (_ : Unit) : EB := .seq (hid b_REncode_9) (hid b_REncode_83)
@[simp] def b_REncode_85 (_ : Unit) : EB := .seq (hid b_REncode_6) (hid b_REncode_84)
@[simp] def b_REncode_86 (_ : Unit) : EB := .seq (hid b_REncode_2) (hid b_REncode_85)
def c_REncode : EB × List QOp × Nat := ((hid b_REncode_86), [(.mov (.t 2))], 110)
theorem k_REncode : cfun Tryd.prog 33 = some c_REncode := by kernel_rfl


theorem RUint_nil (n : Nat) (h : n < 18446744073709551616) : ECalls Tryd.prog 76 [.v (.c (.fz (.lit (.slice none 0 0)))), I .u64 n] [] fun y H' => H' = [some (RO (uintB n))] ∧ y = R 0 (uintB n) := ecalls_nil (es := 1) (RUint_ok [] n h (by simp))
theorem usB_cons (n : Int) (l : List Int) : usB (n :: l) = uB n ++ usB l := by simp [usB]
theorem usB_nil : usB [] = [] := rfl
theorem uB_eq (n : Int) : uintB (u64n n) = uB n := rfl
theorem u64n_nat (n : Nat) : (n : Int) = ((n : Nat) : Int) := rfl

set_option maxHeartbeats 2000000 in
theorem REncode_ok (s : Sta) (hs : s.ok) (hm : s.small) : ECalls Tryd.prog 33 [SV s] [] fun y H' => H' = [] ∧ y = Bs (encS s) := by
  obtain ⟨ok1, ok2, ok3, ok4, ok5, ok6, ok7⟩ := id hs
  obtain ⟨m1, m2, m3⟩ := hm
  have lh : (headB s).length ≤ 36 := usB_len [s.num, s.h0, s.h1, (s.pays.length : Int)]
  have lp : ∀ i, (pB (s.pays.take i)).length ≤ 68000 := by
    intro i
    have h1 := flat_len (f := payB) (k := 68) (l := s.pays.take i) (fun p hp => payB_len (ok4 p (List.mem_of_mem_take hp)).2.2.2.2)
    have h2 : (s.pays.take i).length ≤ 1000 := by simp; omega
    unfold pB; omega
  have lq : (pB s.pays).length ≤ 68000 := by have := lp s.pays.length; rwa [List.take_length] at this
  have lm : (midB s).length ≤ 70000 := by
    have := usB_len [(s.holds.length : Int)]
    simp only [midB, List.length_append]
    simp only [List.length_cons, List.length_nil] at this
    omega
  have lk : ∀ i, (hB (s.holds.take i)).length ≤ 9100000 := by
    intro i
    have h1 := flat_len (f := holB) (k := 9100) (l := s.holds.take i) (fun p hp => holB_len (m3 p (List.mem_of_mem_take hp)))
    have h2 : (s.holds.take i).length ≤ 1000 := by simp; omega
    unfold hB; omega
  have hl : ∀ n, (uB n).length ≤ 9 := uB_len
  refine ecalls k_REncode ?_
  simp [c_REncode, SV, staC, wrap_u64n]
  refine call0 (RUint_nil (u64n s.num) (u64n_lt _)) (by simp [I]) ?_
  rintro y H' ⟨rfl, rfl⟩
  refine ⟨.inl (by simp), le_ok rfl, ?_⟩
  simp [R, RO, wrap_u64n, uB_eq]
  refine call0 (RUint_ok (uB s.num) (u64n s.h0) (u64n_lt _) (by have := hl s.num; omega)) (by simp [I, Bs]) ?_
  rintro y H' ⟨rfl, rfl⟩
  refine ⟨.inr ⟨rfl, by simp [RO, bsv, cb]⟩, le_ok rfl, ?_⟩
  simp [R, RO, wrap_u64n, uB_eq]
  refine call0 (RUint_ok (uB s.num ++ uB s.h0) (u64n s.h1) (u64n_lt _) (by have := hl s.num; have := hl s.h0; simp; omega)) (by simp [I, Bs, List.take_of_length_le]) ?_
  rintro y H' ⟨rfl, rfl⟩
  refine ⟨.inr ⟨rfl, by simp [RO, bsv, cb]⟩, le_ok rfl, ?_⟩
  simp [R, RO, wrap_u64n, uB_eq]
  refine call0 (RUint_ok (uB s.num ++ (uB s.h0 ++ uB s.h1)) (u64n (s.pays.length : Int)) (u64n_lt _) (by have := hl s.num; have := hl s.h0; have := hl s.h1; simp; omega)) (by simp [I, Bs, List.take_of_length_le]) ?_
  rintro y H' ⟨rfl, rfl⟩
  refine ⟨.inr ⟨rfl, by simp [RO, bsv, cb]⟩, le_ok rfl, ?_⟩
  have hhead : uB s.num ++ (uB s.h0 ++ (uB s.h1 ++ uB (s.pays.length : Int))) = headB s := by simp [headB, usB_cons, usB_nil]
  simp [R, RO, wrap_u64n, uB_eq, hhead]
  refine eloop (α := Nat) (fun i => i ≤ s.pays.length) (fun i => s.pays.length - i)
    (fun i => [.any, Ptr 0, .any, R 1 (headB s ++ pB (s.pays.take i)), I .i64 i, .any, .any, .any, .any, .any, .any, .any, .any, .any, .any, .any, .any, .any, .any, .any, .any, .any, .any, .any, .any, .any, .any, .any, .any, .any, .any, .any, .any, .any, .any, .any, .any, .any, .any, .any, .any, .any, .any, .any, .any, .any, .any, .any, .any, .any, .any, .any, .any, .any, .any, .any, .any, .any, .any, .any, .any, .any, .any, .any, .any, .any, .any, .any, .any, .any, .any, .any, .any, .any, .any, .any, .any, .any, .any, .any, .any, .any, .any, .any, .any, .any, .any, .any, .any, .any, .any, .any, .any, .any, .any, .any, .any, .any, .any, .any, .any, .any, .any, .any, .any, .any, .any, .any, .any, .any]) (fun i => [some (.box 26 (staC s)), some (RO (headB s ++ pB (s.pays.take i)))]) 0 [0, 352]
    (Nat.zero_le _) (by simp [Ptr, I, R, pB]) (by simp [RO, pB, staC]) (by simp) (by simp) (by simp) ?_
  intro i hi
  have lpi := lp i
  simp [Ptr, I, staC, R, RO]
  refine alt (fun hlt => ?_) (fun hlt => ?_)
  · obtain ⟨p, hc⟩ : ∃ p, s.pays[i]? = some p := ⟨s.pays[i], by simp [hlt]⟩
    have hpo := ok4 p (List.mem_of_getElem? hc)
    have hl32 := hpo.2.2.2.2
    have ht : p.lock.take 32 = p.lock := List.take_of_length_le (by omega)
    have hcb := payv_get hc
    have w2 : IntKind.i64.wrap ((i : Int) + 1) = ((i + 1 : Nat) : Int) := wrap_i64 (by omega) (by omega)
    have hl4 := hl p.id
    have hl5 := hl p.fr
    have hl6 := hl p.am
    have hl7 := hl p.af
    simp [hcb, payF, hl32, ht, wrap_u64n]
    refine call0 (RUint_ok (headB s ++ pB (s.pays.take i)) (u64n p.id) (u64n_lt _) (by simp; omega)) (by simp [I, Bs, Ag, List.take_of_length_le]) ?_
    rintro y H' ⟨rfl, rfl⟩
    refine ⟨.inr ⟨rfl, by simp [RO, bsv, cb]⟩, le_ok rfl, ?_⟩
    simp [R, RO, wrap_u64n, uB_eq]
    refine call0 (RUint_ok (headB s ++ pB (s.pays.take i) ++ uB p.id) (u64n p.fr) (u64n_lt _) (by simp; omega)) (by simp [I, Bs, Ag, List.take_of_length_le]) ?_
    rintro y H' ⟨rfl, rfl⟩
    refine ⟨.inr ⟨rfl, by simp [RO, bsv, cb]⟩, le_ok rfl, ?_⟩
    simp [R, RO, wrap_u64n, uB_eq]
    refine call0 (RUint_ok (headB s ++ pB (s.pays.take i) ++ uB p.id ++ uB p.fr) (u64n p.am) (u64n_lt _) (by simp; omega)) (by simp [I, Bs, Ag, List.take_of_length_le]) ?_
    rintro y H' ⟨rfl, rfl⟩
    refine ⟨.inr ⟨rfl, by simp [RO, bsv, cb]⟩, le_ok rfl, ?_⟩
    simp [R, RO, wrap_u64n, uB_eq]
    refine call0 (RUint_ok (headB s ++ pB (s.pays.take i) ++ uB p.id ++ uB p.fr ++ uB p.am) (u64n p.af) (u64n_lt _) (by simp; omega)) (by simp [I, Bs, Ag, List.take_of_length_le]) ?_
    rintro y H' ⟨rfl, rfl⟩
    refine ⟨.inr ⟨rfl, by simp [RO, bsv, cb]⟩, le_ok rfl, ?_⟩
    simp [R, RO, wrap_u64n, uB_eq]
    simp [hl32, ht]
    refine call0 (RHash_ok (headB s ++ pB (s.pays.take i) ++ uB p.id ++ uB p.fr ++ uB p.am ++ uB p.af) p.lock (by simp; omega) hl32) (by simp [I, Bs, Ag, ht, List.take_of_length_le]) ?_
    rintro y H' ⟨rfl, rfl⟩
    refine ⟨.inr ⟨rfl, by simp [RO, bsv, cb]⟩, le_ok rfl, ?_⟩
    simp [w2, R, RO, -Int.natCast_add]
    have hsn : pB (s.pays.take (i + 1)) = pB (s.pays.take i) ++ (uB p.id ++ (uB p.fr ++ (uB p.am ++ (uB p.af ++ p.lock)))) := by rw [take_s hc, pB_snoc]; simp [payB, usB_cons, usB_nil]
    exact round (i + 1) [0, 530] (by omega) (by omega) (by simp [hsn, R]) (by simp [hsn, RO]) (by simp) (by simp) (by simp)
  have hil : i = s.pays.length := by omega
  subst hil
  rw [List.take_length] at lpi ⊢
  simp [wrap_u64n]
  have hl8 := hl (s.holds.length : Int)
  refine call0 (RUint_ok (headB s ++ pB s.pays) (u64n (s.holds.length : Int)) (u64n_lt _) (by simp; omega)) (by simp [I, Bs, Ag, List.take_of_length_le]) ?_
  rintro y H' ⟨rfl, rfl⟩
  refine ⟨.inr ⟨rfl, by simp [RO, bsv, cb]⟩, le_ok rfl, ?_⟩
  simp [R, RO, wrap_u64n, uB_eq]
  have hmid : headB s ++ (pB s.pays ++ uB (s.holds.length : Int)) = midB s := by simp [midB, usB_cons, usB_nil]
  simp [hmid]
  refine eloop (α := Nat) (fun i => i ≤ s.holds.length) (fun i => s.holds.length - i)
    (fun i => [.any, Ptr 0, .any, R 1 (midB s ++ hB (s.holds.take i)), .any, .any, I .i64 i, .any, .any, .any, .any, .any, .any, .any, .any, .any, .any, .any, .any, .any, .any, .any, .any, .any, .any, .any, .any, .any, .any, .any, .any, .any, .any, .any, .any, .any, .any, .any, .any, .any, .any, .any, .any, .any, .any, .any, .any, .any, .any, .any, .any, .any, .any, .any, .any, .any, .any, .any, .any, .any, .any, .any, .any, .any, .any, .any, .any, .any, .any, .any, .any, .any, .any, .any, .any, .any, .any, .any, .any, .any, .any, .any, .any, .any, .any, .any, .any, .any, .any, .any, .any, .any, .any, .any, .any, .any, .any, .any, .any, .any, .any, .any, .any, .any, .any, .any, .any, .any, .any, .any]) (fun i => [some (.box 26 (staC s)), some (RO (midB s ++ hB (s.holds.take i)))]) 0 [0, 162]
    (Nat.zero_le _) (by simp [Ptr, I, R, hB, ← hmid]) (by simp [RO, hB, staC, ← hmid]) (by simp) (by simp) (by simp) ?_
  intro i hi
  have lki := lk i
  simp [Ptr, I, staC, R, RO]
  refine alt (fun hlt => ?_) (fun hlt => ?_)
  · obtain ⟨p, hc⟩ : ∃ p, s.holds[i]? = some p := ⟨s.holds[i], by simp [hlt]⟩
    have hk := m3 p (List.mem_of_getElem? hc)
    have hcb := holv_get hc
    have w2 : IntKind.i64.wrap ((i : Int) + 1) = ((i + 1 : Nat) : Int) := wrap_i64 (by omega) (by omega)
    have hl4 := hl p.id
    have hl5 := hl p.am
    have hl6 := hl (p.keys.length : Int)
    simp [hcb, holF, wrap_u64n]
    refine call0 (RUint_ok (midB s ++ hB (s.holds.take i)) (u64n p.id) (u64n_lt _) (by simp; omega)) (by simp [I, Bs, Ag, List.take_of_length_le]) ?_
    rintro y H' ⟨rfl, rfl⟩
    refine ⟨.inr ⟨rfl, by simp [RO, bsv, cb]⟩, le_ok rfl, ?_⟩
    simp [R, RO, wrap_u64n, uB_eq]
    refine call0 (RUint_ok (midB s ++ hB (s.holds.take i) ++ uB p.id) (u64n p.am) (u64n_lt _) (by simp; omega)) (by simp [I, Bs, Ag, List.take_of_length_le]) ?_
    rintro y H' ⟨rfl, rfl⟩
    refine ⟨.inr ⟨rfl, by simp [RO, bsv, cb]⟩, le_ok rfl, ?_⟩
    simp [R, RO, wrap_u64n, uB_eq]
    refine call0 (RUint_ok (midB s ++ hB (s.holds.take i) ++ uB p.id ++ uB p.am) (u64n (p.keys.length : Int)) (u64n_lt _) (by simp; omega)) (by simp [I, Bs, Ag, List.take_of_length_le]) ?_
    rintro y H' ⟨rfl, rfl⟩
    refine ⟨.inr ⟨rfl, by simp [RO, bsv, cb]⟩, le_ok rfl, ?_⟩
    simp [R, RO, wrap_u64n, uB_eq]
    refine eloop (α := Nat) (fun j => j ≤ p.keys.length) (fun j => p.keys.length - j)
      (fun j => [.any, Ptr 0, .any, R 2 (midB s ++ hB (s.holds.take i) ++ uB p.id ++ uB p.am ++ uB (p.keys.length : Int) ++ usB (p.keys.take j)), .any, .any, I .i64 i, Ptr 1, I .i64 j, .any, .any, .any, .any, .any, .any, .any, .any, .any, .any, .any, .any, .any, .any, .any, .any, .any, .any, .any, .any, .any, .any, .any, .any, .any, .any, .any, .any, .any, .any, .any, .any, .any, .any, .any, .any, .any, .any, .any, .any, .any, .any, .any, .any, .any, .any, .any, .any, .any, .any, .any, .any, .any, .any, .any, .any, .any, .any, .any, .any, .any, .any, .any, .any, .any, .any, .any, .any, .any, .any, .any, .any, .any, .any, .any, .any, .any, .any, .any, .any, .any, .any, .any, .any, .any, .any, .any, .any, .any, .any, .any, .any, .any, .any, .any, .any, .any, .any, .any, .any, .any])
      (fun j => [some (.box 26 (staC s)), some (.box 57 (holC p)), some (RO (midB s ++ hB (s.holds.take i) ++ uB p.id ++ uB p.am ++ uB (p.keys.length : Int) ++ usB (p.keys.take j)))]) 0 [0, 162, 402]
      (Nat.zero_le _) (by simp [Ptr, I, R, usB]) (by simp [RO, usB, staC, holC]) (by simp) (by simp) (by simp) ?_
    intro j hj
    have lkj := usB_len (p.keys.take j)
    have lkk : (p.keys.take j).length = j := by simp; omega
    simp [Ptr, I, staC, holC, R, RO]
    refine alt (fun hlt2 => ?_) (fun hlt2 => ?_)
    · obtain ⟨k, hc2⟩ : ∃ k, p.keys[j]? = some k := ⟨p.keys[j], by simp [hlt2]⟩
      have hcb2 := intv_get hc2
      have w3 : IntKind.i64.wrap ((j : Int) + 1) = ((j + 1 : Nat) : Int) := wrap_i64 (by omega) (by omega)
      have hts : p.keys.take (j + 1) = p.keys.take j ++ [k] := by rw [List.take_add_one, hc2]; rfl
      simp [hcb2, wrap_u64n]
      refine call0 (RUint_ok (midB s ++ hB (s.holds.take i) ++ uB p.id ++ uB p.am ++ uB (p.keys.length : Int) ++ usB (p.keys.take j)) (u64n k) (u64n_lt _) (by simp; omega)) (by simp [I, Bs, Ag, List.take_of_length_le]) ?_
      rintro y H' ⟨rfl, rfl⟩
      refine ⟨.inr ⟨rfl, by simp [RO, bsv, cb]⟩, le_ok rfl, ?_⟩
      simp [R, RO, wrap_u64n, uB_eq, w3, -Int.natCast_add]
      exact round (j + 1) [0, 1, 195] (by omega) (by omega) (by simp [hts, usB_snoc, R]) (by simp [hts, usB_snoc, RO]) (by simp) (by simp) (by simp)
    have hjl : j = p.keys.length := by omega
    subst hjl
    rw [List.take_length] at lkj ⊢
    have hsn : hB (s.holds.take (i + 1)) = hB (s.holds.take i) ++ (uB p.id ++ (uB p.am ++ (uB (p.keys.length : Int) ++ usB p.keys))) := by rw [take_s hc, hB_snoc]; simp [holB, usB_cons, usB_nil]
    simp [w2, -Int.natCast_add]
    exact round (i + 1) [0, 2] (by omega) (by omega) (by simp [hsn, R]) (by simp [hsn, RO]) (by simp) (by simp) (by simp)
  have hil : i = s.holds.length := by omega
  subst hil
  rw [List.take_length] at lki ⊢
  simp
  refine finW _ (weak_frz (o := 1) (ty := 5) (es := 1) (xs := bsv (midB s ++ hB s.holds)) rfl) ?_
  exact fin [] (by decide) rfl rfl rfl ⟨rfl, by simp [Bs, encS_eq, List.take_of_length_le]⟩

end Go.Proofs.YtpohjnhlhfbnaaaDoor
