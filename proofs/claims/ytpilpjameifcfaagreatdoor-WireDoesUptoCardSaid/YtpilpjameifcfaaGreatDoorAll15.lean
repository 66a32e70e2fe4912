import Derived.Test.YtpilpjameifcfaaGreatDoorAll9
import Derived.Test.YtpilpjameifcfaaGreatDoorAll10
import Derived.Test.YtpilpjameifcfaaGreatDoorAll14
import Derived.Test.YtpilpjameifcfaaGreatDoorAll11
namespace Go.Proofs.YtpilpjameifcfaaGreatDoor
open Go Go.EW
set_option linter.unusedSimpArgs false
set_option linter.unusedVariables false

@[simp] def l_Bright_1 (_ : Unit) : List EOp := [⟨0, (some 4), none, (.q (.mov (.k (.int .u32 0)))), []⟩]
@[simp] def b_Bright_2 (_ : Unit) : EB := reg0 (hid l_Bright_1) 1
@[simp] def l_Bright_4 (_ : Unit) : List EOp := [⟨6, (some 11), none, (.q (.bin .shl (.t 8) (.t 10))), []⟩, ⟨7, (some 12), none, (.q (.bin .or (.t 7) (.t 11))), []⟩, ⟨8, (some 4), none, (.q (.mov (.t 12))), []⟩]
@[simp] def l_Bright_3 (_ : Unit) : List EOp := ⟨0, (some 5), none, (.q (.mov (.t 0))), []⟩ :: ⟨1, (some 6), none, (.q (.mov (.t 1))), []⟩ :: ⟨2, (some 7), none, (.q (.bin .shr (.t 5) (.t 6))), []⟩ :: ⟨3, (some 8), none, (.q (.mov (.t 0))), []⟩ :: ⟨4, (some 9), none, (.q (.mov (.t 1))), []⟩ :: ⟨5, (some 10), none, (.q (.bin .sub (.k (.int .i64 32)) (.t 9))), []⟩ :: hid l_Bright_4
@[simp] def b_Bright_5 (_ : Unit) : EB := reg0 (hid l_Bright_3) 9
@[simp] def b_Bright_6 (_ : Unit) : EB := .seq (hid b_Bright_5) .ret
@[simp] def b_Bright_7 (_ : Unit) : EB := .seq (hid b_Bright_2) (hid b_Bright_6)
def c_Bright : EB × List QOp × Nat := ((hid b_Bright_7), [(.mov (.t 4))], 13)
theorem k_Bright : cfun Tryz.prog 120 = some c_Bright := by kernel_rfl

@[simp] def l_Bbegin_1 (_ : Unit) : List EOp := [⟨0, (some 0), none, (.q (.mov (.k (.slice none 0 0)))), []⟩]
@[simp] def b_Bbegin_2 (_ : Unit) : EB := reg0 (hid l_Bbegin_1) 1
@[simp] def l_Bbegin_3 (_ : Unit) : List EOp := [⟨0, (some 1), none, (.q (.bsr 174 1 [(.int .u32 0)] 8 [(0, (.k (.int .u32 1779033703))), (1, (.k (.int .u32 3144134277))), (2, (.k (.int .u32 1013904242))), (3, (.k (.int .u32 2773480762))), (4, (.k (.int .u32 1359893119))), (5, (.k (.int .u32 2600822924))), (6, (.k (.int .u32 528734635))), (7, (.k (.int .u32 1541459225)))])), []⟩, ⟨1, (some 0), none, (.q (.mov (.t 1))), []⟩]
@[simp] def b_Bbegin_4 (_ : Unit) : EB := reg0 (hid l_Bbegin_3) 2
@[simp] def b_Bbegin_5 (_ : Unit) : EB := .seq (hid b_Bbegin_4) .ret
@[simp] def b_Bbegin_6 (_ : Unit) : EB := .seq (hid b_Bbegin_2) (hid b_Bbegin_5)
def c_Bbegin : EB × List QOp × Nat := ((hid b_Bbegin_6), [(.mov (.t 0))], 2)
theorem k_Bbegin : cfun Tryz.prog 112 = some c_Bbegin := by kernel_rfl

@[simp] def l_Bdigit_1 (_ : Unit) : List EOp := [⟨0, (some 2), none, (.q (.mov (.k (.int .i64 0)))), []⟩]
@[simp] def b_Bdigit_2 (_ : Unit) : EB := reg0 (hid l_Bdigit_1) 1
@[simp] def l_Bdigit_3 (_ : Unit) : List EOp := [⟨0, (some 3), none, (.q (.mov (.t 0))), []⟩, ⟨1, (some 4), none, (.q (.bin .geq (.t 3) (.k (.int .u8 97)))), []⟩]
@[simp] def b_Bdigit_4 (_ : Unit) : EB := reg0 (hid l_Bdigit_3) 2
@[simp] def l_Bdigit_5 (_ : Unit) : List EOp := [⟨0, (some 5), none, (.q (.mov (.t 0))), []⟩, ⟨1, (some 6), none, (.q (.bin .sub (.t 5) (.k (.int .u8 97)))), []⟩, ⟨2, (some 7), none, (.q (.cnv .i64 (.t 6))), []⟩, ⟨3, (some 8), none, (.q (.bin .add (.t 7) (.k (.int .i64 10)))), []⟩, ⟨4, (some 2), none, (.q (.mov (.t 8))), []⟩]
@[simp] def b_Bdigit_6 (_ : Unit) : EB := reg0 (hid l_Bdigit_5) 5
@[simp] def b_Bdigit_7 (_ : Unit) : EB := .seq (hid b_Bdigit_6) .ret
@[simp] def b_Bdigit_8 (_ : Unit) : EB := .cond (.t 4) (hid b_Bdigit_7) .skip
@[simp] def b_Bdigit_9 (_ : Unit) : EB := .seq (hid b_Bdigit_4) (hid b_Bdigit_8)
@[simp] def l_Bdigit_10 (_ : Unit) : List EOp := [⟨0, (some 9), none, (.q (.mov (.t 0))), []⟩, ⟨1, (some 10), none, (.q (.bin .sub (.t 9) (.k (.int .u8 48)))), []⟩, ⟨2, (some 11), none, (.q (.cnv .i64 (.t 10))), []⟩, ⟨3, (some 2), none, (.q (.mov (.t 11))), []⟩]
@[simp] def b_Bdigit_11 (_ : Unit) : EB := reg0 (hid l_Bdigit_10) 4
@[simp] def b_Bdigit_12 (_ : Unit) : EB := .seq (hid b_Bdigit_11) .ret
@[simp] def b_Bdigit_13 (_ : Unit) : EB := .seq (hid b_Bdigit_9) (hid b_Bdigit_12)
@[simp] def b_Bdigit_14 (_ : Unit) : EB := .seq (hid b_Bdigit_2) (hid b_Bdigit_13)
def c_Bdigit : EB × List QOp × Nat := ((hid b_Bdigit_14), [(.mov (.t 2))], 12)
theorem k_Bdigit : cfun Tryz.prog 118 = some c_Bdigit := by kernel_rfl


/-- A row of words as the program has it. -/
def wrw (l : List UInt32) : List (List FV) := l.map fun x => [.lit (.int .u32 (wi x))]
@[simp] theorem wrw_len (l : List UInt32) : (wrw l).length = l.length := by simp [wrw]

theorem Bright_ok (x : UInt32) (k : Nat) (h : k ≤ 32) : ECalls Tryz.prog 120 [WV x, NV k] [] fun y H' => H' = [] ∧ y = WV (rotr x k) := by
  have w1 : IntKind.i64.wrap (32 - (k : Int)) = ((32 - k : Nat) : Int) := by rw [wrap_i64 (by omega) (by omega)]; omega
  have h1 := wi_shr x k h
  have h2 := wi_shl x (32 - k) (by omega)
  have h3 : ibit .or .u32 (wi (shr x k)) (wi (shl x (32 - k))) = wi (rotr x k) := by rw [wi_or, UInt32.or_comm]; rfl
  have n0 : ¬ ((k : Int) < 0) := by omega
  have n1 : ¬ (((32 - k : Nat) : Int) < 0) := by omega
  refine ecalls k_Bright ?_
  simp [c_Bright, WV, NV, w1, h1, h2, h3, n0, n1]
  exact fin [] (by decide) rfl rfl rfl ⟨rfl, rfl⟩
theorem Bbegin_ok : ECalls Tryz.prog 112 [] [] fun y H' => H' = [some (.row 174 1 (wrw firstW))] ∧ y = .v (.c (.row 0 8)) := by
  refine ecalls k_Bbegin ?_
  simp [c_Bbegin]
  exact fin [16] (by decide) rfl rfl rfl ⟨rfl, rfl⟩
theorem Bdigit_ok (c : UInt8) (n : Nat) (h : n = if 97 ≤ c.toNat then c.toNat - 87 else c.toNat - 48) (h1 : 48 ≤ c.toNat) : ECalls Tryz.prog 118 [.lit (.int .u8 (c.toNat : Int))] [] fun y H' => H' = [] ∧ y = NV n := by
  refine ecalls k_Bdigit ?_
  have hc := c.toNat_lt
  simp [c_Bdigit]
  refine alt (fun hh => ?_) (fun hh => ?_)
  · rw [if_pos (by omega)] at h
    have w0 : IntKind.u8.wrap ((c.toNat : Int) - 97) = ((c.toNat - 97 : Nat) : Int) := by simp [IntKind.wrap, IntKind.bits, IntKind.signed]; omega
    have w1 : IntKind.i64.wrap ((c.toNat - 97 : Nat) : Int) = ((c.toNat - 97 : Nat) : Int) := wrap_i64 (by omega) (by omega)
    have w2 : IntKind.i64.wrap (((c.toNat - 97 : Nat) : Int) + 10) = (n : Int) := by rw [wrap_i64 (by omega) (by omega), h]; omega
    simp [w0, w1, w2]
    exact fin [] (by decide) rfl rfl rfl ⟨rfl, rfl⟩
  · rw [if_neg (by omega)] at h
    have w0 : IntKind.u8.wrap ((c.toNat : Int) - 48) = ((c.toNat - 48 : Nat) : Int) := by simp [IntKind.wrap, IntKind.bits, IntKind.signed]; omega
    have w1 : IntKind.i64.wrap ((c.toNat - 48 : Nat) : Int) = (n : Int) := by rw [wrap_i64 (by omega) (by omega), h]
    simp [w0, w1]
    exact fin [] (by decide) rfl rfl rfl ⟨rfl, rfl⟩

@[simp] def l_Bstep_3 (_ : Unit) : List EOp := [⟨12, (some 26), none, (.q (.bin .add (.t 24) (.t 25))), []⟩, ⟨13, (some 27), none, (.q (.isl 1 (.t 14) (.t 15))), []⟩, ⟨14, none, none, (.sto 1 (.t 27) (.t 26)), []⟩]
@[simp] def l_Bstep_2 (_ : Unit) : List EOp := ⟨6, (some 20), none, (.q (.mov (.t 0))), []⟩ :: ⟨7, (some 21), none, (.q (.mov (.t 2))), []⟩ :: ⟨8, (some 22), none, (.q (.isl 1 (.t 20) (.t 21))), []⟩ :: ⟨9, (some 23), none, (.q (.ldc (.t 22))), []⟩ :: ⟨10, (some 24), none, (.q (.bin .add (.t 19) (.t 23))), []⟩ :: ⟨11, (some 25), none, (.q (.mov (.t 5))), []⟩ :: hid l_Bstep_3
@[simp] def l_Bstep_1 (_ : Unit) : List EOp := ⟨0, (some 14), none, (.q (.mov (.t 0))), []⟩ :: ⟨1, (some 15), none, (.q (.mov (.t 1))), []⟩ :: ⟨2, (some 16), none, (.q (.mov (.t 0))), []⟩ :: ⟨3, (some 17), none, (.q (.mov (.t 1))), []⟩ :: ⟨4, (some 18), none, (.q (.isl 1 (.t 16) (.t 17))), []⟩ :: ⟨5, (some 19), none, (.q (.ldc (.t 18))), []⟩ :: hid l_Bstep_2
@[simp] def b_Bstep_4 (_ : Unit) : EB := reg0 (hid l_Bstep_1) 15
@[simp] def l_Bstep_7 (_ : Unit) : List EOp := [⟨12, (some 40), none, (.q (.isl 1 (.t 28) (.t 29))), []⟩, ⟨13, none, none, (.sto 1 (.t 40) (.t 39)), []⟩]
@[simp] def l_Bstep_6 (_ : Unit) : List EOp := ⟨6, (some 34), none, (.q (.mov (.t 0))), []⟩ :: ⟨7, (some 35), none, (.q (.mov (.t 1))), []⟩ :: ⟨8, (some 36), none, (.q (.isl 1 (.t 34) (.t 35))), []⟩ :: ⟨9, (some 37), none, (.q (.ldc (.t 36))), []⟩ :: ⟨10, (some 38), none, (.q (.bin .xor (.t 33) (.t 37))), []⟩ :: ⟨11, (some 39), none, (.call 120 [(.t 38), (.k (.int .i64 16))]), [0, 1]⟩ :: hid l_Bstep_7
@[simp] def l_Bstep_5 (_ : Unit) : List EOp := ⟨0, (some 28), none, (.q (.mov (.t 0))), []⟩ :: ⟨1, (some 29), none, (.q (.mov (.t 4))), []⟩ :: ⟨2, (some 30), none, (.q (.mov (.t 0))), []⟩ :: ⟨3, (some 31), none, (.q (.mov (.t 4))), []⟩ :: ⟨4, (some 32), none, (.q (.isl 1 (.t 30) (.t 31))), []⟩ :: ⟨5, (some 33), none, (.q (.ldc (.t 32))), []⟩ :: hid l_Bstep_6
@[simp] def b_Bstep_8 (_ : Unit) : EB := reg1 (hid l_Bstep_5) 14
@[simp] def l_Bstep_11 (_ : Unit) : List EOp := [⟨12, none, none, (.sto 1 (.t 52) (.t 51)), []⟩]
@[simp] def l_Bstep_10 (_ : Unit) : List EOp := ⟨6, (some 47), none, (.q (.mov (.t 0))), []⟩ :: ⟨7, (some 48), none, (.q (.mov (.t 4))), []⟩ :: ⟨8, (some 49), none, (.q (.isl 1 (.t 47) (.t 48))), []⟩ :: ⟨9, (some 50), none, (.q (.ldc (.t 49))), []⟩ :: ⟨10, (some 51), none, (.q (.bin .add (.t 46) (.t 50))), []⟩ :: ⟨11, (some 52), none, (.q (.isl 1 (.t 41) (.t 42))), []⟩ :: hid l_Bstep_11
@[simp] def l_Bstep_9 (_ : Unit) : List EOp := ⟨0, (some 41), none, (.q (.mov (.t 0))), []⟩ :: ⟨1, (some 42), none, (.q (.mov (.t 3))), []⟩ :: ⟨2, (some 43), none, (.q (.mov (.t 0))), []⟩ :: ⟨3, (some 44), none, (.q (.mov (.t 3))), []⟩ :: ⟨4, (some 45), none, (.q (.isl 1 (.t 43) (.t 44))), []⟩ :: ⟨5, (some 46), none, (.q (.ldc (.t 45))), []⟩ :: hid l_Bstep_10
@[simp] def b_Bstep_12 (_ : Unit) : EB := reg0 (hid l_Bstep_9) 13
@[simp] def l_Bstep_15 (_ : Unit) : List EOp := [⟨12, (some 65), none, (.q (.isl 1 (.t 53) (.t 54))), []⟩, ⟨13, none, none, (.sto 1 (.t 65) (.t 64)), []⟩]
@[simp] def l_Bstep_14 (_ : Unit) : List EOp := ⟨6, (some 59), none, (.q (.mov (.t 0))), []⟩ :: ⟨7, (some 60), none, (.q (.mov (.t 3))), []⟩ :: ⟨8, (some 61), none, (.q (.isl 1 (.t 59) (.t 60))), []⟩ :: ⟨9, (some 62), none, (.q (.ldc (.t 61))), []⟩ :: ⟨10, (some 63), none, (.q (.bin .xor (.t 58) (.t 62))), []⟩ :: ⟨11, (some 64), none, (.call 120 [(.t 63), (.k (.int .i64 12))]), [0, 1]⟩ :: hid l_Bstep_15
@[simp] def l_Bstep_13 (_ : Unit) : List EOp := ⟨0, (some 53), none, (.q (.mov (.t 0))), []⟩ :: ⟨1, (some 54), none, (.q (.mov (.t 2))), []⟩ :: ⟨2, (some 55), none, (.q (.mov (.t 0))), []⟩ :: ⟨3, (some 56), none, (.q (.mov (.t 2))), []⟩ :: ⟨4, (some 57), none, (.q (.isl 1 (.t 55) (.t 56))), []⟩ :: ⟨5, (some 58), none, (.q (.ldc (.t 57))), []⟩ :: hid l_Bstep_14
@[simp] def b_Bstep_16 (_ : Unit) : EB := reg1 (hid l_Bstep_13) 14
@[simp] def l_Bstep_19 (_ : Unit) : List EOp := [⟨12, (some 78), none, (.q (.bin .add (.t 76) (.t 77))), []⟩, ⟨13, (some 79), none, (.q (.isl 1 (.t 66) (.t 67))), []⟩, ⟨14, none, none, (.sto 1 (.t 79) (.t 78)), []⟩]
@[simp] def l_Bstep_18 (_ : Unit) : List EOp := ⟨6, (some 72), none, (.q (.mov (.t 0))), []⟩ :: ⟨7, (some 73), none, (.q (.mov (.t 2))), []⟩ :: ⟨8, (some 74), none, (.q (.isl 1 (.t 72) (.t 73))), []⟩ :: ⟨9, (some 75), none, (.q (.ldc (.t 74))), []⟩ :: ⟨10, (some 76), none, (.q (.bin .add (.t 71) (.t 75))), []⟩ :: ⟨11, (some 77), none, (.q (.mov (.t 6))), []⟩ :: hid l_Bstep_19
@[simp] def l_Bstep_17 (_ : Unit) : List EOp := ⟨0, (some 66), none, (.q (.mov (.t 0))), []⟩ :: ⟨1, (some 67), none, (.q (.mov (.t 1))), []⟩ :: ⟨2, (some 68), none, (.q (.mov (.t 0))), []⟩ :: ⟨3, (some 69), none, (.q (.mov (.t 1))), []⟩ :: ⟨4, (some 70), none, (.q (.isl 1 (.t 68) (.t 69))), []⟩ :: ⟨5, (some 71), none, (.q (.ldc (.t 70))), []⟩ :: hid l_Bstep_18
@[simp] def b_Bstep_20 (_ : Unit) : EB := reg0 (hid l_Bstep_17) 15
@[simp] def l_Bstep_23 (_ : Unit) : List EOp := [⟨12, (some 92), none, (.q (.isl 1 (.t 80) (.t 81))), []⟩, ⟨13, none, none, (.sto 1 (.t 92) (.t 91)), []⟩]
@[simp] def l_Bstep_22 (_ : Unit) : List EOp := ⟨6, (some 86), none, (.q (.mov (.t 0))), []⟩ :: ⟨7, (some 87), none, (.q (.mov (.t 1))), []⟩ :: ⟨8, (some 88), none, (.q (.isl 1 (.t 86) (.t 87))), []⟩ :: ⟨9, (some 89), none, (.q (.ldc (.t 88))), []⟩ :: ⟨10, (some 90), none, (.q (.bin .xor (.t 85) (.t 89))), []⟩ :: ⟨11, (some 91), none, (.call 120 [(.t 90), (.k (.int .i64 8))]), [0, 1]⟩ :: hid l_Bstep_23
@[simp] def l_Bstep_21 (_ : Unit) : List EOp := ⟨0, (some 80), none, (.q (.mov (.t 0))), []⟩ :: ⟨1, (some 81), none, (.q (.mov (.t 4))), []⟩ :: ⟨2, (some 82), none, (.q (.mov (.t 0))), []⟩ :: ⟨3, (some 83), none, (.q (.mov (.t 4))), []⟩ :: ⟨4, (some 84), none, (.q (.isl 1 (.t 82) (.t 83))), []⟩ :: ⟨5, (some 85), none, (.q (.ldc (.t 84))), []⟩ :: hid l_Bstep_22
@[simp] def b_Bstep_24 (_ : Unit) : EB := reg1 (hid l_Bstep_21) 14
@[simp] def l_Bstep_27 (_ : Unit) : List EOp := [⟨12, none, none, (.sto 1 (.t 104) (.t 103)), []⟩]
@[simp] def l_Bstep_26 (_ : Unit) : List EOp := ⟨6, (some 99), none, (.q (.mov (.t 0))), []⟩ :: ⟨7, (some 100), none, (.q (.mov (.t 4))), []⟩ :: ⟨8, (some 101), none, (.q (.isl 1 (.t 99) (.t 100))), []⟩ :: ⟨9, (some 102), none, (.q (.ldc (.t 101))), []⟩ :: ⟨10, (some 103), none, (.q (.bin .add (.t 98) (.t 102))), []⟩ :: ⟨11, (some 104), none, (.q (.isl 1 (.t 93) (.t 94))), []⟩ :: hid l_Bstep_27
@[simp] def l_Bstep_25 (_ : Unit) : List EOp := ⟨0, (some 93), none, (.q (.mov (.t 0))), []⟩ :: ⟨1, (some 94), none, (.q (.mov (.t 3))), []⟩ :: ⟨2, (some 95), none, (.q (.mov (.t 0))), []⟩ :: ⟨3, (some 96), none, (.q (.mov (.t 3))), []⟩ :: ⟨4, (some 97), none, (.q (.isl 1 (.t 95) (.t 96))), []⟩ :: ⟨5, (some 98), none, (.q (.ldc (.t 97))), []⟩ :: hid l_Bstep_26
@[simp] def b_Bstep_28 (_ : Unit) : EB := reg0 (hid l_Bstep_25) 13
@[simp] def l_Bstep_31 (_ : Unit) : List EOp := [⟨12, (some 117), none, (.q (.isl 1 (.t 105) (.t 106))), []⟩, ⟨13, none, none, (.sto 1 (.t 117) (.t 116)), []⟩]
@[simp] def l_Bstep_30 (_ : Unit) : List EOp := ⟨6, (some 111), none, (.q (.mov (.t 0))), []⟩ :: ⟨7, (some 112), none, (.q (.mov (.t 3))), []⟩ :: ⟨8, (some 113), none, (.q (.isl 1 (.t 111) (.t 112))), []⟩ :: ⟨9, (some 114), none, (.q (.ldc (.t 113))), []⟩ :: ⟨10, (some 115), none, (.q (.bin .xor (.t 110) (.t 114))), []⟩ :: ⟨11, (some 116), none, (.call 120 [(.t 115), (.k (.int .i64 7))]), [0, 1]⟩ :: hid l_Bstep_31
@[simp] def l_Bstep_29 (_ : Unit) : List EOp := ⟨0, (some 105), none, (.q (.mov (.t 0))), []⟩ :: ⟨1, (some 106), none, (.q (.mov (.t 2))), []⟩ :: ⟨2, (some 107), none, (.q (.mov (.t 0))), []⟩ :: ⟨3, (some 108), none, (.q (.mov (.t 2))), []⟩ :: ⟨4, (some 109), none, (.q (.isl 1 (.t 107) (.t 108))), []⟩ :: ⟨5, (some 110), none, (.q (.ldc (.t 109))), []⟩ :: hid l_Bstep_30
@[simp] def b_Bstep_32 (_ : Unit) : EB := reg1 (hid l_Bstep_29) 14
@[simp] def b_Bstep_33 (_ : Unit) : EB := .seq (hid b_Bstep_28) (hid b_Bstep_32)
@[simp] def b_Bstep_34 (_ : Unit) : EB := .seq (hid b_Bstep_24) (hid b_Bstep_33)
@[simp] def b_Bstep_35 (_ : Unit) : EB := .seq (hid b_Bstep_20) (hid b_Bstep_34)
@[simp] def b_Bstep_36 (_ : Unit) : EB := .seq (hid b_Bstep_16) (hid b_Bstep_35)
@[simp] def b_Bstep_37 (_ : Unit) : EB := .seq (hid b_Bstep_12) (hid b_Bstep_36)
@[simp] def b_Bstep_38 (_ : Unit) : EB := .seq (hid b_Bstep_8) (hid b_Bstep_37)
@[simp] def b_Bstep_39 (_ : Unit) : EB := .seq (hid b_Bstep_4) (hid b_Bstep_38)
def c_Bstep : EB × List QOp × Nat := ((hid b_Bstep_39), [], 118)
theorem k_Bstep : cfun Tryz.prog 117 = some c_Bstep := by kernel_rfl

theorem wrw_get {v : List UInt32} {i : Nat} (h : i < v.length) : (wrw v)[i]? = some [.lit (.int .u32 (wi (g v i)))] := by
  have e : v[i]? = some (g v i) := by
    unfold g
    rw [List.getElem?_eq_getElem h]
    rfl
  simp [wrw, e]
theorem wrw_gE {v : List UInt32} {i : Nat} (h : i < v.length) (h2 : i < (wrw v).length) : (wrw v)[i]'h2 = [.lit (.int .u32 (wi (g v i)))] := by
  have := wrw_get h
  rw [List.getElem?_eq_getElem h2] at this
  exact Option.some.inj this
theorem wrw_set (l : List UInt32) (i : Nat) (x : UInt32) : (wrw l).set i [.lit (.int .u32 (wi x))] = wrw (l.set i x) := by simp [wrw, List.map_set]

theorem wrw_gE' (v : List UInt32) (i : Nat) (h2 : i < (wrw v).length) : (wrw v)[i]'h2 = [.lit (.int .u32 (wi (g v i)))] := wrw_gE (by simpa using h2) h2

set_option maxRecDepth 8000 in
set_option maxHeartbeats 8000000 in
theorem Bstep_ok (v : List UInt32) (a b c d : Nat) (x y : UInt32) (hv : v.length = 16) (ha : a < 16) (hb : b < 16) (hc : c < 16) (hd : d < 16) : ECalls Tryz.prog 117 [.v (.c (.row 0 16)), NV a, NV b, NV c, NV d, WV x, WV y] [.row 174 1 (wrw v)] fun y' H' => H' = [some (.row 174 1 (wrw (mixS v a b c d x y)))] ∧ y' = .tup [] := by
  have ia : (a : Int) < 16 := by omega
  have ib : (b : Int) < 16 := by omega
  have ic : (c : Int) < 16 := by omega
  have id' : (d : Int) < 16 := by omega
  obtain ⟨v1, h1⟩ : ∃ w, v.set a (g v a + g v b + x) = w := ⟨_, rfl⟩
  have e1 : v1.length = 16 := by rw [← h1, List.length_set]; exact hv
  obtain ⟨v2, h2⟩ : ∃ w, v1.set d (rotr (g v1 d ^^^ g v1 a) 16) = w := ⟨_, rfl⟩
  have e2 : v2.length = 16 := by rw [← h2, List.length_set]; exact e1
  obtain ⟨v3, h3⟩ : ∃ w, v2.set c (g v2 c + g v2 d) = w := ⟨_, rfl⟩
  have e3 : v3.length = 16 := by rw [← h3, List.length_set]; exact e2
  obtain ⟨v4, h4⟩ : ∃ w, v3.set b (rotr (g v3 b ^^^ g v3 c) 12) = w := ⟨_, rfl⟩
  have e4 : v4.length = 16 := by rw [← h4, List.length_set]; exact e3
  obtain ⟨v5, h5⟩ : ∃ w, v4.set a (g v4 a + g v4 b + y) = w := ⟨_, rfl⟩
  have e5 : v5.length = 16 := by rw [← h5, List.length_set]; exact e4
  obtain ⟨v6, h6⟩ : ∃ w, v5.set d (rotr (g v5 d ^^^ g v5 a) 8) = w := ⟨_, rfl⟩
  have e6 : v6.length = 16 := by rw [← h6, List.length_set]; exact e5
  obtain ⟨v7, h7⟩ : ∃ w, v6.set c (g v6 c + g v6 d) = w := ⟨_, rfl⟩
  have e7 : v7.length = 16 := by rw [← h7, List.length_set]; exact e6
  obtain ⟨v8, h8⟩ : ∃ w, v7.set b (rotr (g v7 b ^^^ g v7 c) 7) = w := ⟨_, rfl⟩
  have hm : mixS v a b c d x y = v8 := by
    simp only [mixS]
    rw [← UInt32.add_assoc, h1, h2, h3, h4, ← UInt32.add_assoc, h5, h6, h7, h8]
  rw [hm]
  refine ecalls k_Bstep ?_
  simp [c_Bstep, WV, NV, ha, hb, hc, hd, ia, ib, ic, id', hv, wrw_gE', wi_add, wi_xor, wrw_set, h1, e1]
  refine call0 (Bright_ok (g v1 d ^^^ g v1 a) 16 (by decide)) (by simp [WV, NV]) ?_
  rintro y' H' ⟨rfl, rfl⟩
  refine ⟨.inl (by simp), le_ok rfl, ?_⟩
  simp [WV, NV, ha, hb, hc, hd, ia, ib, ic, id', e1, e2, e3, wrw_gE', wi_add, wi_xor, wrw_set, h2, h3]
  refine call0 (Bright_ok (g v3 b ^^^ g v3 c) 12 (by decide)) (by simp [WV, NV]) ?_
  rintro y' H' ⟨rfl, rfl⟩
  refine ⟨.inl (by simp), le_ok rfl, ?_⟩
  simp [WV, NV, ha, hb, hc, hd, ia, ib, ic, id', e3, e4, e5, wrw_gE', wi_add, wi_xor, wrw_set, h4, h5]
  refine call0 (Bright_ok (g v5 d ^^^ g v5 a) 8 (by decide)) (by simp [WV, NV]) ?_
  rintro y' H' ⟨rfl, rfl⟩
  refine ⟨.inl (by simp), le_ok rfl, ?_⟩
  simp [WV, NV, ha, hb, hc, hd, ia, ib, ic, id', e5, e6, e7, wrw_gE', wi_add, wi_xor, wrw_set, h6, h7]
  refine call0 (Bright_ok (g v7 b ^^^ g v7 c) 7 (by decide)) (by simp [WV, NV]) ?_
  rintro y' H' ⟨rfl, rfl⟩
  refine ⟨.inl (by simp), le_ok rfl, ?_⟩
  simp [WV, NV, ha, hb, hc, hd, ia, ib, ic, id', e7, wrw_gE', wi_add, wi_xor, wrw_set, h8]
  exact fin [] (by decide) rfl rfl rfl ⟨rfl, rfl⟩

end Go.Proofs.YtpilpjameifcfaaGreatDoor

namespace Go.Proofs.YtpilpjameifcfaaGreatDoor
open Go Go.EW
set_option linter.unusedSimpArgs false
set_option linter.unusedVariables false

@[simp] def l_Brow_1 (_ : Unit) : List EOp := [⟨0, (some 2), none, (.q (.mov (.k (.string ⟨#[]⟩)))), []⟩]
@[simp] def b_Brow_2 (_ : Unit) : EB := reg0 (hid l_Brow_1) 1
@[simp] def l_Brow_3 (_ : Unit) : List EOp := [⟨0, (some 3), none, (.q (.bsl 1 [(.string ⟨#[]⟩)] 10 [(0, (.k (.string ⟨#[48, 49, 50, 51, 52, 53, 54, 55, 56, 57, 97, 98, 99, 100, 101, 102]⟩))), (1, (.k (.string ⟨#[101, 97, 52, 56, 57, 102, 100, 54, 49, 99, 48, 50, 98, 55, 53, 51]⟩))), (2, (.k (.string ⟨#[98, 56, 99, 48, 53, 50, 102, 100, 97, 101, 51, 54, 55, 49, 57, 52]⟩))), (3, (.k (.string ⟨#[55, 57, 51, 49, 100, 99, 98, 101, 50, 54, 53, 97, 52, 48, 102, 56]⟩))), (4, (.k (.string ⟨#[57, 48, 53, 55, 50, 52, 97, 102, 101, 49, 98, 99, 54, 56, 51, 100]⟩))), (5, (.k (.string ⟨#[50, 99, 54, 97, 48, 98, 56, 51, 52, 100, 55, 53, 102, 101, 49, 57]⟩))), (6, (.k (.string ⟨#[99, 53, 49, 102, 101, 100, 52, 97, 48, 55, 54, 51, 57, 50, 56, 98]⟩))), (7, (.k (.string ⟨#[100, 98, 55, 101, 99, 49, 51, 57, 53, 48, 102, 52, 56, 54, 50, 97]⟩))), (8, (.k (.string ⟨#[54, 102, 101, 57, 98, 51, 48, 56, 99, 50, 100, 55, 49, 52, 97, 53]⟩))), (9, (.k (.string ⟨#[97, 50, 56, 52, 55, 54, 49, 53, 102, 98, 57, 101, 51, 99, 100, 48]⟩)))])), []⟩, ⟨1, (some 4), none, (.q (.mov (.t 0))), []⟩, ⟨2, (some 5), none, (.q (.isl 1 (.t 3) (.t 4))), []⟩, ⟨3, (some 6), none, (.q (.ldc (.t 5))), []⟩, ⟨4, (some 2), none, (.q (.mov (.t 6))), []⟩]
@[simp] def b_Brow_4 (_ : Unit) : EB := reg0 (hid l_Brow_3) 5
@[simp] def b_Brow_5 (_ : Unit) : EB := .seq (hid b_Brow_4) .ret
@[simp] def b_Brow_6 (_ : Unit) : EB := .seq (hid b_Brow_2) (hid b_Brow_5)
def c_Brow : EB × List QOp × Nat := ((hid b_Brow_6), [(.mov (.t 2))], 7)
theorem k_Brow : cfun Tryz.prog 116 = some c_Brow := by kernel_rfl


/-- The ten rows of digits. -/
def rowT : List (List UInt8) := [[48, 49, 50, 51, 52, 53, 54, 55, 56, 57, 97, 98, 99, 100, 101, 102],
  [101, 97, 52, 56, 57, 102, 100, 54, 49, 99, 48, 50, 98, 55, 53, 51],
  [98, 56, 99, 48, 53, 50, 102, 100, 97, 101, 51, 54, 55, 49, 57, 52],
  [55, 57, 51, 49, 100, 99, 98, 101, 50, 54, 53, 97, 52, 48, 102, 56],
  [57, 48, 53, 55, 50, 52, 97, 102, 101, 49, 98, 99, 54, 56, 51, 100],
  [50, 99, 54, 97, 48, 98, 56, 51, 52, 100, 55, 53, 102, 101, 49, 57],
  [99, 53, 49, 102, 101, 100, 52, 97, 48, 55, 54, 51, 57, 50, 56, 98],
  [100, 98, 55, 101, 99, 49, 51, 57, 53, 48, 102, 52, 56, 54, 50, 97],
  [54, 102, 101, 57, 98, 51, 48, 56, 99, 50, 100, 55, 49, 52, 97, 53],
  [97, 50, 56, 52, 55, 54, 49, 53, 102, 98, 57, 101, 51, 99, 100, 48]]
def rowS (r : Nat) : List UInt8 := (rowT[r]?).getD []
theorem Brow_ok (r : Nat) (h : r < 10) : ECalls Tryz.prog 116 [NV r] [] fun y H' => H' = [] ∧ y = .lit (.string (strb (rowS r))) := by
  refine ecalls k_Brow ?_
  match r, h with
  | 0, _ => simp [c_Brow, NV]; exact fin [] (by decide) rfl rfl rfl ⟨rfl, rfl⟩
  | 1, _ => simp [c_Brow, NV]; exact fin [] (by decide) rfl rfl rfl ⟨rfl, rfl⟩
  | 2, _ => simp [c_Brow, NV]; exact fin [] (by decide) rfl rfl rfl ⟨rfl, rfl⟩
  | 3, _ => simp [c_Brow, NV]; exact fin [] (by decide) rfl rfl rfl ⟨rfl, rfl⟩
  | 4, _ => simp [c_Brow, NV]; exact fin [] (by decide) rfl rfl rfl ⟨rfl, rfl⟩
  | 5, _ => simp [c_Brow, NV]; exact fin [] (by decide) rfl rfl rfl ⟨rfl, rfl⟩
  | 6, _ => simp [c_Brow, NV]; exact fin [] (by decide) rfl rfl rfl ⟨rfl, rfl⟩
  | 7, _ => simp [c_Brow, NV]; exact fin [] (by decide) rfl rfl rfl ⟨rfl, rfl⟩
  | 8, _ => simp [c_Brow, NV]; exact fin [] (by decide) rfl rfl rfl ⟨rfl, rfl⟩
  | 9, _ => simp [c_Brow, NV]; exact fin [] (by decide) rfl rfl rfl ⟨rfl, rfl⟩
  | n + 10, h => exact absurd h (by omega)

end Go.Proofs.YtpilpjameifcfaaGreatDoor

namespace Go.Proofs.YtpilpjameifcfaaGreatDoor
open Go Go.EW
set_option linter.unusedSimpArgs false
set_option linter.unusedVariables false

theorem or_add {x y k : Nat} (h : x < 2 ^ k) : x ||| y * 2 ^ k = x + y * 2 ^ k := by
  have := Nat.two_pow_add_eq_or_of_lt h y
  rw [Nat.or_comm, Nat.mul_comm y, ← this]
  omega
theorem bw_nat (b : UInt8) : (bw b).toNat = b.toNat := by
  have := b.toNat_lt
  simp [bw]
/-- A word of four bytes, as a sum. -/
theorem word_sum (a b c d : UInt8) : (((bw a ||| shl (bw b) 8) ||| shl (bw c) 16) ||| shl (bw d) 24).toNat = a.toNat + b.toNat * 2 ^ 8 + c.toNat * 2 ^ 16 + d.toNat * 2 ^ 24 := by
  have ha := a.toNat_lt
  have hb := b.toNat_lt
  have hc := c.toNat_lt
  have hd := d.toNat_lt
  have s1 : (shl (bw b) 8).toNat = b.toNat * 2 ^ 8 := by simp only [shl, bw_nat]; exact UInt32.toNat_ofNat_of_lt' (by show _ < 4294967296; omega)
  have s2 : (shl (bw c) 16).toNat = c.toNat * 2 ^ 16 := by simp only [shl, bw_nat]; exact UInt32.toNat_ofNat_of_lt' (by show _ < 4294967296; omega)
  have s3 : (shl (bw d) 24).toNat = d.toNat * 2 ^ 24 := by simp only [shl, bw_nat]; exact UInt32.toNat_ofNat_of_lt' (by show _ < 4294967296; omega)
  rw [UInt32.toNat_or, UInt32.toNat_or, UInt32.toNat_or, s1, s2, s3, bw_nat, or_add (x := a.toNat) (y := b.toNat) (k := 8) (by omega), or_add (x := a.toNat + b.toNat * 2 ^ 8) (y := c.toNat) (k := 16) (by omega), or_add (x := a.toNat + b.toNat * 2 ^ 8 + c.toNat * 2 ^ 16) (y := d.toNat) (k := 24) (by omega)]
/-- Each digit of each row is blake's. -/
theorem row_digit : ∀ r, r < 10 → ∀ j, j < 16 → ∃ c, (rowS r)[j]? = some c ∧ 48 ≤ c.toNat ∧ sN r j = if 97 ≤ c.toNat then c.toNat - 87 else c.toNat - 48 := by
  have h : ∀ r, r < 10 → ∀ j, j < 16 → (match (rowS r)[j]? with | some c => decide (48 ≤ c.toNat ∧ sN r j = if 97 ≤ c.toNat then c.toNat - 87 else c.toNat - 48) | none => false) = true := by decide +kernel
  intro r hr j hj
  have := h r hr j hj
  split at this
  · rename_i c hc
    exact ⟨c, hc, of_decide_eq_true this⟩
  · simp at this

end Go.Proofs.YtpilpjameifcfaaGreatDoor

namespace Go.Proofs.YtpilpjameifcfaaGreatDoor
open Go Go.EW
set_option linter.unusedSimpArgs false
set_option linter.unusedVariables false

@[simp] def l_Btk_1 (_ : Unit) : List EOp := [⟨0, (some 8), none, (.q (.mov (.k (.slice none 0 0)))), []⟩]
@[simp] def b_Btk_2 (_ : Unit) : EB := reg0 (hid l_Btk_1) 1
@[simp] def l_Btk_3 (_ : Unit) : List EOp := [⟨0, (some 9), none, (.q (.mov (.k (.slice none 0 0)))), []⟩]
@[simp] def b_Btk_4 (_ : Unit) : EB := reg0 (hid l_Btk_3) 1
@[simp] def l_Btk_5 (_ : Unit) : List EOp := [⟨0, (some 10), none, (.q (.mov (.k (.int .i64 0)))), []⟩]
@[simp] def b_Btk_6 (_ : Unit) : EB := reg0 (hid l_Btk_5) 1
@[simp] def l_Btk_7 (_ : Unit) : List EOp := [⟨0, (some 19), none, (.q (.mov (.t 10))), []⟩, ⟨1, (some 20), none, (.q (.bin .lss (.t 19) (.k (.int .i64 64)))), []⟩]
@[simp] def b_Btk_8 (_ : Unit) : EB := reg0 (hid l_Btk_7) 2
@[simp] def b_Btk_9 (_ : Unit) : EB := .cond (.t 20) .skip (.exit 0)
@[simp] def b_Btk_10 (_ : Unit) : EB := .seq (hid b_Btk_8) (hid b_Btk_9)
@[simp] def l_Btk_16 (_ : Unit) : List EOp := [⟨30, (some 53), none, (.q (.bsr 174 1 [(.int .u32 0)] 1 [(0, (.t 52))])), []⟩, ⟨31, (some 54), none, (.app 174 1 4 (.t 23) (.t 53)), []⟩, ⟨32, (some 9), none, (.q (.mov (.t 54))), []⟩]
@[simp] def l_Btk_15 (_ : Unit) : List EOp := ⟨24, (some 47), none, (.q (.bin .add (.t 46) (.k (.int .i64 3)))), []⟩ :: ⟨25, (some 48), none, (.q (.isl 1 (.t 45) (.t 47))), []⟩ :: ⟨26, (some 49), none, (.q (.ldc (.t 48))), []⟩ :: ⟨27, (some 50), none, (.q (.cnv .u32 (.t 49))), []⟩ :: ⟨28, (some 51), none, (.q (.bin .mul (.k (.int .u32 16777216)) (.t 50))), []⟩ :: ⟨29, (some 52), none, (.q (.bin .add (.t 44) (.t 51))), []⟩ :: hid l_Btk_16
@[simp] def l_Btk_14 (_ : Unit) : List EOp := ⟨18, (some 41), none, (.q (.ldc (.t 40))), []⟩ :: ⟨19, (some 42), none, (.q (.cnv .u32 (.t 41))), []⟩ :: ⟨20, (some 43), none, (.q (.bin .mul (.k (.int .u32 65536)) (.t 42))), []⟩ :: ⟨21, (some 44), none, (.q (.bin .add (.t 36) (.t 43))), []⟩ :: ⟨22, (some 45), none, (.q (.mov (.t 1))), []⟩ :: ⟨23, (some 46), none, (.q (.mov (.t 10))), []⟩ :: hid l_Btk_15
@[simp] def l_Btk_13 (_ : Unit) : List EOp := ⟨12, (some 35), none, (.q (.bin .mul (.k (.int .u32 256)) (.t 34))), []⟩ :: ⟨13, (some 36), none, (.q (.bin .add (.t 28) (.t 35))), []⟩ :: ⟨14, (some 37), none, (.q (.mov (.t 1))), []⟩ :: ⟨15, (some 38), none, (.q (.mov (.t 10))), []⟩ :: ⟨16, (some 39), none, (.q (.bin .add (.t 38) (.k (.int .i64 2)))), []⟩ :: ⟨17, (some 40), none, (.q (.isl 1 (.t 37) (.t 39))), []⟩ :: hid l_Btk_14
@[simp] def l_Btk_12 (_ : Unit) : List EOp := ⟨6, (some 29), none, (.q (.mov (.t 1))), []⟩ :: ⟨7, (some 30), none, (.q (.mov (.t 10))), []⟩ :: ⟨8, (some 31), none, (.q (.bin .add (.t 30) (.k (.int .i64 1)))), []⟩ :: ⟨9, (some 32), none, (.q (.isl 1 (.t 29) (.t 31))), []⟩ :: ⟨10, (some 33), none, (.q (.ldc (.t 32))), []⟩ :: ⟨11, (some 34), none, (.q (.cnv .u32 (.t 33))), []⟩ :: hid l_Btk_13
@[simp] def l_Btk_11 (_ : Unit) : List EOp := ⟨0, (some 23), none, (.q (.mov (.t 9))), []⟩ :: ⟨1, (some 24), none, (.q (.mov (.t 1))), []⟩ :: ⟨2, (some 25), none, (.q (.mov (.t 10))), []⟩ :: ⟨3, (some 26), none, (.q (.isl 1 (.t 24) (.t 25))), []⟩ :: ⟨4, (some 27), none, (.q (.ldc (.t 26))), []⟩ :: ⟨5, (some 28), none, (.q (.cnv .u32 (.t 27))), []⟩ :: hid l_Btk_12
@[simp] def b_Btk_17 (_ : Unit) : EB := reg0 (hid l_Btk_11) 33
@[simp] def b_Btk_18 (_ : Unit) : EB := .block 1 (hid b_Btk_17)
@[simp] def l_Btk_19 (_ : Unit) : List EOp := [⟨0, (some 21), none, (.q (.mov (.t 10))), []⟩, ⟨1, (some 22), none, (.q (.bin .add (.t 21) (.k (.int .i64 4)))), []⟩, ⟨2, (some 10), none, (.q (.mov (.t 22))), []⟩]
@[simp] def b_Btk_20 (_ : Unit) : EB := reg0 (hid l_Btk_19) 3
@[simp] def b_Btk_21 (_ : Unit) : EB := .seq (hid b_Btk_18) (hid b_Btk_20)
@[simp] def b_Btk_22 (_ : Unit) : EB := .seq (hid b_Btk_10) (hid b_Btk_21)
@[simp] def b_Btk_23 (_ : Unit) : EB := .loop (hid b_Btk_22)
@[simp] def b_Btk_24 (_ : Unit) : EB := .block 0 (hid b_Btk_23)
@[simp] def b_Btk_25 (_ : Unit) : EB := .seq (hid b_Btk_6) (hid b_Btk_24)
@[simp] def l_Btk_26 (_ : Unit) : List EOp := [⟨0, (some 11), none, (.q (.mov (.k (.slice none 0 0)))), []⟩]
@[simp] def b_Btk_27 (_ : Unit) : EB := reg0 (hid l_Btk_26) 1
@[simp] def l_Btk_28 (_ : Unit) : List EOp := [⟨0, (some 55), none, (.q (.mov (.t 11))), []⟩, ⟨1, (some 56), none, (.q (.mov (.t 0))), []⟩, ⟨2, (some 57), none, (.app 174 1 4 (.t 55) (.t 56)), []⟩, ⟨3, (some 58), none, (.call 112 []), []⟩, ⟨4, (some 59), none, (.app 174 1 4 (.t 57) (.t 58)), []⟩, ⟨5, (some 11), none, (.q (.mov (.t 59))), []⟩]
@[simp] def b_Btk_29 (_ : Unit) : EB := reg0 (hid l_Btk_28) 6
@[simp] def l_Btk_31 (_ : Unit) : List EOp := [⟨6, (some 66), none, (.q (.cnv .u32 (.t 65))), []⟩, ⟨7, (some 67), none, (.q (.bin .xor (.t 63) (.t 66))), []⟩, ⟨8, (some 68), none, (.q (.isl 1 (.t 60) (.k (.int .i64 12)))), []⟩, ⟨9, none, none, (.sto 1 (.t 68) (.t 67)), []⟩]
@[simp] def l_Btk_30 (_ : Unit) : List EOp := ⟨0, (some 60), none, (.q (.mov (.t 11))), []⟩ :: ⟨1, (some 61), none, (.q (.mov (.t 11))), []⟩ :: ⟨2, (some 62), none, (.q (.isl 1 (.t 61) (.k (.int .i64 12)))), []⟩ :: ⟨3, (some 63), none, (.q (.ldc (.t 62))), []⟩ :: ⟨4, (some 64), none, (.q (.mov (.t 2))), []⟩ :: ⟨5, (some 65), none, (.q (.bin .rem (.t 64) (.k (.int .u64 4294967296)))), []⟩ :: hid l_Btk_31
@[simp] def b_Btk_32 (_ : Unit) : EB := reg0 (hid l_Btk_30) 10
@[simp] def l_Btk_34 (_ : Unit) : List EOp := [⟨6, (some 75), none, (.q (.cnv .u32 (.t 74))), []⟩, ⟨7, (some 76), none, (.q (.bin .xor (.t 72) (.t 75))), []⟩, ⟨8, (some 77), none, (.q (.isl 1 (.t 69) (.k (.int .i64 13)))), []⟩, ⟨9, none, none, (.sto 1 (.t 77) (.t 76)), []⟩]
@[simp] def l_Btk_33 (_ : Unit) : List EOp := ⟨0, (some 69), none, (.q (.mov (.t 11))), []⟩ :: ⟨1, (some 70), none, (.q (.mov (.t 11))), []⟩ :: ⟨2, (some 71), none, (.q (.isl 1 (.t 70) (.k (.int .i64 13)))), []⟩ :: ⟨3, (some 72), none, (.q (.ldc (.t 71))), []⟩ :: ⟨4, (some 73), none, (.q (.mov (.t 2))), []⟩ :: ⟨5, (some 74), none, (.q (.bin .quo (.t 73) (.k (.int .u64 4294967296)))), []⟩ :: hid l_Btk_34
@[simp] def b_Btk_35 (_ : Unit) : EB := reg0 (hid l_Btk_33) 10
@[simp] def l_Btk_36 (_ : Unit) : List EOp := [⟨0, (some 78), none, (.q (.mov (.t 3))), []⟩]
@[simp] def b_Btk_37 (_ : Unit) : EB := reg0 (hid l_Btk_36) 1
@[simp] def l_Btk_39 (_ : Unit) : List EOp := [⟨6, none, none, (.sto 1 (.t 84) (.t 83)), []⟩]
@[simp] def l_Btk_38 (_ : Unit) : List EOp := ⟨0, (some 79), none, (.q (.mov (.t 11))), []⟩ :: ⟨1, (some 80), none, (.q (.mov (.t 11))), []⟩ :: ⟨2, (some 81), none, (.q (.isl 1 (.t 80) (.k (.int .i64 14)))), []⟩ :: ⟨3, (some 82), none, (.q (.ldc (.t 81))), []⟩ :: ⟨4, (some 83), none, (.q (.bin .xor (.t 82) (.k (.int .u32 4294967295)))), []⟩ :: ⟨5, (some 84), none, (.q (.isl 1 (.t 79) (.k (.int .i64 14)))), []⟩ :: hid l_Btk_39
@[simp] def b_Btk_40 (_ : Unit) : EB := reg0 (hid l_Btk_38) 7
@[simp] def b_Btk_41 (_ : Unit) : EB := .cond (.t 78) (hid b_Btk_40) .skip
@[simp] def b_Btk_42 (_ : Unit) : EB := .seq (hid b_Btk_37) (hid b_Btk_41)
@[simp] def l_Btk_44 (_ : Unit) : List EOp := [⟨6, (some 91), none, (.q (.bsl 1 [(.int .i64 0)] 4 [(0, (.k (.int .i64 2))), (1, (.k (.int .i64 7))), (2, (.k (.int .i64 8))), (3, (.k (.int .i64 13)))])), []⟩, ⟨7, (some 92), none, (.q (.bsl 1 [(.int .i64 0)] 4 [(0, (.k (.int .i64 3))), (1, (.k (.int .i64 4))), (2, (.k (.int .i64 9))), (3, (.k (.int .i64 14)))])), []⟩, ⟨8, (some 93), none, (.fz (.q (.bsl 1 [(.slice none 0 0)] 8 [(0, (.t 85)), (1, (.t 86)), (2, (.t 87)), (3, (.t 88)), (4, (.t 89)), (5, (.t 90)), (6, (.t 91)), (7, (.t 92))]))), []⟩, ⟨9, (some 12), none, (.q (.mov (.t 93))), []⟩]
@[simp] def l_Btk_43 (_ : Unit) : List EOp := ⟨0, (some 85), none, (.q (.bsl 1 [(.int .i64 0)] 4 [(0, (.k (.int .i64 0))), (1, (.k (.int .i64 4))), (2, (.k (.int .i64 8))), (3, (.k (.int .i64 12)))])), []⟩ :: ⟨1, (some 86), none, (.q (.bsl 1 [(.int .i64 0)] 4 [(0, (.k (.int .i64 1))), (1, (.k (.int .i64 5))), (2, (.k (.int .i64 9))), (3, (.k (.int .i64 13)))])), []⟩ :: ⟨2, (some 87), none, (.q (.bsl 1 [(.int .i64 0)] 4 [(0, (.k (.int .i64 2))), (1, (.k (.int .i64 6))), (2, (.k (.int .i64 10))), (3, (.k (.int .i64 14)))])), []⟩ :: ⟨3, (some 88), none, (.q (.bsl 1 [(.int .i64 0)] 4 [(0, (.k (.int .i64 3))), (1, (.k (.int .i64 7))), (2, (.k (.int .i64 11))), (3, (.k (.int .i64 15)))])), []⟩ :: ⟨4, (some 89), none, (.q (.bsl 1 [(.int .i64 0)] 4 [(0, (.k (.int .i64 0))), (1, (.k (.int .i64 5))), (2, (.k (.int .i64 10))), (3, (.k (.int .i64 15)))])), []⟩ :: ⟨5, (some 90), none, (.q (.bsl 1 [(.int .i64 0)] 4 [(0, (.k (.int .i64 1))), (1, (.k (.int .i64 6))), (2, (.k (.int .i64 11))), (3, (.k (.int .i64 12)))])), []⟩ :: hid l_Btk_44
@[simp] def b_Btk_45 (_ : Unit) : EB := reg0 (hid l_Btk_43) 10
@[simp] def l_Btk_46 (_ : Unit) : List EOp := [⟨0, (some 13), none, (.q (.mov (.k (.int .i64 0)))), []⟩]
@[simp] def b_Btk_47 (_ : Unit) : EB := reg0 (hid l_Btk_46) 1
@[simp] def l_Btk_48 (_ : Unit) : List EOp := [⟨0, (some 94), none, (.q (.mov (.t 13))), []⟩, ⟨1, (some 95), none, (.q (.bin .lss (.t 94) (.k (.int .i64 10)))), []⟩]
@[simp] def b_Btk_49 (_ : Unit) : EB := reg0 (hid l_Btk_48) 2
@[simp] def b_Btk_50 (_ : Unit) : EB := .cond (.t 95) .skip (.exit 2)
@[simp] def b_Btk_51 (_ : Unit) : EB := .seq (hid b_Btk_49) (hid b_Btk_50)
@[simp] def l_Btk_52 (_ : Unit) : List EOp := [⟨0, (some 98), none, (.q (.mov (.t 13))), []⟩, ⟨1, (some 99), none, (.call 116 [(.t 98)]), []⟩, ⟨2, (some 14), none, (.q (.mov (.t 99))), []⟩]
@[simp] def b_Btk_53 (_ : Unit) : EB := reg0 (hid l_Btk_52) 3
@[simp] def l_Btk_54 (_ : Unit) : List EOp := [⟨0, (some 15), none, (.q (.mov (.k (.int .i64 0)))), []⟩]
@[simp] def b_Btk_55 (_ : Unit) : EB := reg0 (hid l_Btk_54) 1
@[simp] def l_Btk_56 (_ : Unit) : List EOp := [⟨0, (some 100), none, (.q (.mov (.t 15))), []⟩, ⟨1, (some 101), none, (.q (.bin .lss (.t 100) (.k (.int .i64 8)))), []⟩]
@[simp] def b_Btk_57 (_ : Unit) : EB := reg0 (hid l_Btk_56) 2
@[simp] def b_Btk_58 (_ : Unit) : EB := .cond (.t 101) .skip (.exit 4)
@[simp] def b_Btk_59 (_ : Unit) : EB := .seq (hid b_Btk_57) (hid b_Btk_58)
@[simp] def l_Btk_60 (_ : Unit) : List EOp := [⟨0, (some 104), none, (.q (.mov (.t 12))), []⟩, ⟨1, (some 105), none, (.q (.mov (.t 15))), []⟩, ⟨2, (some 106), none, (.q (.isl 1 (.t 104) (.t 105))), []⟩, ⟨3, (some 107), none, (.q (.ldc (.t 106))), []⟩, ⟨4, (some 16), none, (.q (.mov (.t 107))), []⟩]
@[simp] def b_Btk_61 (_ : Unit) : EB := reg0 (hid l_Btk_60) 5
@[simp] def l_Btk_67 (_ : Unit) : List EOp := [⟨30, (some 138), none, (.call 117 [(.t 108), (.t 111), (.t 114), (.t 117), (.t 120), (.t 128), (.t 137)]), []⟩]
@[simp] def l_Btk_66 (_ : Unit) : List EOp := ⟨18, (some 126), none, (.call 118 [(.t 125)]), [0, 1, 2, 3, 4, 5, 6, 7, 8, 9, 10, 11, 12, 13, 21, 22, 23, 24, 25, 26]⟩ :: ⟨19, (some 127), none, (.q (.isl 1 (.t 121) (.t 126))), []⟩ :: ⟨20, (some 128), none, (.q (.ldc (.t 127))), []⟩ :: ⟨27, (some 135), none, (.call 118 [(.t 134)]), [0, 1, 2, 3, 4, 5, 6, 7, 8, 9, 10, 11, 12, 13, 21, 19, 20]⟩ :: ⟨28, (some 136), none, (.q (.isl 1 (.t 129) (.t 135))), []⟩ :: ⟨29, (some 137), none, (.q (.ldc (.t 136))), []⟩ :: hid l_Btk_67
@[simp] def l_Btk_65 (_ : Unit) : List EOp := ⟨21, (some 129), none, (.q (.mov (.t 9))), []⟩ :: ⟨22, (some 130), none, (.q (.mov (.t 14))), []⟩ :: ⟨23, (some 131), none, (.q (.mov (.t 15))), []⟩ :: ⟨24, (some 132), none, (.q (.bin .mul (.k (.int .i64 2)) (.t 131))), []⟩ :: ⟨25, (some 133), none, (.q (.bin .add (.t 132) (.k (.int .i64 1)))), []⟩ :: ⟨26, (some 134), none, (.q (.ixs (.t 130) (.t 133))), []⟩ :: hid l_Btk_66
@[simp] def l_Btk_64 (_ : Unit) : List EOp := ⟨12, (some 120), none, (.q (.ldc (.t 119))), []⟩ :: ⟨13, (some 121), none, (.q (.mov (.t 9))), []⟩ :: ⟨14, (some 122), none, (.q (.mov (.t 14))), []⟩ :: ⟨15, (some 123), none, (.q (.mov (.t 15))), []⟩ :: ⟨16, (some 124), none, (.q (.bin .mul (.k (.int .i64 2)) (.t 123))), []⟩ :: ⟨17, (some 125), none, (.q (.ixs (.t 122) (.t 124))), []⟩ :: hid l_Btk_65
@[simp] def l_Btk_63 (_ : Unit) : List EOp := ⟨6, (some 114), none, (.q (.ldc (.t 113))), []⟩ :: ⟨7, (some 115), none, (.q (.mov (.t 16))), []⟩ :: ⟨8, (some 116), none, (.q (.isl 1 (.t 115) (.k (.int .i64 2)))), []⟩ :: ⟨9, (some 117), none, (.q (.ldc (.t 116))), []⟩ :: ⟨10, (some 118), none, (.q (.mov (.t 16))), []⟩ :: ⟨11, (some 119), none, (.q (.isl 1 (.t 118) (.k (.int .i64 3)))), []⟩ :: hid l_Btk_64
@[simp] def l_Btk_62 (_ : Unit) : List EOp := ⟨0, (some 108), none, (.q (.mov (.t 11))), []⟩ :: ⟨1, (some 109), none, (.q (.mov (.t 16))), []⟩ :: ⟨2, (some 110), none, (.q (.isl 1 (.t 109) (.k (.int .i64 0)))), []⟩ :: ⟨3, (some 111), none, (.q (.ldc (.t 110))), []⟩ :: ⟨4, (some 112), none, (.q (.mov (.t 16))), []⟩ :: ⟨5, (some 113), none, (.q (.isl 1 (.t 112) (.k (.int .i64 1)))), []⟩ :: hid l_Btk_63
@[simp] def b_Btk_68 (_ : Unit) : EB := reg1 (hid l_Btk_62) 31
@[simp] def b_Btk_69 (_ : Unit) : EB := .seq (hid b_Btk_61) (hid b_Btk_68)
@[simp] def b_Btk_70 (_ : Unit) : EB := .block 5 (hid b_Btk_69)
@[simp] def l_Btk_71 (_ : Unit) : List EOp := [⟨0, (some 102), none, (.q (.mov (.t 15))), []⟩, ⟨1, (some 103), none, (.q (.bin .add (.t 102) (.k (.int .i64 1)))), []⟩, ⟨2, (some 15), none, (.q (.mov (.t 103))), []⟩]
@[simp] def b_Btk_72 (_ : Unit) : EB := reg0 (hid l_Btk_71) 3
@[simp] def b_Btk_73 (_ : Unit) : EB := .seq (hid b_Btk_70) (hid b_Btk_72)
@[simp] def b_Btk_74 (_ : Unit) : EB := .seq (hid b_Btk_59) (hid b_Btk_73)
@[simp] def b_Btk_75 (_ : Unit) : EB := .loop (hid b_Btk_74)
@[simp] def b_Btk_76 (_ : Unit) : EB := .block 4 (hid b_Btk_75)
@[simp] def b_Btk_77 (_ : Unit) : EB := .seq (hid b_Btk_55) (hid b_Btk_76)
@[simp] def b_Btk_78 (_ : Unit) : EB := .seq (hid b_Btk_53) (hid b_Btk_77)
@[simp] def b_Btk_79 (_ : Unit) : EB := .block 3 (hid b_Btk_78)
@[simp] def l_Btk_80 (_ : Unit) : List EOp := [⟨0, (some 96), none, (.q (.mov (.t 13))), []⟩, ⟨1, (some 97), none, (.q (.bin .add (.t 96) (.k (.int .i64 1)))), []⟩, ⟨2, (some 13), none, (.q (.mov (.t 97))), []⟩]
@[simp] def b_Btk_81 (_ : Unit) : EB := reg0 (hid l_Btk_80) 3
@[simp] def b_Btk_82 (_ : Unit) : EB := .seq (hid b_Btk_79) (hid b_Btk_81)
@[simp] def b_Btk_83 (_ : Unit) : EB := .seq (hid b_Btk_51) (hid b_Btk_82)
@[simp] def b_Btk_84 (_ : Unit) : EB := .loop (hid b_Btk_83)
@[simp] def b_Btk_85 (_ : Unit) : EB := .block 2 (hid b_Btk_84)
@[simp] def b_Btk_86 (_ : Unit) : EB := .seq (hid b_Btk_47) (hid b_Btk_85)
@[simp] def l_Btk_87 (_ : Unit) : List EOp := [⟨0, (some 17), none, (.q (.mov (.k (.slice none 0 0)))), []⟩]
@[simp] def b_Btk_88 (_ : Unit) : EB := reg0 (hid l_Btk_87) 1
@[simp] def l_Btk_89 (_ : Unit) : List EOp := [⟨0, (some 18), none, (.q (.mov (.k (.int .i64 0)))), []⟩]
@[simp] def b_Btk_90 (_ : Unit) : EB := reg0 (hid l_Btk_89) 1
@[simp] def l_Btk_91 (_ : Unit) : List EOp := [⟨0, (some 139), none, (.q (.mov (.t 18))), []⟩, ⟨1, (some 140), none, (.q (.bin .lss (.t 139) (.k (.int .i64 8)))), []⟩]
@[simp] def b_Btk_92 (_ : Unit) : EB := reg0 (hid l_Btk_91) 2
@[simp] def b_Btk_93 (_ : Unit) : EB := .cond (.t 140) .skip (.exit 6)
@[simp] def b_Btk_94 (_ : Unit) : EB := .seq (hid b_Btk_92) (hid b_Btk_93)
@[simp] def l_Btk_98 (_ : Unit) : List EOp := [⟨18, (some 17), none, (.q (.mov (.t 160))), []⟩]
@[simp] def l_Btk_97 (_ : Unit) : List EOp := ⟨12, (some 155), none, (.q (.bin .add (.t 154) (.k (.int .i64 8)))), []⟩ :: ⟨13, (some 156), none, (.q (.isl 1 (.t 153) (.t 155))), []⟩ :: ⟨14, (some 157), none, (.q (.ldc (.t 156))), []⟩ :: ⟨15, (some 158), none, (.q (.bin .xor (.t 152) (.t 157))), []⟩ :: ⟨16, (some 159), none, (.q (.bsr 174 1 [(.int .u32 0)] 1 [(0, (.t 158))])), []⟩ :: ⟨17, (some 160), none, (.app 174 1 4 (.t 143) (.t 159)), []⟩ :: hid l_Btk_98
@[simp] def l_Btk_96 (_ : Unit) : List EOp := ⟨6, (some 149), none, (.q (.mov (.t 18))), []⟩ :: ⟨7, (some 150), none, (.q (.isl 1 (.t 148) (.t 149))), []⟩ :: ⟨8, (some 151), none, (.q (.ldc (.t 150))), []⟩ :: ⟨9, (some 152), none, (.q (.bin .xor (.t 147) (.t 151))), []⟩ :: ⟨10, (some 153), none, (.q (.mov (.t 11))), []⟩ :: ⟨11, (some 154), none, (.q (.mov (.t 18))), []⟩ :: hid l_Btk_97
@[simp] def l_Btk_95 (_ : Unit) : List EOp := ⟨0, (some 143), none, (.q (.mov (.t 17))), []⟩ :: ⟨1, (some 144), none, (.q (.mov (.t 0))), []⟩ :: ⟨2, (some 145), none, (.q (.mov (.t 18))), []⟩ :: ⟨3, (some 146), none, (.q (.isl 1 (.t 144) (.t 145))), []⟩ :: ⟨4, (some 147), none, (.q (.ldc (.t 146))), []⟩ :: ⟨5, (some 148), none, (.q (.mov (.t 11))), []⟩ :: hid l_Btk_96
@[simp] def b_Btk_99 (_ : Unit) : EB := reg0 (hid l_Btk_95) 19
@[simp] def b_Btk_100 (_ : Unit) : EB := .block 7 (hid b_Btk_99)
@[simp] def l_Btk_101 (_ : Unit) : List EOp := [⟨0, (some 141), none, (.q (.mov (.t 18))), []⟩, ⟨1, (some 142), none, (.q (.bin .add (.t 141) (.k (.int .i64 1)))), []⟩, ⟨2, (some 18), none, (.q (.mov (.t 142))), []⟩]
@[simp] def b_Btk_102 (_ : Unit) : EB := reg0 (hid l_Btk_101) 3
@[simp] def b_Btk_103 (_ : Unit) : EB := .seq (hid b_Btk_100) (hid b_Btk_102)
@[simp] def b_Btk_104 (_ : Unit) : EB := .seq (hid b_Btk_94) (hid b_Btk_103)
@[simp] def b_Btk_105 (_ : Unit) : EB := .loop (hid b_Btk_104)
@[simp] def b_Btk_106 (_ : Unit) : EB := .block 6 (hid b_Btk_105)
@[simp] def b_Btk_107 (_ : Unit) : EB := .seq (hid b_Btk_90) (hid b_Btk_106)
@[simp] def l_Btk_108 (_ : Unit) : List EOp := [⟨0, (some 161), none, (.q (.mov (.t 17))), []⟩, ⟨1, (some 8), none, (.q (.mov (.t 161))), []⟩]
@[simp] def b_Btk_109 (_ : Unit) : EB := reg0 (hid l_Btk_108) 2
@[simp] def b_Btk_110 (_ : Unit) : EB := .seq (hid b_Btk_109) .ret
@[simp] def b_Btk_111 (_ : Unit) : EB := .seq (hid b_Btk_107) (hid b_Btk_110)
@[simp] def b_Btk_112 (_ : Unit) : EB := .seq (hid b_Btk_88) (hid b_Btk_111)
@[simp] def b_Btk_113 (_ : Unit) : EB := .seq (hid b_Btk_86) (hid b_Btk_112)
@[simp] def b_Btk_114 (_ : Unit) : EB := .seq (hid b_Btk_45) (hid b_Btk_113)
@[simp] def b_Btk_115 (_ : Unit) : EB := .seq (hid b_Btk_42) (hid b_Btk_114)
@[simp] def b_Btk_116 (_ : Unit) : EB := .seq (hid b_Btk_35) (hid b_Btk_115)
@[simp] def b_Btk_117 (_ : Unit) : EB := .seq (hid b_Btk_32) (hid b_Btk_116)
@[simp] def b_Btk_118 (_ : Unit) : EB := .seq (hid b_Btk_29) (hid b_Btk_117)
@[simp] def b_Btk_119 (_ : Unit) : EB := .seq (hid b_Btk_27) (hid b_Btk_118)
@[simp] def b_Btk_120 (_ : Unit) : EB := .seq (hid b_Btk_25) (hid b_Btk_119)
@[simp] def b_Btk_121 (_ : Unit) : EB := .seq (hid b_Btk_4) (hid b_Btk_120)
@[simp] def b_Btk_122 (_ : Unit) : EB := .seq (hid b_Btk_2) (hid b_Btk_121)
def c_Btk : EB × List QOp × Nat := ((hid b_Btk_122), [(.mov (.t 8))], 162)
theorem k_Btk : cfun Tryz.prog 113 = some c_Btk := by kernel_rfl


def FW (l : List UInt32) : EV := .v (.c (.fz (.sl 1 (wrw l))))
/-- The words of the block taken so far. -/
def mW (b : List UInt8) (i : Nat) : List UInt32 := (List.range i).map (wordS b)
theorem mW_len (b : List UInt8) (i : Nat) : (mW b i).length = i := by simp [mW]
theorem mW_succ (b : List UInt8) (i : Nat) : wrw (mW b i) ++ [[.lit (.int .u32 (wi (wordS b i)))]] = wrw (mW b (i + 1)) := by simp [mW, wrw, List.range_succ]
theorem u32_sum (a b c d : UInt8) : IntKind.u32.wrap (IntKind.u32.wrap (IntKind.u32.wrap (wi (bw a) + IntKind.u32.wrap (256 * wi (bw b))) + IntKind.u32.wrap (65536 * wi (bw c))) + IntKind.u32.wrap (16777216 * wi (bw d))) = wi (((bw a ||| shl (bw b) 8) ||| shl (bw c) 16) ||| shl (bw d) 24) := by
  have ha := a.toNat_lt
  have hb := b.toNat_lt
  have hc := c.toNat_lt
  have hd := d.toNat_lt
  have h := word_sum a b c d
  simp only [u32_mod, wi, bw_nat, h]
  omega
def bk0 (h : List UInt32) (b : List UInt8) (t : Nat) (last : Bool) (i : Nat) (f e : EV) : List EV := [FW h, Bs b, .lit (.int .u64 t), .lit (.bool last), .any, .any, .any, .any, .any, .v (.c (.row 0 i)), NV ((4 * i : Nat) : Int), .any, .any, .any, .any, .any, .any, .any, .any, f, e, .any, .any, .any, .any, .any, .any, .any, .any, .any, .any, .any, .any, .any, .any, .any, .any, .any, .any, .any, .any, .any, .any, .any, .any, .any, .any, .any, .any, .any, .any, .any, .any, .any, .any, .any, .any, .any, .any, .any, .any, .any, .any, .any, .any, .any, .any, .any, .any, .any, .any, .any, .any, .any, .any, .any, .any, .any, .any, .any, .any, .any, .any, .any, .any, .any, .any, .any, .any, .any, .any, .any, .any, .any, .any, .any, .any, .any, .any, .any, .any, .any, .any, .any, .any, .any, .any, .any, .any, .any, .any, .any, .any, .any, .any, .any, .any, .any, .any, .any, .any, .any, .any, .any, .any, .any, .any, .any, .any, .any, .any, .any, .any, .any, .any, .any, .any, .any, .any, .any, .any, .any, .any, .any, .any, .any, .any, .any, .any, .any, .any, .any, .any, .any, .any, .any, .any, .any, .any, .any, .any, .any]
def bh0 (b : List UInt8) (i : Nat) : List (Option EO) := [some (.row 174 1 (wrw (mW b i)))]

@[simp] theorem bh0_len (b : List UInt8) (i : Nat) : (bh0 b i).length = 1 := rfl
theorem bsv_gE (b : List UInt8) (k : Nat) (h2 : k < (bsv b).length) : (bsv b)[k]'h2 = [.lit (.int .u8 ((g8 b k).toNat : Int))] := by
  have hl : k < b.length := by simpa using h2
  simp [bsv, cb, g8, hl]

set_option maxRecDepth 8000 in
set_option maxHeartbeats 8000000 in
theorem bk_words (h : List UInt32) (b : List UInt8) (t : Nat) (last : Bool) (hb : b.length = 64) (Q : Exit → St → Go.EW.Tok → Prop) (hQ : Q (.exit 0) ⟨bk0 h b t last 16 (NV 64) (.lit (.bool false)), ofO (bh0 b 16), 33⟩ .on) :
    LoopT Tryz.prog 0 (hid b_Btk_22) Q ⟨bk0 h b t last 0 .any .any, ofO (bh0 b 0), 1⟩ := by
  refine eloop (α := Nat) (fun i => i ≤ 16) (fun i => 16 - i) (fun i => bk0 h b t last i .any .any) (fun i => bh0 b i) 0 [0]
    (by omega) (by simp [bk0, NV, FW, Bs]) (by simp [bh0]) (by simp [bh0]) (by simp) (by simp [bh0]) ?_
  intro i hi
  have hml := mW_len b i
  by_cases hlt : i < 16
  · obtain ⟨k, hk⟩ : ∃ k, 4 * i = k := ⟨_, rfl⟩
    have w1 : IntKind.i64.wrap ((k : Int) + 1) = ((k + 1 : Nat) : Int) := wrap_i64 (by omega) (by omega)
    have w2 : IntKind.i64.wrap ((k : Int) + 2) = ((k + 2 : Nat) : Int) := wrap_i64 (by omega) (by omega)
    have w3 : IntKind.i64.wrap ((k : Int) + 3) = ((k + 3 : Nat) : Int) := wrap_i64 (by omega) (by omega)
    have w4 : IntKind.i64.wrap ((k : Int) + 4) = ((4 * (i + 1) : Nat) : Int) := by rw [wrap_i64 (by omega) (by omega)]; omega
    have j : (k : Int) < 64 := by omega
    have k0 : k < b.length := by omega
    have k1 : k + 1 < b.length := by omega
    have k2 : k + 2 < b.length := by omega
    have k3 : k + 3 < b.length := by omega
    have hw : ((bw (g8 b k) ||| shl (bw (g8 b (k + 1))) 8) ||| shl (bw (g8 b (k + 2))) 16) ||| shl (bw (g8 b (k + 3))) 24 = wordS b i := by rw [← hk]; rfl
    have hs := u32_sum (g8 b k) (g8 b (k + 1)) (g8 b (k + 2)) (g8 b (k + 3))
    rw [hw] at hs
    simp [bk0, bh0, NV, FW, Bs, hk, w1, w2, w3, w4, j, k0, k1, k2, k3, hml, bsv_gE, wi_bw, hs, mW_succ, -Int.natCast_add]
    refine ⟨by omega, ?_⟩
    exact round (i + 1) [529] (by omega) (by omega) (by simp [bk0, NV, FW, Bs]) (by simp [bh0]) (by simp [bh0]) (by simp) (by simp [bh0])
  · have hi16 : i = 16 := by omega
    subst hi16
    have q := hQ
    simp [bk0, bh0, NV, FW, Bs] at q ⊢
    exact q

end Go.Proofs.YtpilpjameifcfaaGreatDoor

namespace Go.Proofs.YtpilpjameifcfaaGreatDoor
open Go Go.EW
set_option linter.unusedSimpArgs false
set_option linter.unusedVariables false

/-- The places a step of a round works at. -/
def qpA (i : Nat) : Nat := i % 4
def qpB (i : Nat) : Nat := if i < 4 then 4 + i else 4 + (i - 4 + 1) % 4
def qpC (i : Nat) : Nat := if i < 4 then 8 + i else 8 + (i - 4 + 2) % 4
def qpD (i : Nat) : Nat := if i < 4 then 12 + i else 12 + (i - 4 + 3) % 4
def nF (n : Nat) : List FV := [.lit (.int .i64 (n : Int))]
def tabF : List (List FV) := (List.range 8).map fun i => [.sl 1 [nF (qpA i), nF (qpB i), nF (qpC i), nF (qpD i)]]
def stpS (m : List UInt32) (r i : Nat) (v : List UInt32) : List UInt32 := mixS v (qpA i) (qpB i) (qpC i) (qpD i) (g m (sN r (2 * i))) (g m (sN r (2 * i + 1)))
def stpsS (m : List UInt32) (r : Nat) (v : List UInt32) : Nat → List UInt32
  | 0 => v
  | k + 1 => stpS m r k (stpsS m r v k)
theorem stps_rnd (m : List UInt32) (r : Nat) (v : List UInt32) : stpsS m r v 8 = diasS m r (colsS m r v 4) 4 := rfl
theorem stps_len (m : List UInt32) (r : Nat) (v : List UInt32) : ∀ k, (stpsS m r v k).length = v.length
  | 0 => rfl
  | k + 1 => by simp only [stpsS, stpS, mixS_len]; exact stps_len m r v k
theorem pA_lt (i : Nat) (h : i < 8) : qpA i < 16 ∧ qpB i < 16 ∧ qpC i < 16 ∧ qpD i < 16 := ⟨by unfold qpA; omega, by unfold qpB; split <;> omega, by unfold qpC; split <;> omega, by unfold qpD; split <;> omega⟩
theorem tab_get (i : Nat) (h : i < 8) : tabF[i]? = some [.sl 1 [nF (qpA i), nF (qpB i), nF (qpC i), nF (qpD i)]] := by simp [tabF, h]

def bk4 (h : List UInt32) (r i : Nat) (f e : EV) : List EV := [FW h, .any, .any, .any, .any, .any, .any, .any, .any, .v (.c (.row 0 16)), .any, .v (.c (.row 1 16)), .v (.c (.fz (.sl 1 tabF))), NV r, .lit (.string (strb (rowS r))), NV i, .any, .any, .any, .any, .any, .any, .any, .any, .any, .any, .any, .any, .any, .any, .any, .any, .any, .any, .any, .any, .any, .any, .any, .any, .any, .any, .any, .any, .any, .any, .any, .any, .any, .any, .any, .any, .any, .any, .any, .any, .any, .any, .any, .any, .any, .any, .any, .any, .any, .any, .any, .any, .any, .any, .any, .any, .any, .any, .any, .any, .any, .any, .any, .any, .any, .any, .any, .any, .any, .any, .any, .any, .any, .any, .any, .any, .any, .any, .any, .any, .any, .any, .any, .any, f, e, .any, .any, .any, .any, .any, .any, .any, .any, .any, .any, .any, .any, .any, .any, .any, .any, .any, .any, .any, .any, .any, .any, .any, .any, .any, .any, .any, .any, .any, .any, .any, .any, .any, .any, .any, .any, .any, .any, .any, .any, .any, .any, .any, .any, .any, .any, .any, .any, .any, .any, .any, .any, .any, .any, .any, .any, .any, .any, .any, .any]
def bh4 (m v : List UInt32) : List (Option EO) := [some (.row 174 1 (wrw m)), some (.row 174 1 (wrw v))]
@[simp] theorem bh4_len (m v : List UInt32) : (bh4 m v).length = 2 := rfl
set_option maxRecDepth 8000 in
set_option maxHeartbeats 8000000 in
theorem bk_steps (h m V : List UInt32) (r : Nat) (hr : r < 10) (hm : m.length = 16) (hV : V.length = 16) (Q : Exit → St → Go.EW.Tok → Prop) (hQ : Q (.exit 4) ⟨bk4 h r 8 (NV 8) (.lit (.bool false)), ofO (bh4 m (stpsS m r V 8)), 34⟩ .on) :
    LoopT Tryz.prog 0 (hid b_Btk_74) Q ⟨bk4 h r 0 .any .any, ofO (bh4 m V), 2⟩ := by
  refine eloop (α := Nat) (fun i => i ≤ 8) (fun i => 8 - i) (fun i => bk4 h r i .any .any) (fun i => bh4 m (stpsS m r V i)) 0 [0, 1]
    (by omega) (by simp [bk4, NV, FW]) (by simp [bh4, stpsS]) (by simp [bh4]) (by simp) (by simp) ?_
  intro i hi
  have hml := stps_len m r V i
  by_cases hlt : i < 8
  · have j : (i : Int) < 8 := by omega
    have tg := tab_get i hlt
    obtain ⟨la, lb, lc, ld⟩ := pA_lt i hlt
    obtain ⟨c0, d0, d1, d2⟩ := row_digit r hr (2 * i) (by omega)
    obtain ⟨c1, f0, f1, f2⟩ := row_digit r hr (2 * i + 1) (by omega)
    have w0 : IntKind.i64.wrap (2 * (i : Int)) = ((2 * i : Nat) : Int) := by rw [wrap_i64 (by omega) (by omega)]; omega
    have w1 : IntKind.i64.wrap (((2 * i : Nat) : Int) + 1) = ((2 * i + 1 : Nat) : Int) := wrap_i64 (by omega) (by omega)
    have w2 : IntKind.i64.wrap ((i : Int) + 1) = ((i + 1 : Nat) : Int) := wrap_i64 (by omega) (by omega)
    have ia : (qpA i : Int) < 16 := by omega
    have ib : (qpB i : Int) < 16 := by omega
    have ic : (qpC i : Int) < 16 := by omega
    have id' : (qpD i : Int) < 16 := by omega
    simp [bk4, bh4, NV, FW, hlt, j, tg, nF, la, lb, lc, ld, w0, -Int.natCast_mul]
    have g0 : (strb (rowS r)).data[2 * i]? = some c0 := by simpa [strb] using d0
    have g1 : (strb (rowS r)).data[2 * i + 1]? = some c1 := by simpa [strb] using f0
    have n0 := sN_lt r hr (2 * i) (by omega)
    have n1 := sN_lt r hr (2 * i + 1) (by omega)
    have z0 : (sN r (2 * i) : Int) < 16 := by omega
    have z1 : (sN r (2 * i + 1) : Int) < 16 := by omega
    simp [g0, w0, w1, g1, -Int.natCast_mul, -Int.natCast_add]
    refine call0 (Bdigit_ok c0 (sN r (2 * i)) d2 d1) (by simp) ?_
    rintro y H' ⟨rfl, rfl⟩
    refine ⟨.inl (by simp), by simp, ?_⟩
    simp [NV, w0, w1, g1, hm, n0, n1, z0, z1, wrw_gE', -Int.natCast_mul, -Int.natCast_add]
    refine call0 (Bdigit_ok c1 (sN r (2 * i + 1)) f2 f1) (by simp) ?_
    rintro y H' ⟨rfl, rfl⟩
    refine ⟨.inl (by simp), by simp, ?_⟩
    simp [NV, w0, w1, g1, hm, n0, n1, z0, z1, wrw_gE', -Int.natCast_mul, -Int.natCast_add]
    refine callH [1] (Bstep_ok (stpsS m r V i) (qpA i) (qpB i) (qpC i) (qpD i) (g m (sN r (2 * i))) (g m (sN r (2 * i + 1))) (by omega) la lb lc ld) (by simp [NV, WV]) (by simp) (by simp) (by simp) (by simp) ?_
    rintro y H' ⟨rfl, rfl⟩
    refine ⟨.inl (by simp), by simp, ?_⟩
    simp [NV, w2, -Int.natCast_add]
    exact round (i + 1) [0, 1] (by omega) (by omega) (by simp [bk4, NV, FW]) (by simp [bh4, stpsS, stpS]) (by simp [bh4]) (by simp) (by simp)
  · have hi8 : i = 8 := by omega
    subst hi8
    have q := hQ
    simp [bk4, bh4, NV, FW] at q ⊢
    exact q

end Go.Proofs.YtpilpjameifcfaaGreatDoor

namespace Go.Proofs.YtpilpjameifcfaaGreatDoor
open Go Go.EW
set_option linter.unusedSimpArgs false
set_option linter.unusedVariables false

def bk2 (h : List UInt32) (r : Nat) (f e : EV) : List EV := [FW h, .any, .any, .any, .any, .any, .any, .any, .any, .v (.c (.row 0 16)), .any, .v (.c (.row 1 16)), .v (.c (.fz (.sl 1 tabF))), NV r, .any, .any, .any, .any, .any, .any, .any, .any, .any, .any, .any, .any, .any, .any, .any, .any, .any, .any, .any, .any, .any, .any, .any, .any, .any, .any, .any, .any, .any, .any, .any, .any, .any, .any, .any, .any, .any, .any, .any, .any, .any, .any, .any, .any, .any, .any, .any, .any, .any, .any, .any, .any, .any, .any, .any, .any, .any, .any, .any, .any, .any, .any, .any, .any, .any, .any, .any, .any, .any, .any, .any, .any, .any, .any, .any, .any, .any, .any, .any, .any, f, e, .any, .any, .any, .any, .any, .any, .any, .any, .any, .any, .any, .any, .any, .any, .any, .any, .any, .any, .any, .any, .any, .any, .any, .any, .any, .any, .any, .any, .any, .any, .any, .any, .any, .any, .any, .any, .any, .any, .any, .any, .any, .any, .any, .any, .any, .any, .any, .any, .any, .any, .any, .any, .any, .any, .any, .any, .any, .any, .any, .any, .any, .any, .any, .any, .any, .any]
set_option maxRecDepth 8000 in
set_option maxHeartbeats 8000000 in
theorem bk_rnds (h m V : List UInt32) (hm : m.length = 16) (hV : V.length = 16) (Q : Exit → St → Go.EW.Tok → Prop) (hQ : Q (.exit 2) ⟨bk2 h 10 (NV 10) (.lit (.bool false)), ofO (bh4 m (rndsS m V 10)), 34⟩ .on) :
    LoopT Tryz.prog 0 (hid b_Btk_83) Q ⟨bk2 h 0 .any .any, ofO (bh4 m V), 2⟩ := by
  refine eloop (α := Nat) (fun i => i ≤ 10) (fun i => 10 - i) (fun i => bk2 h i .any .any) (fun i => bh4 m (rndsS m V i)) 0 [0, 1]
    (by omega) (by simp [bk2, NV, FW]) (by simp [bh4, rndsS]) (by simp [bh4]) (by simp) (by simp) ?_
  intro r hr
  have hml : (rndsS m V r).length = 16 := by rw [rndsS_len]; exact hV
  by_cases hlt : r < 10
  · have j : (r : Int) < 10 := by omega
    have w2 : IntKind.i64.wrap ((r : Int) + 1) = ((r + 1 : Nat) : Int) := wrap_i64 (by omega) (by omega)
    simp [bk2, bh4, NV, FW, hlt, j]
    refine call0 (Brow_ok r hlt) (by simp [NV]) ?_
    rintro y H' ⟨rfl, rfl⟩
    refine ⟨.inl (by simp), by simp, ?_⟩
    simp [NV]
    refine loopW _ (weak_norm [0, 1] (bk4 h r 0 .any .any) (bh4 m (rndsS m V r)) (by simp [bk4, NV, FW]) (by simp [bh4]) (by simp [bh4]) (by simp) (by simp)) (bk_steps h m _ r hlt hm hml _ ?_)
    rw [stps_rnd]
    simp [bk4, bh4, NV, FW, w2, -Int.natCast_add]
    exact round (r + 1) [0, 1] (by omega) (by omega) (by simp [bk2, NV, FW]) (by simp [bh4, rndsS]) (by simp [bh4]) (by simp) (by simp)
  · have hi8 : r = 10 := by omega
    subst hi8
    have q := hQ
    simp [bk2, bh4, NV, FW] at q ⊢
    exact q

end Go.Proofs.YtpilpjameifcfaaGreatDoor

namespace Go.Proofs.YtpilpjameifcfaaGreatDoor
open Go Go.EW
set_option linter.unusedSimpArgs false
set_option linter.unusedVariables false

def xF (h v : List UInt32) (i : Nat) : UInt32 := g h i ^^^ g v i ^^^ g v (i + 8)
def xW (h v : List UInt32) (i : Nat) : List UInt32 := (List.range i).map (xF h v)
theorem xW_len (h v : List UInt32) (i : Nat) : (xW h v i).length = i := by simp [xW]
theorem xW_succ (h v : List UInt32) (i : Nat) : wrw (xW h v i) ++ [[.lit (.int .u32 (wi (g h i ^^^ g v i ^^^ g v (i + 8))))]] = wrw (xW h v (i + 1)) := by simp [xW, xF, wrw, List.range_succ]
def bk6 (h : List UInt32) (i : Nat) (f e : EV) : List EV := [FW h, .any, .any, .any, .any, .any, .any, .any, .any, .any, .any, .v (.c (.row 0 16)), .any, .any, .any, .any, .any, .v (.c (.row 1 i)), NV i, .any, .any, .any, .any, .any, .any, .any, .any, .any, .any, .any, .any, .any, .any, .any, .any, .any, .any, .any, .any, .any, .any, .any, .any, .any, .any, .any, .any, .any, .any, .any, .any, .any, .any, .any, .any, .any, .any, .any, .any, .any, .any, .any, .any, .any, .any, .any, .any, .any, .any, .any, .any, .any, .any, .any, .any, .any, .any, .any, .any, .any, .any, .any, .any, .any, .any, .any, .any, .any, .any, .any, .any, .any, .any, .any, .any, .any, .any, .any, .any, .any, .any, .any, .any, .any, .any, .any, .any, .any, .any, .any, .any, .any, .any, .any, .any, .any, .any, .any, .any, .any, .any, .any, .any, .any, .any, .any, .any, .any, .any, .any, .any, .any, .any, .any, .any, .any, .any, .any, .any, f, e, .any, .any, .any, .any, .any, .any, .any, .any, .any, .any, .any, .any, .any, .any, .any, .any, .any, .any, .any, .any, .any]
def bh6 (h v : List UInt32) (i : Nat) : List (Option EO) := [some (.row 174 1 (wrw v)), some (.row 174 1 (wrw (xW h v i)))]
@[simp] theorem bh6_len (h v : List UInt32) (i : Nat) : (bh6 h v i).length = 2 := rfl
set_option maxRecDepth 8000 in
set_option maxHeartbeats 8000000 in
theorem bk_xor (h v : List UInt32) (hh : h.length = 8) (hv : v.length = 16) (Q : Exit → St → Go.EW.Tok → Prop) (hQ : Q (.exit 6) ⟨bk6 h 8 (NV 8) (.lit (.bool false)), ofO (bh6 h v 8), 34⟩ .on) :
    LoopT Tryz.prog 0 (hid b_Btk_104) Q ⟨bk6 h 0 .any .any, ofO (bh6 h v 0), 2⟩ := by
  refine eloop (α := Nat) (fun i => i ≤ 8) (fun i => 8 - i) (fun i => bk6 h i .any .any) (fun i => bh6 h v i) 0 [0, 1]
    (by omega) (by simp [bk6, NV, FW]) (by simp [bh6]) (by simp [bh6]) (by simp) (by simp) ?_
  intro i hi
  have hml := xW_len h v i
  by_cases hlt : i < 8
  · have j : (i : Int) < 8 := by omega
    have j2 : (i : Int) < 16 := by omega
    have k2 : i < 16 := by omega
    have w2 : IntKind.i64.wrap ((i : Int) + 1) = ((i + 1 : Nat) : Int) := wrap_i64 (by omega) (by omega)
    have w8 : IntKind.i64.wrap ((i : Int) + 8) = ((i + 8 : Nat) : Int) := wrap_i64 (by omega) (by omega)
    have j8 : ((i + 8 : Nat) : Int) < 16 := by omega
    have k8 : i + 8 < 16 := by omega
    simp [bk6, bh6, NV, FW, hlt, j, j2, k2, w2, w8, j8, k8, hh, hv, hml, wrw_gE', wi_xor, xW_succ, -Int.natCast_add]
    refine ⟨by omega, ?_⟩
    exact round (i + 1) [0, 306] (by omega) (by omega) (by simp [bk6, NV, FW]) (by simp [bh6]) (by simp [bh6]) (by simp) (by simp)
  · have hi8 : i = 8 := by omega
    subst hi8
    have q := hQ
    simp [bk6, bh6, NV, FW] at q ⊢
    exact q

end Go.Proofs.YtpilpjameifcfaaGreatDoor

namespace Go.Proofs.YtpilpjameifcfaaGreatDoor
open Go Go.EW
set_option linter.unusedSimpArgs false
set_option linter.unusedVariables false

theorem wrw_app (l r : List UInt32) : wrw l ++ wrw r = wrw (l ++ r) := by simp [wrw]

theorem mW_mI (b : List UInt8) : mW b 16 = mI b 16 := by
  unfold mW mI upW
  refine List.map_congr_left fun j hj => ?_
  rw [if_pos (List.mem_range.1 hj)]
theorem xW_xorS {h v : List UInt32} (hh : h.length = 8) : xW h v 8 = xorS h v 8 := by
  match h, hh with
  | [h0, h1, h2, h3, h4, h5, h6, h7], _ =>
    simp [xW, xF, xorS, g, List.range_succ, UInt32.xor_assoc]

set_option maxRecDepth 8000 in
set_option maxHeartbeats 8000000 in
theorem Btk_ok (h : List UInt32) (b : List UInt8) (t : Nat) (last : Bool) (hh : h.length = 8) (hb : b.length = 64) (ht : t < 18446744073709551616) :
    ECalls Tryz.prog 113 [FW h, Bs b, .lit (.int .u64 t), .lit (.bool last)] [] fun y H' => H' = [some (.row 174 1 (wrw (takeS h b t last)))] ∧ y = .v (.c (.row 0 8)) := by
  refine ecalls k_Btk ?_
  simp [c_Btk, FW, Bs]
  refine loopW _ (weak_nilR 9 174 1 rfl (by decide)) ?_
  simp
  refine loopW _ (weak_norm [48] (bk0 h b t last 0 .any .any) (bh0 b 0) (by simp [bk0, NV, FW, Bs]) (by simp [bh0, mW, wrw]) (by simp [bh0]) (by simp) (by simp [bh0])) (bk_words h b t last hb _ ?_)
  simp [bk0, bh0, NV, FW, Bs, hh]
  refine call0 Bbegin_ok (by simp) ?_
  rintro y H' ⟨rfl, rfl⟩
  refine ⟨.inl (by simp), by simp, ?_⟩
  have fl : firstW.length = 8 := rfl
  have tf : List.take 8 (wrw firstW) = wrw firstW := List.take_of_length_le (by simp; decide)
  simp [hh, fl, tf, wrw_app]
  obtain ⟨v0, h0⟩ : ∃ w, h ++ firstW = w := ⟨_, rfl⟩
  have e0 : v0.length = 16 := by rw [← h0, List.length_append, hh, fl]
  have wl0 : IntKind.u32.wrap ((t : Int) % 4294967296) = wi (lo32 t) := by rw [← wi_lo]; simp only [u32_mod]; omega
  have tm : ((t : Int)).tmod 4294967296 = (t : Int) % 4294967296 := Int.tmod_eq_emod_of_nonneg (by omega)
  have td : ((t : Int)).tdiv 4294967296 = (t : Int) / 4294967296 := Int.tdiv_eq_ediv_of_nonneg (by omega)
  obtain ⟨v1, h1⟩ : ∃ w, v0.set 12 (g v0 12 ^^^ lo32 t) = w := ⟨_, rfl⟩
  have e1 : v1.length = 16 := by rw [← h1, List.length_set]; exact e0
  obtain ⟨v2, h2⟩ : ∃ w, v1.set 13 (g v1 13 ^^^ hi32 t) = w := ⟨_, rfl⟩
  have e2 : v2.length = 16 := by rw [← h2, List.length_set]; exact e1
  have hini : iniS h t last = if last then v2.set 14 (~~~ g v2 14) else v2 := by unfold iniS; simp only [h0, h1, h2]
  have wu : IntKind.u64.wrap ((t : Int) / 4294967296) = (t : Int) / 4294967296 := wrap_u64 (by omega) (by omega)
  simp [h0, e0, wrw_gE', wrw_set, wi_lo, wl0, tm, td, wu, wi_hi, wi_xor, h1, e1, h2, e2]
  obtain ⟨v3, h3⟩ : ∃ w, iniS h t last = w := ⟨_, rfl⟩
  have e3 : v3.length = 16 := by rw [← h3, hini]; split <;> simp [e2]
  have xn : ibit .xor .u32 (wi (g v2 14)) 4294967295 = wi (~~~ g v2 14) := by
    have := wi_xor (g v2 14) 0xffffffff
    rw [show wi 0xffffffff = 4294967295 from rfl] at this
    rw [this, show g v2 14 ^^^ 0xffffffff = ~~~ g v2 14 from UInt32.toBitVec_inj.1 (by rw [UInt32.toBitVec_xor, UInt32.toBitVec_not]; exact BitVec.xor_allOnes)]
  refine alt (fun hl => ?_) (fun hl => ?_)
  case' refine_1 =>
    have h14 : v2.set 14 (~~~ g v2 14) = v3 := by rw [← h3, hini, if_pos hl]
    simp [e2, wrw_gE', wrw_set, xn, h14]
  case' refine_2 =>
    have h14 : v2 = v3 := by rw [← h3, hini, if_neg (by simpa using hl)]
    simp [h14]
  all_goals
    refine loopW _ (weak_norm [0, 113] (bk2 h 0 .any .any) (bh4 (mW b 16) v3) (by simp [bk2, NV, FW, tabF, List.range_succ, nF, qpA, qpB, qpC, qpD]) (by simp [bh4]) (by simp [bh4]) (by simp) (by simp)) (bk_rnds h (mW b 16) v3 (mW_len b 16) e3 _ ?_)
    have er : (rndsS (mW b 16) v3 10).length = 16 := by rw [rndsS_len]; exact e3
    simp [bk2, bh4, NV, FW]
    refine loopW _ (weak_nilR 17 174 1 rfl (by decide)) ?_
    simp
    refine loopW _ (weak_norm [1, 66] (bk6 h 0 .any .any) (bh6 h (rndsS (mW b 16) v3 10) 0) (by simp [bk6, NV, FW]) (by simp [bh6, xW, wrw]) (by simp [bh6]) (by simp) (by simp)) (bk_xor h _ hh er _ ?_)
    simp [bk6, bh6, NV, FW]
    refine fin [1] (by decide) rfl rfl rfl ⟨?_, rfl⟩
    have ht2 : takeS h b t last = xW h (rndsS (mW b 16) v3 10) 8 := by
      unfold takeS
      rw [h3, ← mW_mI, xW_xorS hh]
    rw [ht2]

end Go.Proofs.YtpilpjameifcfaaGreatDoor

namespace Go.Proofs.YtpilpjameifcfaaGreatDoor
open Go Go.EW
set_option linter.unusedSimpArgs false
set_option linter.unusedVariables false

/-- The rest of a message, block by block: what stands so far, how many bytes were taken, what is left (the last block is never taken before the end). -/
def kS : Nat → List UInt32 → Nat → List UInt8 → List UInt32
  | 0, h, t, r => takeS h (padS r) (t + r.length) true
  | k + 1, h, t, r => if r.length ≤ 64 then takeS h (padS r) (t + r.length) true else kS k (takeS h (r.take 64) (t + 64) false) (t + 64) (r.drop 64)
theorem wstep_skip (h : List UInt32) (w : List UInt8) (t : Nat) (r : List UInt8) (hw : w.length = 64) : wstep (h, w, t, r) = wstep (takeS h w (t + 64) false, [], t + 64, r) := by
  simp [wstep, wst1, hw]
theorem wall_kS (N : Nat) : ∀ (k : Nat) (h : List UInt32) (t : Nat) (r : List UInt8), h.length = 8 → Wok' N (h, [], t, r) → r.length ≤ 64 * (k + 1) → finS (wall (h, [], t, r)) = outS (kS k h t r) := by
  intro k
  induction k with
  | zero =>
    intro h t r hh o hr
    by_cases h0 : r = []
    · subst h0
      rw [wall_nil rfl]
      simp [finS, kS]
    · rw [wall_step o h0]
      have e : wstep (h, [], t, r) = (h, r, t, []) := by simp [wstep, wst1, wst2, Nat.min_eq_left (show r.length ≤ 64 by omega)]
      rw [e, wall_nil rfl]
      simp [finS, kS]
  | succ k ih =>
    intro h t r hh o hr
    by_cases h64 : r.length ≤ 64
    · by_cases h0 : r = []
      · subst h0
        rw [wall_nil rfl]
        simp [finS, kS]
      · rw [wall_step o h0]
        have e : wstep (h, [], t, r) = (h, r, t, []) := by simp [wstep, wst1, wst2, Nat.min_eq_left h64]
        rw [e, wall_nil rfl]
        simp [finS, kS, h64]
    · have h0 : r ≠ [] := by rintro rfl; simp at h64
      have e : wstep (h, [], t, r) = (h, r.take 64, t, r.drop 64) := by simp [wstep, wst1, wst2, Nat.min_eq_right (show 64 ≤ r.length by omega)]
      have o1 := wstep_ok o
      rw [e] at o1
      have hd : r.drop 64 ≠ [] := by
        intro hd
        have := congrArg List.length hd
        simp at this
        omega
      have ht : (r.take 64).length = 64 := by simp; omega
      have o2 : Wok' N (takeS h (r.take 64) (t + 64) false, [], t + 64, r.drop 64) := by
        have := wst1_ok o1
        simpa [wst1, ht] using this
      rw [wall_step o h0, e, wall_step o1 hd, wstep_skip _ _ _ _ ht, ← wall_step o2 hd]
      rw [ih _ _ _ (by rw [takeS_len]; exact hh) o2 (by simp; omega)]
      simp [kS, h64]

end Go.Proofs.YtpilpjameifcfaaGreatDoor

namespace Go.Proofs.YtpilpjameifcfaaGreatDoor
open Go Go.EW
set_option linter.unusedSimpArgs false
set_option linter.unusedVariables false

/-! ### the message in blocks -/
/-- How long the message is, padded. -/
def tgt (n : Nat) : Nat := if n = 0 then 64 else (n + 63) / 64 * 64
def padK (b : List UInt8) (k : Nat) : List UInt8 := b ++ List.replicate (k - b.length) 0
theorem padK_len {b : List UInt8} {k : Nat} (h : b.length ≤ k) : (padK b k).length = k := by simp [padK]; omega
theorem padK_0 (b : List UInt8) : padK b b.length = b := by simp [padK]
theorem padK_succ {b : List UInt8} {k : Nat} (h : b.length ≤ k) : padK b k ++ [0] = padK b (k + 1) := by
  unfold padK
  rw [show k + 1 - b.length = (k - b.length) + 1 by omega, List.replicate_succ', List.append_assoc]
theorem tgt_ge (n : Nat) : n ≤ tgt n := by unfold tgt; split <;> omega
theorem tgt_pos (n : Nat) : 64 ≤ tgt n := by unfold tgt; split <;> omega
theorem tgt_mod (n : Nat) : tgt n % 64 = 0 := by unfold tgt; split <;> omega
theorem tgt_le (n : Nat) : tgt n ≤ n + 64 := by unfold tgt; split <;> omega
theorem tgt_lt {n k : Nat} (h : n ≤ k) (h1 : k < tgt n) : k % 64 ≠ 0 ∨ k = 0 := by unfold tgt at h1; split at h1 <;> omega
theorem tgt_last {n j : Nat} (h : 64 * j < tgt n) : 64 * j + 64 = tgt n ↔ n ≤ 64 * j + 64 := by unfold tgt at *; split at h <;> simp_all <;> omega
theorem blk_last {b : List UInt8} {j : Nat} (h : 64 * j < tgt b.length) (h2 : b.length ≤ 64 * j + 64) : ((padK b (tgt b.length)).drop (64 * j)).take 64 = padS (b.drop (64 * j)) := by
  have e := (tgt_last h).2 h2
  have hle : 64 * j ≤ b.length := by unfold tgt at h; split at h <;> omega
  unfold padK padS
  rw [List.drop_append_of_le_length hle, List.take_of_length_le (by simp; omega)]
  congr 2
  simp
  omega
theorem blk_mid {b : List UInt8} {j : Nat} (h2 : 64 * j + 64 < b.length) (k : Nat) : ((padK b k).drop (64 * j)).take 64 = (b.drop (64 * j)).take 64 := by
  unfold padK
  rw [List.drop_append_of_le_length (by omega), List.take_append_of_le_length (by simp; omega)]

/-- The words behind the block j of n. -/
theorem kS_len : ∀ (k : Nat) (h : List UInt32) (t : Nat) (r : List UInt8), (kS k h t r).length = h.length
  | 0, h, t, r => takeS_len _ _ _ _
  | k + 1, h, t, r => by
    unfold kS
    split
    · exact takeS_len _ _ _ _
    · rw [kS_len k, takeS_len]
theorem sumS_kS (b : List UInt8) : sumS b = outS (kS (tgt b.length / 64 - 1) ini8 0 b) := by
  have h := tgt_ge b.length
  have h1 := tgt_pos b.length
  have h2 := tgt_mod b.length
  exact wall_kS _ _ ini8 0 b rfl (w00_ok b) (by omega)

end Go.Proofs.YtpilpjameifcfaaGreatDoor

namespace Go.Proofs.YtpilpjameifcfaaGreatDoor
open Go Go.EW
set_option linter.unusedSimpArgs false
set_option linter.unusedVariables false

@[simp] def l_BKeyed_1 (_ : Unit) : List EOp := [⟨0, (some 4), none, (.q (.alloc 28 zU8)), []⟩, ⟨1, (some 5), none, (.q (.mov (.k (.int .i64 0)))), []⟩]
@[simp] def b_BKeyed_2 (_ : Unit) : EB := reg0 (hid l_BKeyed_1) 2
@[simp] def l_BKeyed_3 (_ : Unit) : List EOp := [⟨0, (some 6), none, (.q (.alloc 28 zU8)), []⟩]
@[simp] def b_BKeyed_4 (_ : Unit) : EB := reg0 (hid l_BKeyed_3) 1
@[simp] def l_BKeyed_5 (_ : Unit) : List EOp := [⟨0, (some 12), none, (.q (.mov (.t 0))), []⟩, ⟨1, (some 13), none, (.q (.len (.t 12))), []⟩, ⟨2, (some 14), none, (.q (.bin .gtr (.t 13) (.k (.int .i64 32)))), []⟩]
@[simp] def b_BKeyed_6 (_ : Unit) : EB := reg0 (hid l_BKeyed_5) 3
@[simp] def l_BKeyed_7 (_ : Unit) : List EOp := [⟨0, (some 15), none, (.q (.lda 32 (.t 6))), []⟩, ⟨1, none, none, (.sto 32 (.t 4) (.t 15)), []⟩, ⟨2, (some 5), none, (.q (.mov (.k (.int .i64 2)))), []⟩]
@[simp] def b_BKeyed_8 (_ : Unit) : EB := reg0 (hid l_BKeyed_7) 3
@[simp] def b_BKeyed_9 (_ : Unit) : EB := .seq (hid b_BKeyed_8) .ret
@[simp] def b_BKeyed_10 (_ : Unit) : EB := .cond (.t 14) (hid b_BKeyed_9) .skip
@[simp] def b_BKeyed_11 (_ : Unit) : EB := .seq (hid b_BKeyed_6) (hid b_BKeyed_10)
@[simp] def l_BKeyed_12 (_ : Unit) : List EOp := [⟨0, (some 16), none, (.call 112 []), []⟩, ⟨1, (some 7), none, (.q (.mov (.t 16))), []⟩]
@[simp] def b_BKeyed_13 (_ : Unit) : EB := reg0 (hid l_BKeyed_12) 2
@[simp] def l_BKeyed_15 (_ : Unit) : List EOp := [⟨6, (some 23), none, (.q (.len (.t 22))), []⟩, ⟨7, (some 24), none, (.q (.bin .mul (.k (.int .i64 256)) (.t 23))), []⟩, ⟨8, (some 25), none, (.q (.cnv .u32 (.t 24))), []⟩, ⟨9, (some 26), none, (.q (.bin .xor (.t 21) (.t 25))), []⟩, ⟨10, (some 27), none, (.q (.isl 1 (.t 17) (.k (.int .i64 0)))), []⟩, ⟨11, none, none, (.sto 1 (.t 27) (.t 26)), []⟩]
@[simp] def l_BKeyed_14 (_ : Unit) : List EOp := ⟨0, (some 17), none, (.q (.mov (.t 7))), []⟩ :: ⟨1, (some 18), none, (.q (.mov (.t 7))), []⟩ :: ⟨2, (some 19), none, (.q (.isl 1 (.t 18) (.k (.int .i64 0)))), []⟩ :: ⟨3, (some 20), none, (.q (.ldc (.t 19))), []⟩ :: ⟨4, (some 21), none, (.q (.bin .xor (.t 20) (.k (.int .u32 16842784)))), []⟩ :: ⟨5, (some 22), none, (.q (.mov (.t 0))), []⟩ :: hid l_BKeyed_15
@[simp] def b_BKeyed_16 (_ : Unit) : EB := reg0 (hid l_BKeyed_14) 12
@[simp] def l_BKeyed_17 (_ : Unit) : List EOp := [⟨0, (some 8), none, (.q (.mov (.k (.slice none 0 0)))), []⟩]
@[simp] def b_BKeyed_18 (_ : Unit) : EB := reg0 (hid l_BKeyed_17) 1
@[simp] def l_BKeyed_19 (_ : Unit) : List EOp := [⟨0, (some 28), none, (.q (.mov (.t 0))), []⟩, ⟨1, (some 29), none, (.q (.len (.t 28))), []⟩, ⟨2, (some 30), none, (.q (.bin .gtr (.t 29) (.k (.int .i64 0)))), []⟩]
@[simp] def b_BKeyed_20 (_ : Unit) : EB := reg0 (hid l_BKeyed_19) 3
@[simp] def l_BKeyed_21 (_ : Unit) : List EOp := [⟨0, (some 31), none, (.q (.mov (.t 8))), []⟩, ⟨1, (some 32), none, (.q (.mov (.t 0))), []⟩, ⟨2, (some 33), none, (.app 5 1 1 (.t 31) (.t 32)), []⟩, ⟨3, (some 8), none, (.q (.mov (.t 33))), []⟩]
@[simp] def b_BKeyed_22 (_ : Unit) : EB := reg0 (hid l_BKeyed_21) 4
@[simp] def l_BKeyed_23 (_ : Unit) : List EOp := [⟨0, (some 34), none, (.q (.mov (.t 8))), []⟩, ⟨1, (some 35), none, (.q (.len (.t 34))), []⟩, ⟨2, (some 36), none, (.q (.bin .lss (.t 35) (.k (.int .i64 64)))), []⟩]
@[simp] def b_BKeyed_24 (_ : Unit) : EB := reg0 (hid l_BKeyed_23) 3
@[simp] def b_BKeyed_25 (_ : Unit) : EB := .cond (.t 36) .skip (.exit 0)
@[simp] def b_BKeyed_26 (_ : Unit) : EB := .seq (hid b_BKeyed_24) (hid b_BKeyed_25)
@[simp] def l_BKeyed_27 (_ : Unit) : List EOp := [⟨0, (some 37), none, (.q (.mov (.t 8))), []⟩, ⟨1, (some 38), none, (.q (.bsl 1 [(.int .u8 0)] 1 [(0, (.k (.int .u8 0)))])), []⟩, ⟨2, (some 39), none, (.app 5 1 1 (.t 37) (.t 38)), []⟩, ⟨3, (some 8), none, (.q (.mov (.t 39))), []⟩]
@[simp] def b_BKeyed_28 (_ : Unit) : EB := reg0 (hid l_BKeyed_27) 4
@[simp] def b_BKeyed_29 (_ : Unit) : EB := .block 1 (hid b_BKeyed_28)
@[simp] def b_BKeyed_30 (_ : Unit) : EB := .seq (hid b_BKeyed_26) (hid b_BKeyed_29)
@[simp] def b_BKeyed_31 (_ : Unit) : EB := .loop (hid b_BKeyed_30)
@[simp] def b_BKeyed_32 (_ : Unit) : EB := .block 0 (hid b_BKeyed_31)
@[simp] def b_BKeyed_33 (_ : Unit) : EB := .seq (hid b_BKeyed_22) (hid b_BKeyed_32)
@[simp] def b_BKeyed_34 (_ : Unit) : EB := .cond (.t 30) (hid b_BKeyed_33) .skip
@[simp] def b_BKeyed_35 (_ : Unit) : EB := .seq (hid b_BKeyed_20) (hid b_BKeyed_34)
@[simp] def l_BKeyed_36 (_ : Unit) : List EOp := [⟨0, (some 40), none, (.q (.mov (.t 8))), []⟩, ⟨1, (some 41), none, (.q (.mov (.t 1))), []⟩, ⟨2, (some 42), none, (.app 5 1 1 (.t 40) (.t 41)), []⟩, ⟨3, (some 8), none, (.q (.mov (.t 42))), []⟩]
@[simp] def b_BKeyed_37 (_ : Unit) : EB := reg0 (hid l_BKeyed_36) 4
@[simp] def l_BKeyed_38 (_ : Unit) : List EOp := [⟨0, (some 43), none, (.q (.mov (.t 8))), []⟩, ⟨1, (some 44), none, (.q (.len (.t 43))), []⟩, ⟨2, (some 9), none, (.q (.mov (.t 44))), []⟩]
@[simp] def b_BKeyed_39 (_ : Unit) : EB := reg0 (hid l_BKeyed_38) 3
@[simp] def l_BKeyed_41 (_ : Unit) : List EOp := [⟨6, (some 51), (some (49, false)), (.q (.len (.t 50))), []⟩, ⟨7, (some 52), (some (49, false)), (.q (.bin .eql (.t 51) (.k (.int .i64 0)))), []⟩, ⟨8, (some 53), none, (.q (.pick (.t 49) (.k (.bool true)) (.t 52))), []⟩]
@[simp] def l_BKeyed_40 (_ : Unit) : List EOp := ⟨0, (some 45), none, (.q (.mov (.t 8))), []⟩ :: ⟨1, (some 46), none, (.q (.len (.t 45))), []⟩ :: ⟨2, (some 47), none, (.q (.bin .rem (.t 46) (.k (.int .i64 64)))), []⟩ :: ⟨3, (some 48), none, (.q (.bin .neq (.t 47) (.k (.int .i64 0)))), []⟩ :: ⟨4, (some 49), none, (.q (.mov (.t 48))), []⟩ :: ⟨5, (some 50), (some (49, false)), (.q (.mov (.t 8))), []⟩ :: hid l_BKeyed_41
@[simp] def b_BKeyed_42 (_ : Unit) : EB := reg0 (hid l_BKeyed_40) 9
@[simp] def b_BKeyed_43 (_ : Unit) : EB := .cond (.t 53) .skip (.exit 2)
@[simp] def b_BKeyed_44 (_ : Unit) : EB := .seq (hid b_BKeyed_42) (hid b_BKeyed_43)
@[simp] def l_BKeyed_45 (_ : Unit) : List EOp := [⟨0, (some 54), none, (.q (.mov (.t 8))), []⟩, ⟨1, (some 55), none, (.q (.bsl 1 [(.int .u8 0)] 1 [(0, (.k (.int .u8 0)))])), []⟩, ⟨2, (some 56), none, (.app 5 1 1 (.t 54) (.t 55)), []⟩, ⟨3, (some 8), none, (.q (.mov (.t 56))), []⟩]
@[simp] def b_BKeyed_46 (_ : Unit) : EB := reg0 (hid l_BKeyed_45) 4
@[simp] def b_BKeyed_47 (_ : Unit) : EB := .block 3 (hid b_BKeyed_46)
@[simp] def b_BKeyed_48 (_ : Unit) : EB := .seq (hid b_BKeyed_44) (hid b_BKeyed_47)
@[simp] def b_BKeyed_49 (_ : Unit) : EB := .loop (hid b_BKeyed_48)
@[simp] def b_BKeyed_50 (_ : Unit) : EB := .block 2 (hid b_BKeyed_49)
@[simp] def l_BKeyed_51 (_ : Unit) : List EOp := [⟨0, (some 10), none, (.q (.mov (.k (.int .i64 0)))), []⟩]
@[simp] def b_BKeyed_52 (_ : Unit) : EB := reg0 (hid l_BKeyed_51) 1
@[simp] def l_BKeyed_53 (_ : Unit) : List EOp := [⟨0, (some 57), none, (.q (.mov (.t 10))), []⟩, ⟨1, (some 58), none, (.q (.mov (.t 8))), []⟩, ⟨2, (some 59), none, (.q (.len (.t 58))), []⟩, ⟨3, (some 60), none, (.q (.bin .lss (.t 57) (.t 59))), []⟩]
@[simp] def b_BKeyed_54 (_ : Unit) : EB := reg0 (hid l_BKeyed_53) 4
@[simp] def b_BKeyed_55 (_ : Unit) : EB := .cond (.t 60) .skip (.exit 4)
@[simp] def b_BKeyed_56 (_ : Unit) : EB := .seq (hid b_BKeyed_54) (hid b_BKeyed_55)
@[simp] def l_BKeyed_59 (_ : Unit) : List EOp := [⟨12, (some 75), none, (.q (.bin .add (.t 74) (.k (.int .i64 64)))), []⟩, ⟨13, (some 76), none, (.q (.mov (.t 8))), []⟩, ⟨14, (some 77), none, (.q (.len (.t 76))), []⟩, ⟨15, (some 78), none, (.q (.bin .eql (.t 75) (.t 77))), []⟩, ⟨16, (some 79), none, (.call 113 [(.t 63), (.t 68), (.t 73), (.t 78)]), []⟩, ⟨17, (some 7), none, (.q (.mov (.t 79))), []⟩]
@[simp] def l_BKeyed_58 (_ : Unit) : List EOp := ⟨6, (some 69), none, (.q (.mov (.t 9))), []⟩ :: ⟨7, (some 70), none, (.q (.mov (.t 10))), []⟩ :: ⟨8, (some 71), none, (.q (.bin .add (.t 70) (.k (.int .i64 64)))), []⟩ :: ⟨9, (some 72), none, (.q (.minmax false [(.t 69), (.t 71)])), []⟩ :: ⟨10, (some 73), none, (.q (.cnv .u64 (.t 72))), []⟩ :: ⟨11, (some 74), none, (.q (.mov (.t 10))), []⟩ :: hid l_BKeyed_59
@[simp] def l_BKeyed_57 (_ : Unit) : List EOp := ⟨0, (some 63), none, (.q (.mov (.t 7))), []⟩ :: ⟨1, (some 64), none, (.q (.mov (.t 8))), []⟩ :: ⟨2, (some 65), none, (.q (.mov (.t 10))), []⟩ :: ⟨3, (some 66), none, (.q (.mov (.t 10))), []⟩ :: ⟨4, (some 67), none, (.q (.bin .add (.t 66) (.k (.int .i64 64)))), []⟩ :: ⟨5, (some 68), none, (.q (.ssl 1 (.t 64) (some (.t 65)) (some (.t 67)))), []⟩ :: hid l_BKeyed_58
@[simp] def b_BKeyed_60 (_ : Unit) : EB := reg0 (hid l_BKeyed_57) 18
@[simp] def b_BKeyed_61 (_ : Unit) : EB := .block 5 (hid b_BKeyed_60)
@[simp] def l_BKeyed_62 (_ : Unit) : List EOp := [⟨0, (some 61), none, (.q (.mov (.t 10))), []⟩, ⟨1, (some 62), none, (.q (.bin .add (.t 61) (.k (.int .i64 64)))), []⟩, ⟨2, (some 10), none, (.q (.mov (.t 62))), []⟩]
@[simp] def b_BKeyed_63 (_ : Unit) : EB := reg0 (hid l_BKeyed_62) 3
@[simp] def b_BKeyed_64 (_ : Unit) : EB := .seq (hid b_BKeyed_61) (hid b_BKeyed_63)
@[simp] def b_BKeyed_65 (_ : Unit) : EB := .seq (hid b_BKeyed_56) (hid b_BKeyed_64)
@[simp] def b_BKeyed_66 (_ : Unit) : EB := .loop (hid b_BKeyed_65)
@[simp] def b_BKeyed_67 (_ : Unit) : EB := .block 4 (hid b_BKeyed_66)
@[simp] def b_BKeyed_68 (_ : Unit) : EB := .seq (hid b_BKeyed_52) (hid b_BKeyed_67)
@[simp] def l_BKeyed_69 (_ : Unit) : List EOp := [⟨0, (some 11), none, (.q (.mov (.k (.int .i64 0)))), []⟩]
@[simp] def b_BKeyed_70 (_ : Unit) : EB := reg0 (hid l_BKeyed_69) 1
@[simp] def l_BKeyed_71 (_ : Unit) : List EOp := [⟨0, (some 80), none, (.q (.mov (.t 11))), []⟩, ⟨1, (some 81), none, (.q (.bin .lss (.t 80) (.k (.int .i64 32)))), []⟩]
@[simp] def b_BKeyed_72 (_ : Unit) : EB := reg0 (hid l_BKeyed_71) 2
@[simp] def b_BKeyed_73 (_ : Unit) : EB := .cond (.t 81) .skip (.exit 6)
@[simp] def b_BKeyed_74 (_ : Unit) : EB := .seq (hid b_BKeyed_72) (hid b_BKeyed_73)
@[simp] def l_BKeyed_77 (_ : Unit) : List EOp := [⟨12, none, none, (.sto 1 (.t 95) (.t 94)), []⟩]
@[simp] def l_BKeyed_76 (_ : Unit) : List EOp := ⟨6, (some 90), none, (.q (.mov (.t 11))), []⟩ :: ⟨7, (some 91), none, (.q (.bin .rem (.t 90) (.k (.int .i64 4)))), []⟩ :: ⟨8, (some 92), none, (.q (.bin .mul (.k (.int .i64 8)) (.t 91))), []⟩ :: ⟨9, (some 93), none, (.q (.bin .shr (.t 89) (.t 92))), []⟩ :: ⟨10, (some 94), none, (.q (.cnv .u8 (.t 93))), []⟩ :: ⟨11, (some 95), none, (.q (.iad 32 1 (.t 6) (.t 84))), []⟩ :: hid l_BKeyed_77
@[simp] def l_BKeyed_75 (_ : Unit) : List EOp := ⟨0, (some 84), none, (.q (.mov (.t 11))), []⟩ :: ⟨1, (some 85), none, (.q (.mov (.t 7))), []⟩ :: ⟨2, (some 86), none, (.q (.mov (.t 11))), []⟩ :: ⟨3, (some 87), none, (.q (.bin .quo (.t 86) (.k (.int .i64 4)))), []⟩ :: ⟨4, (some 88), none, (.q (.isl 1 (.t 85) (.t 87))), []⟩ :: ⟨5, (some 89), none, (.q (.ldc (.t 88))), []⟩ :: hid l_BKeyed_76
@[simp] def b_BKeyed_78 (_ : Unit) : EB := reg0 (hid l_BKeyed_75) 13
@[simp] def b_BKeyed_79 (_ : Unit) : EB := .block 7 (hid b_BKeyed_78)
@[simp] def l_BKeyed_80 (_ : Unit) : List EOp := [⟨0, (some 82), none, (.q (.mov (.t 11))), []⟩, ⟨1, (some 83), none, (.q (.bin .add (.t 82) (.k (.int .i64 1)))), []⟩, ⟨2, (some 11), none, (.q (.mov (.t 83))), []⟩]
@[simp] def b_BKeyed_81 (_ : Unit) : EB := reg0 (hid l_BKeyed_80) 3
@[simp] def b_BKeyed_82 (_ : Unit) : EB := .seq (hid b_BKeyed_79) (hid b_BKeyed_81)
@[simp] def b_BKeyed_83 (_ : Unit) : EB := .seq (hid b_BKeyed_74) (hid b_BKeyed_82)
@[simp] def b_BKeyed_84 (_ : Unit) : EB := .loop (hid b_BKeyed_83)
@[simp] def b_BKeyed_85 (_ : Unit) : EB := .block 6 (hid b_BKeyed_84)
@[simp] def b_BKeyed_86 (_ : Unit) : EB := .seq (hid b_BKeyed_70) (hid b_BKeyed_85)
@[simp] def l_BKeyed_87 (_ : Unit) : List EOp := [⟨0, (some 96), none, (.q (.lda 32 (.t 6))), []⟩, ⟨1, none, none, (.sto 32 (.t 4) (.t 96)), []⟩, ⟨2, (some 5), none, (.q (.mov (.k (.int .i64 0)))), []⟩]
@[simp] def b_BKeyed_88 (_ : Unit) : EB := reg0 (hid l_BKeyed_87) 3
@[simp] def b_BKeyed_89 (_ : Unit) : EB := .seq (hid b_BKeyed_88) .ret
@[simp] def b_BKeyed_90 (_ : Unit) : EB := .seq (hid b_BKeyed_86) (hid b_BKeyed_89)
@[simp] def b_BKeyed_91 (_ : Unit) : EB := .seq (hid b_BKeyed_68) (hid b_BKeyed_90)
@[simp] def b_BKeyed_92 (_ : Unit) : EB := .seq (hid b_BKeyed_50) (hid b_BKeyed_91)
@[simp] def b_BKeyed_93 (_ : Unit) : EB := .seq (hid b_BKeyed_39) (hid b_BKeyed_92)
@[simp] def b_BKeyed_94 (_ : Unit) : EB := .seq (hid b_BKeyed_37) (hid b_BKeyed_93)
@[simp] def b_BKeyed_95 (_ : Unit) : EB := .seq (hid b_BKeyed_35) (hid b_BKeyed_94)
@[simp] def b_BKeyed_96 (_ : Unit) : EB := .seq (hid b_BKeyed_18) (hid b_BKeyed_95)
@[simp] def b_BKeyed_97 (_ : Unit) : EB := .seq (hid b_BKeyed_16) (hid b_BKeyed_96)
@[simp] def b_BKeyed_98 (_ : Unit) : EB := .seq (hid b_BKeyed_13) (hid b_BKeyed_97)
@[simp] def b_BKeyed_99 (_ : Unit) : EB := .seq (hid b_BKeyed_11) (hid b_BKeyed_98)
@[simp] def b_BKeyed_100 (_ : Unit) : EB := .seq (hid b_BKeyed_4) (hid b_BKeyed_99)
@[simp] def b_BKeyed_101 (_ : Unit) : EB := .seq (hid b_BKeyed_2) (hid b_BKeyed_100)
def c_BKeyed : EB × List QOp × Nat := ((hid b_BKeyed_101), [(.lda 32 (.t 4)), (.mov (.t 5))], 97)
theorem k_BKeyed : cfun Tryz.prog 104 = some c_BKeyed := by kernel_rfl

@[simp] def l_RSum_1 (_ : Unit) : List EOp := [⟨0, (some 2), none, (.q (.alloc 28 zU8)), []⟩]
@[simp] def b_RSum_2 (_ : Unit) : EB := reg0 (hid l_RSum_1) 1
@[simp] def l_RSum_4 (_ : Unit) : List EOp := [⟨6, none, none, (.sto 32 (.t 3) (.t 8)), []⟩, ⟨7, (some 4), none, (.q (.mov (.t 9))), []⟩]
@[simp] def l_RSum_3 (_ : Unit) : List EOp := ⟨0, (some 6), none, (.q (.mov (.t 0))), []⟩ :: ⟨1, (some 7), none, (.call 104 [(.k (.slice none 0 0)), (.t 6)]), []⟩ :: ⟨2, (some 5), none, (.q (.mov (.t 7))), []⟩ :: ⟨3, (some 8), none, (.q (.ext 0 (.t 5))), []⟩ :: ⟨4, (some 9), none, (.q (.ext 1 (.t 5))), []⟩ :: ⟨5, (some 3), none, (.q (.alloc 28 zU8)), []⟩ :: hid l_RSum_4
@[simp] def b_RSum_5 (_ : Unit) : EB := reg0 (hid l_RSum_3) 8
@[simp] def l_RSum_6 (_ : Unit) : List EOp := [⟨0, (some 10), none, (.q (.lda 32 (.t 3))), []⟩, ⟨1, none, none, (.sto 32 (.t 2) (.t 10)), []⟩]
@[simp] def b_RSum_7 (_ : Unit) : EB := reg0 (hid l_RSum_6) 2
@[simp] def b_RSum_8 (_ : Unit) : EB := .seq (hid b_RSum_7) .ret
@[simp] def b_RSum_9 (_ : Unit) : EB := .seq (hid b_RSum_5) (hid b_RSum_8)
@[simp] def b_RSum_10 (_ : Unit) : EB := .seq (hid b_RSum_2) (hid b_RSum_9)
def c_RSum : EB × List QOp × Nat := ((hid b_RSum_10), [(.lda 32 (.t 2))], 11)
theorem k_RSum : cfun Tryz.prog 75 = some c_RSum := by kernel_rfl


set_option maxRecDepth 8000 in
set_option maxHeartbeats 8000000 in
theorem BKeyed_ok (b : List UInt8) (hb : b.length ≤ 100000000) : ECalls Tryz.prog 104 [.lit (.slice none 0 0), Bs b] [] fun y H' => H' = [] ∧ y = .tup [.agg (hc (sumS b)), .c (.fz (.lit (.int .i64 0)))] := by
  have fl : firstW.length = 8 := rfl
  have hx : ibit .xor .u32 (wi (g firstW 0)) 16842784 = wi (g firstW 0 ^^^ 0x01010020) := wi_xor (g firstW 0) 0x01010020
  have hx2 : ibit .xor .u32 (wi (g firstW 0 ^^^ 0x01010020)) 0 = wi (g firstW 0 ^^^ 0x01010020) := by
    have := wi_xor (g firstW 0 ^^^ 0x01010020) 0
    rw [show wi 0 = 0 from rfl] at this
    rw [this, UInt32.xor_zero]
  have hi8 : firstW.set 0 (g firstW 0 ^^^ 0x01010020) = ini8 := rfl
  refine ecalls k_BKeyed ?_
  simp [c_BKeyed, Bs]
  refine call0 Bbegin_ok (by simp) ?_
  rintro y H' ⟨rfl, rfl⟩
  refine ⟨.inl (by simp), by simp, ?_⟩
  have w0 : IntKind.i64.wrap 0 = 0 := by decide +kernel
  have w1 : IntKind.u32.wrap 0 = 0 := by decide +kernel
  simp [fl, wrw_gE', wrw_set, hx, hx2, hi8, w0, w1]
  have hg0 := tgt_ge b.length
  have hg1 := tgt_pos b.length
  have hg2 := tgt_mod b.length
  have hg3 := tgt_le b.length
  refine ⟨by omega, ?_⟩
  refine eloop (α := Nat) (fun k => b.length ≤ k ∧ k ≤ tgt b.length) (fun k => tgt b.length - k)
    (fun k => [.any, .any, .any, .any, .v (.c (.ptr 0 0)), .any, .v (.c (.ptr 1 0)), .v (.c (.row 2 8)), .v (.c (.row 3 k)), NV b.length, .any, .any, .any, .any, .any, .any, .any, .any, .any, .any, .any, .any, .any, .any, .any, .any, .any, .any, .any, .any, .any, .any, .any, .any, .any, .any, .any, .any, .any, .any, .any, .any, .any, .any, .any, .any, .any, .any, .any, .any, .any, .any, .any, .any, .any, .any, .any, .any, .any, .any, .any, .any, .any, .any, .any, .any, .any, .any, .any, .any, .any, .any, .any, .any, .any, .any, .any, .any, .any, .any, .any, .any, .any, .any, .any, .any, .any, .any, .any, .any, .any, .any, .any, .any, .any, .any, .any])
    (fun k => [some (.box 28 (hc hz)), some (.box 28 (hc hz)), some (.row 174 1 (wrw ini8)), some (.row 5 1 (bsv (padK b k)))]) b.length [0, 32, 96, 416]
    ⟨Nat.le_refl _, hg0⟩ (by simp [NV]) (by simp [padK_0]) (by simp) (by simp) (by simp) ?_
  rintro k ⟨hk, hkt⟩
  have hpl := padK_len hk
  have tm : (k : Int).tmod 64 = ((k % 64 : Nat) : Int) := rfl
  by_cases hlt : k < tgt b.length
  · have hc := tgt_lt hk hlt
    have hps := padK_succ hk
    have hpb : bsv (padK b k) ++ [[.lit (.int .u8 0)]] = bsv (padK b (k + 1)) := by rw [← hps]; simp [bsv, cb]
    by_cases hm : k % 64 = 0
    · have hm' : (k : Int) % 64 = 0 := by omega
      have hk0 : k = 0 := by omega
      subst hk0
      simp [NV, hpl, hps]
      exact round 1 [0, 1, 2, 180] ⟨by omega, by omega⟩ (by omega) (by simp [NV]) (by simp [hpb]) (by simp) (by simp) (by simp)
    · have hm' : ¬ (k : Int) % 64 = 0 := by omega
      simp [NV, hpl, tm, hm', hps, -Int.natCast_add]
      refine ⟨by omega, ?_⟩
      exact round (k + 1) [0, 1, 2, 180] ⟨by omega, by omega⟩ (by omega) (by simp [NV]) (by simp [hpb]) (by simp) (by simp) (by simp)
  · have hkt2 : k = tgt b.length := by omega
    subst hkt2
    have hn0 : ¬ tgt b.length = 0 := by omega
    simp [NV, hpl, tm, hg2, hn0]
    refine loopW _ (weak_frz (o := 2) (ty := 174) (es := 1) (xs := wrw ini8) rfl) (loopW _ (weak_frz (o := 3) (ty := 5) (es := 1) (xs := bsv (padK b (tgt b.length))) rfl) ?_)
    have tf8 : List.take 8 (wrw ini8) = wrw ini8 := List.take_of_length_le (by simp; decide)
    have tfb : List.take (tgt b.length) (bsv (padK b (tgt b.length))) = bsv (padK b (tgt b.length)) := List.take_of_length_le (by simp [hpl])
    have fz2 : List.map (fzE 3 1 (bsv (padK b (tgt b.length))) ∘ fzE 2 1 (wrw ini8)) (hc hz) = hc hz := by rw [← List.map_map]; rfl
    obtain ⟨A, hA⟩ : ∃ A, kS (tgt b.length / 64 - 1) ini8 0 b = A := ⟨_, rfl⟩
    have A8 : A.length = 8 := by rw [← hA, kS_len]; rfl
    have hs : sumS b = outS A := by rw [sumS_kS, hA]
    refine eloop (α := List UInt32 × Nat) (fun a => a.1.length = 8 ∧ 64 * a.2 ≤ tgt b.length ∧ (64 * a.2 < tgt b.length → kS (tgt b.length / 64 - 1 - a.2) a.1 (64 * a.2) (b.drop (64 * a.2)) = A) ∧ (64 * a.2 = tgt b.length → a.1 = A)) (fun a => tgt b.length - 64 * a.2)
      (fun a => [.any, .any, .any, .any, .v (.c (.ptr 0 0)), .any, .v (.c (.ptr 1 0)), FW a.1, Bs (padK b (tgt b.length)), NV b.length, NV ((64 * a.2 : Nat) : Int), .any, .any, .any, .any, .any, .any, .any, .any, .any, .any, .any, .any, .any, .any, .any, .any, .any, .any, .any, .any, .any, .any, .any, .any, .any, .any, .any, .any, .any, .any, .any, .any, .any, .any, .any, .any, .any, .any, .any, .any, .any, .any, .any, .any, .any, .any, .any, .any, .any, .any, .any, .any, .any, .any, .any, .any, .any, .any, .any, .any, .any, .any, .any, .any, .any, .any, .any, .any, .any, .any, .any, .any, .any, .any, .any, .any, .any, .any, .any, .any, .any, .any, .any, .any, .any, .any])
      (fun _ => [some (.box 28 (hc hz)), some (.box 28 (hc hz))]) (ini8, 0) [0, 1]
      ⟨rfl, by omega, fun _ => by simpa using hA, fun h => absurd h (by dsimp only; omega)⟩ (by simp [NV, FW, Bs, fzEO, hpl, tf8, tfb]) (by simp [fz2]) (by simp) (by simp) (by simp) ?_
    rintro ⟨h, j⟩ ⟨h8, hj, hA1, hA2⟩
    dsimp only at h8 hj hA1 hA2
    by_cases hlt2 : 64 * j < tgt b.length
    · have htl := tgt_last hlt2
      obtain ⟨J, hJ⟩ : ∃ J, 64 * j = J := ⟨_, rfl⟩
      have hcj : ((64 : Int) * (j : Int)) = (J : Int) := by omega
      have wJ : IntKind.i64.wrap ((J : Int) + 64) = ((J + 64 : Nat) : Int) := by rw [wrap_i64 (by omega) (by omega)]; omega
      have hmn := i64_min (J + 64) b.length
      obtain ⟨t', ht'⟩ : ∃ t', min b.length (J + 64) = t' := ⟨_, rfl⟩
      rw [ht'] at hmn
      have wt : IntKind.u64.wrap (t' : Int) = (t' : Int) := u64_nat (by omega)
      obtain ⟨B, hB⟩ : ∃ B, List.drop J (List.take (J + 64) (padK b (tgt b.length))) = B := ⟨_, rfl⟩
      have hB2 : ((padK b (tgt b.length)).drop J).take 64 = B := by rw [← hB, List.drop_take]; congr 1; omega
      have hB64 : B.length = 64 := by rw [← hB2, List.length_take, List.length_drop, hpl]; omega
      obtain ⟨L, hL⟩ : ∃ L, decide (((J + 64 : Nat) : Int) = ((tgt b.length : Nat) : Int)) = L := ⟨_, rfl⟩
      have e8 : (wrw (takeS h B t' L)).length = 8 := by rw [wrw_len, takeS_len]; exact h8
      have hk1 := Btk_ok h B t' L h8 hB64 (by omega)
      rw [← e8] at hk1
      have hk2 := ecalls_frz hk1
      rw [hJ] at hA1 htl
      have hnext : (64 * (j + 1) < tgt b.length → kS (tgt b.length / 64 - 1 - (j + 1)) (takeS h B t' L) (64 * (j + 1)) (b.drop (64 * (j + 1))) = A) ∧ (64 * (j + 1) = tgt b.length → takeS h B t' L = A) := by
        have ha := hA1 (by omega)
        rcases Nat.lt_or_ge (J + 64) b.length with hq | hq
        · have hLf : L = false := by rw [← hL]; exact decide_eq_false (by omega)
          have htt : t' = J + 64 := by omega
          have hBm : B = (b.drop J).take 64 := by
            have := blk_mid (b := b) (j := j) (by omega) (tgt b.length)
            rw [hJ, hB2] at this
            exact this
          obtain ⟨K, hK⟩ : ∃ K, tgt b.length / 64 - 1 - j = K + 1 := ⟨tgt b.length / 64 - 1 - j - 1, by omega⟩
          rw [hK, kS, if_neg (by rw [List.length_drop]; omega), List.drop_drop, ← hBm] at ha
          rw [hLf, htt]
          refine ⟨fun _ => ?_, fun h => by omega⟩
          rw [show tgt b.length / 64 - 1 - (j + 1) = K by omega, show 64 * (j + 1) = J + 64 by omega]
          exact ha
        · have he := htl.2 hq
          have hLt : L = true := by rw [← hL]; exact decide_eq_true (by omega)
          have hBl := blk_last (b := b) (j := j) hlt2 (by omega)
          rw [hJ, hB2] at hBl
          have hz0 : tgt b.length / 64 - 1 - j = 0 := by omega
          rw [hz0, kS, List.length_drop, ← hBl, ← hLt] at ha
          refine ⟨fun h => by omega, fun _ => ?_⟩
          by_cases hJn : J ≤ b.length
          · rw [show t' = J + (b.length - J) by omega]
            exact ha
          · exfalso
            unfold tgt at he hlt2
            split at he <;> omega
      simp [NV, FW, Bs, hpl, hcj, wJ, hmn, wt, hB, hL, show J < tgt b.length by omega, -Int.natCast_add]
      refine ⟨by omega, ?_⟩
      refine call0 hk2 (by simp [FW, Bs]) ?_
      rintro y H' ⟨rfl, rfl⟩
      refine ⟨.inl (by simp), le_ok rfl, ?_⟩
      have wJ2 : ((J + 64 : Nat) : Int) = 64 * ((j + 1 : Nat) : Int) := by omega
      simp [NV, FW, Bs, hpl, hcj, wJ, -Int.natCast_add]
      exact round (takeS h B t' L, j + 1) [0, 1] ⟨by dsimp only; rw [takeS_len]; exact h8, by dsimp only; omega, hnext.1, hnext.2⟩ (by dsimp only; omega) (by simp [NV, FW, Bs, wJ2]) (by simp) (by simp) (by simp) (by simp)
    · have he : 64 * j = tgt b.length := by omega
      have hh := hA2 he
      have hcj : ((64 : Int) * (j : Int)) = ((tgt b.length : Nat) : Int) := by omega
      subst hh
      simp [NV, FW, Bs, hpl, hcj]
      refine eloop (α := Nat) (fun i => i ≤ 32) (fun i => 32 - i)
        (fun i => [.any, .any, .any, .any, .v (.c (.ptr 0 0)), .any, .v (.c (.ptr 1 0)), FW h, .any, .any, .any, NV i, .any, .any, .any, .any, .any, .any, .any, .any, .any, .any, .any, .any, .any, .any, .any, .any, .any, .any, .any, .any, .any, .any, .any, .any, .any, .any, .any, .any, .any, .any, .any, .any, .any, .any, .any, .any, .any, .any, .any, .any, .any, .any, .any, .any, .any, .any, .any, .any, .any, .any, .any, .any, .any, .any, .any, .any, .any, .any, .any, .any, .any, .any, .any, .any, .any, .any, .any, .any, .any, .any, .any, .any, .any, .any, .any, .any, .any, .any, .any, .any, .any, .any, .any, .any, .any])
        (fun i => [some (.box 28 (hc hz)), some (.box 28 (hc (oI h i)))]) 0 [0, 1]
        (by omega) (by simp [NV, FW]) (by simp [oI_0]) (by simp) (by simp) (by simp) ?_
      intro i hi
      simp [NV, FW]
      refine alt (fun hp => ?_) (fun hp => ?_)
      · have il : i < 32 := by omega
        have q1 : i / 4 < 8 := by omega
        have q1' : i / 4 ≤ 7 := by omega
        have q2 : (i : Int).tdiv 4 = ((i / 4 : Nat) : Int) := rfl
        have q3 : (i : Int).tmod 4 = ((i % 4 : Nat) : Int) := rfl
        have q4 : IntKind.i64.wrap ((i / 4 : Nat) : Int) = ((i / 4 : Nat) : Int) := wrap_i64 (by omega) (by omega)
        have q5 : IntKind.i64.wrap (8 * ((i % 4 : Nat) : Int)) = ((8 * (i % 4) : Nat) : Int) := by rw [wrap_i64 (by omega) (by omega)]; omega
        have wi1 : IntKind.i64.wrap ((i : Int) + 1) = ((i + 1 : Nat) : Int) := wrap_i64 (by omega) (by omega)
        obtain ⟨d, hd⟩ : ∃ d, i / 4 = d := ⟨_, rfl⟩
        obtain ⟨k, hk⟩ : ∃ k, 8 * (i % 4) = k := ⟨_, rfl⟩
        rw [hd] at q1 q1' q2 q4
        rw [hk] at q5
        have d8 : (d : Int) < 8 := by omega
        have sh := wi_shr (g h d) k (by omega)
        have ou : IntKind.u8.wrap (wi (shr (g h d) k)) = ((outB h i).toNat : Int) := by unfold outB; rw [hd, hk]; exact u8_shr _ _
        simp [q2, q3, q4, q5, wi1, q1, q1', d8, A8, wrw_gE', sh, ou, oI_len, il, hc_put, -Int.natCast_add, -Int.natCast_mul, -Int.natCast_ediv, -Int.natCast_emod]
        exact ⟨by omega, by omega, round (i + 1) [0, 1] (by omega) (by omega) (by simp [NV, FW]) (by simp [oI_set h il]) (by simp) (by simp) (by simp)⟩
      · have h32 : i = 32 := by omega
        subst h32
        have ol := outS_len h
        obtain ⟨O, hO⟩ : ∃ O, outS h = O := ⟨_, rfl⟩
        rw [hO] at hs ol
        simp [oI_32, hO, ol, hs]
        have ot : List.take 32 O = O := List.take_of_length_le (by omega)
        exact fin [] (by decide) (v := .tup [.agg (hc O), .c (.fz (.lit (.int .i64 0)))]) (by simp [resV, resT, evT, asT, fzEO, ot, ol]) (by simp [conR, conTs, conT, ot, ol]) rfl ⟨rfl, rfl⟩

theorem RSum_ok (b : List UInt8) (hb : b.length ≤ 100000000) : ECalls Tryz.prog 75 [Bs b] [] fun y H' => H' = [] ∧ y = .v (.agg (hc (sumS b))) := by
  have hl := hc_tk (show (sumS b).length ≤ 32 by rw [sumS_len]; omega)
  refine ecalls k_RSum ?_
  simp [c_RSum, Bs]
  refine call0 (BKeyed_ok b hb) (by simp [Bs]) ?_
  rintro y H' ⟨rfl, rfl⟩
  refine ⟨.inl (by simp), le_ok rfl, ?_⟩
  simp [hl, sumS_len]
  exact fin [] (by decide) rfl rfl rfl ⟨rfl, rfl⟩

end Go.Proofs.YtpilpjameifcfaaGreatDoor

namespace Go.Proofs.YtpilpjameifcfaaGreatDoor
open Go Go.EW
set_option linter.unusedSimpArgs false
set_option linter.unusedVariables false

@[simp] def l_RSettle_1 (_ : Unit) : List EOp := [⟨0, (some 3), none, (.q (.box 26 (.t 0))), []⟩, ⟨1, (some 6), none, (.q (.alloc 26 [(.int .i64 0), (.int .i64 0), (.int .i64 0), (.slice none 0 0), (.slice none 0 0)])), []⟩, ⟨2, (some 7), none, (.q (.mov (.k (.int .i64 0)))), []⟩]
@[simp] def b_RSettle_2 (_ : Unit) : EB := reg0 (hid l_RSettle_1) 3
@[simp] def l_RSettle_3 (_ : Unit) : List EOp := [⟨0, (some 11), none, (.q (.fad 3 (.t 3))), []⟩, ⟨1, (some 12), none, (.q (.ldc (.t 11))), []⟩, ⟨2, (some 13), none, (.q (.mov (.t 1))), []⟩, ⟨3, (some 14), none, (.call 73 [(.t 12), (.t 13)]), []⟩, ⟨4, (some 8), none, (.q (.mov (.t 14))), []⟩]
@[simp] def b_RSettle_4 (_ : Unit) : EB := reg0 (hid l_RSettle_3) 5
@[simp] def l_RSettle_5 (_ : Unit) : List EOp := [⟨0, (some 16), none, (.q (.lda 5 (.t 3))), []⟩, ⟨1, (some 17), none, (.call 71 [(.t 16)]), []⟩, ⟨2, (some 18), none, (.q (.un .not (.t 17))), []⟩, ⟨3, (some 15), none, (.q (.mov (.t 18))), []⟩]
@[simp] def b_RSettle_6 (_ : Unit) : EB := reg0 (hid l_RSettle_5) 4
@[simp] def l_RSettle_7 (_ : Unit) : List EOp := [⟨0, (some 19), none, (.q (.build [(.int .i64 0), (.int .i64 0), (.int .i64 0), (.slice none 0 0), (.slice none 0 0)] [])), []⟩, ⟨1, none, none, (.fz (.sto 5 (.t 6) (.t 19))), []⟩, ⟨2, (some 7), none, (.q (.mov (.k (.int .i64 1)))), []⟩]
@[simp] def b_RSettle_8 (_ : Unit) : EB := reg0 (hid l_RSettle_7) 3
@[simp] def b_RSettle_9 (_ : Unit) : EB := .seq (hid b_RSettle_8) .ret
@[simp] def l_RSettle_10 (_ : Unit) : List EOp := [⟨0, (some 21), none, (.q (.mov (.t 8))), []⟩, ⟨1, (some 22), none, (.q (.bin .lss (.t 21) (.k (.int .i64 0)))), []⟩, ⟨2, (some 20), none, (.q (.mov (.t 22))), []⟩]
@[simp] def b_RSettle_11 (_ : Unit) : EB := reg0 (hid l_RSettle_10) 3
@[simp] def l_RSettle_12 (_ : Unit) : List EOp := [⟨0, (some 23), none, (.q (.build [(.int .i64 0), (.int .i64 0), (.int .i64 0), (.slice none 0 0), (.slice none 0 0)] [])), []⟩, ⟨1, none, none, (.fz (.sto 5 (.t 6) (.t 23))), []⟩, ⟨2, (some 7), none, (.q (.mov (.k (.int .i64 8)))), []⟩]
@[simp] def b_RSettle_13 (_ : Unit) : EB := reg0 (hid l_RSettle_12) 3
@[simp] def b_RSettle_14 (_ : Unit) : EB := .seq (hid b_RSettle_13) .ret
@[simp] def l_RSettle_16 (_ : Unit) : List EOp := [⟨7, (some 32), none, (.q (.lda 32 (.t 31))), []⟩, ⟨1, (some 26), none, (.call 75 [(.t 25)]), [2, 3, 4, 5, 6, 7]⟩, ⟨8, (some 33), none, (.q (.eqa true 32 .u8 (.t 26) (.t 32))), []⟩, ⟨9, (some 24), none, (.q (.mov (.t 33))), []⟩]
@[simp] def l_RSettle_15 (_ : Unit) : List EOp := ⟨0, (some 25), none, (.q (.mov (.t 2))), []⟩ :: ⟨2, (some 27), none, (.q (.fad 3 (.t 3))), []⟩ :: ⟨3, (some 28), none, (.q (.ldc (.t 27))), []⟩ :: ⟨4, (some 29), none, (.q (.mov (.t 8))), []⟩ :: ⟨5, (some 30), none, (.q (.isl 36 (.t 28) (.t 29))), []⟩ :: ⟨6, (some 31), none, (.q (.fad 4 (.t 30))), []⟩ :: hid l_RSettle_16
@[simp] def b_RSettle_17 (_ : Unit) : EB := reg1 (hid l_RSettle_15) 10
@[simp] def l_RSettle_18 (_ : Unit) : List EOp := [⟨0, (some 34), none, (.q (.build [(.int .i64 0), (.int .i64 0), (.int .i64 0), (.slice none 0 0), (.slice none 0 0)] [])), []⟩, ⟨1, none, none, (.fz (.sto 5 (.t 6) (.t 34))), []⟩, ⟨2, (some 7), none, (.q (.mov (.k (.int .i64 22)))), []⟩]
@[simp] def b_RSettle_19 (_ : Unit) : EB := reg0 (hid l_RSettle_18) 3
@[simp] def b_RSettle_20 (_ : Unit) : EB := .seq (hid b_RSettle_19) .ret
@[simp] def b_RSettle_21 (_ : Unit) : EB := .cond (.t 24) (hid b_RSettle_20) .skip
@[simp] def b_RSettle_22 (_ : Unit) : EB := .seq (hid b_RSettle_17) (hid b_RSettle_21)
@[simp] def b_RSettle_23 (_ : Unit) : EB := .cond (.t 20) (hid b_RSettle_14) (hid b_RSettle_22)
@[simp] def b_RSettle_24 (_ : Unit) : EB := .seq (hid b_RSettle_11) (hid b_RSettle_23)
@[simp] def b_RSettle_25 (_ : Unit) : EB := .cond (.t 15) (hid b_RSettle_9) (hid b_RSettle_24)
@[simp] def b_RSettle_26 (_ : Unit) : EB := .seq (hid b_RSettle_6) (hid b_RSettle_25)
@[simp] def b_RSettle_27 (_ : Unit) : EB := .block 0 (hid b_RSettle_26)
@[simp] def l_RSettle_31 (_ : Unit) : List EOp := [⟨18, (some 10), none, (.q (.mov (.t 51))), []⟩]
@[simp] def l_RSettle_30 (_ : Unit) : List EOp := ⟨12, (some 48), none, (.q (.ldc (.t 47))), []⟩ :: ⟨13, (some 49), none, (.call 74 [(.t 42), (.t 48)]), []⟩ :: ⟨14, (some 35), none, (.q (.mov (.t 49))), []⟩ :: ⟨15, (some 50), none, (.q (.ext 0 (.t 35))), []⟩ :: ⟨16, (some 51), none, (.q (.ext 1 (.t 35))), []⟩ :: ⟨17, (some 9), none, (.q (.mov (.t 50))), []⟩ :: hid l_RSettle_31
@[simp] def l_RSettle_29 (_ : Unit) : List EOp := ⟨6, (some 42), none, (.q (.bin .sub (.k (.int .i64 1)) (.t 41))), []⟩ :: ⟨7, (some 43), none, (.q (.fad 3 (.t 3))), []⟩ :: ⟨8, (some 44), none, (.q (.ldc (.t 43))), []⟩ :: ⟨9, (some 45), none, (.q (.mov (.t 8))), []⟩ :: ⟨10, (some 46), none, (.q (.isl 36 (.t 44) (.t 45))), []⟩ :: ⟨11, (some 47), none, (.q (.fad 2 (.t 46))), []⟩ :: hid l_RSettle_30
@[simp] def l_RSettle_28 (_ : Unit) : List EOp := ⟨0, (some 36), none, (.q (.fad 3 (.t 3))), []⟩ :: ⟨1, (some 37), none, (.q (.ldc (.t 36))), []⟩ :: ⟨2, (some 38), none, (.q (.mov (.t 8))), []⟩ :: ⟨3, (some 39), none, (.q (.isl 36 (.t 37) (.t 38))), []⟩ :: ⟨4, (some 40), none, (.q (.fad 1 (.t 39))), []⟩ :: ⟨5, (some 41), none, (.q (.ldc (.t 40))), []⟩ :: hid l_RSettle_29
@[simp] def b_RSettle_32 (_ : Unit) : EB := reg0 (hid l_RSettle_28) 19
@[simp] def l_RSettle_34 (_ : Unit) : List EOp := [⟨7, (some 59), none, (.q (.fad 4 (.t 3))), []⟩, ⟨8, (some 60), none, (.q (.ldc (.t 59))), []⟩, ⟨6, (some 58), none, (.call 76 [(.t 56), (.t 57)]), [0, 1, 2, 7, 8]⟩, ⟨9, (some 61), none, (.call 72 [(.t 52), (.t 53), (.t 54), (.t 58), (.t 60)]), []⟩, ⟨10, none, none, (.fz (.sto 5 (.t 6) (.t 61))), []⟩, ⟨11, (some 7), none, (.q (.mov (.k (.int .i64 0)))), []⟩]
@[simp] def l_RSettle_33 (_ : Unit) : List EOp := ⟨0, (some 52), none, (.q (.lda 5 (.t 3))), []⟩ :: ⟨1, (some 53), none, (.q (.mov (.t 9))), []⟩ :: ⟨2, (some 54), none, (.q (.mov (.t 10))), []⟩ :: ⟨3, (some 55), none, (.q (.fad 3 (.t 3))), []⟩ :: ⟨4, (some 56), none, (.q (.ldc (.t 55))), []⟩ :: ⟨5, (some 57), none, (.q (.mov (.t 8))), []⟩ :: hid l_RSettle_34
@[simp] def b_RSettle_35 (_ : Unit) : EB := reg1 (hid l_RSettle_33) 12
@[simp] def b_RSettle_36 (_ : Unit) : EB := .seq (hid b_RSettle_35) .ret
@[simp] def b_RSettle_37 (_ : Unit) : EB := .seq (hid b_RSettle_32) (hid b_RSettle_36)
@[simp] def b_RSettle_38 (_ : Unit) : EB := .seq (hid b_RSettle_27) (hid b_RSettle_37)
@[simp] def b_RSettle_39 (_ : Unit) : EB := .seq (hid b_RSettle_4) (hid b_RSettle_38)
@[simp] def b_RSettle_40 (_ : Unit) : EB := .seq (hid b_RSettle_2) (hid b_RSettle_39)
def c_RSettle : EB × List QOp × Nat := ((hid b_RSettle_40), [(.lda 5 (.t 6)), (.mov (.t 7))], 62)
theorem k_RSettle : cfun Tryz.prog 32 = some c_RSettle := by kernel_rfl


set_option maxHeartbeats 4000000 in
theorem RSettle_ok (s : Sta) (x : Int) (b : List UInt8) (hs : s.ok) (hx64 : i64 x) (hbl : b.length ≤ 100000000) : ECalls Tryz.prog 32 [SV s, I .i64 x, Bs b] [] fun y H' => H' = [] ∧ y = RE (setS s x b) := by
  obtain ⟨ok1, ok2, ok3, ok4, ok5, ok6, ok7⟩ := id hs
  have hsl := sumS_len b
  refine ecalls k_RSettle ?_
  simp [c_RSettle, SV, staC, I, Bs, -errV_0]
  refine call0 (RpayAt_ok s.pays x ok4 ok6) (by simp [PL, I]) ?_
  rintro y H' ⟨rfl, r, hr, rfl⟩
  refine ⟨.inl (by simp), le_ok rfl, ?_⟩
  simp [I, -errV_0]
  refine call0 (Rright_ok s hs) (by simp [SV, staC]) ?_
  rintro y H' ⟨rfl, rfl⟩
  refine ⟨.inl (by simp), le_ok rfl, ?_⟩
  by_cases h0 : mayS s = true ∧ s.num ≠ 1099511627776
  rotate_left
  · have hx : nxt s = (zSta, 1) := by simp only [nxt, if_neg h0]
    have ht : takS s x = (zSta, zPay, 1) := by simp [takS, hx]
    have ha : setS s x b = (zSta, 1) := by simp [setS, ht]
    rw [ha, decide_eq_false h0]
    simp [RE, staC, zSta]
    refine finW _ (weak_nlB (o := 16) (k := 3) 36 rfl rfl) (finW _ (weak_nlB (o := 16) (k := 4) 3 rfl rfl) ?_)
    exact fin [] (by decide) rfl rfl rfl ⟨rfl, rfl⟩
  rw [decide_eq_true h0]
  have hx : nxt s = (⟨s.num + 1, s.h0, s.h1, s.pays, s.holds⟩, 0) := by simp only [nxt, if_pos h0]
  obtain ⟨hr', hpl', hhl, htot⟩ := mayS_t h0.1
  have hpw := payL_pw hpl'
  rcases FI_pos hpw hr with ⟨hf, rfl⟩ | ⟨hf, rfl⟩
  · have ht : takS s x = (zSta, zPay, 8) := by simp only [takS, hx]; rw [if_neg (by simp), if_pos hf]
    have ha : setS s x b = (zSta, 8) := by simp [setS, ht]
    rw [ha]
    simp [RE, staC, zSta]
    refine finW _ (weak_nlB (o := 16) (k := 3) 36 rfl rfl) (finW _ (weak_nlB (o := 16) (k := 4) 3 rfl rfl) ?_)
    exact fin [] (by decide) rfl rfl rfl ⟨rfl, rfl⟩
  obtain ⟨p, hc, hid⟩ := fnd_get (f := Pay.id) hf
  have hc' : s.pays[posI (s.pays.map (·.id)) x]? = some p := hc
  have ht : takS s x = (⟨s.num + 1, s.h0, s.h1, delP s.pays x, s.holds⟩, p, 0) := by
    simp only [takS, hx]; rw [if_neg (by simp), if_neg (by rw [hf]; simp), hc']; rfl
  have hfr : setS s x b = if sumS b ≠ p.lock then (zSta, 22) else (⟨s.num + 1, if p.fr = 0 then s.h0 else s.h0 + p.am, if p.fr = 0 then s.h1 + p.am else s.h1, delP s.pays x, s.holds⟩, 0) := by
    simp only [setS, ht]; rw [if_neg (by simp)]
  have hpv0 := payv_del s.pays x
  have hpl1 : (delP s.pays x).length = s.pays.length - 1 := by rw [delP_eq]; exact len_del (f := Pay.id) hc
  have hmem := List.mem_of_getElem? hc
  obtain ⟨pos, hpos⟩ : ∃ pos, posI (s.pays.map (·.id)) x = pos := ⟨_, rfl⟩
  rw [hpos] at hc' hpv0 ⊢
  have hlt : pos < s.pays.length := lt_len hc'
  have hge : (payv s.pays)[pos]'(by simp [hlt]) = payF p := by
    have e := payv_get hc'
    rw [List.getElem?_eq_getElem (by simp [hlt])] at e
    exact Option.some.inj e
  have hpo := ok4 p hmem
  have hfl := payF_len hpo.2.2.2.2
  have hle := payL_sum hpl' p hmem
  have hma := mayP_pos (payL_mem hpl' p hmem)
  obtain ⟨m1, m2, m3, m4, m5, m6, m7, m8⟩ := of_decide_eq_true (payL_mem hpl' p hmem)
  have hnn := sumH_nn hhl
  have hto : total s = s.h0 + s.h1 + sumP s.pays + sumH s.holds := rfl
  have hlk : p.lock.length = 32 := hpo.2.2.2.2
  rw [hfr]
  have hn0 : ¬ ((pos : Int) < 0) := by omega
  have hplk : (payC p).length = 36 := payC_len hlk
  simp [hn0, hlt, hge, hfl, payF, -errV_0]
  refine ⟨by omega, ?_⟩
  refine call0 (RSum_ok b hbl) (by simp [Bs]) ?_
  rintro y H' ⟨rfl, rfl⟩
  refine ⟨.inl (by simp), le_ok rfl, ?_⟩
  have hcn : Go.EW.hc [] = [] := rfl
  have hq : (List.map (fun b : UInt8 => (b.toNat : Int)) (sumS b) = List.map (fun b : UInt8 => (b.toNat : Int)) p.lock) ↔ sumS b = p.lock := ⟨hc_inj, fun e => by rw [e]⟩
  have hlt32 : List.take 32 p.lock = p.lock := List.take_of_length_le (by omega)
  by_cases he : sumS b = p.lock
  rotate_left
  · simp [hsl, hlk, hlt32, hcn, hq, he, RE, staC, zSta, -errV_0]
    refine finW _ (weak_nlB (o := 16) (k := 3) 36 rfl rfl) (finW _ (weak_nlB (o := 16) (k := 4) 3 rfl rfl) ?_)
    exact fin [] (by decide) rfl rfl rfl ⟨rfl, rfl⟩
  simp [hsl, hlk, hlt32, hcn, hq, he, hlt, hge, hfl, payF, -errV_0]
  obtain ⟨A, hA⟩ : ∃ A : Int, (if (1 - p.fr) = 0 then p.am else 0) = A := ⟨_, rfl⟩
  obtain ⟨B, hB⟩ : ∃ B : Int, (if (1 - p.fr) = 0 then 0 else p.am) = B := ⟨_, rfl⟩
  have hAB : 0 ≤ A ∧ 0 ≤ B ∧ A + B = p.am := by rw [← hA, ← hB]; split <;> omega
  have w1 : IntKind.i64.wrap (1 - p.fr) = 1 - p.fr := wrap_i64 (by omega) (by omega)
  have w2 : IntKind.i64.wrap (s.h0 + A) = s.h0 + A := wrap_i64 (by omega) (by omega)
  have w4 : IntKind.i64.wrap (s.h1 + B) = s.h1 + B := wrap_i64 (by omega) (by omega)
  have w5 : IntKind.i64.wrap (s.num + 1) = s.num + 1 := wrap_i64 (by omega) (by omega)
  rw [w1]
  refine call0 (Rto_ok (1 - p.fr) p.am) (by simp [I]) ?_
  rintro y H' ⟨rfl, rfl⟩
  refine ⟨.inl (by simp), le_ok rfl, ?_⟩
  rw [hA, hB]
  simp [-errV_0]
  have hd := Rdrop_ok s.pays pos hlt ok6
  rw [← hpv0, ← hpl1] at hd
  refine call0 hd (by simp [PL, I]) ?_
  rintro y H' ⟨rfl, rfl⟩
  refine ⟨.inl (by simp), by simp, ?_⟩
  simp [-errV_0]
  obtain ⟨L, hL⟩ : ∃ L, delP s.pays x = L := ⟨_, rfl⟩
  rw [hL]
  refine callH [800] (RwithP_ok s A B w5 w2 w4 L s.holds) (by simp [SV, staC, HL, I]) (by simp) (by simp) (by simp) (by simp) ?_
  rintro y H' ⟨rfl, rfl⟩
  refine ⟨.inl (by simp), by simp, ?_⟩
  simp [-errV_0]
  refine finW _ (weak_frz (o := 800) (ty := 30) (es := 36) (xs := payv L) rfl) ?_
  refine fin [] (by decide) rfl rfl rfl ⟨rfl, ?_⟩
  have e1 : (if p.fr = 0 then s.h0 else s.h0 + p.am) = s.h0 + A := by rw [← hA]; rcases m3 with e | e <;> simp [e]
  have e2 : (if p.fr = 0 then s.h1 + p.am else s.h1) = s.h1 + B := by rw [← hB]; rcases m3 with e | e <;> simp [e]
  rw [e1, e2]
  simp [RE, staC, List.take_of_length_le, -errV_0]

end Go.Proofs.YtpilpjameifcfaaGreatDoor
