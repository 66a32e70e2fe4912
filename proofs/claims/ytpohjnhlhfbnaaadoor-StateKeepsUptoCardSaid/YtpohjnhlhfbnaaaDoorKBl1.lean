import Derived.Test.YtpohjnhlhfbnaaaDoorProg
import Derived.Test.YtpohjnhlhfbnaaaDoorKEwX
namespace Go.Proofs.YtpohjnhlhfbnaaaDoor
open Go Go.EW
set_option linter.unusedSimpArgs false
set_option linter.unusedVariables false

@[simp] def l_Rot_1 (_ : Unit) : List EOp := [⟨0, (some 4), none, (.q (.mov (.k (.int .u32 0)))), []⟩]
@[simp] def b_Rot_2 (_ : Unit) : EB := reg0 (hid l_Rot_1) 1
@[simp] def l_Rot_3 (_ : Unit) : List EOp := [⟨0, (some 6), none, (.q (.mov (.t 1))), []⟩, ⟨1, (some 7), none, (.q (.cnv .u64 (.t 6))), []⟩, ⟨2, (some 8), none, (.q (.bin .and (.t 7) (.k (.int .u64 31)))), []⟩, ⟨3, (some 5), none, (.q (.mov (.t 8))), []⟩]
@[simp] def b_Rot_4 (_ : Unit) : EB := reg0 (hid l_Rot_3) 4
@[simp] def l_Rot_6 (_ : Unit) : List EOp := [⟨6, (some 15), none, (.q (.bin .shr (.t 12) (.t 14))), []⟩, ⟨7, (some 16), none, (.q (.bin .or (.t 11) (.t 15))), []⟩, ⟨8, (some 4), none, (.q (.mov (.t 16))), []⟩]
@[simp] def l_Rot_5 (_ : Unit) : List EOp := ⟨0, (some 9), none, (.q (.mov (.t 0))), []⟩ :: ⟨1, (some 10), none, (.q (.mov (.t 5))), []⟩ :: ⟨2, (some 11), none, (.q (.bin .shl (.t 9) (.t 10))), []⟩ :: ⟨3, (some 12), none, (.q (.mov (.t 0))), []⟩ :: ⟨4, (some 13), none, (.q (.mov (.t 5))), []⟩ :: ⟨5, (some 14), none, (.q (.bin .sub (.k (.int .u64 32)) (.t 13))), []⟩ :: hid l_Rot_6
@[simp] def b_Rot_7 (_ : Unit) : EB := reg0 (hid l_Rot_5) 9
@[simp] def b_Rot_8 (_ : Unit) : EB := .seq (hid b_Rot_7) .ret
@[simp] def b_Rot_9 (_ : Unit) : EB := .seq (hid b_Rot_4) (hid b_Rot_8)
@[simp] def b_Rot_10 (_ : Unit) : EB := .seq (hid b_Rot_2) (hid b_Rot_9)
def c_Rot : EB × List QOp × Nat := ((hid b_Rot_10), [(.mov (.t 4))], 17)
theorem k_Rot : cfun Tryd.prog 129 = some c_Rot := by kernel_rfl

@[simp] def l_mix_3 (_ : Unit) : List EOp := [⟨12, (some 26), none, (.q (.bin .add (.t 18) (.t 25))), []⟩, ⟨13, (some 27), none, (.q (.nilc (.t 14))), []⟩, ⟨14, (some 28), none, (.q (.iad 16 1 (.t 27) (.t 15))), []⟩, ⟨15, none, none, (.sto 1 (.t 28) (.t 26)), []⟩]
@[simp] def l_mix_2 (_ : Unit) : List EOp := ⟨6, (some 20), none, (.q (.mov (.t 2))), []⟩ :: ⟨7, (some 21), none, (.q (.nilc (.t 19))), []⟩ :: ⟨8, (some 22), none, (.q (.iad 16 1 (.t 21) (.t 20))), []⟩ :: ⟨9, (some 23), none, (.q (.ldc (.t 22))), []⟩ :: ⟨10, (some 24), none, (.q (.mov (.t 5))), []⟩ :: ⟨11, (some 25), none, (.q (.bin .add (.t 23) (.t 24))), []⟩ :: hid l_mix_3
@[simp] def l_mix_1 (_ : Unit) : List EOp := ⟨0, (some 14), none, (.q (.mov (.t 0))), []⟩ :: ⟨1, (some 15), none, (.q (.mov (.t 1))), []⟩ :: ⟨2, (some 16), none, (.q (.nilc (.t 14))), []⟩ :: ⟨3, (some 17), none, (.q (.iad 16 1 (.t 16) (.t 15))), []⟩ :: ⟨4, (some 18), none, (.q (.ldc (.t 17))), []⟩ :: ⟨5, (some 19), none, (.q (.mov (.t 0))), []⟩ :: hid l_mix_2
@[simp] def b_mix_4 (_ : Unit) : EB := reg0 (hid l_mix_1) 16
@[simp] def l_mix_7 (_ : Unit) : List EOp := [⟨12, (some 41), none, (.q (.bin .xor (.t 35) (.t 40))), []⟩, ⟨14, (some 43), none, (.q (.nilc (.t 29))), []⟩, ⟨13, (some 42), none, (.call 129 [(.t 41), (.k (.int .i64 (-16)))]), [0, 1, 14]⟩, ⟨15, (some 44), none, (.q (.iad 16 1 (.t 43) (.t 30))), []⟩, ⟨16, none, none, (.sto 1 (.t 44) (.t 42)), []⟩]
@[simp] def l_mix_6 (_ : Unit) : List EOp := ⟨6, (some 35), none, (.q (.ldc (.t 34))), []⟩ :: ⟨7, (some 36), none, (.q (.mov (.t 0))), []⟩ :: ⟨8, (some 37), none, (.q (.mov (.t 1))), []⟩ :: ⟨9, (some 38), none, (.q (.nilc (.t 36))), []⟩ :: ⟨10, (some 39), none, (.q (.iad 16 1 (.t 38) (.t 37))), []⟩ :: ⟨11, (some 40), none, (.q (.ldc (.t 39))), []⟩ :: hid l_mix_7
@[simp] def l_mix_5 (_ : Unit) : List EOp := ⟨0, (some 29), none, (.q (.mov (.t 0))), []⟩ :: ⟨1, (some 30), none, (.q (.mov (.t 4))), []⟩ :: ⟨2, (some 31), none, (.q (.mov (.t 0))), []⟩ :: ⟨3, (some 32), none, (.q (.mov (.t 4))), []⟩ :: ⟨4, (some 33), none, (.q (.nilc (.t 31))), []⟩ :: ⟨5, (some 34), none, (.q (.iad 16 1 (.t 33) (.t 32))), []⟩ :: hid l_mix_6
@[simp] def b_mix_8 (_ : Unit) : EB := reg1 (hid l_mix_5) 17
@[simp] def l_mix_11 (_ : Unit) : List EOp := [⟨12, (some 57), none, (.q (.iad 16 1 (.t 56) (.t 46))), []⟩, ⟨13, none, none, (.sto 1 (.t 57) (.t 55)), []⟩]
@[simp] def l_mix_10 (_ : Unit) : List EOp := ⟨6, (some 51), none, (.q (.mov (.t 4))), []⟩ :: ⟨7, (some 52), none, (.q (.nilc (.t 50))), []⟩ :: ⟨8, (some 53), none, (.q (.iad 16 1 (.t 52) (.t 51))), []⟩ :: ⟨9, (some 54), none, (.q (.ldc (.t 53))), []⟩ :: ⟨10, (some 55), none, (.q (.bin .add (.t 49) (.t 54))), []⟩ :: ⟨11, (some 56), none, (.q (.nilc (.t 45))), []⟩ :: hid l_mix_11
@[simp] def l_mix_9 (_ : Unit) : List EOp := ⟨0, (some 45), none, (.q (.mov (.t 0))), []⟩ :: ⟨1, (some 46), none, (.q (.mov (.t 3))), []⟩ :: ⟨2, (some 47), none, (.q (.nilc (.t 45))), []⟩ :: ⟨3, (some 48), none, (.q (.iad 16 1 (.t 47) (.t 46))), []⟩ :: ⟨4, (some 49), none, (.q (.ldc (.t 48))), []⟩ :: ⟨5, (some 50), none, (.q (.mov (.t 0))), []⟩ :: hid l_mix_10
@[simp] def b_mix_12 (_ : Unit) : EB := reg0 (hid l_mix_9) 14
@[simp] def l_mix_15 (_ : Unit) : List EOp := [⟨12, (some 70), none, (.q (.bin .xor (.t 64) (.t 69))), []⟩, ⟨14, (some 72), none, (.q (.nilc (.t 58))), []⟩, ⟨13, (some 71), none, (.call 129 [(.t 70), (.k (.int .i64 (-12)))]), [0, 1, 14]⟩, ⟨15, (some 73), none, (.q (.iad 16 1 (.t 72) (.t 59))), []⟩, ⟨16, none, none, (.sto 1 (.t 73) (.t 71)), []⟩]
@[simp] def l_mix_14 (_ : Unit) : List EOp := ⟨6, (some 64), none, (.q (.ldc (.t 63))), []⟩ :: ⟨7, (some 65), none, (.q (.mov (.t 0))), []⟩ :: ⟨8, (some 66), none, (.q (.mov (.t 3))), []⟩ :: ⟨9, (some 67), none, (.q (.nilc (.t 65))), []⟩ :: ⟨10, (some 68), none, (.q (.iad 16 1 (.t 67) (.t 66))), []⟩ :: ⟨11, (some 69), none, (.q (.ldc (.t 68))), []⟩ :: hid l_mix_15
@[simp] def l_mix_13 (_ : Unit) : List EOp := ⟨0, (some 58), none, (.q (.mov (.t 0))), []⟩ :: ⟨1, (some 59), none, (.q (.mov (.t 2))), []⟩ :: ⟨2, (some 60), none, (.q (.mov (.t 0))), []⟩ :: ⟨3, (some 61), none, (.q (.mov (.t 2))), []⟩ :: ⟨4, (some 62), none, (.q (.nilc (.t 60))), []⟩ :: ⟨5, (some 63), none, (.q (.iad 16 1 (.t 62) (.t 61))), []⟩ :: hid l_mix_14
@[simp] def b_mix_16 (_ : Unit) : EB := reg1 (hid l_mix_13) 17
@[simp] def l_mix_19 (_ : Unit) : List EOp := [⟨12, (some 86), none, (.q (.bin .add (.t 78) (.t 85))), []⟩, ⟨13, (some 87), none, (.q (.nilc (.t 74))), []⟩, ⟨14, (some 88), none, (.q (.iad 16 1 (.t 87) (.t 75))), []⟩, ⟨15, none, none, (.sto 1 (.t 88) (.t 86)), []⟩]
@[simp] def l_mix_18 (_ : Unit) : List EOp := ⟨6, (some 80), none, (.q (.mov (.t 2))), []⟩ :: ⟨7, (some 81), none, (.q (.nilc (.t 79))), []⟩ :: ⟨8, (some 82), none, (.q (.iad 16 1 (.t 81) (.t 80))), []⟩ :: ⟨9, (some 83), none, (.q (.ldc (.t 82))), []⟩ :: ⟨10, (some 84), none, (.q (.mov (.t 6))), []⟩ :: ⟨11, (some 85), none, (.q (.bin .add (.t 83) (.t 84))), []⟩ :: hid l_mix_19
@[simp] def l_mix_17 (_ : Unit) : List EOp := ⟨0, (some 74), none, (.q (.mov (.t 0))), []⟩ :: ⟨1, (some 75), none, (.q (.mov (.t 1))), []⟩ :: ⟨2, (some 76), none, (.q (.nilc (.t 74))), []⟩ :: ⟨3, (some 77), none, (.q (.iad 16 1 (.t 76) (.t 75))), []⟩ :: ⟨4, (some 78), none, (.q (.ldc (.t 77))), []⟩ :: ⟨5, (some 79), none, (.q (.mov (.t 0))), []⟩ :: hid l_mix_18
@[simp] def b_mix_20 (_ : Unit) : EB := reg0 (hid l_mix_17) 16
@[simp] def l_mix_23 (_ : Unit) : List EOp := [⟨12, (some 101), none, (.q (.bin .xor (.t 95) (.t 100))), []⟩, ⟨14, (some 103), none, (.q (.nilc (.t 89))), []⟩, ⟨13, (some 102), none, (.call 129 [(.t 101), (.k (.int .i64 (-8)))]), [0, 1, 14]⟩, ⟨15, (some 104), none, (.q (.iad 16 1 (.t 103) (.t 90))), []⟩, ⟨16, none, none, (.sto 1 (.t 104) (.t 102)), []⟩]
@[simp] def l_mix_22 (_ : Unit) : List EOp := ⟨6, (some 95), none, (.q (.ldc (.t 94))), []⟩ :: ⟨7, (some 96), none, (.q (.mov (.t 0))), []⟩ :: ⟨8, (some 97), none, (.q (.mov (.t 1))), []⟩ :: ⟨9, (some 98), none, (.q (.nilc (.t 96))), []⟩ :: ⟨10, (some 99), none, (.q (.iad 16 1 (.t 98) (.t 97))), []⟩ :: ⟨11, (some 100), none, (.q (.ldc (.t 99))), []⟩ :: hid l_mix_23
@[simp] def l_mix_21 (_ : Unit) : List EOp := ⟨0, (some 89), none, (.q (.mov (.t 0))), []⟩ :: ⟨1, (some 90), none, (.q (.mov (.t 4))), []⟩ :: ⟨2, (some 91), none, (.q (.mov (.t 0))), []⟩ :: ⟨3, (some 92), none, (.q (.mov (.t 4))), []⟩ :: ⟨4, (some 93), none, (.q (.nilc (.t 91))), []⟩ :: ⟨5, (some 94), none, (.q (.iad 16 1 (.t 93) (.t 92))), []⟩ :: hid l_mix_22
@[simp] def b_mix_24 (_ : Unit) : EB := reg1 (hid l_mix_21) 17
@[simp] def l_mix_27 (_ : Unit) : List EOp := [⟨12, (some 117), none, (.q (.iad 16 1 (.t 116) (.t 106))), []⟩, ⟨13, none, none, (.sto 1 (.t 117) (.t 115)), []⟩]
@[simp] def l_mix_26 (_ : Unit) : List EOp := ⟨6, (some 111), none, (.q (.mov (.t 4))), []⟩ :: ⟨7, (some 112), none, (.q (.nilc (.t 110))), []⟩ :: ⟨8, (some 113), none, (.q (.iad 16 1 (.t 112) (.t 111))), []⟩ :: ⟨9, (some 114), none, (.q (.ldc (.t 113))), []⟩ :: ⟨10, (some 115), none, (.q (.bin .add (.t 109) (.t 114))), []⟩ :: ⟨11, (some 116), none, (.q (.nilc (.t 105))), []⟩ :: hid l_mix_27
@[simp] def l_mix_25 (_ : Unit) : List EOp := ⟨0, (some 105), none, (.q (.mov (.t 0))), []⟩ :: ⟨1, (some 106), none, (.q (.mov (.t 3))), []⟩ :: ⟨2, (some 107), none, (.q (.nilc (.t 105))), []⟩ :: ⟨3, (some 108), none, (.q (.iad 16 1 (.t 107) (.t 106))), []⟩ :: ⟨4, (some 109), none, (.q (.ldc (.t 108))), []⟩ :: ⟨5, (some 110), none, (.q (.mov (.t 0))), []⟩ :: hid l_mix_26
@[simp] def b_mix_28 (_ : Unit) : EB := reg0 (hid l_mix_25) 14
@[simp] def l_mix_31 (_ : Unit) : List EOp := [⟨12, (some 130), none, (.q (.bin .xor (.t 124) (.t 129))), []⟩, ⟨14, (some 132), none, (.q (.nilc (.t 118))), []⟩, ⟨13, (some 131), none, (.call 129 [(.t 130), (.k (.int .i64 (-7)))]), [0, 1, 14]⟩, ⟨15, (some 133), none, (.q (.iad 16 1 (.t 132) (.t 119))), []⟩, ⟨16, none, none, (.sto 1 (.t 133) (.t 131)), []⟩]
@[simp] def l_mix_30 (_ : Unit) : List EOp := ⟨6, (some 124), none, (.q (.ldc (.t 123))), []⟩ :: ⟨7, (some 125), none, (.q (.mov (.t 0))), []⟩ :: ⟨8, (some 126), none, (.q (.mov (.t 3))), []⟩ :: ⟨9, (some 127), none, (.q (.nilc (.t 125))), []⟩ :: ⟨10, (some 128), none, (.q (.iad 16 1 (.t 127) (.t 126))), []⟩ :: ⟨11, (some 129), none, (.q (.ldc (.t 128))), []⟩ :: hid l_mix_31
@[simp] def l_mix_29 (_ : Unit) : List EOp := ⟨0, (some 118), none, (.q (.mov (.t 0))), []⟩ :: ⟨1, (some 119), none, (.q (.mov (.t 2))), []⟩ :: ⟨2, (some 120), none, (.q (.mov (.t 0))), []⟩ :: ⟨3, (some 121), none, (.q (.mov (.t 2))), []⟩ :: ⟨4, (some 122), none, (.q (.nilc (.t 120))), []⟩ :: ⟨5, (some 123), none, (.q (.iad 16 1 (.t 122) (.t 121))), []⟩ :: hid l_mix_30
@[simp] def b_mix_32 (_ : Unit) : EB := reg1 (hid l_mix_29) 17
@[simp] def b_mix_33 (_ : Unit) : EB := .seq (hid b_mix_28) (hid b_mix_32)
@[simp] def b_mix_34 (_ : Unit) : EB := .seq (hid b_mix_24) (hid b_mix_33)
@[simp] def b_mix_35 (_ : Unit) : EB := .seq (hid b_mix_20) (hid b_mix_34)
@[simp] def b_mix_36 (_ : Unit) : EB := .seq (hid b_mix_16) (hid b_mix_35)
@[simp] def b_mix_37 (_ : Unit) : EB := .seq (hid b_mix_12) (hid b_mix_36)
@[simp] def b_mix_38 (_ : Unit) : EB := .seq (hid b_mix_8) (hid b_mix_37)
@[simp] def b_mix_39 (_ : Unit) : EB := .seq (hid b_mix_4) (hid b_mix_38)
def c_mix : EB × List QOp × Nat := ((hid b_mix_39), [], 134)
theorem k_mix : cfun Tryd.prog 124 = some c_mix := by kernel_rfl

@[simp] def l_first_1 (_ : Unit) : List EOp := [⟨0, (some 0), none, (.q (.alloc 150 [(.int .u32 0), (.int .u32 0), (.int .u32 0), (.int .u32 0), (.int .u32 0), (.int .u32 0), (.int .u32 0), (.int .u32 0)])), []⟩]
@[simp] def b_first_2 (_ : Unit) : EB := reg0 (hid l_first_1) 1
@[simp] def l_first_3 (_ : Unit) : List EOp := [⟨0, (some 1), none, (.q (.build [(.int .u32 0), (.int .u32 0), (.int .u32 0), (.int .u32 0), (.int .u32 0), (.int .u32 0), (.int .u32 0), (.int .u32 0)] [(0, 1, (.k (.int .u32 1779033703))), (1, 1, (.k (.int .u32 3144134277))), (2, 1, (.k (.int .u32 1013904242))), (3, 1, (.k (.int .u32 2773480762))), (4, 1, (.k (.int .u32 1359893119))), (5, 1, (.k (.int .u32 2600822924))), (6, 1, (.k (.int .u32 528734635))), (7, 1, (.k (.int .u32 1541459225)))])), []⟩, ⟨1, none, none, (.sto 8 (.t 0) (.t 1)), []⟩]
@[simp] def b_first_4 (_ : Unit) : EB := reg0 (hid l_first_3) 2
@[simp] def b_first_5 (_ : Unit) : EB := .seq (hid b_first_4) .ret
@[simp] def b_first_6 (_ : Unit) : EB := .seq (hid b_first_2) (hid b_first_5)
def c_first : EB × List QOp × Nat := ((hid b_first_6), [(.lda 8 (.t 0))], 2)
theorem k_first : cfun Tryd.prog 99 = some c_first := by kernel_rfl


/-! ### words -/
/-- A word as the program has it. -/
def wi (x : UInt32) : Int := (x.toNat : Int)
def wc (x : UInt32) : EC := .fz (.lit (.int .u32 (wi x)))
def wl (l : List UInt32) : List EC := l.map wc
def WV (x : UInt32) : EV := .lit (.int .u32 (wi x))
def NV (n : Int) : EV := .lit (.int .i64 n)
@[simp] theorem wl_len (l : List UInt32) : (wl l).length = l.length := by simp [wl]
theorem wl_get {l : List UInt32} {i : Nat} {x : UInt32} (h : l[i]? = some x) : (wl l)[i]? = some (wc x) := by simp [wl, h]
theorem wl_set (l : List UInt32) (i : Nat) (x : UInt32) : (wl l).set i (.fz (.lit (.int .u32 (wi x)))) = wl (l.set i x) := by simp [wl, List.map_set, wc]
@[simp] theorem conAll_wl (H : Nat → Option EO) (ids : List Nat) (l : List UInt32) : conAll H ids (wl l) = some (wl l) := by
  induction l with
  | nil => rfl
  | cons b t ih =>
    have e : wl (b :: t) = .fz (.lit (.int .u32 (wi b))) :: wl t := rfl
    rw [e]
    simp only [conAll, ih]
    simp
@[simp] theorem strAll_wl (ids : List Nat) (l : List UInt32) : strAll ids (wl l) = some (wl l) := by
  induction l with
  | nil => rfl
  | cons b r ih => simp only [wl, List.map_cons, strAll] at *; rw [ih]; rfl
@[simp] theorem refs_wl (l : List UInt32) : (wl l).flatMap refsC = [] := by
  induction l with
  | nil => rfl
  | cons b r ih => simp only [wl, List.map_cons, List.flatMap_cons] at *; rw [ih]; rfl
@[simp] theorem fz_wl (ids : List Nat) (l : List UInt32) : (wl l).flatMap (fzC ids) = [] := by
  induction l with
  | nil => rfl
  | cons b r ih => simp only [wl, List.map_cons, List.flatMap_cons] at *; rw [ih]; rfl
@[simp] theorem ren_wl (g : Nat → Nat) (l : List UInt32) : (wl l).map (renC g) = wl l := by
  induction l with
  | nil => rfl
  | cons b r ih => simp only [wl, List.map_cons] at *; rw [ih]; rfl
def shl (x : UInt32) (k : Nat) : UInt32 := UInt32.ofNat (x.toNat * 2 ^ k)
def shr (x : UInt32) (k : Nat) : UInt32 := UInt32.ofNat (x.toNat / 2 ^ k)
def rotr (x : UInt32) (k : Nat) : UInt32 := shl x (32 - k) ||| shr x k
theorem u32_mod (n : Int) : IntKind.u32.wrap n = n % 4294967296 := by simp [IntKind.wrap, IntKind.bits, IntKind.signed]
theorem wi_ofNat (n : Nat) : wi (UInt32.ofNat n) = (n : Int) % 4294967296 := by
  unfold wi
  rw [UInt32.toNat_ofNat']
  omega
theorem wi_b (x : UInt32) : 0 ≤ wi x ∧ wi x < 4294967296 := by
  unfold wi
  have := x.toNat_lt
  simp at *
  omega
theorem wi_add (x y : UInt32) : IntKind.u32.wrap (wi x + wi y) = wi (x + y) := by
  rw [u32_mod]
  unfold wi
  rw [UInt32.toNat_add]
  omega
theorem wi_of (x : UInt32) : BitVec.ofInt IntKind.u32.bits (wi x) = x.toBitVec := by
  unfold wi
  simp [IntKind.bits]
theorem wrap_wi (x : UInt32) : IntKind.u32.wrap (wi x) = wi x := by
  have := wi_b x
  rw [u32_mod]; omega
theorem wi_xor (x y : UInt32) : ibit .xor .u32 (wi x) (wi y) = wi (x ^^^ y) := by
  have h3 : (BitVec.ofInt IntKind.u32.bits (wi x) ^^^ BitVec.ofInt IntKind.u32.bits (wi y)).toNat = (x ^^^ y).toNat := by
    rw [wi_of, wi_of]; rfl
  refine (congrArg (fun n : Nat => IntKind.u32.wrap (n : Int)) h3).trans ?_
  exact wrap_wi (x ^^^ y)
theorem wi_or (x y : UInt32) : ibit .or .u32 (wi x) (wi y) = wi (x ||| y) := by
  have h3 : (BitVec.ofInt IntKind.u32.bits (wi x) ||| BitVec.ofInt IntKind.u32.bits (wi y)).toNat = (x ||| y).toNat := by
    rw [wi_of, wi_of]; rfl
  refine (congrArg (fun n : Nat => IntKind.u32.wrap (n : Int)) h3).trans ?_
  exact wrap_wi (x ||| y)
theorem wi_shl (x : UInt32) (k : Nat) (h : k ≤ 32) : ishl .u32 (wi x) (k : Int) = wi (shl x k) := by
  unfold ishl shl
  rw [wi_ofNat, u32_mod, show min (k : Int).toNat IntKind.u32.bits = k by simp [IntKind.bits]; omega]
  unfold wi
  simp
theorem wi_shr (x : UInt32) (k : Nat) (h : k ≤ 32) : ishr .u32 (wi x) (k : Int) = wi (shr x k) := by
  have e : ishr .u32 (wi x) (k : Int) = ((x.toNat / 2 ^ k : Nat) : Int) := ishr_nat .u32 x.toNat k h
  rw [e]
  unfold shr
  rw [wi_ofNat]
  have h1 : x.toNat / 2 ^ k ≤ x.toNat := Nat.div_le_self _ _
  have h2 := x.toNat_lt
  generalize x.toNat / 2 ^ k = q at *
  omega

theorem Rot16_ok (x : UInt32) : ECalls Tryd.prog 129 [WV x, NV (-16)] [] fun y H' => H' = [] ∧ y = WV (rotr x 16) := by
  have s1 : ishl .u32 (wi x) 16 = wi (shl x 16) := wi_shl x 16 (by omega)
  have r1 : ishr .u32 (wi x) 16 = wi (shr x 16) := wi_shr x 16 (by omega)
  have a1 : IntKind.u64.wrap (-16) = 18446744073709551600 := by decide +kernel
  have a2 : ibit .and .u64 18446744073709551600 31 = 16 := by decide +kernel
  have a3 : IntKind.u64.wrap 16 = 16 := by decide +kernel
  refine ecalls k_Rot ?_
  simp [c_Rot, WV, NV, a1, a2, a3, s1, r1, wi_or]
  exact fin [] (by decide) rfl rfl rfl ⟨rfl, rfl⟩

theorem Rot12_ok (x : UInt32) : ECalls Tryd.prog 129 [WV x, NV (-12)] [] fun y H' => H' = [] ∧ y = WV (rotr x 12) := by
  have s1 : ishl .u32 (wi x) 20 = wi (shl x 20) := wi_shl x 20 (by omega)
  have r1 : ishr .u32 (wi x) 12 = wi (shr x 12) := wi_shr x 12 (by omega)
  have a1 : IntKind.u64.wrap (-12) = 18446744073709551604 := by decide +kernel
  have a2 : ibit .and .u64 18446744073709551604 31 = 20 := by decide +kernel
  have a3 : IntKind.u64.wrap 12 = 12 := by decide +kernel
  refine ecalls k_Rot ?_
  simp [c_Rot, WV, NV, a1, a2, a3, s1, r1, wi_or]
  exact fin [] (by decide) rfl rfl rfl ⟨rfl, rfl⟩

theorem Rot8_ok (x : UInt32) : ECalls Tryd.prog 129 [WV x, NV (-8)] [] fun y H' => H' = [] ∧ y = WV (rotr x 8) := by
  have s1 : ishl .u32 (wi x) 24 = wi (shl x 24) := wi_shl x 24 (by omega)
  have r1 : ishr .u32 (wi x) 8 = wi (shr x 8) := wi_shr x 8 (by omega)
  have a1 : IntKind.u64.wrap (-8) = 18446744073709551608 := by decide +kernel
  have a2 : ibit .and .u64 18446744073709551608 31 = 24 := by decide +kernel
  have a3 : IntKind.u64.wrap 8 = 8 := by decide +kernel
  refine ecalls k_Rot ?_
  simp [c_Rot, WV, NV, a1, a2, a3, s1, r1, wi_or]
  exact fin [] (by decide) rfl rfl rfl ⟨rfl, rfl⟩

theorem Rot7_ok (x : UInt32) : ECalls Tryd.prog 129 [WV x, NV (-7)] [] fun y H' => H' = [] ∧ y = WV (rotr x 7) := by
  have s1 : ishl .u32 (wi x) 25 = wi (shl x 25) := wi_shl x 25 (by omega)
  have r1 : ishr .u32 (wi x) 7 = wi (shr x 7) := wi_shr x 7 (by omega)
  have a1 : IntKind.u64.wrap (-7) = 18446744073709551609 := by decide +kernel
  have a2 : ibit .and .u64 18446744073709551609 31 = 25 := by decide +kernel
  have a3 : IntKind.u64.wrap 7 = 7 := by decide +kernel
  refine ecalls k_Rot ?_
  simp [c_Rot, WV, NV, a1, a2, a3, s1, r1, wi_or]
  exact fin [] (by decide) rfl rfl rfl ⟨rfl, rfl⟩

def firstW : List UInt32 := [0x6a09e667, 0xbb67ae85, 0x3c6ef372, 0xa54ff53a, 0x510e527f, 0x9b05688c, 0x1f83d9ab, 0x5be0cd19]
theorem first_ok : ECalls Tryd.prog 99 [] [] fun y H' => H' = [] ∧ y = .v (.agg (wl firstW)) := by
  refine ecalls k_first ?_
  simp [c_first]
  exact fin [] (by decide) rfl rfl rfl ⟨rfl, rfl⟩

theorem pun_x32 (x : UInt32) : pun .xor (.int .u32 (wi x)) = some (.int .u32 (wi (~~~x))) := by
  have h3 : (BitVec.ofInt IntKind.u32.bits (-1) ^^^ BitVec.ofInt IntKind.u32.bits (wi x)).toNat = (~~~x).toNat := by
    rw [wi_of]
    have k : BitVec.allOnes 32 ^^^ x.toBitVec = ~~~ x.toBitVec := BitVec.allOnes_xor
    exact congrArg BitVec.toNat k
  simp only [pun, Option.some.injEq, Value.int.injEq, true_and]
  refine (congrArg (fun n : Nat => IntKind.u32.wrap (n : Int)) h3).trans ?_
  exact wrap_wi (~~~x)

/-! ### a step on four words -/
def g (v : List UInt32) (i : Nat) : UInt32 := (v[i]?).getD 0
def mixS (v : List UInt32) (a b c d : Nat) (x y : UInt32) : List UInt32 :=
  let v := v.set a (g v a + (g v b + x))
  let v := v.set d (rotr (g v d ^^^ g v a) 16)
  let v := v.set c (g v c + g v d)
  let v := v.set b (rotr (g v b ^^^ g v c) 12)
  let v := v.set a (g v a + (g v b + y))
  let v := v.set d (rotr (g v d ^^^ g v a) 8)
  let v := v.set c (g v c + g v d)
  v.set b (rotr (g v b ^^^ g v c) 7)
def VO (v : List UInt32) : EO := .box 196 (wl v)
theorem wl_put {v : List UInt32} {i : Nat} {x : UInt32} (h : i < v.length) : List.take i (wl v) ++ .fz (.lit (.int .u32 (wi x))) :: List.drop (i + 1) (wl v) = wl (v.set i x) := by
  rw [← wl_set, List.set_eq_take_append_cons_drop, if_pos (by simpa using h)]
theorem wl_g {v : List UInt32} {i : Nat} (h : i < v.length) : (wl v)[i]? = some (.fz (.lit (.int .u32 (wi (g v i))))) := by
  refine wl_get (x := g v i) ?_
  unfold g
  rw [List.getElem?_eq_getElem h]
  rfl
theorem wl_gE {v : List UInt32} {i : Nat} (h : i < v.length) (h2 : i < (wl v).length) : (wl v)[i]'h2 = .fz (.lit (.int .u32 (wi (g v i)))) := by
  have := wl_g h
  rw [List.getElem?_eq_getElem h2] at this
  exact Option.some.inj this

set_option maxRecDepth 8000 in
set_option maxHeartbeats 8000000 in
theorem mix_ok (v : List UInt32) (a b c d : Nat) (x y : UInt32) (hv : v.length = 16) (ha : a < 16) (hb : b < 16) (hc : c < 16) (hd : d < 16) : ECalls Tryd.prog 124 [.v (.c (.ptr 0 0)), NV a, NV b, NV c, NV d, WV x, WV y] [VO v] fun y' H' => H' = [some (VO (mixS v a b c d x y))] ∧ y' = .tup [] := by
  have la : a < v.length := by omega
  have lb : b < v.length := by omega
  have lc : c < v.length := by omega
  have ld : d < v.length := by omega
  have xa : a ≤ 15 := by omega
  have xb : b ≤ 15 := by omega
  have xc : c ≤ 15 := by omega
  have xd : d ≤ 15 := by omega
  have ia : (a : Int) < 16 := by omega
  have ib : (b : Int) < 16 := by omega
  have ic : (c : Int) < 16 := by omega
  have id' : (d : Int) < 16 := by omega
  obtain ⟨v1, h1⟩ : ∃ w, v.set a (g v a + (g v b + x)) = w := ⟨_, rfl⟩
  have e1 : v1.length = 16 := by rw [← h1, List.length_set]; exact hv
  obtain ⟨v2, h2⟩ : ∃ w, v1.set d (rotr (g v1 d ^^^ g v1 a) 16) = w := ⟨_, rfl⟩
  have e2 : v2.length = 16 := by rw [← h2, List.length_set]; exact e1
  obtain ⟨v3, h3⟩ : ∃ w, v2.set c (g v2 c + g v2 d) = w := ⟨_, rfl⟩
  have e3 : v3.length = 16 := by rw [← h3, List.length_set]; exact e2
  obtain ⟨v4, h4⟩ : ∃ w, v3.set b (rotr (g v3 b ^^^ g v3 c) 12) = w := ⟨_, rfl⟩
  have e4 : v4.length = 16 := by rw [← h4, List.length_set]; exact e3
  obtain ⟨v5, h5⟩ : ∃ w, v4.set a (g v4 a + (g v4 b + y)) = w := ⟨_, rfl⟩
  have e5 : v5.length = 16 := by rw [← h5, List.length_set]; exact e4
  obtain ⟨v6, h6⟩ : ∃ w, v5.set d (rotr (g v5 d ^^^ g v5 a) 8) = w := ⟨_, rfl⟩
  have e6 : v6.length = 16 := by rw [← h6, List.length_set]; exact e5
  obtain ⟨v7, h7⟩ : ∃ w, v6.set c (g v6 c + g v6 d) = w := ⟨_, rfl⟩
  have e7 : v7.length = 16 := by rw [← h7, List.length_set]; exact e6
  obtain ⟨v8, h8⟩ : ∃ w, v7.set b (rotr (g v7 b ^^^ g v7 c) 7) = w := ⟨_, rfl⟩
  have e8 : v8.length = 16 := by rw [← h8, List.length_set]; exact e7
  have hm : mixS v a b c d x y = v8 := by unfold mixS; simp only [h1, h2, h3, h4, h5, h6, h7, h8]
  rw [hm]
  refine ecalls k_mix ?_
  simp [c_mix, NV, WV, VO, hv, e1, e2, e3, e4, e5, e6, e7, e8, ha, hb, hc, hd, ia, ib, ic, id', xa, xb, xc, xd, wl_gE, wl_put, la, lb, lc, ld, wi_add, wi_xor, h1, h2, h3, h4, h5, h6, h7, h8]
  refine call0 (Rot16_ok (g v1 d ^^^ g v1 a)) (by simp [WV, NV]) ?_
  rintro y' H' ⟨rfl, rfl⟩
  refine ⟨.inl (by simp), le_ok rfl, ?_⟩
  simp [NV, WV, VO, hv, e1, e2, e3, e4, e5, e6, e7, e8, ha, hb, hc, hd, ia, ib, ic, id', xa, xb, xc, xd, wl_gE, wl_put, la, lb, lc, ld, wi_add, wi_xor, h1, h2, h3, h4, h5, h6, h7, h8]
  refine call0 (Rot12_ok (g v3 b ^^^ g v3 c)) (by simp [WV, NV]) ?_
  rintro y' H' ⟨rfl, rfl⟩
  refine ⟨.inl (by simp), le_ok rfl, ?_⟩
  simp [NV, WV, VO, hv, e1, e2, e3, e4, e5, e6, e7, e8, ha, hb, hc, hd, ia, ib, ic, id', xa, xb, xc, xd, wl_gE, wl_put, la, lb, lc, ld, wi_add, wi_xor, h1, h2, h3, h4, h5, h6, h7, h8]
  refine call0 (Rot8_ok (g v5 d ^^^ g v5 a)) (by simp [WV, NV]) ?_
  rintro y' H' ⟨rfl, rfl⟩
  refine ⟨.inl (by simp), le_ok rfl, ?_⟩
  simp [NV, WV, VO, hv, e1, e2, e3, e4, e5, e6, e7, e8, ha, hb, hc, hd, ia, ib, ic, id', xa, xb, xc, xd, wl_gE, wl_put, la, lb, lc, ld, wi_add, wi_xor, h1, h2, h3, h4, h5, h6, h7, h8]
  refine call0 (Rot7_ok (g v7 b ^^^ g v7 c)) (by simp [WV, NV]) ?_
  rintro y' H' ⟨rfl, rfl⟩
  refine ⟨.inl (by simp), le_ok rfl, ?_⟩
  simp [NV, WV, VO, hv, e1, e2, e3, e4, e5, e6, e7, e8, ha, hb, hc, hd, ia, ib, ic, id', xa, xb, xc, xd, wl_gE, wl_put, la, lb, lc, ld, wi_add, wi_xor, h1, h2, h3, h4, h5, h6, h7, h8]
  exact fin [] (by decide) rfl rfl (by simp [objsOut]) ⟨rfl, rfl⟩

end Go.Proofs.YtpohjnhlhfbnaaaDoor
