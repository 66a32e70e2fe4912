import Derived.Test.YtejjhgdnmknejaaGreatDoorAll6
import Derived.Test.YtejjhgdnmknejaaGreatDoorAll8
namespace Go.Proofs.YtejjhgdnmknejaaGreatDoor
open Go Go.EW
set_option linter.unusedSimpArgs false
set_option linter.unusedVariables false

@[simp] def l_Encode_1 (_ : Unit) : List EOp := [⟨0, (some 1), none, (.q (.box 49 (.t 0))), []⟩, ⟨1, (some 2), none, (.q (.mov (.k (.slice none 0 0)))), []⟩]
@[simp] def b_Encode_2 (_ : Unit) : EB := reg0 (hid l_Encode_1) 2
@[simp] def l_Encode_3 (_ : Unit) : List EOp := [⟨0, (some 9), none, (.call 102 []), []⟩, ⟨1, (some 3), none, (.q (.alloc 225 [(.pointer none)])), []⟩, ⟨2, none, none, (.sto 1 (.t 3) (.t 9)), []⟩]
@[simp] def b_Encode_4 (_ : Unit) : EB := reg0 (hid l_Encode_3) 3
@[simp] def l_Encode_5 (_ : Unit) : List EOp := [⟨0, (some 10), none, (.q (.mkf 103 [(.t 3)])), []⟩, ⟨1, (some 4), none, (.q (.mov (.t 10))), []⟩]
@[simp] def b_Encode_6 (_ : Unit) : EB := reg0 (hid l_Encode_5) 2
@[simp] def l_Encode_9 (_ : Unit) : List EOp := [⟨12, (some 23), none, (.q (.bsl 1 [(.int .i64 0)] 4 [(0, (.t 13)), (1, (.t 16)), (2, (.t 19)), (3, (.t 22))])), []⟩, ⟨13, (some 24), none, (.clo (.t 11) [(.t 23)]), []⟩]
@[simp] def l_Encode_8 (_ : Unit) : List EOp := ⟨6, (some 17), none, (.q (.fad 1 (.t 1))), []⟩ :: ⟨7, (some 18), none, (.q (.iad 2 1 (.t 17) (.k (.int .i64 1)))), []⟩ :: ⟨8, (some 19), none, (.q (.ldc (.t 18))), []⟩ :: ⟨9, (some 20), none, (.q (.fad 3 (.t 1))), []⟩ :: ⟨10, (some 21), none, (.q (.ldc (.t 20))), []⟩ :: ⟨11, (some 22), none, (.q (.len (.t 21))), []⟩ :: hid l_Encode_9
@[simp] def l_Encode_7 (_ : Unit) : List EOp := ⟨0, (some 11), none, (.q (.mov (.t 4))), []⟩ :: ⟨1, (some 12), none, (.q (.fad 0 (.t 1))), []⟩ :: ⟨2, (some 13), none, (.q (.ldc (.t 12))), []⟩ :: ⟨3, (some 14), none, (.q (.fad 1 (.t 1))), []⟩ :: ⟨4, (some 15), none, (.q (.iad 2 1 (.t 14) (.k (.int .i64 0)))), []⟩ :: ⟨5, (some 16), none, (.q (.ldc (.t 15))), []⟩ :: hid l_Encode_8
@[simp] def b_Encode_10 (_ : Unit) : EB := reg0 (hid l_Encode_7) 14
@[simp] def l_Encode_11 (_ : Unit) : List EOp := [⟨0, (some 25), none, (.q (.fad 3 (.t 1))), []⟩, ⟨1, (some 26), none, (.q (.ldc (.t 25))), []⟩, ⟨2, (some 27), none, (.q (.len (.t 26))), []⟩, ⟨3, (some 28), none, (.q (.mov (.k (.int .i64 0)))), []⟩]
@[simp] def b_Encode_12 (_ : Unit) : EB := reg0 (hid l_Encode_11) 4
@[simp] def l_Encode_13 (_ : Unit) : List EOp := [⟨0, (some 29), none, (.q (.bin .lss (.t 28) (.t 27))), []⟩]
@[simp] def b_Encode_14 (_ : Unit) : EB := reg0 (hid l_Encode_13) 1
@[simp] def b_Encode_15 (_ : Unit) : EB := .cond (.t 29) .skip (.exit 0)
@[simp] def l_Encode_16 (_ : Unit) : List EOp := [⟨0, (some 30), none, (.q (.isl 36 (.t 26) (.t 28))), []⟩, ⟨1, (some 31), none, (.q (.lda 36 (.t 30))), []⟩, ⟨2, (some 6), none, (.q (.alloc 127 (([(.int .i64 0), (.int .i64 0), (.int .i64 0), (.int .i64 0)] : List Value) ++ zU8))), []⟩, ⟨3, none, none, (.sto 36 (.t 6) (.t 31)), []⟩]
@[simp] def b_Encode_17 (_ : Unit) : EB := reg0 (hid l_Encode_16) 4
@[simp] def l_Encode_19 (_ : Unit) : List EOp := [⟨6, (some 38), none, (.q (.ldc (.t 37))), []⟩, ⟨7, (some 39), none, (.q (.fad 3 (.t 6))), []⟩, ⟨8, (some 40), none, (.q (.ldc (.t 39))), []⟩, ⟨9, (some 41), none, (.q (.bsl 1 [(.int .i64 0)] 4 [(0, (.t 34)), (1, (.t 36)), (2, (.t 38)), (3, (.t 40))])), []⟩, ⟨10, (some 42), none, (.clo (.t 32) [(.t 41)]), []⟩]
@[simp] def l_Encode_18 (_ : Unit) : List EOp := ⟨0, (some 32), none, (.q (.mov (.t 4))), []⟩ :: ⟨1, (some 33), none, (.q (.fad 0 (.t 6))), []⟩ :: ⟨2, (some 34), none, (.q (.ldc (.t 33))), []⟩ :: ⟨3, (some 35), none, (.q (.fad 1 (.t 6))), []⟩ :: ⟨4, (some 36), none, (.q (.ldc (.t 35))), []⟩ :: ⟨5, (some 37), none, (.q (.fad 2 (.t 6))), []⟩ :: hid l_Encode_19
@[simp] def b_Encode_20 (_ : Unit) : EB := reg0 (hid l_Encode_18) 11
@[simp] def l_Encode_21 (_ : Unit) : List EOp := [⟨0, (some 43), none, (.q (.ldc (.t 3))), []⟩, ⟨1, (some 44), none, (.q (.fad 4 (.t 6))), []⟩, ⟨2, (some 45), none, (.q (.lda 32 (.t 44))), []⟩, ⟨3, (some 46), none, (.call 105 [(.t 43), (.t 45)]), []⟩]
@[simp] def b_Encode_22 (_ : Unit) : EB := reg0 (hid l_Encode_21) 4
@[simp] def b_Encode_23 (_ : Unit) : EB := .seq (hid b_Encode_20) (hid b_Encode_22)
@[simp] def b_Encode_24 (_ : Unit) : EB := .seq (hid b_Encode_17) (hid b_Encode_23)
@[simp] def b_Encode_25 (_ : Unit) : EB := .block 1 (hid b_Encode_24)
@[simp] def l_Encode_26 (_ : Unit) : List EOp := [⟨0, (some 47), none, (.q (.bin .add (.t 28) (.k (.int .i64 1)))), []⟩, ⟨1, (some 28), none, (.q (.mov (.t 47))), []⟩]
@[simp] def b_Encode_27 (_ : Unit) : EB := reg0 (hid l_Encode_26) 2
@[simp] def b_Encode_28 (_ : Unit) : EB := .seq (hid b_Encode_25) (hid b_Encode_27)
@[simp] def b_Encode_29 (_ : Unit) : EB := .seq (hid b_Encode_15) (hid b_Encode_28)
@[simp] def b_Encode_30 (_ : Unit) : EB := .seq (hid b_Encode_14) (hid b_Encode_29)
@[simp] def b_Encode_31 (_ : Unit) : EB := .loop (hid b_Encode_30)
@[simp] def b_Encode_32 (_ : Unit) : EB := .block 0 (hid b_Encode_31)
@[simp] def b_Encode_33 (_ : Unit) : EB := .seq (hid b_Encode_12) (hid b_Encode_32)
@[simp] def l_Encode_34 (_ : Unit) : List EOp := [⟨0, (some 48), none, (.q (.mov (.t 4))), []⟩, ⟨1, (some 49), none, (.q (.fad 4 (.t 1))), []⟩, ⟨2, (some 50), none, (.q (.ldc (.t 49))), []⟩, ⟨3, (some 51), none, (.q (.len (.t 50))), []⟩, ⟨4, (some 52), none, (.q (.bsl 1 [(.int .i64 0)] 1 [(0, (.t 51))])), []⟩, ⟨5, (some 53), none, (.clo (.t 48) [(.t 52)]), []⟩]
@[simp] def b_Encode_35 (_ : Unit) : EB := reg0 (hid l_Encode_34) 6
@[simp] def l_Encode_36 (_ : Unit) : List EOp := [⟨0, (some 54), none, (.q (.fad 4 (.t 1))), []⟩, ⟨1, (some 55), none, (.q (.ldc (.t 54))), []⟩, ⟨2, (some 56), none, (.q (.len (.t 55))), []⟩, ⟨3, (some 57), none, (.q (.mov (.k (.int .i64 0)))), []⟩]
@[simp] def b_Encode_37 (_ : Unit) : EB := reg0 (hid l_Encode_36) 4
@[simp] def l_Encode_38 (_ : Unit) : List EOp := [⟨0, (some 58), none, (.q (.bin .lss (.t 57) (.t 56))), []⟩]
@[simp] def b_Encode_39 (_ : Unit) : EB := reg0 (hid l_Encode_38) 1
@[simp] def b_Encode_40 (_ : Unit) : EB := .cond (.t 58) .skip (.exit 2)
@[simp] def l_Encode_41 (_ : Unit) : List EOp := [⟨0, (some 59), none, (.q (.isl 3 (.t 55) (.t 57))), []⟩, ⟨1, (some 60), none, (.q (.lda 3 (.t 59))), []⟩, ⟨2, (some 8), none, (.q (.alloc 124 [(.int .i64 0), (.int .i64 0), (.slice none 0 0)])), []⟩, ⟨3, none, none, (.fz (.sto 3 (.t 8) (.t 60))), []⟩]
@[simp] def b_Encode_42 (_ : Unit) : EB := reg0 (hid l_Encode_41) 4
@[simp] def l_Encode_44 (_ : Unit) : List EOp := [⟨6, (some 67), none, (.q (.ldc (.t 66))), []⟩, ⟨7, (some 68), none, (.q (.len (.t 67))), []⟩, ⟨8, (some 69), none, (.q (.bsl 1 [(.int .i64 0)] 3 [(0, (.t 63)), (1, (.t 65)), (2, (.t 68))])), []⟩, ⟨9, (some 70), none, (.clo (.t 61) [(.t 69)]), []⟩]
@[simp] def l_Encode_43 (_ : Unit) : List EOp := ⟨0, (some 61), none, (.q (.mov (.t 4))), []⟩ :: ⟨1, (some 62), none, (.q (.fad 0 (.t 8))), []⟩ :: ⟨2, (some 63), none, (.q (.ldc (.t 62))), []⟩ :: ⟨3, (some 64), none, (.q (.fad 1 (.t 8))), []⟩ :: ⟨4, (some 65), none, (.q (.ldc (.t 64))), []⟩ :: ⟨5, (some 66), none, (.q (.fad 2 (.t 8))), []⟩ :: hid l_Encode_44
@[simp] def b_Encode_45 (_ : Unit) : EB := reg0 (hid l_Encode_43) 10
@[simp] def l_Encode_46 (_ : Unit) : List EOp := [⟨0, (some 71), none, (.q (.mov (.t 4))), []⟩, ⟨1, (some 72), none, (.q (.fad 2 (.t 8))), []⟩, ⟨2, (some 73), none, (.q (.ldc (.t 72))), []⟩, ⟨3, (some 74), none, (.clo (.t 71) [(.t 73)]), []⟩]
@[simp] def b_Encode_47 (_ : Unit) : EB := reg0 (hid l_Encode_46) 4
@[simp] def b_Encode_48 (_ : Unit) : EB := .seq (hid b_Encode_45) (hid b_Encode_47)
@[simp] def b_Encode_49 (_ : Unit) : EB := .seq (hid b_Encode_42) (hid b_Encode_48)
@[simp] def b_Encode_50 (_ : Unit) : EB := .block 3 (hid b_Encode_49)
@[simp] def l_Encode_51 (_ : Unit) : List EOp := [⟨0, (some 75), none, (.q (.bin .add (.t 57) (.k (.int .i64 1)))), []⟩, ⟨1, (some 57), none, (.q (.mov (.t 75))), []⟩]
@[simp] def b_Encode_52 (_ : Unit) : EB := reg0 (hid l_Encode_51) 2
@[simp] def b_Encode_53 (_ : Unit) : EB := .seq (hid b_Encode_50) (hid b_Encode_52)
@[simp] def b_Encode_54 (_ : Unit) : EB := .seq (hid b_Encode_40) (hid b_Encode_53)
@[simp] def b_Encode_55 (_ : Unit) : EB := .seq (hid b_Encode_39) (hid b_Encode_54)
@[simp] def b_Encode_56 (_ : Unit) : EB := .loop (hid b_Encode_55)
@[simp] def b_Encode_57 (_ : Unit) : EB := .block 2 (hid b_Encode_56)
@[simp] def b_Encode_58 (_ : Unit) : EB := .seq (hid b_Encode_37) (hid b_Encode_57)
@[simp] def l_Encode_59 (_ : Unit) : List EOp := [⟨0, (some 76), none, (.q (.ldc (.t 3))), []⟩, ⟨1, (some 77), none, (.call 106 [(.t 76)]), []⟩, ⟨2, (some 2), none, (.q (.mov (.t 77))), []⟩]
@[simp] def b_Encode_60 (_ : Unit) : EB := reg0 (hid l_Encode_59) 3
@[simp] def b_Encode_61 (_ : Unit) : EB := .seq (hid b_Encode_60) .ret
@[simp] def b_Encode_62 (_ : Unit) : EB := .seq (hid b_Encode_58) (hid b_Encode_61)
@[simp] def b_Encode_63 (_ : Unit) : EB := .seq (hid b_Encode_35) (hid b_Encode_62)
@[simp] def b_Encode_64 (_ : Unit) : EB := .seq (hid b_Encode_33) (hid b_Encode_63)
@[simp] def b_Encode_65 (_ : Unit) : EB := .seq (hid b_Encode_10) (hid b_Encode_64)
@[simp] def b_Encode_66 (_ : Unit) : EB := .seq (hid b_Encode_6) (hid b_Encode_65)
@[simp] def b_Encode_67 (_ : Unit) : EB := .seq (hid b_Encode_4) (hid b_Encode_66)
@[simp] def b_Encode_68 (_ : Unit) : EB := .seq (hid b_Encode_2) (hid b_Encode_67)
@[simp] def l_put_1 (_ : Unit) : List EOp := [⟨0, (some 5), none, (.q (.mov (.t 0))), []⟩, ⟨1, (some 6), none, (.q (.len (.t 5))), []⟩, ⟨2, (some 7), none, (.q (.mov (.k (.int .i64 0)))), []⟩]
@[simp] def b_put_2 (_ : Unit) : EB := reg0 (hid l_put_1) 3
@[simp] def l_put_3 (_ : Unit) : List EOp := [⟨0, (some 8), none, (.q (.bin .lss (.t 7) (.t 6))), []⟩]
@[simp] def b_put_4 (_ : Unit) : EB := reg0 (hid l_put_3) 1
@[simp] def b_put_5 (_ : Unit) : EB := .cond (.t 8) .skip (.exit 0)
@[simp] def l_put_6 (_ : Unit) : List EOp := [⟨0, (some 9), none, (.q (.isl 1 (.t 5) (.t 7))), []⟩, ⟨1, (some 10), none, (.q (.ldc (.t 9))), []⟩, ⟨2, (some 4), none, (.q (.mov (.t 10))), []⟩]
@[simp] def b_put_7 (_ : Unit) : EB := reg0 (hid l_put_6) 3
@[simp] def l_put_8 (_ : Unit) : List EOp := [⟨0, (some 11), none, (.q (.ldc (.t 1))), []⟩, ⟨1, (some 12), none, (.q (.mov (.t 4))), []⟩, ⟨2, (some 13), none, (.q (.cnv .u64 (.t 12))), []⟩, ⟨3, (some 14), none, (.call 104 [(.t 11), (.t 13)]), []⟩]
@[simp] def b_put_9 (_ : Unit) : EB := reg0 (hid l_put_8) 4
@[simp] def b_put_10 (_ : Unit) : EB := .seq (hid b_put_7) (hid b_put_9)
@[simp] def b_put_11 (_ : Unit) : EB := .block 1 (hid b_put_10)
@[simp] def l_put_12 (_ : Unit) : List EOp := [⟨0, (some 15), none, (.q (.bin .add (.t 7) (.k (.int .i64 1)))), []⟩, ⟨1, (some 7), none, (.q (.mov (.t 15))), []⟩]
@[simp] def b_put_13 (_ : Unit) : EB := reg0 (hid l_put_12) 2
@[simp] def b_put_14 (_ : Unit) : EB := .seq (hid b_put_11) (hid b_put_13)
@[simp] def b_put_15 (_ : Unit) : EB := .seq (hid b_put_5) (hid b_put_14)
@[simp] def b_put_16 (_ : Unit) : EB := .seq (hid b_put_4) (hid b_put_15)
@[simp] def b_put_17 (_ : Unit) : EB := .loop (hid b_put_16)
@[simp] def b_put_18 (_ : Unit) : EB := .block 0 (hid b_put_17)
@[simp] def b_put_19 (_ : Unit) : EB := .seq (hid b_put_2) (hid b_put_18)
def u64n (n : Int) : Nat := (n % 18446744073709551616).toNat
theorem u64n_lt (n : Int) : u64n n < 18446744073709551616 := by unfold u64n; omega
theorem wrap_u64n (n : Int) : IntKind.u64.wrap n = (u64n n : Int) := by
  simp [IntKind.wrap, IntKind.bits, IntKind.signed, u64n]
  omega
def uB (n : Int) : List UInt8 := uintB (u64n n)
def usB (l : List Int) : List UInt8 := l.flatMap uB
def holB (h : Hol) : List UInt8 := usB [h.id, h.am, (h.keys.length : Int)] ++ usB h.keys
theorem uB_len (n : Int) : (uB n).length ≤ 9 := by
  have := nb_8 (u64n_lt n)
  simp [uB, uintB, dg_len]; omega
theorem usB_len : ∀ (l : List Int), (usB l).length ≤ 9 * l.length
  | [] => by simp [usB]
  | n :: r => by
    have h1 := uB_len n
    have h2 := usB_len r
    have : usB (n :: r) = uB n ++ usB r := by simp [usB]
    rw [this, List.length_append, List.length_cons]
    omega
theorem usB_snoc (l : List Int) (n : Int) : usB (l ++ [n]) = usB l ++ uB n := by simp [usB]
theorem flat_len {α : Type} {f : α → List UInt8} {k : Nat} : ∀ {l : List α}, (∀ x ∈ l, (f x).length ≤ k) → (l.flatMap f).length ≤ k * l.length
  | [], _ => by simp
  | x :: r, h => by
    have h1 := h x (by simp)
    have h2 := flat_len (l := r) (fun y hy => h y (by simp [hy]))
    rw [List.flatMap_cons, List.length_append, List.length_cons, Nat.mul_succ]
    omega

def hB (l : List Hol) : List UInt8 := l.flatMap holB
end Go.Proofs.YtejjhgdnmknejaaGreatDoor

namespace Go.Proofs.YtejjhgdnmknejaaGreatDoor
open Go Go.EW
set_option linter.unusedSimpArgs false

@[simp] def l_digits_1 (_ : Unit) : List EOp := [⟨0, (some 2), none, (.q (.mov (.k (.slice none 0 0)))), []⟩]
@[simp] def b_digits_2 (_ : Unit) : EB := reg0 (hid l_digits_1) 1
@[simp] def l_digits_3 (_ : Unit) : List EOp := [⟨0, (some 3), none, (.q (.mov (.k (.slice none 0 0)))), []⟩]
@[simp] def b_digits_4 (_ : Unit) : EB := reg0 (hid l_digits_3) 1
@[simp] def l_digits_5 (_ : Unit) : List EOp := [⟨0, (some 5), none, (.q (.mov (.t 0))), []⟩, ⟨1, (some 6), none, (.q (.bin .gtr (.t 5) (.k (.int .u64 0)))), []⟩]
@[simp] def b_digits_6 (_ : Unit) : EB := reg0 (hid l_digits_5) 2
@[simp] def b_digits_7 (_ : Unit) : EB := .cond (.t 6) .skip (.exit 0)
@[simp] def b_digits_8 (_ : Unit) : EB := .seq (hid b_digits_6) (hid b_digits_7)
@[simp] def l_digits_9 (_ : Unit) : List EOp := [⟨0, (some 4), none, (.q (.mov (.k (.slice none 0 0)))), []⟩]
@[simp] def b_digits_10 (_ : Unit) : EB := reg0 (hid l_digits_9) 1
@[simp] def l_digits_12 (_ : Unit) : List EOp := [⟨6, (some 13), none, (.q (.mov (.t 3))), []⟩, ⟨7, (some 14), none, (.app 5 1 1 (.t 12) (.t 13)), []⟩, ⟨8, (some 3), none, (.q (.mov (.t 14))), []⟩]
@[simp] def l_digits_11 (_ : Unit) : List EOp := ⟨0, (some 7), none, (.q (.mov (.t 4))), []⟩ :: ⟨1, (some 8), none, (.q (.mov (.t 0))), []⟩ :: ⟨2, (some 9), none, (.q (.bin .rem (.t 8) (.k (.int .u64 256)))), []⟩ :: ⟨3, (some 10), none, (.q (.cnv .u8 (.t 9))), []⟩ :: ⟨4, (some 11), none, (.q (.bsl 1 [(.int .u8 0)] 1 [(0, (.t 10))])), []⟩ :: ⟨5, (some 12), none, (.app 5 1 1 (.t 7) (.t 11)), []⟩ :: hid l_digits_12
@[simp] def b_digits_13 (_ : Unit) : EB := reg0 (hid l_digits_11) 9
@[simp] def l_digits_14 (_ : Unit) : List EOp := [⟨0, (some 15), none, (.q (.mov (.t 0))), []⟩, ⟨1, (some 16), none, (.q (.bin .quo (.t 15) (.k (.int .u64 256)))), []⟩, ⟨2, (some 0), none, (.q (.mov (.t 16))), []⟩]
@[simp] def b_digits_15 (_ : Unit) : EB := reg0 (hid l_digits_14) 3
@[simp] def b_digits_16 (_ : Unit) : EB := .seq (hid b_digits_13) (hid b_digits_15)
@[simp] def b_digits_17 (_ : Unit) : EB := .seq (hid b_digits_10) (hid b_digits_16)
@[simp] def b_digits_18 (_ : Unit) : EB := .block 1 (hid b_digits_17)
@[simp] def b_digits_19 (_ : Unit) : EB := .seq (hid b_digits_8) (hid b_digits_18)
@[simp] def b_digits_20 (_ : Unit) : EB := .loop (hid b_digits_19)
@[simp] def b_digits_21 (_ : Unit) : EB := .block 0 (hid b_digits_20)
@[simp] def l_digits_22 (_ : Unit) : List EOp := [⟨0, (some 17), none, (.q (.mov (.t 3))), []⟩, ⟨1, (some 2), none, (.q (.mov (.t 17))), []⟩]
@[simp] def b_digits_23 (_ : Unit) : EB := reg0 (hid l_digits_22) 2
@[simp] def b_digits_24 (_ : Unit) : EB := .seq (hid b_digits_23) .ret
@[simp] def b_digits_25 (_ : Unit) : EB := .seq (hid b_digits_21) (hid b_digits_24)
@[simp] def b_digits_26 (_ : Unit) : EB := .seq (hid b_digits_4) (hid b_digits_25)
@[simp] def b_digits_27 (_ : Unit) : EB := .seq (hid b_digits_2) (hid b_digits_26)
def c_digits : EB × List QOp × Nat := ((hid b_digits_27), [(.mov (.t 2))], 18)
theorem k_digits : cfun Tryz.prog 164 = some c_digits := by kernel_rfl

@[simp] def l_own_1 (_ : Unit) : List EOp := [⟨0, (some 2), none, (.q (.mov (.k (.slice none 0 0)))), []⟩]
@[simp] def b_own_2 (_ : Unit) : EB := reg0 (hid l_own_1) 1
@[simp] def l_own_3 (_ : Unit) : List EOp := [⟨0, (some 3), none, (.q (.mov (.k (.slice none 0 0)))), []⟩]
@[simp] def b_own_4 (_ : Unit) : EB := reg0 (hid l_own_3) 1
@[simp] def l_own_5 (_ : Unit) : List EOp := [⟨0, (some 4), none, (.q (.mov (.t 3))), []⟩, ⟨1, (some 5), none, (.q (.mov (.t 0))), []⟩, ⟨2, (some 6), none, (.app 5 1 1 (.t 4) (.t 5)), []⟩, ⟨3, (some 2), none, (.q (.mov (.t 6))), []⟩]
@[simp] def b_own_6 (_ : Unit) : EB := reg0 (hid l_own_5) 4
@[simp] def b_own_7 (_ : Unit) : EB := .seq (hid b_own_6) .ret
@[simp] def b_own_8 (_ : Unit) : EB := .seq (hid b_own_4) (hid b_own_7)
@[simp] def b_own_9 (_ : Unit) : EB := .seq (hid b_own_2) (hid b_own_8)
def c_own : EB × List QOp × Nat := ((hid b_own_9), [(.mov (.t 2))], 7)
theorem k_own : cfun Tryz.prog 165 = some c_own := by kernel_rfl

@[simp] def l_RUint_1 (_ : Unit) : List EOp := [⟨0, (some 4), none, (.q (.mov (.k (.slice none 0 0)))), []⟩]
@[simp] def b_RUint_2 (_ : Unit) : EB := reg0 (hid l_RUint_1) 1
@[simp] def l_RUint_3 (_ : Unit) : List EOp := [⟨0, (some 6), none, (.q (.mov (.t 1))), []⟩, ⟨1, (some 7), none, (.call 164 [(.t 6)]), []⟩, ⟨2, (some 5), none, (.q (.mov (.t 7))), []⟩]
@[simp] def b_RUint_4 (_ : Unit) : EB := reg0 (hid l_RUint_3) 3
@[simp] def l_RUint_6 (_ : Unit) : List EOp := [⟨6, (some 14), none, (.app 5 1 1 (.t 9) (.t 13)), []⟩, ⟨7, (some 15), none, (.q (.mov (.t 5))), []⟩, ⟨8, (some 16), none, (.app 5 1 1 (.t 14) (.t 15)), []⟩, ⟨9, (some 4), none, (.q (.mov (.t 16))), []⟩]
@[simp] def l_RUint_5 (_ : Unit) : List EOp := ⟨0, (some 8), none, (.q (.mov (.t 0))), []⟩ :: ⟨1, (some 9), none, (.call 165 [(.t 8)]), []⟩ :: ⟨2, (some 10), none, (.q (.mov (.t 5))), []⟩ :: ⟨3, (some 11), none, (.q (.len (.t 10))), []⟩ :: ⟨4, (some 12), none, (.q (.cnv .u8 (.t 11))), []⟩ :: ⟨5, (some 13), none, (.q (.bsl 1 [(.int .u8 0)] 1 [(0, (.t 12))])), []⟩ :: hid l_RUint_6
@[simp] def b_RUint_7 (_ : Unit) : EB := reg0 (hid l_RUint_5) 10
@[simp] def b_RUint_8 (_ : Unit) : EB := .seq (hid b_RUint_7) .ret
@[simp] def b_RUint_9 (_ : Unit) : EB := .seq (hid b_RUint_4) (hid b_RUint_8)
@[simp] def b_RUint_10 (_ : Unit) : EB := .seq (hid b_RUint_2) (hid b_RUint_9)
def c_RUint : EB × List QOp × Nat := ((hid b_RUint_10), [(.mov (.t 4))], 17)
theorem k_RUint : cfun Tryz.prog 107 = some c_RUint := by kernel_rfl

@[simp] def l_RBytes_1 (_ : Unit) : List EOp := [⟨0, (some 4), none, (.q (.mov (.k (.slice none 0 0)))), []⟩]
@[simp] def b_RBytes_2 (_ : Unit) : EB := reg0 (hid l_RBytes_1) 1
@[simp] def l_RBytes_3 (_ : Unit) : List EOp := [⟨0, (some 7), none, (.q (.mov (.t 0))), []⟩, ⟨1, (some 8), none, (.call 165 [(.t 7)]), []⟩, ⟨2, (some 5), none, (.q (.mov (.t 8))), []⟩]
@[simp] def b_RBytes_4 (_ : Unit) : EB := reg0 (hid l_RBytes_3) 3
@[simp] def l_RBytes_5 (_ : Unit) : List EOp := [⟨0, (some 6), none, (.q (.mov (.k (.int .i64 0)))), []⟩]
@[simp] def b_RBytes_6 (_ : Unit) : EB := reg0 (hid l_RBytes_5) 1
@[simp] def l_RBytes_7 (_ : Unit) : List EOp := [⟨0, (some 9), none, (.q (.mov (.t 6))), []⟩, ⟨1, (some 10), none, (.q (.mov (.t 1))), []⟩, ⟨2, (some 11), none, (.q (.len (.t 10))), []⟩, ⟨3, (some 12), none, (.q (.bin .lss (.t 9) (.t 11))), []⟩]
@[simp] def b_RBytes_8 (_ : Unit) : EB := reg0 (hid l_RBytes_7) 4
@[simp] def b_RBytes_9 (_ : Unit) : EB := .cond (.t 12) .skip (.exit 0)
@[simp] def b_RBytes_10 (_ : Unit) : EB := .seq (hid b_RBytes_8) (hid b_RBytes_9)
@[simp] def l_RBytes_12 (_ : Unit) : List EOp := [⟨6, (some 21), none, (.app 5 1 1 (.t 15) (.t 20)), []⟩, ⟨7, (some 5), none, (.q (.mov (.t 21))), []⟩]
@[simp] def l_RBytes_11 (_ : Unit) : List EOp := ⟨0, (some 15), none, (.q (.mov (.t 5))), []⟩ :: ⟨1, (some 16), none, (.q (.mov (.t 1))), []⟩ :: ⟨2, (some 17), none, (.q (.mov (.t 6))), []⟩ :: ⟨3, (some 18), none, (.q (.isl 1 (.t 16) (.t 17))), []⟩ :: ⟨4, (some 19), none, (.q (.ldc (.t 18))), []⟩ :: ⟨5, (some 20), none, (.q (.bsl 1 [(.int .u8 0)] 1 [(0, (.t 19))])), []⟩ :: hid l_RBytes_12
@[simp] def b_RBytes_13 (_ : Unit) : EB := reg0 (hid l_RBytes_11) 8
@[simp] def l_RBytes_14 (_ : Unit) : List EOp := [⟨0, (some 22), none, (.q (.mov (.t 1))), []⟩, ⟨1, (some 23), none, (.q (.mov (.t 6))), []⟩, ⟨2, (some 24), none, (.q (.isl 1 (.t 22) (.t 23))), []⟩, ⟨3, (some 25), none, (.q (.ldc (.t 24))), []⟩, ⟨4, (some 26), none, (.q (.bin .eql (.t 25) (.k (.int .u8 0)))), []⟩]
@[simp] def b_RBytes_15 (_ : Unit) : EB := reg0 (hid l_RBytes_14) 5
@[simp] def l_RBytes_16 (_ : Unit) : List EOp := [⟨0, (some 27), none, (.q (.mov (.t 5))), []⟩, ⟨1, (some 28), none, (.q (.bsl 1 [(.int .u8 0)] 1 [(0, (.k (.int .u8 255)))])), []⟩, ⟨2, (some 29), none, (.app 5 1 1 (.t 27) (.t 28)), []⟩, ⟨3, (some 5), none, (.q (.mov (.t 29))), []⟩]
@[simp] def b_RBytes_17 (_ : Unit) : EB := reg0 (hid l_RBytes_16) 4
@[simp] def b_RBytes_18 (_ : Unit) : EB := .cond (.t 26) (hid b_RBytes_17) .skip
@[simp] def b_RBytes_19 (_ : Unit) : EB := .seq (hid b_RBytes_15) (hid b_RBytes_18)
@[simp] def b_RBytes_20 (_ : Unit) : EB := .seq (hid b_RBytes_13) (hid b_RBytes_19)
@[simp] def b_RBytes_21 (_ : Unit) : EB := .block 1 (hid b_RBytes_20)
@[simp] def l_RBytes_22 (_ : Unit) : List EOp := [⟨0, (some 13), none, (.q (.mov (.t 6))), []⟩, ⟨1, (some 14), none, (.q (.bin .add (.t 13) (.k (.int .i64 1)))), []⟩, ⟨2, (some 6), none, (.q (.mov (.t 14))), []⟩]
@[simp] def b_RBytes_23 (_ : Unit) : EB := reg0 (hid l_RBytes_22) 3
@[simp] def b_RBytes_24 (_ : Unit) : EB := .seq (hid b_RBytes_21) (hid b_RBytes_23)
@[simp] def b_RBytes_25 (_ : Unit) : EB := .seq (hid b_RBytes_10) (hid b_RBytes_24)
@[simp] def b_RBytes_26 (_ : Unit) : EB := .loop (hid b_RBytes_25)
@[simp] def b_RBytes_27 (_ : Unit) : EB := .block 0 (hid b_RBytes_26)
@[simp] def b_RBytes_28 (_ : Unit) : EB := .seq (hid b_RBytes_6) (hid b_RBytes_27)
@[simp] def l_RBytes_29 (_ : Unit) : List EOp := [⟨0, (some 30), none, (.q (.mov (.t 5))), []⟩, ⟨1, (some 31), none, (.q (.bsl 1 [(.int .u8 0)] 2 [(0, (.k (.int .u8 0))), (1, (.k (.int .u8 0)))])), []⟩, ⟨2, (some 32), none, (.app 5 1 1 (.t 30) (.t 31)), []⟩, ⟨3, (some 4), none, (.q (.mov (.t 32))), []⟩]
@[simp] def b_RBytes_30 (_ : Unit) : EB := reg0 (hid l_RBytes_29) 4
@[simp] def b_RBytes_31 (_ : Unit) : EB := .seq (hid b_RBytes_30) .ret
@[simp] def b_RBytes_32 (_ : Unit) : EB := .seq (hid b_RBytes_28) (hid b_RBytes_31)
@[simp] def b_RBytes_33 (_ : Unit) : EB := .seq (hid b_RBytes_4) (hid b_RBytes_32)
@[simp] def b_RBytes_34 (_ : Unit) : EB := .seq (hid b_RBytes_2) (hid b_RBytes_33)
def c_RBytes : EB × List QOp × Nat := ((hid b_RBytes_34), [(.mov (.t 4))], 33)
theorem k_RBytes : cfun Tryz.prog 124 = some c_RBytes := by kernel_rfl

@[simp] def l_RHash_1 (_ : Unit) : List EOp := [⟨0, (some 3), none, (.q (.box 23 (.t 1))), []⟩, ⟨1, (some 4), none, (.q (.mov (.k (.slice none 0 0)))), []⟩]
@[simp] def b_RHash_2 (_ : Unit) : EB := reg0 (hid l_RHash_1) 2
@[simp] def l_RHash_3 (_ : Unit) : List EOp := [⟨0, (some 5), none, (.q (.mov (.t 0))), []⟩, ⟨2, (some 7), none, (.q (.sar 32 (.t 3) none none)), []⟩, ⟨1, (some 6), none, (.call 165 [(.t 5)]), [2]⟩, ⟨3, (some 8), none, (.app 5 1 1 (.t 6) (.t 7)), []⟩, ⟨4, (some 4), none, (.q (.mov (.t 8))), []⟩]
@[simp] def b_RHash_4 (_ : Unit) : EB := reg1 (hid l_RHash_3) 5
@[simp] def b_RHash_5 (_ : Unit) : EB := .seq (hid b_RHash_4) .ret
@[simp] def b_RHash_6 (_ : Unit) : EB := .seq (hid b_RHash_2) (hid b_RHash_5)
def c_RHash : EB × List QOp × Nat := ((hid b_RHash_6), [(.mov (.t 4))], 9)
theorem k_RHash : cfun Tryz.prog 108 = some c_RHash := by kernel_rfl


theorem digits_ok (n : Nat) (h : n < 18446744073709551616) : ECalls Tryz.prog 164 [I .u64 n] [] fun y H' => H' = [some (RO (dg n))] ∧ y = R 0 (dg n) := by
  refine ecalls k_digits ?_
  simp [c_digits, I]
  refine loopW _ (weak_nilR 3 5 1 rfl (by omega)) ?_
  refine eloop (α := Nat × List UInt8) (fun a => a.1 < 18446744073709551616 ∧ a.2.length ≤ 8 ∧ dg a.1 ++ a.2 = dg n) (fun a => a.1)
    (fun a => [I .u64 a.1, .any, .any, R 0 a.2, .any, .any, .any, .any, .any, .any, .any, .any, .any, .any, .any, .any, .any, .any]) (fun a => [some (RO a.2)]) (n, []) [32] ⟨h, by simp, by simp⟩ (by simp [R, I]) (by simp [RO]) (by simp) (by simp) (by simp) ?_
  rintro ⟨k, ds⟩ ⟨hk, hdl, hds⟩
  simp [I, R, RO] at hk hdl hds ⊢
  refine alt (fun hp => ?_) (fun hp => ?_)
  · have h8 := nb_8 h
    have hst := dg_step (n := k) (by omega)
    have hl := congrArg List.length hds
    rw [hst] at hds hl
    simp [dg_len] at hl
    have w1 : IntKind.u8.wrap ((k : Int).tmod 256) = ((b8 k).toNat : Int) := by
      rw [Int.tmod_eq_emod_of_nonneg (by omega), IntKind.wrap_u8, b8_nat]; omega
    have w2 : IntKind.u64.wrap ((k : Int) / 256) = ((k / 256 : Nat) : Int) := by
      rw [wrap_u64 (by omega) (by omega)]; rfl
    simp [w1, w2, -Int.natCast_ediv]
    exact ⟨by omega, round (k / 256, b8 k :: ds) [161] ⟨by simp; omega, by simp; omega, by simpa using hds⟩ (by simp; omega) (by simp; omega) (by simp [bsv, cb]) (by simp) (by simp) (by simp)⟩
  · have : k = 0 := by omega
    subst this
    simp [dg_zero] at hds
    subst hds
    simp
    exact fin [0] (by decide) rfl rfl rfl ⟨rfl, rfl⟩

theorem own_ok (b : List UInt8) (hb : b.length ≤ 1000000000) : ECalls Tryz.prog 165 [Bs b] [] fun y H' => H' = [some (RO b)] ∧ y = R 0 b := by
  refine ecalls k_own ?_
  simp [c_own, Bs]
  exact ⟨by omega, fin [64] (by decide) rfl rfl rfl ⟨rfl, rfl⟩⟩

theorem RUint_ok (b : List UInt8) (n : Nat) (h : n < 18446744073709551616) (hb : b.length ≤ 900000000) : ECalls Tryz.prog 107 [Bs b, I .u64 n] [] fun y H' => H' = [some (RO (b ++ uintB n))] ∧ y = R 0 (b ++ uintB n) := by
  have h8 := nb_8 h
  refine ecalls k_RUint ?_
  simp [c_RUint, I, Bs]
  refine call0 (digits_ok n h) rfl ?_
  rintro y H' ⟨rfl, rfl⟩
  refine ⟨.inl rfl, le_ok rfl, ?_⟩
  simp [R, RO]
  refine call0 (own_ok b (by omega)) rfl ?_
  rintro y H' ⟨rfl, rfl⟩
  refine ⟨.inl rfl, le_ok rfl, ?_⟩
  simp [R, RO]
  exact ⟨by omega, by simp [dg_len]; omega, fin [192] (by decide) rfl rfl rfl ⟨by simp [uintB, dg_len, wrap_u8_nat, bsv, cb], by simp [uintB]; omega⟩⟩

theorem RBytes_ok (b l : List UInt8) (hb : b.length ≤ 900000000) (hl : l.length ≤ 10000000) : ECalls Tryz.prog 124 [Bs b, Bs l] [] fun y H' => H' = [some (RO (b ++ bytesB l))] ∧ y = R 0 (b ++ bytesB l) := by
  refine ecalls k_RBytes ?_
  simp [c_RBytes, Bs]
  refine call0 (own_ok b (by omega)) rfl ?_
  rintro y H' ⟨rfl, rfl⟩
  refine ⟨.inl rfl, le_ok rfl, ?_⟩
  simp [R, RO]
  refine eloop (α := Nat) (fun i => i ≤ l.length) (fun i => l.length - i)
    (fun i => [.any, Bs l, .any, .any, .any, R 0 (b ++ stuffB (l.take i)), I .i64 i, .any, .any, .any, .any, .any, .any, .any, .any, .any, .any, .any, .any, .any, .any, .any, .any, .any, .any, .any, .any, .any, .any, .any, .any, .any, .any]) (fun i => [some (RO (b ++ stuffB (l.take i)))]) 0 [32]
    (Nat.zero_le _) (by simp [Bs, I, R, stuffB]) (by simp [RO, stuffB]) (by simp) (by simp) (by simp) ?_
  intro i hi
  have hle := stuff_len (l.take i)
  have hlt : (l.take i).length = i := by simp; omega
  simp [I, Bs, R, RO]
  refine alt (fun hp => ?_) (fun hp => ?_)
  · obtain ⟨c, hc⟩ : ∃ c, l[i]? = some c := ⟨l[i], by simp [hp]⟩
    have hcb : (bsv l)[i]? = some (cb c) := by simp [bsv, hc]
    have hts := take_snoc hc
    have w1 : IntKind.i64.wrap ((i : Int) + 1) = ((i + 1 : Nat) : Int) := wrap_i64 (by omega) (by omega)
    simp [hcb, cb]
    refine ⟨by omega, alt (fun hz => ?_) (fun hz => ?_)⟩
    · have hc0 : c = 0 := by apply UInt8.toNat_inj.1; simpa using hz
      have hst : stuffB (l.take (i + 1)) = stuffB (l.take i) ++ [0, 255] := by rw [hts, stuff_snoc, if_pos hc0]
      simp [w1, -Int.natCast_add]
      refine ⟨by omega, round (i + 1) [305] (by omega) (by omega) ?_ ?_ (by simp) (by simp) (by simp)⟩
      · simp [hst]; omega
      · subst hc0; simp [hst, bsv, cb]
    · have hc0 : c ≠ 0 := by rintro rfl; exact hz rfl
      have hst : stuffB (l.take (i + 1)) = stuffB (l.take i) ++ [c] := by rw [hts, stuff_snoc, if_neg hc0]
      simp [w1, -Int.natCast_add]
      refine round (i + 1) [161] (by omega) (by omega) ?_ ?_ (by simp) (by simp) (by simp)
      · simp [hst]; omega
      · simp [hst, bsv, cb]
  · have hil : i = l.length := by omega
    subst hil
    simp at hle
    simp
    exact ⟨by omega, fin [97] (by decide) rfl rfl rfl ⟨by simp [bytesB, bsv, cb], by simp [bytesB]; omega⟩⟩

theorem RHash_ok (b h : List UInt8) (hb : b.length ≤ 900000000) (hl : h.length = 32) : ECalls Tryz.prog 108 [Bs b, Ag h] [] fun y H' => H' = [some (RO (b ++ h))] ∧ y = R 0 (b ++ h) := by
  refine ecalls k_RHash ?_
  have ht : h.take 32 = h := List.take_of_length_le (by omega)
  simp [c_RHash, Bs, Ag, ht]
  refine call0 (own_ok b (by omega)) rfl ?_
  rintro y H' ⟨rfl, rfl⟩
  refine ⟨.inl rfl, le_ok rfl, ?_⟩
  simp [R, RO, ht]
  exact ⟨by omega, by omega, fin [80] (by decide) rfl rfl rfl ⟨by simp, by simp⟩⟩

end Go.Proofs.YtejjhgdnmknejaaGreatDoor

namespace Go.Proofs.YtejjhgdnmknejaaGreatDoor
open Go Go.EW
set_option linter.unusedSimpArgs false
set_option linter.unusedVariables false

@[simp] def l_REncode_1 (_ : Unit) : List EOp := [⟨0, (some 1), none, (.q (.box 35 (.t 0))), []⟩, ⟨1, (some 2), none, (.q (.mov (.k (.slice none 0 0)))), []⟩]
@[simp] def b_REncode_2 (_ : Unit) : EB := reg0 (hid l_REncode_1) 2
@[simp] def l_REncode_5 (_ : Unit) : List EOp := [⟨8, (some 17), none, (.call 107 [(.t 12), (.t 16)]), [9, 10, 11, 12]⟩, ⟨13, (some 22), none, (.call 107 [(.t 17), (.t 21)]), []⟩, ⟨14, (some 3), none, (.q (.mov (.t 22))), []⟩]
@[simp] def l_REncode_4 (_ : Unit) : List EOp := ⟨7, (some 16), none, (.q (.cnv .u64 (.t 15))), []⟩ :: ⟨9, (some 18), none, (.q (.fad 1 (.t 1))), []⟩ :: ⟨10, (some 19), none, (.q (.iad 2 1 (.t 18) (.k (.int .i64 1)))), []⟩ :: ⟨11, (some 20), none, (.q (.ldc (.t 19))), []⟩ :: ⟨12, (some 21), none, (.q (.cnv .u64 (.t 20))), []⟩ :: ⟨3, (some 12), none, (.call 107 [(.k (.slice none 0 0)), (.t 11)]), [4, 5, 6, 7, 9, 10, 11, 12]⟩ :: hid l_REncode_5
@[simp] def l_REncode_3 (_ : Unit) : List EOp := ⟨0, (some 9), none, (.q (.fad 0 (.t 1))), []⟩ :: ⟨1, (some 10), none, (.q (.ldc (.t 9))), []⟩ :: ⟨2, (some 11), none, (.q (.cnv .u64 (.t 10))), []⟩ :: ⟨4, (some 13), none, (.q (.fad 1 (.t 1))), []⟩ :: ⟨5, (some 14), none, (.q (.iad 2 1 (.t 13) (.k (.int .i64 0)))), []⟩ :: ⟨6, (some 15), none, (.q (.ldc (.t 14))), []⟩ :: hid l_REncode_4
@[simp] def b_REncode_6 (_ : Unit) : EB := reg1 (hid l_REncode_3) 15
@[simp] def l_REncode_8 (_ : Unit) : List EOp := [⟨6, (some 3), none, (.q (.mov (.t 28))), []⟩]
@[simp] def l_REncode_7 (_ : Unit) : List EOp := ⟨0, (some 23), none, (.q (.mov (.t 3))), []⟩ :: ⟨1, (some 24), none, (.q (.fad 3 (.t 1))), []⟩ :: ⟨2, (some 25), none, (.q (.ldc (.t 24))), []⟩ :: ⟨3, (some 26), none, (.q (.len (.t 25))), []⟩ :: ⟨4, (some 27), none, (.q (.cnv .u64 (.t 26))), []⟩ :: ⟨5, (some 28), none, (.call 107 [(.t 23), (.t 27)]), []⟩ :: hid l_REncode_8
@[simp] def b_REncode_9 (_ : Unit) : EB := reg0 (hid l_REncode_7) 7
@[simp] def l_REncode_10 (_ : Unit) : List EOp := [⟨0, (some 4), none, (.q (.mov (.k (.int .i64 0)))), []⟩]
@[simp] def b_REncode_11 (_ : Unit) : EB := reg0 (hid l_REncode_10) 1
@[simp] def l_REncode_12 (_ : Unit) : List EOp := [⟨0, (some 29), none, (.q (.mov (.t 4))), []⟩, ⟨1, (some 30), none, (.q (.fad 3 (.t 1))), []⟩, ⟨2, (some 31), none, (.q (.ldc (.t 30))), []⟩, ⟨3, (some 32), none, (.q (.len (.t 31))), []⟩, ⟨4, (some 33), none, (.q (.bin .lss (.t 29) (.t 32))), []⟩]
@[simp] def b_REncode_13 (_ : Unit) : EB := reg0 (hid l_REncode_12) 5
@[simp] def b_REncode_14 (_ : Unit) : EB := .cond (.t 33) .skip (.exit 0)
@[simp] def b_REncode_15 (_ : Unit) : EB := .seq (hid b_REncode_13) (hid b_REncode_14)
@[simp] def l_REncode_17 (_ : Unit) : List EOp := [⟨6, none, none, (.sto 36 (.t 5) (.t 40)), []⟩]
@[simp] def l_REncode_16 (_ : Unit) : List EOp := ⟨0, (some 36), none, (.q (.fad 3 (.t 1))), []⟩ :: ⟨1, (some 37), none, (.q (.ldc (.t 36))), []⟩ :: ⟨2, (some 38), none, (.q (.mov (.t 4))), []⟩ :: ⟨3, (some 39), none, (.q (.isl 36 (.t 37) (.t 38))), []⟩ :: ⟨4, (some 40), none, (.q (.lda 36 (.t 39))), []⟩ :: ⟨5, (some 5), none, (.q (.alloc 128 (([(.int .i64 0), (.int .i64 0), (.int .i64 0), (.int .i64 0)] : List Value) ++ zU8))), []⟩ :: hid l_REncode_17
@[simp] def b_REncode_18 (_ : Unit) : EB := reg0 (hid l_REncode_16) 7
@[simp] def l_REncode_21 (_ : Unit) : List EOp := [⟨15, (some 56), none, (.q (.cnv .u64 (.t 55))), []⟩, ⟨4, (some 45), none, (.call 107 [(.t 41), (.t 44)]), [5, 6, 7, 9, 10, 11, 13, 14, 15]⟩, ⟨8, (some 49), none, (.call 107 [(.t 45), (.t 48)]), [9, 10, 11, 13, 14, 15]⟩, ⟨12, (some 53), none, (.call 107 [(.t 49), (.t 52)]), [13, 14, 15]⟩, ⟨16, (some 57), none, (.call 107 [(.t 53), (.t 56)]), []⟩, ⟨17, (some 3), none, (.q (.mov (.t 57))), []⟩]
@[simp] def l_REncode_20 (_ : Unit) : List EOp := ⟨7, (some 48), none, (.q (.cnv .u64 (.t 47))), []⟩ :: ⟨9, (some 50), none, (.q (.fad 2 (.t 5))), []⟩ :: ⟨10, (some 51), none, (.q (.ldc (.t 50))), []⟩ :: ⟨11, (some 52), none, (.q (.cnv .u64 (.t 51))), []⟩ :: ⟨13, (some 54), none, (.q (.fad 3 (.t 5))), []⟩ :: ⟨14, (some 55), none, (.q (.ldc (.t 54))), []⟩ :: hid l_REncode_21
@[simp] def l_REncode_19 (_ : Unit) : List EOp := ⟨0, (some 41), none, (.q (.mov (.t 3))), []⟩ :: ⟨1, (some 42), none, (.q (.fad 0 (.t 5))), []⟩ :: ⟨2, (some 43), none, (.q (.ldc (.t 42))), []⟩ :: ⟨3, (some 44), none, (.q (.cnv .u64 (.t 43))), []⟩ :: ⟨5, (some 46), none, (.q (.fad 1 (.t 5))), []⟩ :: ⟨6, (some 47), none, (.q (.ldc (.t 46))), []⟩ :: hid l_REncode_20
@[simp] def b_REncode_22 (_ : Unit) : EB := reg1 (hid l_REncode_19) 18
@[simp] def l_REncode_23 (_ : Unit) : List EOp := [⟨0, (some 58), none, (.q (.mov (.t 3))), []⟩, ⟨1, (some 59), none, (.q (.fad 4 (.t 5))), []⟩, ⟨2, (some 60), none, (.q (.lda 32 (.t 59))), []⟩, ⟨3, (some 61), none, (.call 108 [(.t 58), (.t 60)]), []⟩, ⟨4, (some 3), none, (.q (.mov (.t 61))), []⟩]
@[simp] def b_REncode_24 (_ : Unit) : EB := reg0 (hid l_REncode_23) 5
@[simp] def b_REncode_25 (_ : Unit) : EB := .seq (hid b_REncode_22) (hid b_REncode_24)
@[simp] def b_REncode_26 (_ : Unit) : EB := .seq (hid b_REncode_18) (hid b_REncode_25)
@[simp] def b_REncode_27 (_ : Unit) : EB := .block 1 (hid b_REncode_26)
@[simp] def l_REncode_28 (_ : Unit) : List EOp := [⟨0, (some 34), none, (.q (.mov (.t 4))), []⟩, ⟨1, (some 35), none, (.q (.bin .add (.t 34) (.k (.int .i64 1)))), []⟩, ⟨2, (some 4), none, (.q (.mov (.t 35))), []⟩]
@[simp] def b_REncode_29 (_ : Unit) : EB := reg0 (hid l_REncode_28) 3
@[simp] def b_REncode_30 (_ : Unit) : EB := .seq (hid b_REncode_27) (hid b_REncode_29)
@[simp] def b_REncode_31 (_ : Unit) : EB := .seq (hid b_REncode_15) (hid b_REncode_30)
@[simp] def b_REncode_32 (_ : Unit) : EB := .loop (hid b_REncode_31)
@[simp] def b_REncode_33 (_ : Unit) : EB := .block 0 (hid b_REncode_32)
@[simp] def b_REncode_34 (_ : Unit) : EB := .seq (hid b_REncode_11) (hid b_REncode_33)
@[simp] def l_REncode_36 (_ : Unit) : List EOp := [⟨6, (some 3), none, (.q (.mov (.t 67))), []⟩]
@[simp] def l_REncode_35 (_ : Unit) : List EOp := ⟨0, (some 62), none, (.q (.mov (.t 3))), []⟩ :: ⟨1, (some 63), none, (.q (.fad 4 (.t 1))), []⟩ :: ⟨2, (some 64), none, (.q (.ldc (.t 63))), []⟩ :: ⟨3, (some 65), none, (.q (.len (.t 64))), []⟩ :: ⟨4, (some 66), none, (.q (.cnv .u64 (.t 65))), []⟩ :: ⟨5, (some 67), none, (.call 107 [(.t 62), (.t 66)]), []⟩ :: hid l_REncode_36
@[simp] def b_REncode_37 (_ : Unit) : EB := reg0 (hid l_REncode_35) 7
@[simp] def l_REncode_38 (_ : Unit) : List EOp := [⟨0, (some 6), none, (.q (.mov (.k (.int .i64 0)))), []⟩]
@[simp] def b_REncode_39 (_ : Unit) : EB := reg0 (hid l_REncode_38) 1
@[simp] def l_REncode_40 (_ : Unit) : List EOp := [⟨0, (some 68), none, (.q (.mov (.t 6))), []⟩, ⟨1, (some 69), none, (.q (.fad 4 (.t 1))), []⟩, ⟨2, (some 70), none, (.q (.ldc (.t 69))), []⟩, ⟨3, (some 71), none, (.q (.len (.t 70))), []⟩, ⟨4, (some 72), none, (.q (.bin .lss (.t 68) (.t 71))), []⟩]
@[simp] def b_REncode_41 (_ : Unit) : EB := reg0 (hid l_REncode_40) 5
@[simp] def b_REncode_42 (_ : Unit) : EB := .cond (.t 72) .skip (.exit 2)
@[simp] def b_REncode_43 (_ : Unit) : EB := .seq (hid b_REncode_41) (hid b_REncode_42)
@[simp] def l_REncode_45 (_ : Unit) : List EOp := [⟨6, none, none, (.fz (.sto 3 (.t 7) (.t 79))), []⟩]
@[simp] def l_REncode_44 (_ : Unit) : List EOp := ⟨0, (some 75), none, (.q (.fad 4 (.t 1))), []⟩ :: ⟨1, (some 76), none, (.q (.ldc (.t 75))), []⟩ :: ⟨2, (some 77), none, (.q (.mov (.t 6))), []⟩ :: ⟨3, (some 78), none, (.q (.isl 3 (.t 76) (.t 77))), []⟩ :: ⟨4, (some 79), none, (.q (.lda 3 (.t 78))), []⟩ :: ⟨5, (some 7), none, (.q (.alloc 120 [(.int .i64 0), (.int .i64 0), (.slice none 0 0)])), []⟩ :: hid l_REncode_45
@[simp] def b_REncode_46 (_ : Unit) : EB := reg0 (hid l_REncode_44) 7
@[simp] def l_REncode_49 (_ : Unit) : List EOp := [⟨8, (some 88), none, (.call 107 [(.t 84), (.t 87)]), [9, 10, 11, 12]⟩, ⟨13, (some 93), none, (.call 107 [(.t 88), (.t 92)]), []⟩, ⟨14, (some 3), none, (.q (.mov (.t 93))), []⟩]
@[simp] def l_REncode_48 (_ : Unit) : List EOp := ⟨7, (some 87), none, (.q (.cnv .u64 (.t 86))), []⟩ :: ⟨9, (some 89), none, (.q (.fad 2 (.t 7))), []⟩ :: ⟨10, (some 90), none, (.q (.ldc (.t 89))), []⟩ :: ⟨11, (some 91), none, (.q (.len (.t 90))), []⟩ :: ⟨12, (some 92), none, (.q (.cnv .u64 (.t 91))), []⟩ :: ⟨4, (some 84), none, (.call 107 [(.t 80), (.t 83)]), [5, 6, 7, 9, 10, 11, 12]⟩ :: hid l_REncode_49
@[simp] def l_REncode_47 (_ : Unit) : List EOp := ⟨0, (some 80), none, (.q (.mov (.t 3))), []⟩ :: ⟨1, (some 81), none, (.q (.fad 0 (.t 7))), []⟩ :: ⟨2, (some 82), none, (.q (.ldc (.t 81))), []⟩ :: ⟨3, (some 83), none, (.q (.cnv .u64 (.t 82))), []⟩ :: ⟨5, (some 85), none, (.q (.fad 1 (.t 7))), []⟩ :: ⟨6, (some 86), none, (.q (.ldc (.t 85))), []⟩ :: hid l_REncode_48
@[simp] def b_REncode_50 (_ : Unit) : EB := reg1 (hid l_REncode_47) 15
@[simp] def l_REncode_51 (_ : Unit) : List EOp := [⟨0, (some 8), none, (.q (.mov (.k (.int .i64 0)))), []⟩]
@[simp] def b_REncode_52 (_ : Unit) : EB := reg0 (hid l_REncode_51) 1
@[simp] def l_REncode_53 (_ : Unit) : List EOp := [⟨0, (some 94), none, (.q (.mov (.t 8))), []⟩, ⟨1, (some 95), none, (.q (.fad 2 (.t 7))), []⟩, ⟨2, (some 96), none, (.q (.ldc (.t 95))), []⟩, ⟨3, (some 97), none, (.q (.len (.t 96))), []⟩, ⟨4, (some 98), none, (.q (.bin .lss (.t 94) (.t 97))), []⟩]
@[simp] def b_REncode_54 (_ : Unit) : EB := reg0 (hid l_REncode_53) 5
@[simp] def b_REncode_55 (_ : Unit) : EB := .cond (.t 98) .skip (.exit 4)
@[simp] def b_REncode_56 (_ : Unit) : EB := .seq (hid b_REncode_54) (hid b_REncode_55)
@[simp] def l_REncode_58 (_ : Unit) : List EOp := [⟨6, (some 107), none, (.q (.cnv .u64 (.t 106))), []⟩, ⟨7, (some 108), none, (.call 107 [(.t 101), (.t 107)]), []⟩, ⟨8, (some 3), none, (.q (.mov (.t 108))), []⟩]
@[simp] def l_REncode_57 (_ : Unit) : List EOp := ⟨0, (some 101), none, (.q (.mov (.t 3))), []⟩ :: ⟨1, (some 102), none, (.q (.fad 2 (.t 7))), []⟩ :: ⟨2, (some 103), none, (.q (.ldc (.t 102))), []⟩ :: ⟨3, (some 104), none, (.q (.mov (.t 8))), []⟩ :: ⟨4, (some 105), none, (.q (.isl 1 (.t 103) (.t 104))), []⟩ :: ⟨5, (some 106), none, (.q (.ldc (.t 105))), []⟩ :: hid l_REncode_58
@[simp] def b_REncode_59 (_ : Unit) : EB := reg0 (hid l_REncode_57) 9
@[simp] def b_REncode_60 (_ : Unit) : EB := .block 5 (hid b_REncode_59)
@[simp] def l_REncode_61 (_ : Unit) : List EOp := [⟨0, (some 99), none, (.q (.mov (.t 8))), []⟩, ⟨1, (some 100), none, (.q (.bin .add (.t 99) (.k (.int .i64 1)))), []⟩, ⟨2, (some 8), none, (.q (.mov (.t 100))), []⟩]
@[simp] def b_REncode_62 (_ : Unit) : EB := reg0 (hid l_REncode_61) 3
@[simp] def b_REncode_63 (_ : Unit) : EB := .seq (hid b_REncode_60) (hid b_REncode_62)
@[simp] def b_REncode_64 (_ : Unit) : EB := .seq (hid b_REncode_56) (hid b_REncode_63)
@[simp] def b_REncode_65 (_ : Unit) : EB := .loop (hid b_REncode_64)
@[simp] def b_REncode_66 (_ : Unit) : EB := .block 4 (hid b_REncode_65)
@[simp] def b_REncode_67 (_ : Unit) : EB := .seq (hid b_REncode_52) (hid b_REncode_66)
@[simp] def b_REncode_68 (_ : Unit) : EB := .seq (hid b_REncode_50) (hid b_REncode_67)
@[simp] def b_REncode_69 (_ : Unit) : EB := .seq (hid b_REncode_46) (hid b_REncode_68)
@[simp] def b_REncode_70 (_ : Unit) : EB := .block 3 (hid b_REncode_69)
@[simp] def l_REncode_71 (_ : Unit) : List EOp := [⟨0, (some 73), none, (.q (.mov (.t 6))), []⟩, ⟨1, (some 74), none, (.q (.bin .add (.t 73) (.k (.int .i64 1)))), []⟩, ⟨2, (some 6), none, (.q (.mov (.t 74))), []⟩]
@[simp] def b_REncode_72 (_ : Unit) : EB := reg0 (hid l_REncode_71) 3
@[simp] def b_REncode_73 (_ : Unit) : EB := .seq (hid b_REncode_70) (hid b_REncode_72)
@[simp] def b_REncode_74 (_ : Unit) : EB := .seq (hid b_REncode_43) (hid b_REncode_73)
@[simp] def b_REncode_75 (_ : Unit) : EB := .loop (hid b_REncode_74)
@[simp] def b_REncode_76 (_ : Unit) : EB := .block 2 (hid b_REncode_75)
@[simp] def b_REncode_77 (_ : Unit) : EB := .seq (hid b_REncode_39) (hid b_REncode_76)
@[simp] def l_REncode_78 (_ : Unit) : List EOp := [⟨0, (some 109), none, (.q (.mov (.t 3))), []⟩, ⟨1, (some 2), none, (.q (.mov (.t 109))), []⟩]
@[simp] def b_REncode_79 (_ : Unit) : EB := reg0 (hid l_REncode_78) 2
@[simp] def b_REncode_80 (_ : Unit) : EB := .seq (hid b_REncode_79) .ret
@[simp] def b_REncode_81 (_ : Unit) : EB := .seq (hid b_REncode_77) (hid b_REncode_80)
@[simp] def b_REncode_82 (_ : Unit) : EB := .seq (hid b_REncode_37) (hid b_REncode_81)
@[simp] def b_REncode_83 (_ : Unit) : EB := .seq (hid b_REncode_34) (hid b_REncode_82)
@[simp] def b_REncode_84 (_ : Unit) : EB := .seq (hid b_REncode_9) (hid b_REncode_83)
@[simp] def b_REncode_85 (_ : Unit) : EB := .seq (hid b_REncode_6) (hid b_REncode_84)
@[simp] def b_REncode_86 (_ : Unit) : EB := .seq (hid b_REncode_2) (hid b_REncode_85)
theorem RUint_nil (n : Nat) (h : n < 18446744073709551616) : ECalls Tryz.prog 107 [.v (.c (.fz (.lit (.slice none 0 0)))), I .u64 n] [] fun y H' => H' = [some (RO (uintB n))] ∧ y = R 0 (uintB n) := ecalls_nil (es := 1) (RUint_ok [] n h (by simp))
theorem uB_eq (n : Int) : uintB (u64n n) = uB n := rfl
end Go.Proofs.YtejjhgdnmknejaaGreatDoor

namespace Go.Proofs.YtejjhgdnmknejaaGreatDoor
open Go Go.EW
set_option linter.unusedSimpArgs false
set_option linter.unusedVariables false

@[simp] def l_Concat_1 (_ : Unit) : List EOp := [⟨0, (some 2), none, (.q (.mov (.k (.slice none 0 0)))), []⟩]
@[simp] def b_Concat_2 (_ : Unit) : EB := reg0 (hid l_Concat_1) 1
@[simp] def l_Concat_3 (_ : Unit) : List EOp := [⟨0, (some 3), none, (.q (.mov (.k (.int .i64 0)))), []⟩]
@[simp] def b_Concat_4 (_ : Unit) : EB := reg0 (hid l_Concat_3) 1
@[simp] def l_Concat_5 (_ : Unit) : List EOp := [⟨0, (some 9), none, (.q (.mov (.t 0))), []⟩, ⟨1, (some 10), none, (.q (.len (.t 9))), []⟩, ⟨2, (some 11), none, (.q (.mov (.k (.int .i64 0)))), []⟩]
@[simp] def b_Concat_6 (_ : Unit) : EB := reg0 (hid l_Concat_5) 3
@[simp] def l_Concat_7 (_ : Unit) : List EOp := [⟨0, (some 12), none, (.q (.bin .lss (.t 11) (.t 10))), []⟩]
@[simp] def b_Concat_8 (_ : Unit) : EB := reg0 (hid l_Concat_7) 1
@[simp] def b_Concat_9 (_ : Unit) : EB := .cond (.t 12) .skip (.exit 0)
@[simp] def l_Concat_10 (_ : Unit) : List EOp := [⟨0, (some 13), none, (.q (.isl 1 (.t 9) (.t 11))), []⟩, ⟨1, (some 14), none, (.q (.ldc (.t 13))), []⟩, ⟨2, (some 5), none, (.q (.mov (.t 14))), []⟩]
@[simp] def b_Concat_11 (_ : Unit) : EB := reg0 (hid l_Concat_10) 3
@[simp] def l_Concat_12 (_ : Unit) : List EOp := [⟨0, (some 15), none, (.q (.mov (.t 3))), []⟩, ⟨1, (some 16), none, (.q (.mov (.t 5))), []⟩, ⟨2, (some 17), none, (.q (.len (.t 16))), []⟩, ⟨3, (some 18), none, (.q (.bin .add (.t 15) (.t 17))), []⟩, ⟨4, (some 3), none, (.q (.mov (.t 18))), []⟩]
@[simp] def b_Concat_13 (_ : Unit) : EB := reg0 (hid l_Concat_12) 5
@[simp] def l_Concat_14 (_ : Unit) : List EOp := [⟨0, (some 19), none, (.q (.mov (.t 3))), []⟩, ⟨1, (some 20), none, (.q (.bin .lss (.t 19) (.k (.int .i64 0)))), []⟩]
@[simp] def b_Concat_15 (_ : Unit) : EB := reg0 (hid l_Concat_14) 2
@[simp] def b_Concat_16 (_ : Unit) : EB := .cond (.t 20) .bot .skip
@[simp] def b_Concat_17 (_ : Unit) : EB := .seq (hid b_Concat_15) (hid b_Concat_16)
@[simp] def b_Concat_18 (_ : Unit) : EB := .seq (hid b_Concat_13) (hid b_Concat_17)
@[simp] def b_Concat_19 (_ : Unit) : EB := .seq (hid b_Concat_11) (hid b_Concat_18)
@[simp] def b_Concat_20 (_ : Unit) : EB := .block 1 (hid b_Concat_19)
@[simp] def l_Concat_21 (_ : Unit) : List EOp := [⟨0, (some 22), none, (.q (.bin .add (.t 11) (.k (.int .i64 1)))), []⟩, ⟨1, (some 11), none, (.q (.mov (.t 22))), []⟩]
@[simp] def b_Concat_22 (_ : Unit) : EB := reg0 (hid l_Concat_21) 2
@[simp] def b_Concat_23 (_ : Unit) : EB := .seq (hid b_Concat_20) (hid b_Concat_22)
@[simp] def b_Concat_24 (_ : Unit) : EB := .seq (hid b_Concat_9) (hid b_Concat_23)
@[simp] def b_Concat_25 (_ : Unit) : EB := .seq (hid b_Concat_8) (hid b_Concat_24)
@[simp] def b_Concat_26 (_ : Unit) : EB := .loop (hid b_Concat_25)
@[simp] def b_Concat_27 (_ : Unit) : EB := .block 0 (hid b_Concat_26)
@[simp] def b_Concat_28 (_ : Unit) : EB := .seq (hid b_Concat_6) (hid b_Concat_27)
@[simp] def l_Concat_29 (_ : Unit) : List EOp := [⟨0, (some 23), none, (.q (.mov (.t 3))), []⟩, ⟨1, (some 24), none, (.call 199 [(.k (.slice none 0 0)), (.t 23)]), []⟩, ⟨2, (some 6), none, (.q (.mov (.t 24))), []⟩]
@[simp] def b_Concat_30 (_ : Unit) : EB := reg0 (hid l_Concat_29) 3
@[simp] def l_Concat_31 (_ : Unit) : List EOp := [⟨0, (some 25), none, (.q (.mov (.t 0))), []⟩, ⟨1, (some 26), none, (.q (.len (.t 25))), []⟩, ⟨2, (some 27), none, (.q (.mov (.k (.int .i64 0)))), []⟩]
@[simp] def b_Concat_32 (_ : Unit) : EB := reg0 (hid l_Concat_31) 3
@[simp] def l_Concat_33 (_ : Unit) : List EOp := [⟨0, (some 28), none, (.q (.bin .lss (.t 27) (.t 26))), []⟩]
@[simp] def b_Concat_34 (_ : Unit) : EB := reg0 (hid l_Concat_33) 1
@[simp] def b_Concat_35 (_ : Unit) : EB := .cond (.t 28) .skip (.exit 2)
@[simp] def l_Concat_36 (_ : Unit) : List EOp := [⟨0, (some 29), none, (.q (.isl 1 (.t 25) (.t 27))), []⟩, ⟨1, (some 30), none, (.q (.ldc (.t 29))), []⟩, ⟨2, (some 8), none, (.q (.mov (.t 30))), []⟩]
@[simp] def b_Concat_37 (_ : Unit) : EB := reg0 (hid l_Concat_36) 3
@[simp] def l_Concat_38 (_ : Unit) : List EOp := [⟨0, (some 31), none, (.q (.mov (.t 6))), []⟩, ⟨1, (some 32), none, (.q (.mov (.t 8))), []⟩, ⟨2, (some 33), none, (.app 5 1 1 (.t 31) (.t 32)), []⟩, ⟨3, (some 6), none, (.q (.mov (.t 33))), []⟩]
@[simp] def b_Concat_39 (_ : Unit) : EB := reg0 (hid l_Concat_38) 4
@[simp] def b_Concat_40 (_ : Unit) : EB := .seq (hid b_Concat_37) (hid b_Concat_39)
@[simp] def b_Concat_41 (_ : Unit) : EB := .block 3 (hid b_Concat_40)
@[simp] def l_Concat_42 (_ : Unit) : List EOp := [⟨0, (some 34), none, (.q (.bin .add (.t 27) (.k (.int .i64 1)))), []⟩, ⟨1, (some 27), none, (.q (.mov (.t 34))), []⟩]
@[simp] def b_Concat_43 (_ : Unit) : EB := reg0 (hid l_Concat_42) 2
@[simp] def b_Concat_44 (_ : Unit) : EB := .seq (hid b_Concat_41) (hid b_Concat_43)
@[simp] def b_Concat_45 (_ : Unit) : EB := .seq (hid b_Concat_35) (hid b_Concat_44)
@[simp] def b_Concat_46 (_ : Unit) : EB := .seq (hid b_Concat_34) (hid b_Concat_45)
@[simp] def b_Concat_47 (_ : Unit) : EB := .loop (hid b_Concat_46)
@[simp] def b_Concat_48 (_ : Unit) : EB := .block 2 (hid b_Concat_47)
@[simp] def b_Concat_49 (_ : Unit) : EB := .seq (hid b_Concat_32) (hid b_Concat_48)
@[simp] def l_Concat_50 (_ : Unit) : List EOp := [⟨0, (some 35), none, (.q (.mov (.t 6))), []⟩, ⟨1, (some 2), none, (.q (.mov (.t 35))), []⟩]
@[simp] def b_Concat_51 (_ : Unit) : EB := reg0 (hid l_Concat_50) 2
@[simp] def b_Concat_52 (_ : Unit) : EB := .seq (hid b_Concat_51) .ret
@[simp] def b_Concat_53 (_ : Unit) : EB := .seq (hid b_Concat_49) (hid b_Concat_52)
@[simp] def b_Concat_54 (_ : Unit) : EB := .seq (hid b_Concat_30) (hid b_Concat_53)
@[simp] def b_Concat_55 (_ : Unit) : EB := .seq (hid b_Concat_28) (hid b_Concat_54)
@[simp] def b_Concat_56 (_ : Unit) : EB := .seq (hid b_Concat_4) (hid b_Concat_55)
@[simp] def b_Concat_57 (_ : Unit) : EB := .seq (hid b_Concat_2) (hid b_Concat_56)
def c_Concat : EB × List QOp × Nat := ((hid b_Concat_57), [(.mov (.t 2))], 36)
theorem k_Concat : cfun Tryz.prog 170 = some c_Concat := by kernel_rfl

@[simp] def l_CPut_1 (_ : Unit) : List EOp := [⟨0, (some 3), none, (.q (.box 109 (.t 1))), []⟩, ⟨1, (some 4), none, (.q (.mov (.k (.slice none 0 0)))), []⟩]
@[simp] def b_CPut_2 (_ : Unit) : EB := reg0 (hid l_CPut_1) 2
@[simp] def l_CPut_4 (_ : Unit) : List EOp := [⟨6, (some 5), none, (.q (.mov (.t 15))), []⟩]
@[simp] def l_CPut_3 (_ : Unit) : List EOp := ⟨1, (some 11), none, (.q (.fad 0 (.t 3))), []⟩ :: ⟨2, (some 12), none, (.q (.ldc (.t 11))), []⟩ :: ⟨3, (some 13), none, (.q (.len (.t 12))), []⟩ :: ⟨4, (some 14), none, (.q (.cnv .u64 (.t 13))), []⟩ :: ⟨0, (some 10), none, (.call 102 []), [1, 2, 3, 4]⟩ :: ⟨5, (some 15), none, (.call 104 [(.t 10), (.t 14)]), []⟩ :: hid l_CPut_4
@[simp] def b_CPut_5 (_ : Unit) : EB := reg1 (hid l_CPut_3) 7
@[simp] def l_CPut_6 (_ : Unit) : List EOp := [⟨0, (some 16), none, (.q (.fad 0 (.t 3))), []⟩, ⟨1, (some 17), none, (.q (.ldc (.t 16))), []⟩, ⟨2, (some 18), none, (.q (.len (.t 17))), []⟩, ⟨3, (some 19), none, (.q (.mov (.k (.int .i64 0)))), []⟩]
@[simp] def b_CPut_7 (_ : Unit) : EB := reg0 (hid l_CPut_6) 4
@[simp] def l_CPut_8 (_ : Unit) : List EOp := [⟨0, (some 20), none, (.q (.bin .lss (.t 19) (.t 18))), []⟩]
@[simp] def b_CPut_9 (_ : Unit) : EB := reg0 (hid l_CPut_8) 1
@[simp] def b_CPut_10 (_ : Unit) : EB := .cond (.t 20) .skip (.exit 0)
@[simp] def l_CPut_11 (_ : Unit) : List EOp := [⟨0, (some 21), none, (.q (.isl 35 (.t 17) (.t 19))), []⟩, ⟨1, (some 22), none, (.q (.lda 35 (.t 21))), []⟩, ⟨2, (some 7), none, (.q (.alloc 196 (([(.slice none 0 0)] : List Value) ++ zU8 ++ [(.int .i64 0), (.int .i64 0)]))), []⟩, ⟨3, none, none, (.fz (.sto 35 (.t 7) (.t 22))), []⟩]
@[simp] def b_CPut_12 (_ : Unit) : EB := reg0 (hid l_CPut_11) 4
@[simp] def l_CPut_13 (_ : Unit) : List EOp := [⟨0, (some 23), none, (.q (.mov (.t 5))), []⟩, ⟨1, (some 24), none, (.q (.fad 0 (.t 7))), []⟩, ⟨2, (some 25), none, (.q (.ldc (.t 24))), []⟩, ⟨3, (some 26), none, (.q (.len (.t 25))), []⟩, ⟨4, (some 27), none, (.q (.cnv .u64 (.t 26))), []⟩, ⟨5, (some 28), none, (.call 104 [(.t 23), (.t 27)]), []⟩]
@[simp] def b_CPut_14 (_ : Unit) : EB := reg0 (hid l_CPut_13) 6
@[simp] def l_CPut_15 (_ : Unit) : List EOp := [⟨0, (some 29), none, (.q (.fad 0 (.t 7))), []⟩, ⟨1, (some 30), none, (.q (.ldc (.t 29))), []⟩, ⟨2, (some 31), none, (.q (.len (.t 30))), []⟩, ⟨3, (some 32), none, (.q (.mov (.k (.int .i64 0)))), []⟩]
@[simp] def b_CPut_16 (_ : Unit) : EB := reg0 (hid l_CPut_15) 4
@[simp] def l_CPut_17 (_ : Unit) : List EOp := [⟨0, (some 33), none, (.q (.bin .lss (.t 32) (.t 31))), []⟩]
@[simp] def b_CPut_18 (_ : Unit) : EB := reg0 (hid l_CPut_17) 1
@[simp] def b_CPut_19 (_ : Unit) : EB := .cond (.t 33) .skip (.exit 2)
@[simp] def l_CPut_20 (_ : Unit) : List EOp := [⟨0, (some 34), none, (.q (.isl 1 (.t 30) (.t 32))), []⟩, ⟨1, (some 35), none, (.q (.ldc (.t 34))), []⟩, ⟨2, (some 9), none, (.q (.mov (.t 35))), []⟩]
@[simp] def b_CPut_21 (_ : Unit) : EB := reg0 (hid l_CPut_20) 3
@[simp] def l_CPut_22 (_ : Unit) : List EOp := [⟨0, (some 36), none, (.q (.mov (.t 5))), []⟩, ⟨1, (some 37), none, (.q (.mov (.t 9))), []⟩, ⟨2, (some 38), none, (.q (.cnv .u64 (.t 37))), []⟩, ⟨3, (some 39), none, (.call 104 [(.t 36), (.t 38)]), []⟩]
@[simp] def b_CPut_23 (_ : Unit) : EB := reg0 (hid l_CPut_22) 4
@[simp] def b_CPut_24 (_ : Unit) : EB := .seq (hid b_CPut_21) (hid b_CPut_23)
@[simp] def b_CPut_25 (_ : Unit) : EB := .block 3 (hid b_CPut_24)
@[simp] def l_CPut_26 (_ : Unit) : List EOp := [⟨0, (some 40), none, (.q (.bin .add (.t 32) (.k (.int .i64 1)))), []⟩, ⟨1, (some 32), none, (.q (.mov (.t 40))), []⟩]
@[simp] def b_CPut_27 (_ : Unit) : EB := reg0 (hid l_CPut_26) 2
@[simp] def b_CPut_28 (_ : Unit) : EB := .seq (hid b_CPut_25) (hid b_CPut_27)
@[simp] def b_CPut_29 (_ : Unit) : EB := .seq (hid b_CPut_19) (hid b_CPut_28)
@[simp] def b_CPut_30 (_ : Unit) : EB := .seq (hid b_CPut_18) (hid b_CPut_29)
@[simp] def b_CPut_31 (_ : Unit) : EB := .loop (hid b_CPut_30)
@[simp] def b_CPut_32 (_ : Unit) : EB := .block 2 (hid b_CPut_31)
@[simp] def b_CPut_33 (_ : Unit) : EB := .seq (hid b_CPut_16) (hid b_CPut_32)
@[simp] def l_CPut_35 (_ : Unit) : List EOp := [⟨8, (some 49), none, (.q (.fad 34 (.t 7))), []⟩, ⟨9, (some 50), none, (.q (.ldc (.t 49))), []⟩, ⟨10, (some 51), none, (.q (.cnv .u64 (.t 50))), []⟩, ⟨3, (some 44), none, (.call 105 [(.t 41), (.t 43)]), [4, 5, 6, 8, 9, 10]⟩, ⟨7, (some 48), none, (.call 104 [(.t 44), (.t 47)]), [8, 9, 10]⟩, ⟨11, (some 52), none, (.call 104 [(.t 48), (.t 51)]), []⟩]
@[simp] def l_CPut_34 (_ : Unit) : List EOp := ⟨0, (some 41), none, (.q (.mov (.t 5))), []⟩ :: ⟨1, (some 42), none, (.q (.fad 1 (.t 7))), []⟩ :: ⟨2, (some 43), none, (.q (.lda 32 (.t 42))), []⟩ :: ⟨4, (some 45), none, (.q (.fad 33 (.t 7))), []⟩ :: ⟨5, (some 46), none, (.q (.ldc (.t 45))), []⟩ :: ⟨6, (some 47), none, (.q (.cnv .u64 (.t 46))), []⟩ :: hid l_CPut_35
@[simp] def b_CPut_36 (_ : Unit) : EB := reg1 (hid l_CPut_34) 12
@[simp] def b_CPut_37 (_ : Unit) : EB := .seq (hid b_CPut_33) (hid b_CPut_36)
@[simp] def b_CPut_38 (_ : Unit) : EB := .seq (hid b_CPut_14) (hid b_CPut_37)
@[simp] def b_CPut_39 (_ : Unit) : EB := .seq (hid b_CPut_12) (hid b_CPut_38)
@[simp] def b_CPut_40 (_ : Unit) : EB := .block 1 (hid b_CPut_39)
@[simp] def l_CPut_41 (_ : Unit) : List EOp := [⟨0, (some 53), none, (.q (.bin .add (.t 19) (.k (.int .i64 1)))), []⟩, ⟨1, (some 19), none, (.q (.mov (.t 53))), []⟩]
@[simp] def b_CPut_42 (_ : Unit) : EB := reg0 (hid l_CPut_41) 2
@[simp] def b_CPut_43 (_ : Unit) : EB := .seq (hid b_CPut_40) (hid b_CPut_42)
@[simp] def b_CPut_44 (_ : Unit) : EB := .seq (hid b_CPut_10) (hid b_CPut_43)
@[simp] def b_CPut_45 (_ : Unit) : EB := .seq (hid b_CPut_9) (hid b_CPut_44)
@[simp] def b_CPut_46 (_ : Unit) : EB := .loop (hid b_CPut_45)
@[simp] def b_CPut_47 (_ : Unit) : EB := .block 0 (hid b_CPut_46)
@[simp] def b_CPut_48 (_ : Unit) : EB := .seq (hid b_CPut_7) (hid b_CPut_47)
@[simp] def l_CPut_49 (_ : Unit) : List EOp := [⟨0, (some 54), none, (.q (.mov (.t 0))), []⟩, ⟨1, (some 55), none, (.q (.mov (.t 5))), []⟩, ⟨2, (some 56), none, (.call 106 [(.t 55)]), []⟩, ⟨3, (some 57), none, (.fz (.q (.bsl 1 [(.slice none 0 0)] 2 [(0, (.t 54)), (1, (.t 56))]))), []⟩, ⟨4, (some 58), none, (.call 170 [(.t 57)]), []⟩, ⟨5, (some 4), none, (.q (.mov (.t 58))), []⟩]
@[simp] def b_CPut_50 (_ : Unit) : EB := reg0 (hid l_CPut_49) 6
@[simp] def b_CPut_51 (_ : Unit) : EB := .seq (hid b_CPut_50) .ret
@[simp] def b_CPut_52 (_ : Unit) : EB := .seq (hid b_CPut_48) (hid b_CPut_51)
@[simp] def b_CPut_53 (_ : Unit) : EB := .seq (hid b_CPut_5) (hid b_CPut_52)
@[simp] def b_CPut_54 (_ : Unit) : EB := .seq (hid b_CPut_2) (hid b_CPut_53)
def c_CPut : EB × List QOp × Nat := ((hid b_CPut_54), [(.mov (.t 4))], 59)
theorem k_CPut : cfun Tryz.prog 123 = some c_CPut := by kernel_rfl


/-! ### what is written of a condition -/
def braB (b : Bra) : List UInt8 := uB (b.keys.length : Int) ++ (usB b.keys ++ (b.lock ++ (uB b.af ++ uB b.ol)))
def brsB (l : List Bra) : List UInt8 := l.flatMap braB
def cndB (l : List Bra) : List UInt8 := uB (l.length : Int) ++ brsB l
theorem brsB_snoc (l : List Bra) (b : Bra) : brsB (l ++ [b]) = brsB l ++ braB b := by simp [brsB]
theorem flat_take {α : Type} (f : α → List UInt8) (l : List α) (i : Nat) : ((l.take i).flatMap f).length ≤ (l.flatMap f).length := by
  have : l.flatMap f = (l.take i).flatMap f ++ (l.drop i).flatMap f := by rw [← List.flatMap_append, List.take_append_drop]
  rw [this, List.length_append]
  omega
theorem flat_take_s {α : Type} (f : α → List UInt8) {l : List α} {i : Nat} {x : α} (h : l[i]? = some x) : ((l.take i).flatMap f).length + (f x).length ≤ (l.flatMap f).length := by
  have h1 := flat_take f l (i + 1)
  rw [take_s h, List.flatMap_append, List.length_append] at h1
  simpa using h1
theorem bsv_app (a b : List UInt8) : bsv a ++ bsv b = bsv (a ++ b) := by simp [bsv]
def two2 (a b : List UInt8) : List (List FV) := [[.sl 1 (bsv a)], [.sl 1 (bsv b)]]

def sumL (a b : List UInt8) (i : Nat) : Nat := if i = 0 then 0 else if i = 1 then a.length else a.length + b.length
def catL (a b : List UInt8) (i : Nat) : List UInt8 := if i = 0 then [] else if i = 1 then a else a ++ b
set_option maxHeartbeats 4000000 in
theorem Concat_ok (a b : List UInt8) (ha : a.length ≤ 400000000) (hb : b.length ≤ 400000000) (hb0 : 0 < b.length) : ECalls Tryz.prog 170 [.v (.c (.fz (.sl 1 (two2 a b))))] [] fun y H' => H' = [some (RO (a ++ b))] ∧ y = R 0 (a ++ b) := by
  have wa : IntKind.i64.wrap (a.length : Int) = (a.length : Int) := wrap_i64 (by omega) (by omega)
  have wb : IntKind.i64.wrap ((a.length : Int) + (b.length : Int)) = (a.length : Int) + (b.length : Int) := wrap_i64 (by omega) (by omega)
  have u1 : IntKind.i64.wrap 1 = 1 := by decide +kernel
  have u2 : IntKind.i64.wrap 2 = 2 := by decide +kernel
  have na : ¬ ((a.length : Int) < 0) := by omega
  have nb : ¬ ((a.length : Int) + (b.length : Int) < 0) := by omega
  refine ecalls k_Concat ?_
  simp [c_Concat, two2]
  refine eloop (α := Nat) (fun i => i ≤ 2) (fun i => 2 - i)
    (fun i => [.v (.c (.fz (.sl 1 (two2 a b)))), .any, .any, I .i64 (sumL a b i), .any, .any, .any, .any, .any, .v (.c (.fz (.sl 1 (two2 a b)))), I .i64 2, I .i64 i, .any, .any, .any, .any, .any, .any, .any, .any, .any, .any, .any, .any, .any, .any, .any, .any, .any, .any, .any, .any, .any, .any, .any, .any]) (fun i => []) 0 []
    (Nat.zero_le _) (by simp [I, two2, sumL]) (by simp) (by simp) (by simp) (by simp) ?_
  intro i hi
  obtain rfl | rfl | rfl : i = 0 ∨ i = 1 ∨ i = 2 := by omega
  · simp [I, two2, sumL, wa, na]
    exact round 1 [] (by omega) (by omega) (by simp [I, two2, sumL, u1]) (by simp) (by simp) (by simp) (by simp)
  · simp [I, two2, sumL, wb, nb]
    exact round 2 [] (by omega) (by omega) (by simp [I, two2, sumL, u2]) (by simp) (by simp) (by simp) (by simp)
  simp [I, two2, sumL]
  refine call0 (Grow_ok (a.length + b.length) (by omega) (by omega)) (by simp) ?_
  rintro y H' ⟨rfl, rfl⟩
  refine ⟨.inl (by simp), le_ok rfl, ?_⟩
  simp [I, two2]
  refine eloop (α := Nat) (fun i => i ≤ 2) (fun i => 2 - i)
    (fun i => [.any, .any, .any, .any, .any, .any, R 0 (catL a b i), .any, .any, .any, .any, .any, .any, .any, .any, .any, .any, .any, .any, .any, .any, .any, .any, .any, .any, .v (.c (.fz (.sl 1 (two2 a b)))), I .i64 2, I .i64 i, .any, .any, .any, .any, .any, .any, .any, .any]) (fun i => [some (RO (catL a b i))]) 0 [32]
    (Nat.zero_le _) (by simp [I, two2, catL, R]) (by simp [RO, catL, bsv]) (by simp) (by simp) (by simp) ?_
  intro i hi
  obtain rfl | rfl | rfl : i = 0 ∨ i = 1 ∨ i = 2 := by omega
  · simp [I, two2, catL, R, RO, u1]
    refine ⟨by omega, ?_⟩
    exact round 1 [97] (by omega) (by omega) (by simp [I, two2, catL, R]) (by simp [catL]) (by simp) (by simp) (by simp)
  · simp [I, two2, catL, R, RO, u2]
    refine ⟨by omega, ?_⟩
    exact round 2 [97] (by omega) (by omega) (by simp [I, two2, catL, R]) (by simp [catL, bsv_app]) (by simp) (by simp) (by simp)
  simp [I, two2, catL, R, RO]
  exact fin [0] (by decide) rfl rfl rfl ⟨rfl, rfl⟩

/-! ### a condition -/
def BRL (l : List Bra) : EV := .v (.c (.fz (.sl 35 (brav l))))
theorem drop34z (a b : EC) : List.drop 34 (hc hz ++ [a, b]) = [] := by rw [List.drop_eq_nil_iff]; simp [hz]
set_option maxHeartbeats 8000000 in
theorem CPut_ok (pre : List UInt8) (l : List Bra) (hl : ∀ b ∈ l, b.ok) (hn : l.length ≤ 100000000) (hs : pre.length + (cndB l).length ≤ 400000000) : ECalls Tryz.prog 123 [Bs pre, CNv l] [] fun y H' => H' = [some (RO (pre ++ cndB l))] ∧ y = R 0 (pre ++ cndB l) := by
  have hc0 : (cndB l).length = (uB (l.length : Int)).length + (brsB l).length := by simp [cndB]
  refine ecalls k_CPut ?_
  simp [c_CPut, CNv, Bs]
  refine call0 New_ok rfl ?_
  rintro y H' ⟨rfl, rfl⟩
  refine ⟨.inl rfl, le_ok rfl, ?_⟩
  simp [Ptr, WO, RO, wrap_u64n]
  refine callH [32, 33] (WUint_ok [] (u64n (l.length : Int)) (u64n_lt _) (by simp)) (by simp [Ptr, I]) (by simp [WO, RO]) (by simp) (by simp) (by simp) ?_
  rintro y H' ⟨rfl, rfl⟩
  refine ⟨.inl (by simp), le_ok rfl, ?_⟩
  simp [WO, RO, Ptr, uB_eq]
  obtain ⟨F, hF⟩ : ∃ F : Nat → List UInt8, F = fun i => uB (l.length : Int) ++ brsB (l.take i) := ⟨_, rfl⟩
  have hF0 : uB (l.length : Int) = F 0 := by rw [hF]; simp [brsB]
  have hFl : ∀ i, (F i).length ≤ 400000000 := by
    intro i
    have hfl := flat_take braB l i
    rw [hF]; simp only [List.length_append]; unfold brsB at *; omega
  rw [hF0]
  refine eloop (α := Nat) (fun i => i ≤ l.length) (fun i => l.length - i)
    (fun i => [Bs pre, .any, .any, .any, .any, Ptr 0, .any, .any, .any, .any, .any, .any, .any, .any, .any, .any, .any, BRL l, I .i64 l.length, I .i64 i, .any, .any, .any, .any, .any, .any, .any, .any, .any, .any, .any, .any, .any, .any, .any, .any, .any, .any, .any, .any, .any, .any, .any, .any, .any, .any, .any, .any, .any, .any, .any, .any, .any, .any, .any, .any, .any, .any, .any]) (fun i => [some (WO 1 (F i)), some (RO (F i))]) 0 [32, 112]
    (Nat.zero_le _) (by simp [Ptr, I, Bs, BRL]) (by simp [WO, RO]) (by simp) (by simp) (by simp) ?_
  intro i hi
  have hX := hFl i
  simp [Ptr, I, Bs, BRL, WO, RO]
  refine alt (fun hlt => ?_) (fun hlt => ?_)
  · have hln : i < l.length := by omega
    obtain ⟨b, hcx⟩ : ∃ b, l[i]? = some b := ⟨l[i], by simp [hln]⟩
    have hge : (brav l)[i]'(by simpa using hln) = braF b := by
      have e := brav_get hcx
      rw [List.getElem?_eq_getElem (by simpa using hln)] at e
      exact Option.some.inj e
    have hb := hl b (List.mem_of_getElem? hcx)
    obtain ⟨b1, b2, b3, b4, b5⟩ := id hb
    have l0 := bc_len b2
    have f0 := bf_len b2
    have tk := bc_take b2
    have lk : List.take 32 (braC b).tail = hc b.lock := by have := bc_lock b2; simpa using this
    have e0 := idx_of (bc_0 b) (by omega)
    have e33 := idx_of (bc_33 b2) (by omega)
    have e34 := idx_of (bc_34 b2) (by omega)
    have w1 : IntKind.i64.wrap ((i : Int) + 1) = ((i + 1 : Nat) : Int) := wrap_i64 (by omega) (by omega)
    have hfs := flat_take_s braB hcx
    have hbl : (braB b).length = (uB (b.keys.length : Int)).length + ((usB b.keys).length + (32 + ((uB b.af).length + (uB b.ol).length))) := by simp [braB, b2]
    have hXb : (F i).length + (braB b).length ≤ 400000000 := by
      rw [hF]; simp only [List.length_append]; unfold brsB at *; omega
    have hFs : F (i + 1) = F i ++ braB b := by rw [hF]; simp [take_s hcx, brsB_snoc]
    simp [hln, hge, braF_fz, l0, f0, tk, e0, wrap_u64n]
    refine callH [0, 1] (WUint_ok (F i) (u64n (b.keys.length : Int)) (u64n_lt _) (by omega)) (by simp [Ptr, I]) (by simp [WO, RO]) (by simp) (by simp) (by simp) ?_
    rintro y H' ⟨rfl, rfl⟩
    refine ⟨.inl (by simp), le_ok rfl, ?_⟩
    obtain ⟨G, hG⟩ : ∃ G : Nat → List UInt8, G = fun j => F i ++ uB (b.keys.length : Int) ++ usB (b.keys.take j) := ⟨_, rfl⟩
    have hG0 : F i ++ uB (b.keys.length : Int) = G 0 := by rw [hG]; simp [usB]
    have hGl : ∀ j, (G j).length + 32 + (uB b.af).length + (uB b.ol).length ≤ 400000000 := by
      intro j
      have hfk := flat_take uB b.keys j
      rw [hG]; simp only [List.length_append]; unfold usB at *; omega
    simp only [uB_eq, hG0]
    simp [WO, RO, Ptr, l0, e0, drop34z]
    refine eloop (α := Nat) (fun j => j ≤ b.keys.length) (fun j => b.keys.length - j)
      (fun j => [Bs pre, .any, .any, .any, .any, Ptr 0, .any, Ptr 2, .any, .any, .any, .any, .any, .any, .any, .any, .any, BRL l, I .i64 l.length, I .i64 i, .any, .any, .any, .any, .any, .any, .any, .any, .any, .any, IL b.keys, I .i64 b.keys.length, I .i64 j, .any, .any, .any, .any, .any, .any, .any, .any, .any, .any, .any, .any, .any, .any, .any, .any, .any, .any, .any, .any, .any, .any, .any, .any, .any, .any])
      (fun j => [some (WO 1 (G j)), some (RO (G j)), some (.box 196 (braC b))]) 0 [0, 162, 50]
      (Nat.zero_le _) (by simp [Ptr, I, Bs, BRL, IL]) (by simp [WO, RO]) (by simp) (by simp) (by simp) ?_
    intro j hj
    have hY := hGl j
    simp [Ptr, I, Bs, BRL, IL, WO, RO]
    refine alt (fun hlt2 => ?_) (fun hlt2 => ?_)
    · have hjn : j < b.keys.length := by omega
      obtain ⟨k, hc2⟩ : ∃ k, b.keys[j]? = some k := ⟨b.keys[j], by simp [hjn]⟩
      have hcb2 := intv_get hc2
      have w3 : IntKind.i64.wrap ((j : Int) + 1) = ((j + 1 : Nat) : Int) := wrap_i64 (by omega) (by omega)
      have hGs : G (j + 1) = G j ++ uB k := by rw [hG]; simp [take_s hc2, usB_snoc]
      simp [hcb2, wrap_u64n]
      refine callH [0, 1] (WUint_ok (G j) (u64n k) (u64n_lt _) (by omega)) (by simp [Ptr, I]) (by simp [WO, RO]) (by simp) (by simp) (by simp) ?_
      rintro y H' ⟨rfl, rfl⟩
      refine ⟨.inl (by simp), le_ok rfl, ?_⟩
      simp only [uB_eq, ← hGs]
      simp [WO, RO, Ptr, w3, -Int.natCast_add]
      exact round (j + 1) [0, 115, 2] (by omega) (by omega) (by simp [Ptr, I, Bs, BRL, IL]) (by simp [WO, RO]) (by simp) (by simp) (by simp)
    have hjl : j = b.keys.length := by omega
    subst hjl
    simp [l0, lk, e33, e34, iC, wrap_u64n]
    refine callH [0, 1] (WHash_ok (G b.keys.length) b.lock (by omega) b2) (by simp [Ptr, Ag, lk]) (by simp [WO, RO]) (by simp) (by simp [lk]) (by simp) ?_
    rintro y H' ⟨rfl, rfl⟩
    refine ⟨.inl (by simp), le_ok rfl, ?_⟩
    simp [WO, RO, Ptr, l0, lk, e33, e34, iC, wrap_u64n]
    refine callH [0, 67] (WUint_ok (G b.keys.length ++ b.lock) (u64n b.af) (u64n_lt _) (by simp; omega)) (by simp [Ptr, I]) (by simp [WO, RO]) (by simp) (by simp) (by simp) ?_
    rintro y H' ⟨rfl, rfl⟩
    refine ⟨.inl (by simp), le_ok rfl, ?_⟩
    simp only [uB_eq]
    simp [WO, RO, Ptr, l0, lk, e33, e34, iC, wrap_u64n]
    refine callH [0, 131] (WUint_ok (G b.keys.length ++ b.lock ++ uB b.af) (u64n b.ol) (u64n_lt _) (by simp; omega)) (by simp [Ptr, I]) (by simp [WO, RO]) (by simp) (by simp) (by simp) ?_
    rintro y H' ⟨rfl, rfl⟩
    refine ⟨.inl (by simp), le_ok rfl, ?_⟩
    have hGe : G b.keys.length ++ b.lock ++ uB b.af ++ uB b.ol = F (i + 1) := by rw [hFs, hG]; simp [braB]
    simp only [uB_eq, hGe]
    simp [WO, RO, Ptr, w1, -Int.natCast_add]
    exact round (i + 1) [0, 195] (by omega) (by omega) (by simp [Ptr, I, Bs, BRL]) (by simp [WO, RO]) (by simp) (by simp) (by simp)
  have hil : i = l.length := by omega
  subst hil
  have hXc : cndB l = F l.length := by rw [hF]; simp [cndB]
  simp
  refine callH [0, 1] (WDone_ok (F l.length) (by omega)) (by simp [Ptr]) (by simp [WO, RO]) (by simp) (by simp) (by simp) ?_
  rintro y H' ⟨rfl, rfl⟩
  refine ⟨.inl (by simp), le_ok rfl, ?_⟩
  simp [WO, RO, R]
  refine call0 (Concat_ok pre (F l.length) (by omega) (by omega) (by rw [← hXc, hc0]; simp [uB, uintB]; omega)) (by simp [two2]) ?_
  rintro y H' ⟨rfl, rfl⟩
  refine ⟨.inl (by simp), le_ok rfl, ?_⟩
  simp [R, RO]
  exact fin [82] (by decide) rfl rfl rfl ⟨by simp [hXc], by simp [hXc]⟩

end Go.Proofs.YtejjhgdnmknejaaGreatDoor

namespace Go.Proofs.YtejjhgdnmknejaaGreatDoor
open Go Go.EW
set_option linter.unusedSimpArgs false
set_option linter.unusedVariables false

@[simp] def l_TPut_1 (_ : Unit) : List EOp := [⟨0, (some 2), none, (.q (.box 71 (.t 0))), []⟩, ⟨1, (some 4), none, (.q (.mov (.k (.slice none 0 0)))), []⟩]
@[simp] def b_TPut_2 (_ : Unit) : EB := reg0 (hid l_TPut_1) 2
@[simp] def l_TPut_4 (_ : Unit) : List EOp := [⟨8, (some 19), none, (.q (.cnv .u64 (.t 18))), []⟩, ⟨0, (some 11), none, (.call 102 []), [1, 2, 3, 5, 6, 7, 8]⟩, ⟨4, (some 15), none, (.call 104 [(.t 11), (.t 14)]), [5, 6, 7, 8]⟩, ⟨9, (some 20), none, (.call 104 [(.t 15), (.t 19)]), []⟩, ⟨10, (some 5), none, (.q (.mov (.t 20))), []⟩]
@[simp] def l_TPut_3 (_ : Unit) : List EOp := ⟨1, (some 12), none, (.q (.fad 0 (.t 2))), []⟩ :: ⟨2, (some 13), none, (.q (.ldc (.t 12))), []⟩ :: ⟨3, (some 14), none, (.q (.cnv .u64 (.t 13))), []⟩ :: ⟨5, (some 16), none, (.q (.fad 1 (.t 2))), []⟩ :: ⟨6, (some 17), none, (.q (.ldc (.t 16))), []⟩ :: ⟨7, (some 18), none, (.q (.len (.t 17))), []⟩ :: hid l_TPut_4
@[simp] def b_TPut_5 (_ : Unit) : EB := reg1 (hid l_TPut_3) 11
@[simp] def l_TPut_6 (_ : Unit) : List EOp := [⟨0, (some 21), none, (.q (.fad 1 (.t 2))), []⟩, ⟨1, (some 22), none, (.q (.ldc (.t 21))), []⟩, ⟨2, (some 23), none, (.q (.len (.t 22))), []⟩, ⟨3, (some 24), none, (.q (.mov (.k (.int .i64 0)))), []⟩]
@[simp] def b_TPut_7 (_ : Unit) : EB := reg0 (hid l_TPut_6) 4
@[simp] def l_TPut_8 (_ : Unit) : List EOp := [⟨0, (some 25), none, (.q (.bin .lss (.t 24) (.t 23))), []⟩]
@[simp] def b_TPut_9 (_ : Unit) : EB := reg0 (hid l_TPut_8) 1
@[simp] def b_TPut_10 (_ : Unit) : EB := .cond (.t 25) .skip (.exit 0)
@[simp] def l_TPut_11 (_ : Unit) : List EOp := [⟨0, (some 26), none, (.q (.isl 35 (.t 22) (.t 24))), []⟩, ⟨1, (some 27), none, (.q (.lda 35 (.t 26))), []⟩, ⟨2, (some 7), none, (.q (.alloc 146 (zU8 ++ [(.int .i64 0), (.int .i64 0), (.slice none 0 0)]))), []⟩, ⟨3, none, none, (.fz (.sto 35 (.t 7) (.t 27))), []⟩]
@[simp] def b_TPut_12 (_ : Unit) : EB := reg0 (hid l_TPut_11) 4
@[simp] def l_TPut_15 (_ : Unit) : List EOp := [⟨15, (some 43), none, (.q (.lda 35 (.t 7))), []⟩, ⟨4, (some 32), none, (.call 105 [(.t 28), (.t 31)]), [5, 6, 7, 8, 10, 11, 12, 14, 15]⟩, ⟨9, (some 37), none, (.call 104 [(.t 32), (.t 36)]), [10, 11, 12, 14, 15]⟩, ⟨13, (some 41), none, (.call 104 [(.t 37), (.t 40)]), [14, 15]⟩, ⟨16, (some 44), none, (.clo (.t 42) [(.t 43)]), []⟩, ⟨17, (some 45), none, (.call 122 [(.t 41), (.t 44)]), []⟩]
@[simp] def l_TPut_14 (_ : Unit) : List EOp := ⟨7, (some 35), none, (.q (.ldc (.t 34))), []⟩ :: ⟨8, (some 36), none, (.q (.cnv .u64 (.t 35))), []⟩ :: ⟨10, (some 38), none, (.q (.fad 33 (.t 7))), []⟩ :: ⟨11, (some 39), none, (.q (.ldc (.t 38))), []⟩ :: ⟨12, (some 40), none, (.q (.cnv .u64 (.t 39))), []⟩ :: ⟨14, (some 42), none, (.q (.mov (.t 1))), []⟩ :: hid l_TPut_15
@[simp] def l_TPut_13 (_ : Unit) : List EOp := ⟨0, (some 28), none, (.q (.mov (.t 5))), []⟩ :: ⟨1, (some 29), none, (.q (.fad 0 (.t 7))), []⟩ :: ⟨2, (some 30), none, (.q (.fad 0 (.t 29))), []⟩ :: ⟨3, (some 31), none, (.q (.lda 32 (.t 30))), []⟩ :: ⟨5, (some 33), none, (.q (.fad 0 (.t 7))), []⟩ :: ⟨6, (some 34), none, (.q (.fad 32 (.t 33))), []⟩ :: hid l_TPut_14
@[simp] def b_TPut_16 (_ : Unit) : EB := reg1 (hid l_TPut_13) 18
@[simp] def b_TPut_17 (_ : Unit) : EB := .seq (hid b_TPut_12) (hid b_TPut_16)
@[simp] def b_TPut_18 (_ : Unit) : EB := .block 1 (hid b_TPut_17)
@[simp] def l_TPut_19 (_ : Unit) : List EOp := [⟨0, (some 46), none, (.q (.bin .add (.t 24) (.k (.int .i64 1)))), []⟩, ⟨1, (some 24), none, (.q (.mov (.t 46))), []⟩]
@[simp] def b_TPut_20 (_ : Unit) : EB := reg0 (hid l_TPut_19) 2
@[simp] def b_TPut_21 (_ : Unit) : EB := .seq (hid b_TPut_18) (hid b_TPut_20)
@[simp] def b_TPut_22 (_ : Unit) : EB := .seq (hid b_TPut_10) (hid b_TPut_21)
@[simp] def b_TPut_23 (_ : Unit) : EB := .seq (hid b_TPut_9) (hid b_TPut_22)
@[simp] def b_TPut_24 (_ : Unit) : EB := .loop (hid b_TPut_23)
@[simp] def b_TPut_25 (_ : Unit) : EB := .block 0 (hid b_TPut_24)
@[simp] def b_TPut_26 (_ : Unit) : EB := .seq (hid b_TPut_7) (hid b_TPut_25)
@[simp] def l_TPut_28 (_ : Unit) : List EOp := [⟨6, (some 53), none, (.call 106 [(.t 52)]), []⟩, ⟨7, (some 8), none, (.q (.mov (.t 53))), []⟩]
@[simp] def l_TPut_27 (_ : Unit) : List EOp := ⟨0, (some 47), none, (.q (.mov (.t 5))), []⟩ :: ⟨1, (some 48), none, (.q (.fad 2 (.t 2))), []⟩ :: ⟨2, (some 49), none, (.q (.ldc (.t 48))), []⟩ :: ⟨3, (some 50), none, (.q (.len (.t 49))), []⟩ :: ⟨4, (some 51), none, (.q (.cnv .u64 (.t 50))), []⟩ :: ⟨5, (some 52), none, (.call 104 [(.t 47), (.t 51)]), []⟩ :: hid l_TPut_28
@[simp] def b_TPut_29 (_ : Unit) : EB := reg0 (hid l_TPut_27) 8
@[simp] def l_TPut_30 (_ : Unit) : List EOp := [⟨0, (some 54), none, (.q (.fad 2 (.t 2))), []⟩, ⟨1, (some 55), none, (.q (.ldc (.t 54))), []⟩, ⟨2, (some 56), none, (.q (.len (.t 55))), []⟩, ⟨3, (some 57), none, (.q (.mov (.k (.int .i64 0)))), []⟩]
@[simp] def b_TPut_31 (_ : Unit) : EB := reg0 (hid l_TPut_30) 4
@[simp] def l_TPut_32 (_ : Unit) : List EOp := [⟨0, (some 58), none, (.q (.bin .lss (.t 57) (.t 56))), []⟩]
@[simp] def b_TPut_33 (_ : Unit) : EB := reg0 (hid l_TPut_32) 1
@[simp] def b_TPut_34 (_ : Unit) : EB := .cond (.t 58) .skip (.exit 2)
@[simp] def l_TPut_35 (_ : Unit) : List EOp := [⟨0, (some 59), none, (.q (.isl 2 (.t 55) (.t 57))), []⟩, ⟨1, (some 60), none, (.q (.lda 2 (.t 59))), []⟩, ⟨2, (some 10), none, (.q (.alloc 112 [(.int .i64 0), (.slice none 0 0)])), []⟩, ⟨3, none, none, (.fz (.sto 2 (.t 10) (.t 60))), []⟩]
@[simp] def b_TPut_36 (_ : Unit) : EB := reg0 (hid l_TPut_35) 4
@[simp] def l_TPut_38 (_ : Unit) : List EOp := [⟨1, (some 62), none, (.call 102 []), [0, 2, 3, 4, 8, 9]⟩, ⟨5, (some 66), none, (.call 104 [(.t 62), (.t 65)]), [0, 8, 9]⟩, ⟨6, (some 67), none, (.call 106 [(.t 66)]), [0, 8, 9]⟩, ⟨7, (some 68), none, (.app 5 1 1 (.t 61) (.t 67)), [8, 9]⟩, ⟨10, (some 71), none, (.call 123 [(.t 68), (.t 70)]), []⟩, ⟨11, (some 8), none, (.q (.mov (.t 71))), []⟩]
@[simp] def l_TPut_37 (_ : Unit) : List EOp := ⟨0, (some 61), none, (.q (.mov (.t 8))), []⟩ :: ⟨2, (some 63), none, (.q (.fad 0 (.t 10))), []⟩ :: ⟨3, (some 64), none, (.q (.ldc (.t 63))), []⟩ :: ⟨4, (some 65), none, (.q (.cnv .u64 (.t 64))), []⟩ :: ⟨8, (some 69), none, (.q (.fad 1 (.t 10))), []⟩ :: ⟨9, (some 70), none, (.q (.lda 1 (.t 69))), []⟩ :: hid l_TPut_38
@[simp] def b_TPut_39 (_ : Unit) : EB := reg1 (hid l_TPut_37) 12
@[simp] def b_TPut_40 (_ : Unit) : EB := .seq (hid b_TPut_36) (hid b_TPut_39)
@[simp] def b_TPut_41 (_ : Unit) : EB := .block 3 (hid b_TPut_40)
@[simp] def l_TPut_42 (_ : Unit) : List EOp := [⟨0, (some 72), none, (.q (.bin .add (.t 57) (.k (.int .i64 1)))), []⟩, ⟨1, (some 57), none, (.q (.mov (.t 72))), []⟩]
@[simp] def b_TPut_43 (_ : Unit) : EB := reg0 (hid l_TPut_42) 2
@[simp] def b_TPut_44 (_ : Unit) : EB := .seq (hid b_TPut_41) (hid b_TPut_43)
@[simp] def b_TPut_45 (_ : Unit) : EB := .seq (hid b_TPut_34) (hid b_TPut_44)
@[simp] def b_TPut_46 (_ : Unit) : EB := .seq (hid b_TPut_33) (hid b_TPut_45)
@[simp] def b_TPut_47 (_ : Unit) : EB := .loop (hid b_TPut_46)
@[simp] def b_TPut_48 (_ : Unit) : EB := .block 2 (hid b_TPut_47)
@[simp] def b_TPut_49 (_ : Unit) : EB := .seq (hid b_TPut_31) (hid b_TPut_48)
@[simp] def l_TPut_50 (_ : Unit) : List EOp := [⟨0, (some 73), none, (.q (.mov (.t 8))), []⟩, ⟨1, (some 4), none, (.q (.mov (.t 73))), []⟩]
@[simp] def b_TPut_51 (_ : Unit) : EB := reg0 (hid l_TPut_50) 2
@[simp] def b_TPut_52 (_ : Unit) : EB := .seq (hid b_TPut_51) .ret
@[simp] def b_TPut_53 (_ : Unit) : EB := .seq (hid b_TPut_49) (hid b_TPut_52)
@[simp] def b_TPut_54 (_ : Unit) : EB := .seq (hid b_TPut_29) (hid b_TPut_53)
@[simp] def b_TPut_55 (_ : Unit) : EB := .seq (hid b_TPut_26) (hid b_TPut_54)
@[simp] def b_TPut_56 (_ : Unit) : EB := .seq (hid b_TPut_5) (hid b_TPut_55)
@[simp] def b_TPut_57 (_ : Unit) : EB := .seq (hid b_TPut_2) (hid b_TPut_56)
def c_TPut : EB × List QOp × Nat := ((hid b_TPut_57), [(.mov (.t 4))], 74)
theorem k_TPut : cfun Tryz.prog 60 = some c_TPut := by kernel_rfl

@[simp] def l_TEncode_1 (_ : Unit) : List EOp := [⟨0, (some 1), none, (.q (.box 71 (.t 0))), []⟩, ⟨1, (some 2), none, (.q (.mov (.k (.slice none 0 0)))), []⟩]
@[simp] def b_TEncode_2 (_ : Unit) : EB := reg0 (hid l_TEncode_1) 2
@[simp] def l_TEncode_3 (_ : Unit) : List EOp := [⟨0, (some 3), none, (.q (.lda 3 (.t 1))), []⟩, ⟨1, (some 4), none, (.call 60 [(.t 3), (.k (.func (.func 61) #[] #[]))]), []⟩, ⟨2, (some 2), none, (.q (.mov (.t 4))), []⟩]
@[simp] def b_TEncode_4 (_ : Unit) : EB := reg0 (hid l_TEncode_3) 3
@[simp] def b_TEncode_5 (_ : Unit) : EB := .seq (hid b_TEncode_4) .ret
@[simp] def b_TEncode_6 (_ : Unit) : EB := .seq (hid b_TEncode_2) (hid b_TEncode_5)
def c_TEncode : EB × List QOp × Nat := ((hid b_TEncode_6), [(.mov (.t 2))], 5)
theorem k_TEncode : cfun Tryz.prog 23 = some c_TEncode := by kernel_rfl

@[simp] def l_InShown_1 (_ : Unit) : List EOp := [⟨0, (some 1), none, (.q (.box 146 (.t 0))), []⟩, ⟨1, (some 2), none, (.q (.mov (.k (.slice none 0 0)))), []⟩]
@[simp] def b_InShown_2 (_ : Unit) : EB := reg0 (hid l_InShown_1) 2
@[simp] def l_InShown_3 (_ : Unit) : List EOp := [⟨0, (some 3), none, (.q (.fad 34 (.t 1))), []⟩, ⟨1, (some 4), none, (.q (.ldc (.t 3))), []⟩, ⟨2, (some 2), none, (.q (.mov (.t 4))), []⟩]
@[simp] def b_InShown_4 (_ : Unit) : EB := reg0 (hid l_InShown_3) 3
@[simp] def b_InShown_5 (_ : Unit) : EB := .seq (hid b_InShown_4) .ret
@[simp] def b_InShown_6 (_ : Unit) : EB := .seq (hid b_InShown_2) (hid b_InShown_5)
def c_InShown : EB × List QOp × Nat := ((hid b_InShown_6), [(.mov (.t 2))], 5)
theorem k_InShown : cfun Tryz.prog 61 = some c_InShown := by kernel_rfl


/-! ### what is written of a transaction -/
def inpB (x : Inp) : List UInt8 := x.tx ++ (uB x.n ++ (uB x.br ++ bytesB x.sec))
def oupB (o : Outp) : List UInt8 := uB o.am ++ cndB o.cs
def insB (l : List Inp) : List UInt8 := l.flatMap inpB
def ousB (l : List Outp) : List UInt8 := l.flatMap oupB
def hdB (t : Txn) : List UInt8 := uB t.lk ++ uB (t.ins.length : Int)
def mdB (t : Txn) : List UInt8 := hdB t ++ insB t.ins ++ uB (t.outs.length : Int)
def encT (t : Txn) : List UInt8 := mdB t ++ ousB t.outs
theorem insB_snoc (l : List Inp) (x : Inp) : insB (l ++ [x]) = insB l ++ inpB x := by simp [insB]
theorem ousB_snoc (l : List Outp) (x : Outp) : ousB (l ++ [x]) = ousB l ++ oupB x := by simp [ousB]
def INL (l : List Inp) : EV := .v (.c (.fz (.sl 35 (inpv l))))
def OUL (l : List Outp) : EV := .v (.c (.fz (.sl 2 (outv l))))
theorem InShown_body : bodyOK Tryz.prog 61 = true := by kernel_rfl

set_option maxHeartbeats 2000000 in
theorem InShown_ok (x : Inp) (h : x.ok) : ECalls Tryz.prog 61 [.v (.agg (inpC x))] [] fun y H' => H' = [] ∧ y = Bs x.sec := by
  obtain ⟨h1, _, _, h4⟩ := h
  have l0 := ic_len h1
  have e34 := idx_of (ic_34 h1) (by omega)
  refine ecalls k_InShown ?_
  simp [c_InShown, l0, e34]
  exact fin [] (by decide) rfl rfl rfl ⟨rfl, rfl⟩

theorem drop35h (a b c : EC) : List.drop 35 (hc hz ++ [a, b, c]) = [] := by rw [List.drop_eq_nil_iff]; simp [hz]
set_option maxHeartbeats 16000000 in
theorem TPut_ok (t : Txn) (ht : t.ok) (hsec : ∀ x ∈ t.ins, x.sec.length ≤ 10000000) (hs : (encT t).length ≤ 400000000) : ECalls Tryz.prog 60 [TXv t, .v (.c (.clo 61 []))] [] fun y H' => H' = [] ∧ y = Bs (encT t) := by
  obtain ⟨t1, t2, t3, t4, t5⟩ := id ht
  have hlen : (encT t).length = (uB t.lk).length + (uB (t.ins.length : Int)).length + (insB t.ins).length + (uB (t.outs.length : Int)).length + (ousB t.outs).length := by simp [encT, mdB, hdB]; try omega
  refine ecalls k_TPut ?_
  simp [c_TPut, TXv, txC, iC]
  refine call0 New_ok rfl ?_
  rintro y H' ⟨rfl, rfl⟩
  refine ⟨.inl rfl, le_ok rfl, ?_⟩
  simp [Ptr, WO, RO, wrap_u64n]
  refine callH [32, 33] (WUint_ok [] (u64n t.lk) (u64n_lt _) (by simp)) (by simp [Ptr, I]) (by simp [WO, RO]) (by simp) (by simp) (by simp) ?_
  rintro y H' ⟨rfl, rfl⟩
  refine ⟨.inl (by simp), le_ok rfl, ?_⟩
  simp only [uB_eq, List.nil_append]
  simp [WO, RO, Ptr, wrap_u64n]
  refine callH [32, 96] (WUint_ok (uB t.lk) (u64n (t.ins.length : Int)) (u64n_lt _) (by omega)) (by simp [Ptr, I]) (by simp [WO, RO]) (by simp) (by simp) (by simp) ?_
  rintro y H' ⟨rfl, rfl⟩
  refine ⟨.inl (by simp), le_ok rfl, ?_⟩
  obtain ⟨F, hF⟩ : ∃ F : Nat → List UInt8, F = fun i => hdB t ++ insB (t.ins.take i) := ⟨_, rfl⟩
  have hF0 : uB t.lk ++ uB (t.ins.length : Int) = F 0 := by rw [hF]; simp [insB, hdB]
  have hFl : ∀ i, (F i).length ≤ 400000000 := by
    intro i
    have hfl := flat_take inpB t.ins i
    rw [hF]; simp only [List.length_append, hdB]; unfold insB at *; omega
  simp only [uB_eq, hF0]
  simp [WO, RO, Ptr]
  refine eloop (α := Nat) (fun i => i ≤ t.ins.length) (fun i => t.ins.length - i)
    (fun i => [.any, .v (.c (.clo 61 [])), Ptr 0, .any, .any, Ptr 1, .any, .any, .any, .any, .any, .any, .any, .any, .any, .any, .any, .any, .any, .any, .any, .any, INL t.ins, I .i64 t.ins.length, I .i64 i, .any, .any, .any, .any, .any, .any, .any, .any, .any, .any, .any, .any, .any, .any, .any, .any, .any, .any, .any, .any, .any, .any, .any, .any, .any, .any, .any, .any, .any, .any, .any, .any, .any, .any, .any, .any, .any, .any, .any, .any, .any, .any, .any, .any, .any, .any, .any, .any, .any]) (fun i => [some (.box 71 (txC t)), some (WO 2 (F i)), some (RO (F i))]) 0 [0, 32, 176]
    (Nat.zero_le _) (by simp [Ptr, I, INL]) (by simp [WO, RO, txC, iC]) (by simp) (by simp) (by simp) ?_
  intro i hi
  have hX := hFl i
  simp [Ptr, I, INL, WO, RO, txC, iC]
  refine alt (fun hlt => ?_) (fun hlt => ?_)
  · have hln : i < t.ins.length := by omega
    obtain ⟨x, hcx⟩ : ∃ x, t.ins[i]? = some x := ⟨t.ins[i], by simp [hln]⟩
    have hge : (inpv t.ins)[i]'(by simpa using hln) = inpF x := by
      have e := inpv_get hcx
      rw [List.getElem?_eq_getElem (by simpa using hln)] at e
      exact Option.some.inj e
    have hx := t2 x (List.mem_of_getElem? hcx)
    obtain ⟨x1, x2, x3, x4⟩ := id hx
    have x5 := hsec x (List.mem_of_getElem? hcx)
    have l0 := ic_len x1
    have f0 := if_len x1
    have tk := ic_take x1
    have th := ic_hash x1
    have e32 := idx_of (ic_32 x1) (by omega)
    have e33 := idx_of (ic_33 x1) (by omega)
    have w1 : IntKind.i64.wrap ((i : Int) + 1) = ((i + 1 : Nat) : Int) := wrap_i64 (by omega) (by omega)
    have hfs := flat_take_s inpB hcx
    have hbl : (inpB x).length = 32 + ((uB x.n).length + ((uB x.br).length + (bytesB x.sec).length)) := by simp [inpB, x1]
    have hXb : (F i).length + (inpB x).length ≤ 400000000 := by
      rw [hF]; simp only [List.length_append, hdB]; unfold insB at *; omega
    have hFs : F (i + 1) = F i ++ inpB x := by rw [hF]; simp [take_s hcx, insB_snoc]
    simp [hln, hge, inpF_fz, l0, f0, tk, th, e32, e33, wrap_u64n, drop35h, iC, WO, RO, Ptr]
    refine callH [1, 2] (WHash_ok (F i) x.tx (by omega) x1) (by simp [Ptr, Ag]) (by simp [WO, RO]) (by simp) (by simp) (by simp) ?_
    rintro y H' ⟨rfl, rfl⟩
    refine ⟨.inl (by simp), le_ok rfl, ?_⟩
    simp [hln, hge, inpF_fz, l0, f0, tk, th, e32, e33, wrap_u64n, drop35h, iC, WO, RO, Ptr]
    refine callH [1, 147] (WUint_ok (F i ++ x.tx) (u64n x.n) (u64n_lt _) (by simp; omega)) (by simp [Ptr, I]) (by simp [WO, RO]) (by simp) (by simp) (by simp) ?_
    rintro y H' ⟨rfl, rfl⟩
    refine ⟨.inl (by simp), le_ok rfl, ?_⟩
    simp only [uB_eq]
    simp [hln, hge, inpF_fz, l0, f0, tk, th, e32, e33, wrap_u64n, drop35h, iC, WO, RO, Ptr]
    refine callH [1, 227] (WUint_ok (F i ++ x.tx ++ uB x.n) (u64n x.br) (u64n_lt _) (by simp; omega)) (by simp [Ptr, I]) (by simp [WO, RO]) (by simp) (by simp) (by simp) ?_
    rintro y H' ⟨rfl, rfl⟩
    refine ⟨.inl (by simp), le_ok rfl, ?_⟩
    simp only [uB_eq]
    simp [hln, hge, inpF_fz, l0, f0, tk, th, e32, e33, wrap_u64n, drop35h, iC, WO, RO, Ptr]
    refine ⟨InShown_body, ?_⟩
    refine call0 (InShown_ok x hx) (by simp [hln, hge, inpF_fz, l0, f0, tk, th, e32, e33, wrap_u64n, drop35h, iC, WO, RO, Ptr]) ?_
    rintro y H' ⟨rfl, rfl⟩
    refine ⟨.inl (by simp [Bs]), le_ok rfl, ?_⟩
    simp [hln, hge, inpF_fz, l0, f0, tk, th, e32, e33, wrap_u64n, drop35h, iC, WO, RO, Ptr, Bs]
    refine callH [1, 291] (WBytes_ok (F i ++ x.tx ++ uB x.n ++ uB x.br) x.sec (by simp; omega) (by omega)) (by simp [Ptr, Bs]) (by simp [WO, RO]) (by simp) (by simp) (by simp) ?_
    rintro y H' ⟨rfl, rfl⟩
    refine ⟨.inl (by simp), le_ok rfl, ?_⟩
    have hGe : F i ++ x.tx ++ uB x.n ++ uB x.br ++ bytesB x.sec = F (i + 1) := by rw [hFs]; simp [inpB]
    simp only [hGe]
    simp [WO, RO, Ptr, w1, -Int.natCast_add]
    exact round (i + 1) [0, 1, 355] (by omega) (by omega) (by simp [Ptr, I, INL]) (by simp [WO, RO, txC, iC]) (by simp) (by simp) (by simp)
  have hil : i = t.ins.length := by omega
  subst hil
  have hFe : F t.ins.length = hdB t ++ insB t.ins := by rw [hF]; simp
  simp [wrap_u64n]
  refine callH [1, 2] (WUint_ok (F t.ins.length) (u64n (t.outs.length : Int)) (u64n_lt _) (by omega)) (by simp [Ptr, I]) (by simp [WO, RO]) (by simp) (by simp) (by simp) ?_
  rintro y H' ⟨rfl, rfl⟩
  refine ⟨.inl (by simp), le_ok rfl, ?_⟩
  obtain ⟨K, hK⟩ : ∃ K : Nat → List UInt8, K = fun i => mdB t ++ ousB (t.outs.take i) := ⟨_, rfl⟩
  have hK0 : F t.ins.length ++ uB (t.outs.length : Int) = K 0 := by rw [hK, hFe]; simp [ousB, mdB]
  have hKl : ∀ i, (K i).length ≤ 400000000 := by
    intro i
    have hfl := flat_take oupB t.outs i
    rw [hK]; simp only [List.length_append, hdB, mdB]; unfold ousB at *; omega
  simp only [uB_eq, hK0]
  simp [WO, RO, Ptr]
  have hK00 := hKl 0
  refine callH [1, 99] (WDone_ok (K 0) (by omega)) (by simp [Ptr]) (by simp [WO, RO]) (by simp) (by simp) (by simp) ?_
  rintro y H' ⟨rfl, rfl⟩
  refine ⟨.inl (by simp), le_ok rfl, ?_⟩
  simp [WO, RO, Ptr, R]
  refine eloop (α := Nat) (fun i => i ≤ t.outs.length) (fun i => t.outs.length - i)
    (fun i => [.any, .any, .any, .any, .any, .any, .any, .any, R 0 (K i), .any, .any, .any, .any, .any, .any, .any, .any, .any, .any, .any, .any, .any, .any, .any, .any, .any, .any, .any, .any, .any, .any, .any, .any, .any, .any, .any, .any, .any, .any, .any, .any, .any, .any, .any, .any, .any, .any, .any, .any, .any, .any, .any, .any, .any, .any, OUL t.outs, I .i64 t.outs.length, I .i64 i, .any, .any, .any, .any, .any, .any, .any, .any, .any, .any, .any, .any, .any, .any, .any, .any]) (fun i => [some (RO (K i))]) 0 [115]
    (Nat.zero_le _) (by simp [R, I, OUL]) (by simp [RO]) (by simp) (by simp) (by simp) ?_
  intro i hi
  have hX := hKl i
  simp [R, I, OUL, RO]
  refine alt (fun hlt => ?_) (fun hlt => ?_)
  · have hln : i < t.outs.length := by omega
    obtain ⟨x, hcx⟩ : ∃ x, t.outs[i]? = some x := ⟨t.outs[i], by simp [hln]⟩
    have hge : (outv t.outs)[i]'(by simpa using hln) = outF x := by
      have e := outv_get hcx
      rw [List.getElem?_eq_getElem (by simpa using hln)] at e
      exact Option.some.inj e
    obtain ⟨x1, x2, x3⟩ := t3 x (List.mem_of_getElem? hcx)
    have w1 : IntKind.i64.wrap ((i : Int) + 1) = ((i + 1 : Nat) : Int) := wrap_i64 (by omega) (by omega)
    have hfs := flat_take_s oupB hcx
    have hbl : (oupB x).length = (uB x.am).length + (cndB x.cs).length := by simp [oupB]
    have hXb : (K i).length + (oupB x).length ≤ 400000000 := by
      rw [hK]; simp only [List.length_append, hdB, mdB]; unfold ousB at *; omega
    have hKs : K (i + 1) = K i ++ oupB x := by rw [hK]; simp [take_s hcx, ousB_snoc]
    simp [hln, hge, outF, iF]
    refine call0 New_ok rfl ?_
    rintro y H' ⟨rfl, rfl⟩
    refine ⟨.inl rfl, le_ok rfl, ?_⟩
    simp [Ptr, WO, RO, wrap_u64n]
    refine callH [97, 98] (WUint_ok [] (u64n x.am) (u64n_lt _) (by simp)) (by simp [Ptr, I]) (by simp [WO, RO]) (by simp) (by simp) (by simp) ?_
    rintro y H' ⟨rfl, rfl⟩
    refine ⟨.inl (by simp), le_ok rfl, ?_⟩
    simp only [uB_eq, List.nil_append]
    simp [Ptr, WO, RO, wrap_u64n]
    have hua := uB_len x.am
    refine callH [97, 161] (WDone_ok (uB x.am) (by omega)) (by simp [Ptr]) (by simp [WO, RO]) (by simp) (by simp) (by simp) ?_
    rintro y H' ⟨rfl, rfl⟩
    refine ⟨.inl (by simp), le_ok rfl, ?_⟩
    simp [WO, RO, Ptr, R, bsv_app]
    refine ⟨⟨by omega, by omega⟩, ?_⟩
    refine call0 (CPut_ok (K i ++ uB x.am) x.cs x2 x3 (by simp; omega)) (by simp [CNv, Bs, List.take_of_length_le]) ?_
    rintro y H' ⟨rfl, rfl⟩
    refine ⟨.inr ⟨rfl, by simp [RO, bsv, cb]⟩, le_ok rfl, ?_⟩
    have hGe : K i ++ uB x.am ++ cndB x.cs = K (i + 1) := by rw [hKs]; simp [oupB]
    simp only [hGe]
    simp [R, RO, w1, -Int.natCast_add]
    exact round (i + 1) [241] (by omega) (by omega) (by simp [R, I, OUL]) (by simp [RO]) (by simp) (by simp) (by simp)
  have hil : i = t.outs.length := by omega
  subst hil
  have hKe : K t.outs.length = encT t := by rw [hK]; simp [encT]
  simp
  refine finW _ (weak_frz (o := 0) (ty := 5) (es := 1) (xs := bsv (K t.outs.length)) rfl) ?_
  exact fin [] (by decide) rfl rfl rfl ⟨rfl, by simp [Bs, hKe, List.take_of_length_le]⟩

set_option maxHeartbeats 4000000 in
theorem TEncode_ok (t : Txn) (ht : t.ok) (hsec : ∀ x ∈ t.ins, x.sec.length ≤ 10000000) (hs : (encT t).length ≤ 400000000) : ECalls Tryz.prog 23 [TXv t] [] fun y H' => H' = [] ∧ y = Bs (encT t) := by
  refine ecalls k_TEncode ?_
  simp [c_TEncode, TXv, txC, iC]
  refine call0 (TPut_ok t ht hsec hs) (by simp [TXv, txC, iC]) ?_
  rintro y H' ⟨rfl, rfl⟩
  refine ⟨.inl (by simp [Bs]), le_ok rfl, ?_⟩
  simp [Bs]
  exact fin [] (by decide) rfl rfl rfl ⟨rfl, rfl⟩

end Go.Proofs.YtejjhgdnmknejaaGreatDoor
