import Derived.Test.YtejjhgdnmknejaaGreatDoorAll6
import Derived.Test.YtejjhgdnmknejaaGreatDoorAll11
import Derived.Test.YtejjhgdnmknejaaGreatDoorAll10
import Derived.Test.YtejjhgdnmknejaaGreatDoorAll5
import Derived.Test.YtejjhgdnmknejaaGreatDoorAll12
namespace Go.Proofs.YtejjhgdnmknejaaGreatDoor
open Go Go.EW
set_option linter.unusedSimpArgs false
set_option linter.unusedVariables false

@[simp] def l_Encode_1 (_ : Unit) : List EOp := [⟨0, (some 1), none, (.q (.box 49 (.t 0))), []⟩, ⟨1, (some 2), none, (.q (.mov (.k (.slice none 0 0)))), []⟩]
@[simp] def b_Encode_2 (_ : Unit) : EB := reg0 (hid l_Encode_1) 2
@[simp] def l_Encode_3 (_ : Unit) : List EOp := [⟨0, (some 9), none, (.call 102 []), []⟩, ⟨1, (some 3), none, (.q (.alloc 225 [(.pointer none)])), []⟩, ⟨2, none, none, (.sto 1 (.t 3) (.t 9)), []⟩]
@[simp] def b_Encode_4 (_ : Unit) : EB := reg0 (hid l_Encode_3) 3
@[simp] def l_Encode_5 (_ : Unit) : List EOp := [⟨0, (some 10), none, (.q (.mkf 103 [(.t 3)])), []⟩, ⟨1, (some 4), none, (.q (.mov (.t 10))), []⟩]
@[simp] def b_Encode_6 (_ : Unit) : EB := reg0 (hid l_Encode_5) 2
@[simp] def l_Encode_9 (_ : Unit) : List EOp := [⟨12, (some 23), none, (.q (.bsl 1 [(.int .i64 0)] 4 [(0, (.t 13)), (1, (.t 16)), (2, (.t 19)), (3, (.t 22))])), []⟩, ⟨13, (some 24), none, (.clo (.t 11) [(.t 23)]), []⟩]
@[simp] def l_Encode_8 (_ : Unit) : List EOp := ⟨6, (some 17), none, (.q (.fad 1 (.t 1))), []⟩ :: ⟨7, (some 18), none, (.q (.iad 2 1 (.t 17) (.k (.int .i64 1)))), []⟩ :: ⟨8, (some 19), none, (.q (.ldc (.t 18))), []⟩ :: ⟨9, (some 20), none, (.q (.fad 3 (.t 1))), []⟩ :: ⟨10, (some 21), none, (.q (.ldc (.t 20))), []⟩ :: ⟨11, (some 22), none, (.q (.len (.t 21))), []⟩ :: hid l_Encode_9
@[simp] def l_Encode_7 (_ : Unit) : List EOp := ⟨0, (some 11), none, (.q (.mov (.t 4))), []⟩ :: ⟨1, (some 12), none, (.q (.fad 0 (.t 1))), []⟩ :: ⟨2, (some 13), none, (.q (.ldc (.t 12))), []⟩ :: ⟨3, (some 14), none, (.q (.fad 1 (.t 1))), []⟩ :: ⟨4, (some 15), none, (.q (.iad 2 1 (.t 14) (.k (.int .i64 0)))), []⟩ :: ⟨5, (some 16), none, (.q (.ldc (.t 15))), []⟩ :: hid l_Encode_8
@[simp] def b_Encode_10 (_ : Unit) : EB := reg0 (hid l_Encode_7) 14
@[simp] def l_Encode_11 (_ : Unit) : List EOp := [⟨0, (some 25), none, (.q (.fad 3 (.t 1))), []⟩, ⟨1, (some 26), none, (.q (.ldc (.t 25))), []⟩, ⟨2, (some 27), none, (.q (.len (.t 26))), []⟩, ⟨3, (some 28), none, (.q (.mov (.k (.int .i64 0)))), []⟩]
@[simp] def b_Encode_12 (_ : Unit) : EB := reg0 (hid l_Encode_11) 4
@[simp] def l_Encode_13 (_ : Unit) : List EOp := [⟨0, (some 29), none, (.q (.bin .lss (.t 28) (.t 27))), []⟩]
@[simp] def b_Encode_14 (_ : Unit) : EB := reg0 (hid l_Encode_13) 1
@[simp] def b_Encode_15 (_ : Unit) : EB := .cond (.t 29) .skip (.exit 0)
@[simp] def l_Encode_16 (_ : Unit) : List EOp := [⟨0, (some 30), none, (.q (.isl 36 (.t 26) (.t 28))), []⟩, ⟨1, (some 31), none, (.q (.lda 36 (.t 30))), []⟩, ⟨2, (some 6), none, (.q (.alloc 127 (([(.int .i64 0), (.int .i64 0), (.int .i64 0), (.int .i64 0)] : List Value) ++ zU8))), []⟩, ⟨3, none, none, (.sto 36 (.t 6) (.t 31)), []⟩]
@[simp] def b_Encode_17 (_ : Unit) : EB := reg0 (hid l_Encode_16) 4
@[simp] def l_Encode_19 (_ : Unit) : List EOp := [⟨6, (some 38), none, (.q (.ldc (.t 37))), []⟩, ⟨7, (some 39), none, (.q (.fad 3 (.t 6))), []⟩, ⟨8, (some 40), none, (.q (.ldc (.t 39))), []⟩, ⟨9, (some 41), none, (.q (.bsl 1 [(.int .i64 0)] 4 [(0, (.t 34)), (1, (.t 36)), (2, (.t 38)), (3, (.t 40))])), []⟩, ⟨10, (some 42), none, (.clo (.t 32) [(.t 41)]), []⟩]
@[simp] def l_Encode_18 (_ : Unit) : List EOp := ⟨0, (some 32), none, (.q (.mov (.t 4))), []⟩ :: ⟨1, (some 33), none, (.q (.fad 0 (.t 6))), []⟩ :: ⟨2, (some 34), none, (.q (.ldc (.t 33))), []⟩ :: ⟨3, (some 35), none, (.q (.fad 1 (.t 6))), []⟩ :: ⟨4, (some 36), none, (.q (.ldc (.t 35))), []⟩ :: ⟨5, (some 37), none, (.q (.fad 2 (.t 6))), []⟩ :: hid l_Encode_19
@[simp] def b_Encode_20 (_ : Unit) : EB := reg0 (hid l_Encode_18) 11
@[simp] def l_Encode_21 (_ : Unit) : List EOp := [⟨0, (some 43), none, (.q (.ldc (.t 3))), []⟩, ⟨1, (some 44), none, (.q (.fad 4 (.t 6))), []⟩, ⟨2, (some 45), none, (.q (.lda 32 (.t 44))), []⟩, ⟨3, (some 46), none, (.call 105 [(.t 43), (.t 45)]), []⟩]
@[simp] def b_Encode_22 (_ : Unit) : EB := reg0 (hid l_Encode_21) 4
@[simp] def b_Encode_23 (_ : Unit) : EB := .seq (hid b_Encode_20) (hid b_Encode_22)
@[simp] def b_Encode_24 (_ : Unit) : EB := .seq (hid b_Encode_17) (hid b_Encode_23)
@[simp] def b_Encode_25 (_ : Unit) : EB := .block 1 (hid b_Encode_24)
@[simp] def l_Encode_26 (_ : Unit) : List EOp := [⟨0, (some 47), none, (.q (.bin .add (.t 28) (.k (.int .i64 1)))), []⟩, ⟨1, (some 28), none, (.q (.mov (.t 47))), []⟩]
@[simp] def b_Encode_27 (_ : Unit) : EB := reg0 (hid l_Encode_26) 2
@[simp] def b_Encode_28 (_ : Unit) : EB := .seq (hid b_Encode_25) (hid b_Encode_27)
@[simp] def b_Encode_29 (_ : Unit) : EB := .seq (hid b_Encode_15) (hid b_Encode_28)
@[simp] def b_Encode_30 (_ : Unit) : EB := .seq (hid b_Encode_14) (hid b_Encode_29)
@[simp] def b_Encode_31 (_ : Unit) : EB := .loop (hid b_Encode_30)
@[simp] def b_Encode_32 (_ : Unit) : EB := .block 0 (hid b_Encode_31)
@[simp] def b_Encode_33 (_ : Unit) : EB := .seq (hid b_Encode_12) (hid b_Encode_32)
@[simp] def l_Encode_34 (_ : Unit) : List EOp := [⟨0, (some 48), none, (.q (.mov (.t 4))), []⟩, ⟨1, (some 49), none, (.q (.fad 4 (.t 1))), []⟩, ⟨2, (some 50), none, (.q (.ldc (.t 49))), []⟩, ⟨3, (some 51), none, (.q (.len (.t 50))), []⟩, ⟨4, (some 52), none, (.q (.bsl 1 [(.int .i64 0)] 1 [(0, (.t 51))])), []⟩, ⟨5, (some 53), none, (.clo (.t 48) [(.t 52)]), []⟩]
@[simp] def b_Encode_35 (_ : Unit) : EB := reg0 (hid l_Encode_34) 6
@[simp] def l_Encode_36 (_ : Unit) : List EOp := [⟨0, (some 54), none, (.q (.fad 4 (.t 1))), []⟩, ⟨1, (some 55), none, (.q (.ldc (.t 54))), []⟩, ⟨2, (some 56), none, (.q (.len (.t 55))), []⟩, ⟨3, (some 57), none, (.q (.mov (.k (.int .i64 0)))), []⟩]
@[simp] def b_Encode_37 (_ : Unit) : EB := reg0 (hid l_Encode_36) 4
@[simp] def l_Encode_38 (_ : Unit) : List EOp := [⟨0, (some 58), none, (.q (.bin .lss (.t 57) (.t 56))), []⟩]
@[simp] def b_Encode_39 (_ : Unit) : EB := reg0 (hid l_Encode_38) 1
@[simp] def b_Encode_40 (_ : Unit) : EB := .cond (.t 58) .skip (.exit 2)
@[simp] def l_Encode_41 (_ : Unit) : List EOp := [⟨0, (some 59), none, (.q (.isl 3 (.t 55) (.t 57))), []⟩, ⟨1, (some 60), none, (.q (.lda 3 (.t 59))), []⟩, ⟨2, (some 8), none, (.q (.alloc 124 [(.int .i64 0), (.int .i64 0), (.slice none 0 0)])), []⟩, ⟨3, none, none, (.fz (.sto 3 (.t 8) (.t 60))), []⟩]
@[simp] def b_Encode_42 (_ : Unit) : EB := reg0 (hid l_Encode_41) 4
@[simp] def l_Encode_44 (_ : Unit) : List EOp := [⟨6, (some 67), none, (.q (.ldc (.t 66))), []⟩, ⟨7, (some 68), none, (.q (.len (.t 67))), []⟩, ⟨8, (some 69), none, (.q (.bsl 1 [(.int .i64 0)] 3 [(0, (.t 63)), (1, (.t 65)), (2, (.t 68))])), []⟩, ⟨9, (some 70), none, (.clo (.t 61) [(.t 69)]), []⟩]
@[simp] def l_Encode_43 (_ : Unit) : List EOp := ⟨0, (some 61), none, (.q (.mov (.t 4))), []⟩ :: ⟨1, (some 62), none, (.q (.fad 0 (.t 8))), []⟩ :: ⟨2, (some 63), none, (.q (.ldc (.t 62))), []⟩ :: ⟨3, (some 64), none, (.q (.fad 1 (.t 8))), []⟩ :: ⟨4, (some 65), none, (.q (.ldc (.t 64))), []⟩ :: ⟨5, (some 66), none, (.q (.fad 2 (.t 8))), []⟩ :: hid l_Encode_44
@[simp] def b_Encode_45 (_ : Unit) : EB := reg0 (hid l_Encode_43) 10
@[simp] def l_Encode_46 (_ : Unit) : List EOp := [⟨0, (some 71), none, (.q (.mov (.t 4))), []⟩, ⟨1, (some 72), none, (.q (.fad 2 (.t 8))), []⟩, ⟨2, (some 73), none, (.q (.ldc (.t 72))), []⟩, ⟨3, (some 74), none, (.clo (.t 71) [(.t 73)]), []⟩]
@[simp] def b_Encode_47 (_ : Unit) : EB := reg0 (hid l_Encode_46) 4
@[simp] def b_Encode_48 (_ : Unit) : EB := .seq (hid b_Encode_45) (hid b_Encode_47)
@[simp] def b_Encode_49 (_ : Unit) : EB := .seq (hid b_Encode_42) (hid b_Encode_48)
@[simp] def b_Encode_50 (_ : Unit) : EB := .block 3 (hid b_Encode_49)
@[simp] def l_Encode_51 (_ : Unit) : List EOp := [⟨0, (some 75), none, (.q (.bin .add (.t 57) (.k (.int .i64 1)))), []⟩, ⟨1, (some 57), none, (.q (.mov (.t 75))), []⟩]
@[simp] def b_Encode_52 (_ : Unit) : EB := reg0 (hid l_Encode_51) 2
@[simp] def b_Encode_53 (_ : Unit) : EB := .seq (hid b_Encode_50) (hid b_Encode_52)
@[simp] def b_Encode_54 (_ : Unit) : EB := .seq (hid b_Encode_40) (hid b_Encode_53)
@[simp] def b_Encode_55 (_ : Unit) : EB := .seq (hid b_Encode_39) (hid b_Encode_54)
@[simp] def b_Encode_56 (_ : Unit) : EB := .loop (hid b_Encode_55)
@[simp] def b_Encode_57 (_ : Unit) : EB := .block 2 (hid b_Encode_56)
@[simp] def b_Encode_58 (_ : Unit) : EB := .seq (hid b_Encode_37) (hid b_Encode_57)
@[simp] def l_Encode_59 (_ : Unit) : List EOp := [⟨0, (some 76), none, (.q (.ldc (.t 3))), []⟩, ⟨1, (some 77), none, (.call 106 [(.t 76)]), []⟩, ⟨2, (some 2), none, (.q (.mov (.t 77))), []⟩]
@[simp] def b_Encode_60 (_ : Unit) : EB := reg0 (hid l_Encode_59) 3
@[simp] def b_Encode_61 (_ : Unit) : EB := .seq (hid b_Encode_60) .ret
@[simp] def b_Encode_62 (_ : Unit) : EB := .seq (hid b_Encode_58) (hid b_Encode_61)
@[simp] def b_Encode_63 (_ : Unit) : EB := .seq (hid b_Encode_35) (hid b_Encode_62)
@[simp] def b_Encode_64 (_ : Unit) : EB := .seq (hid b_Encode_33) (hid b_Encode_63)
@[simp] def b_Encode_65 (_ : Unit) : EB := .seq (hid b_Encode_10) (hid b_Encode_64)
@[simp] def b_Encode_66 (_ : Unit) : EB := .seq (hid b_Encode_6) (hid b_Encode_65)
@[simp] def b_Encode_67 (_ : Unit) : EB := .seq (hid b_Encode_4) (hid b_Encode_66)
@[simp] def b_Encode_68 (_ : Unit) : EB := .seq (hid b_Encode_2) (hid b_Encode_67)
def c_Encode : EB × List QOp × Nat := ((hid b_Encode_68), [(.mov (.t 2))], 78)
theorem k_Encode : cfun Tryz.prog 47 = some c_Encode := by kernel_rfl

@[simp] def l_put_1 (_ : Unit) : List EOp := [⟨0, (some 5), none, (.q (.mov (.t 0))), []⟩, ⟨1, (some 6), none, (.q (.len (.t 5))), []⟩, ⟨2, (some 7), none, (.q (.mov (.k (.int .i64 0)))), []⟩]
@[simp] def b_put_2 (_ : Unit) : EB := reg0 (hid l_put_1) 3
@[simp] def l_put_3 (_ : Unit) : List EOp := [⟨0, (some 8), none, (.q (.bin .lss (.t 7) (.t 6))), []⟩]
@[simp] def b_put_4 (_ : Unit) : EB := reg0 (hid l_put_3) 1
@[simp] def b_put_5 (_ : Unit) : EB := .cond (.t 8) .skip (.exit 0)
@[simp] def l_put_6 (_ : Unit) : List EOp := [⟨0, (some 9), none, (.q (.isl 1 (.t 5) (.t 7))), []⟩, ⟨1, (some 10), none, (.q (.ldc (.t 9))), []⟩, ⟨2, (some 4), none, (.q (.mov (.t 10))), []⟩]
@[simp] def b_put_7 (_ : Unit) : EB := reg0 (hid l_put_6) 3
@[simp] def l_put_8 (_ : Unit) : List EOp := [⟨0, (some 11), none, (.q (.ldc (.t 1))), []⟩, ⟨1, (some 12), none, (.q (.mov (.t 4))), []⟩, ⟨2, (some 13), none, (.q (.cnv .u64 (.t 12))), []⟩, ⟨3, (some 14), none, (.call 104 [(.t 11), (.t 13)]), []⟩]
@[simp] def b_put_9 (_ : Unit) : EB := reg0 (hid l_put_8) 4
@[simp] def b_put_10 (_ : Unit) : EB := .seq (hid b_put_7) (hid b_put_9)
@[simp] def b_put_11 (_ : Unit) : EB := .block 1 (hid b_put_10)
@[simp] def l_put_12 (_ : Unit) : List EOp := [⟨0, (some 15), none, (.q (.bin .add (.t 7) (.k (.int .i64 1)))), []⟩, ⟨1, (some 7), none, (.q (.mov (.t 15))), []⟩]
@[simp] def b_put_13 (_ : Unit) : EB := reg0 (hid l_put_12) 2
@[simp] def b_put_14 (_ : Unit) : EB := .seq (hid b_put_11) (hid b_put_13)
@[simp] def b_put_15 (_ : Unit) : EB := .seq (hid b_put_5) (hid b_put_14)
@[simp] def b_put_16 (_ : Unit) : EB := .seq (hid b_put_4) (hid b_put_15)
@[simp] def b_put_17 (_ : Unit) : EB := .loop (hid b_put_16)
@[simp] def b_put_18 (_ : Unit) : EB := .block 0 (hid b_put_17)
@[simp] def b_put_19 (_ : Unit) : EB := .seq (hid b_put_2) (hid b_put_18)
def c_put : EB × List QOp × Nat := ((hid b_put_19), [], 16)
theorem k_put : cfun Tryz.prog 103 = some c_put := by kernel_rfl


def u64n (n : Int) : Nat := (n % 18446744073709551616).toNat
theorem u64n_lt (n : Int) : u64n n < 18446744073709551616 := by unfold u64n; omega
theorem wrap_u64n (n : Int) : IntKind.u64.wrap n = (u64n n : Int) := by
  simp [IntKind.wrap, IntKind.bits, IntKind.signed, u64n]
  omega
def uB (n : Int) : List UInt8 := uintB (u64n n)
def usB (l : List Int) : List UInt8 := l.flatMap uB
def payB (p : Pay) : List UInt8 := usB [p.id, p.fr, p.am, p.af] ++ p.lock
def holB (h : Hol) : List UInt8 := usB [h.id, h.am, (h.keys.length : Int)] ++ usB h.keys
def encS (s : Sta) : List UInt8 := usB [s.num, s.h0, s.h1, (s.pays.length : Int)] ++ s.pays.flatMap payB ++ usB [(s.holds.length : Int)] ++ s.holds.flatMap holB
theorem uB_len (n : Int) : (uB n).length ≤ 9 := by
  have := nb_8 (u64n_lt n)
  simp [uB, uintB, dg_len]; omega
theorem usB_len : ∀ (l : List Int), (usB l).length ≤ 9 * l.length
  | [] => by simp [usB]
  | n :: r => by
    have h1 := uB_len n
    have h2 := usB_len r
    have : usB (n :: r) = uB n ++ usB r := by simp [usB]
    rw [this, List.length_append, List.length_cons]
    omega
theorem usB_snoc (l : List Int) (n : Int) : usB (l ++ [n]) = usB l ++ uB n := by simp [usB]
def Sta.small (s : Sta) : Prop := s.pays.length ≤ 1000 ∧ s.holds.length ≤ 1000 ∧ ∀ h ∈ s.holds, h.keys.length ≤ 1000
theorem payB_len {p : Pay} (h : p.lock.length = 32) : (payB p).length ≤ 68 := by
  have := usB_len [p.id, p.fr, p.am, p.af]
  simp [payB] at *; omega
theorem holB_len {p : Hol} (h : p.keys.length ≤ 1000) : (holB p).length ≤ 9100 := by
  have h1 := usB_len [p.id, p.am, (p.keys.length : Int)]
  have h2 := usB_len p.keys
  simp [holB] at *; omega
theorem flat_len {α : Type} {f : α → List UInt8} {k : Nat} : ∀ {l : List α}, (∀ x ∈ l, (f x).length ≤ k) → (l.flatMap f).length ≤ k * l.length
  | [], _ => by simp
  | x :: r, h => by
    have h1 := h x (by simp)
    have h2 := flat_len (l := r) (fun y hy => h y (by simp [hy]))
    rw [List.flatMap_cons, List.length_append, List.length_cons, Nat.mul_succ]
    omega

/-- A variable that holds a writer. -/
def PO (r : Nat) : EO := .box 225 [.ptr r 0]
def PutV (o : Nat) : EV := .v (.c (.clo 103 [(o, 0)]))

set_option maxHeartbeats 1000000 in
theorem put_ok (bs : List UInt8) (l : List Int) (hl : l.length ≤ 10000000) (hb : bs.length + 9 * l.length ≤ 800000000) :
    ECalls Tryz.prog 103 [IL l, Ptr 0] [PO 1, WO 2 bs, RO bs] fun y H' => H' = [some (PO 1), some (WO 3 (bs ++ usB l)), none, some (RO (bs ++ usB l))] ∧ y = .tup [] := by
  refine ecalls k_put ?_
  simp [c_put, IL, Ptr]
  refine eloop (α := Nat) (fun i => i ≤ l.length) (fun i => l.length - i)
    (fun i => [.any, Ptr 0, .any, .any, .any, IL l, I .i64 l.length, I .i64 i, .any, .any, .any, .any, .any, .any, .any, .any]) (fun i => [some (PO 1), some (WO 3 (bs ++ usB (l.take i))), none, some (RO (bs ++ usB (l.take i)))]) 0 [0, 1, 2, 2]
    (Nat.zero_le _) (by simp [Ptr, I, IL]) (by simp [PO, WO, RO, usB]) (by simp) (by decide) (by simp) ?_
  intro i hi
  have hle := usB_len (l.take i)
  have hlt' : (l.take i).length = i := by simp; omega
  simp [Ptr, I, IL]
  refine alt (fun hlt => ?_) (fun hlt => ?_)
  · obtain ⟨k, hc⟩ : ∃ k, l[i]? = some k := ⟨l[i], by simp [hlt]⟩
    have hcb := intv_get hc
    have hts : l.take (i + 1) = l.take i ++ [k] := by rw [List.take_add_one, hc]; rfl
    have w1 : IntKind.i64.wrap ((i : Int) + 1) = ((i + 1 : Nat) : Int) := wrap_i64 (by omega) (by omega)
    simp [hcb, PO, wrap_u64n]
    refine callH [1, 3] (WUint_ok (bs ++ usB (l.take i)) (u64n k) (u64n_lt k) (by simp; omega)) (by simp [Ptr, I]) (by simp [WO, RO]) (by simp) (by simp [WO]) (by simp) ?_
    rintro y H' ⟨rfl, rfl⟩
    refine ⟨.inl (by simp), le_ok rfl, ?_⟩
    simp [w1, WO, RO, -Int.natCast_add]
    exact round (i + 1) [0, 1, 2, 116] (by omega) (by omega) (by simp) (by simp [hts, usB_snoc, uB, PO, WO, RO]) (by simp) (by decide) (by simp)
  · have hil : i = l.length := by omega
    subst hil
    simp
    exact fin [3] (by decide) rfl rfl rfl ⟨by simp [PO, WO, RO], rfl⟩

theorem put_body : bodyOK Tryz.prog 103 = true := by kernel_rfl
def pB (l : List Pay) : List UInt8 := l.flatMap payB
def hB (l : List Hol) : List UInt8 := l.flatMap holB
theorem pB_snoc (l : List Pay) (p : Pay) : pB (l ++ [p]) = pB l ++ payB p := by simp [pB]
theorem hB_snoc (l : List Hol) (p : Hol) : hB (l ++ [p]) = hB l ++ holB p := by simp [hB]
def headB (s : Sta) : List UInt8 := usB [s.num, s.h0, s.h1, (s.pays.length : Int)]
def midB (s : Sta) : List UInt8 := headB s ++ pB s.pays ++ usB [(s.holds.length : Int)]
theorem encS_eq (s : Sta) : encS s = midB s ++ hB s.holds := rfl

set_option maxHeartbeats 2000000 in
theorem Encode_ok (s : Sta) (hs : s.ok) (hm : s.small) : ECalls Tryz.prog 47 [SV s] [] fun y H' => H' = [] ∧ y = Bs (encS s) := by
  obtain ⟨ok1, ok2, ok3, ok4, ok5, ok6, ok7⟩ := id hs
  obtain ⟨m1, m2, m3⟩ := hm
  have lh : (headB s).length ≤ 36 := usB_len [s.num, s.h0, s.h1, (s.pays.length : Int)]
  have lp : ∀ i, (pB (s.pays.take i)).length ≤ 68000 := by
    intro i
    have h1 := flat_len (f := payB) (k := 68) (l := s.pays.take i) (fun p hp => payB_len (ok4 p (List.mem_of_mem_take hp)).2.2.2.2)
    have h2 : (s.pays.take i).length ≤ 1000 := by simp; omega
    unfold pB; omega
  have lq : (pB s.pays).length ≤ 68000 := by have := lp s.pays.length; rwa [List.take_length] at this
  have lm : (midB s).length ≤ 70000 := by
    have := usB_len [(s.holds.length : Int)]
    simp only [midB, List.length_append]
    simp only [List.length_cons, List.length_nil] at this
    omega
  have lk : ∀ i, (hB (s.holds.take i)).length ≤ 9100000 := by
    intro i
    have h1 := flat_len (f := holB) (k := 9100) (l := s.holds.take i) (fun p hp => holB_len (m3 p (List.mem_of_mem_take hp)))
    have h2 : (s.holds.take i).length ≤ 1000 := by simp; omega
    unfold hB; omega
  refine ecalls k_Encode ?_
  simp [c_Encode, SV, staC]
  refine call0 New_ok rfl ?_
  rintro y H' ⟨rfl, rfl⟩
  refine ⟨.inl rfl, le_ok rfl, ?_⟩
  simp [Ptr, WO, RO]
  refine ⟨put_body, ?_⟩
  refine callH [48, 32, 33] (put_ok [] [s.num, s.h0, s.h1, (s.pays.length : Int)] (by simp) (by simp)) (by simp [IL, intv, Ptr]) (by simp [PO, WO, RO]) (by simp) (by simp) (by simp) ?_
  rintro y H' ⟨rfl, rfl⟩
  refine ⟨.inl (by simp), le_ok rfl, ?_⟩
  simp [PO, WO, RO]
  refine eloop (α := Nat) (fun i => i ≤ s.pays.length) (fun i => s.pays.length - i)
    (fun i => [.any, Ptr 0, .any, Ptr 1, PutV 1, .any, .any, .any, .any, .any, .any, .any, .any, .any, .any, .any, .any, .any, .any, .any, .any, .any, .any, .any, .any, .any, PL s.pays, I .i64 s.pays.length, I .i64 i, .any, .any, .any, .any, .any, .any, .any, .any, .any, .any, .any, .any, .any, .any, .any, .any, .any, .any, .any, .any, .any, .any, .any, .any, .any, .any, .any, .any, .any, .any, .any, .any, .any, .any, .any, .any, .any, .any, .any, .any, .any, .any, .any, .any, .any, .any, .any, .any, .any]) (fun i => [some (.box 49 (staC s)), some (PO 2), some (WO 3 (headB s ++ pB (s.pays.take i))), some (RO (headB s ++ pB (s.pays.take i)))]) 0 [0, 48, 32, 320]
    (Nat.zero_le _) (by simp [Ptr, I, PL, PutV]) (by simp [PO, WO, RO, pB, headB, staC]) (by simp) (by simp) (by simp) ?_
  intro i hi
  have lpi := lp i
  simp [Ptr, I, PL, PutV, staC]
  refine alt (fun hlt => ?_) (fun hlt => ?_)
  · obtain ⟨p, hc⟩ : ∃ p, s.pays[i]? = some p := ⟨s.pays[i], by simp [hlt]⟩
    have hpo := ok4 p (List.mem_of_getElem? hc)
    have hl32 := hpo.2.2.2.2
    have ht : p.lock.take 32 = p.lock := List.take_of_length_le (by omega)
    have hcb := payv_get hc
    have w2 : IntKind.i64.wrap ((i : Int) + 1) = ((i + 1 : Nat) : Int) := wrap_i64 (by omega) (by omega)
    have l4 := usB_len [p.id, p.fr, p.am, p.af]
    simp only [List.length_cons, List.length_nil] at l4
    simp [hcb, payF, hl32, ht]
    refine ⟨put_body, ?_⟩
    refine callH [1, 2, 3] (put_ok (headB s ++ pB (s.pays.take i)) [p.id, p.fr, p.am, p.af] (by simp) (by simp; omega)) (by simp [IL, intv, Ptr]) (by simp [PO, WO, RO]) (by simp) (by simp [PO, WO]) (by simp) ?_
    rintro y H' ⟨rfl, rfl⟩
    refine ⟨.inl (by simp), le_ok rfl, ?_⟩
    simp [PO, WO, RO, hl32, ht]
    refine callH [2, 244] (WHash_ok (headB s ++ pB (s.pays.take i) ++ usB [p.id, p.fr, p.am, p.af]) p.lock (by simp; omega) hl32) (by simp [Ptr, Ag]) (by simp [WO, RO]) (by simp) (by simp) (by simp) ?_
    rintro y H' ⟨rfl, rfl⟩
    refine ⟨.inl (by simp), le_ok rfl, ?_⟩
    simp [w2, WO, RO, -Int.natCast_add]
    have hsn : pB (s.pays.take (i + 1)) = pB (s.pays.take i) ++ (usB [p.id, p.fr, p.am, p.af] ++ p.lock) := by rw [take_s hc, pB_snoc]; rfl
    exact round (i + 1) [0, 1, 2, 308] (by omega) (by omega) (by simp) (by simp [hsn, PO, WO, RO] <;> omega) (by simp) (by simp) (by simp)
  have hil : i = s.pays.length := by omega
  subst hil
  rw [List.take_length] at lpi ⊢
  simp
  refine ⟨put_body, ?_⟩
  have l1 := usB_len [(s.holds.length : Int)]
  simp only [List.length_cons, List.length_nil] at l1
  refine callH [1, 2, 3] (put_ok (headB s ++ pB s.pays) [(s.holds.length : Int)] (by simp) (by simp; omega)) (by simp [IL, intv, Ptr]) (by simp [PO, WO, RO]) (by simp) (by simp [PO, WO]) (by simp) ?_
  rintro y H' ⟨rfl, rfl⟩
  refine ⟨.inl (by simp), le_ok rfl, ?_⟩
  simp [PO, WO, RO]
  refine eloop (α := Nat) (fun i => i ≤ s.holds.length) (fun i => s.holds.length - i)
    (fun i => [.any, .any, .any, Ptr 0, PutV 0, .any, .any, .any, .any, .any, .any, .any, .any, .any, .any, .any, .any, .any, .any, .any, .any, .any, .any, .any, .any, .any, .any, .any, .any, .any, .any, .any, .any, .any, .any, .any, .any, .any, .any, .any, .any, .any, .any, .any, .any, .any, .any, .any, .any, .any, .any, .any, .any, .any, .any, HL s.holds, I .i64 s.holds.length, I .i64 i, .any, .any, .any, .any, .any, .any, .any, .any, .any, .any, .any, .any, .any, .any, .any, .any, .any, .any, .any, .any]) (fun i => [some (PO 1), some (WO 2 (midB s ++ hB (s.holds.take i))), some (RO (midB s ++ hB (s.holds.take i)))]) 0 [1, 2, 100]
    (Nat.zero_le _) (by simp [Ptr, I, HL, PutV]) (by simp [PO, WO, RO, hB, midB] <;> omega) (by simp) (by simp) (by simp) ?_
  intro i hi
  have lki := lk i
  simp [Ptr, I, HL, PutV]
  refine alt (fun hlt => ?_) (fun hlt => ?_)
  · obtain ⟨p, hc⟩ : ∃ p, s.holds[i]? = some p := ⟨s.holds[i], by simp [hlt]⟩
    have hk := m3 p (List.mem_of_getElem? hc)
    have hcb := holv_get hc
    have w2 : IntKind.i64.wrap ((i : Int) + 1) = ((i + 1 : Nat) : Int) := wrap_i64 (by omega) (by omega)
    have l3 := usB_len [p.id, p.am, (p.keys.length : Int)]
    have l5 := usB_len p.keys
    simp only [List.length_cons, List.length_nil] at l3
    simp [hcb, holF]
    refine ⟨put_body, ?_⟩
    refine callH [0, 1, 2] (put_ok (midB s ++ hB (s.holds.take i)) [p.id, p.am, (p.keys.length : Int)] (by simp) (by simp; omega)) (by simp [IL, intv, Ptr]) (by simp [PO, WO, RO]) (by simp) (by simp [PO, WO]) (by simp) ?_
    rintro y H' ⟨rfl, rfl⟩
    refine ⟨.inl (by simp), le_ok rfl, ?_⟩
    simp [PO, WO, RO]
    refine ⟨put_body, ?_⟩
    refine callH [0, 1, 227] (put_ok (midB s ++ hB (s.holds.take i) ++ usB [p.id, p.am, (p.keys.length : Int)]) p.keys (by omega) (by simp; omega)) (by simp [IL, Ptr]) (by simp [PO, WO, RO]) (by simp) (by simp [PO, WO]) (by simp) ?_
    rintro y H' ⟨rfl, rfl⟩
    refine ⟨.inl (by simp), le_ok rfl, ?_⟩
    simp [w2, PO, WO, RO, -Int.natCast_add]
    have hsn : hB (s.holds.take (i + 1)) = hB (s.holds.take i) ++ (usB [p.id, p.am, (p.keys.length : Int)] ++ usB p.keys) := by rw [take_s hc, hB_snoc]; rfl
    exact round (i + 1) [0, 1, 291] (by omega) (by omega) (by simp) (by simp [hsn, PO, WO, RO] <;> omega) (by simp) (by simp) (by simp)
  have hil : i = s.holds.length := by omega
  subst hil
  rw [List.take_length] at lki ⊢
  simp [PO, WO, RO]
  refine callH [1, 2] (WDone_ok (midB s ++ hB s.holds) (by simp; omega)) (by simp [Ptr]) (by simp [WO, RO]) (by simp) (by simp) (by simp) ?_
  rintro y H' ⟨rfl, rfl⟩
  refine ⟨.inl (by simp), le_ok rfl, ?_⟩
  simp [R, RO, WO]
  refine finW _ (weak_frz (o := 35) (ty := 5) (es := 1) (xs := bsv (midB s ++ hB s.holds)) rfl) ?_
  exact fin [] (by decide) rfl rfl rfl ⟨rfl, by simp [Bs, encS_eq, List.take_of_length_le]⟩

end Go.Proofs.YtejjhgdnmknejaaGreatDoor

namespace Go.Proofs.YtejjhgdnmknejaaGreatDoor
open Go Go.EW
set_option linter.unusedSimpArgs false

@[simp] def l_digits_1 (_ : Unit) : List EOp := [⟨0, (some 2), none, (.q (.mov (.k (.slice none 0 0)))), []⟩]
@[simp] def b_digits_2 (_ : Unit) : EB := reg0 (hid l_digits_1) 1
@[simp] def l_digits_3 (_ : Unit) : List EOp := [⟨0, (some 3), none, (.q (.mov (.k (.slice none 0 0)))), []⟩]
@[simp] def b_digits_4 (_ : Unit) : EB := reg0 (hid l_digits_3) 1
@[simp] def l_digits_5 (_ : Unit) : List EOp := [⟨0, (some 5), none, (.q (.mov (.t 0))), []⟩, ⟨1, (some 6), none, (.q (.bin .gtr (.t 5) (.k (.int .u64 0)))), []⟩]
@[simp] def b_digits_6 (_ : Unit) : EB := reg0 (hid l_digits_5) 2
@[simp] def b_digits_7 (_ : Unit) : EB := .cond (.t 6) .skip (.exit 0)
@[simp] def b_digits_8 (_ : Unit) : EB := .seq (hid b_digits_6) (hid b_digits_7)
@[simp] def l_digits_9 (_ : Unit) : List EOp := [⟨0, (some 4), none, (.q (.mov (.k (.slice none 0 0)))), []⟩]
@[simp] def b_digits_10 (_ : Unit) : EB := reg0 (hid l_digits_9) 1
@[simp] def l_digits_12 (_ : Unit) : List EOp := [⟨6, (some 13), none, (.q (.mov (.t 3))), []⟩, ⟨7, (some 14), none, (.app 5 1 1 (.t 12) (.t 13)), []⟩, ⟨8, (some 3), none, (.q (.mov (.t 14))), []⟩]
@[simp] def l_digits_11 (_ : Unit) : List EOp := ⟨0, (some 7), none, (.q (.mov (.t 4))), []⟩ :: ⟨1, (some 8), none, (.q (.mov (.t 0))), []⟩ :: ⟨2, (some 9), none, (.q (.bin .rem (.t 8) (.k (.int .u64 256)))), []⟩ :: ⟨3, (some 10), none, (.q (.cnv .u8 (.t 9))), []⟩ :: ⟨4, (some 11), none, (.q (.bsl 1 [(.int .u8 0)] 1 [(0, (.t 10))])), []⟩ :: ⟨5, (some 12), none, (.app 5 1 1 (.t 7) (.t 11)), []⟩ :: hid l_digits_12
@[simp] def b_digits_13 (_ : Unit) : EB := reg0 (hid l_digits_11) 9
@[simp] def l_digits_14 (_ : Unit) : List EOp := [⟨0, (some 15), none, (.q (.mov (.t 0))), []⟩, ⟨1, (some 16), none, (.q (.bin .quo (.t 15) (.k (.int .u64 256)))), []⟩, ⟨2, (some 0), none, (.q (.mov (.t 16))), []⟩]
@[simp] def b_digits_15 (_ : Unit) : EB := reg0 (hid l_digits_14) 3
@[simp] def b_digits_16 (_ : Unit) : EB := .seq (hid b_digits_13) (hid b_digits_15)
@[simp] def b_digits_17 (_ : Unit) : EB := .seq (hid b_digits_10) (hid b_digits_16)
@[simp] def b_digits_18 (_ : Unit) : EB := .block 1 (hid b_digits_17)
@[simp] def b_digits_19 (_ : Unit) : EB := .seq (hid b_digits_8) (hid b_digits_18)
@[simp] def b_digits_20 (_ : Unit) : EB := .loop (hid b_digits_19)
@[simp] def b_digits_21 (_ : Unit) : EB := .block 0 (hid b_digits_20)
@[simp] def l_digits_22 (_ : Unit) : List EOp := [⟨0, (some 17), none, (.q (.mov (.t 3))), []⟩, ⟨1, (some 2), none, (.q (.mov (.t 17))), []⟩]
@[simp] def b_digits_23 (_ : Unit) : EB := reg0 (hid l_digits_22) 2
@[simp] def b_digits_24 (_ : Unit) : EB := .seq (hid b_digits_23) .ret
@[simp] def b_digits_25 (_ : Unit) : EB := .seq (hid b_digits_21) (hid b_digits_24)
@[simp] def b_digits_26 (_ : Unit) : EB := .seq (hid b_digits_4) (hid b_digits_25)
@[simp] def b_digits_27 (_ : Unit) : EB := .seq (hid b_digits_2) (hid b_digits_26)
def c_digits : EB × List QOp × Nat := ((hid b_digits_27), [(.mov (.t 2))], 18)
theorem k_digits : cfun Tryz.prog 164 = some c_digits := by kernel_rfl

@[simp] def l_own_1 (_ : Unit) : List EOp := [⟨0, (some 2), none, (.q (.mov (.k (.slice none 0 0)))), []⟩]
@[simp] def b_own_2 (_ : Unit) : EB := reg0 (hid l_own_1) 1
@[simp] def l_own_3 (_ : Unit) : List EOp := [⟨0, (some 3), none, (.q (.mov (.k (.slice none 0 0)))), []⟩]
@[simp] def b_own_4 (_ : Unit) : EB := reg0 (hid l_own_3) 1
@[simp] def l_own_5 (_ : Unit) : List EOp := [⟨0, (some 4), none, (.q (.mov (.t 3))), []⟩, ⟨1, (some 5), none, (.q (.mov (.t 0))), []⟩, ⟨2, (some 6), none, (.app 5 1 1 (.t 4) (.t 5)), []⟩, ⟨3, (some 2), none, (.q (.mov (.t 6))), []⟩]
@[simp] def b_own_6 (_ : Unit) : EB := reg0 (hid l_own_5) 4
@[simp] def b_own_7 (_ : Unit) : EB := .seq (hid b_own_6) .ret
@[simp] def b_own_8 (_ : Unit) : EB := .seq (hid b_own_4) (hid b_own_7)
@[simp] def b_own_9 (_ : Unit) : EB := .seq (hid b_own_2) (hid b_own_8)
def c_own : EB × List QOp × Nat := ((hid b_own_9), [(.mov (.t 2))], 7)
theorem k_own : cfun Tryz.prog 165 = some c_own := by kernel_rfl

@[simp] def l_RUint_1 (_ : Unit) : List EOp := [⟨0, (some 4), none, (.q (.mov (.k (.slice none 0 0)))), []⟩]
@[simp] def b_RUint_2 (_ : Unit) : EB := reg0 (hid l_RUint_1) 1
@[simp] def l_RUint_3 (_ : Unit) : List EOp := [⟨0, (some 6), none, (.q (.mov (.t 1))), []⟩, ⟨1, (some 7), none, (.call 164 [(.t 6)]), []⟩, ⟨2, (some 5), none, (.q (.mov (.t 7))), []⟩]
@[simp] def b_RUint_4 (_ : Unit) : EB := reg0 (hid l_RUint_3) 3
@[simp] def l_RUint_6 (_ : Unit) : List EOp := [⟨6, (some 14), none, (.app 5 1 1 (.t 9) (.t 13)), []⟩, ⟨7, (some 15), none, (.q (.mov (.t 5))), []⟩, ⟨8, (some 16), none, (.app 5 1 1 (.t 14) (.t 15)), []⟩, ⟨9, (some 4), none, (.q (.mov (.t 16))), []⟩]
@[simp] def l_RUint_5 (_ : Unit) : List EOp := ⟨0, (some 8), none, (.q (.mov (.t 0))), []⟩ :: ⟨1, (some 9), none, (.call 165 [(.t 8)]), []⟩ :: ⟨2, (some 10), none, (.q (.mov (.t 5))), []⟩ :: ⟨3, (some 11), none, (.q (.len (.t 10))), []⟩ :: ⟨4, (some 12), none, (.q (.cnv .u8 (.t 11))), []⟩ :: ⟨5, (some 13), none, (.q (.bsl 1 [(.int .u8 0)] 1 [(0, (.t 12))])), []⟩ :: hid l_RUint_6
@[simp] def b_RUint_7 (_ : Unit) : EB := reg0 (hid l_RUint_5) 10
@[simp] def b_RUint_8 (_ : Unit) : EB := .seq (hid b_RUint_7) .ret
@[simp] def b_RUint_9 (_ : Unit) : EB := .seq (hid b_RUint_4) (hid b_RUint_8)
@[simp] def b_RUint_10 (_ : Unit) : EB := .seq (hid b_RUint_2) (hid b_RUint_9)
def c_RUint : EB × List QOp × Nat := ((hid b_RUint_10), [(.mov (.t 4))], 17)
theorem k_RUint : cfun Tryz.prog 107 = some c_RUint := by kernel_rfl

@[simp] def l_RBytes_1 (_ : Unit) : List EOp := [⟨0, (some 4), none, (.q (.mov (.k (.slice none 0 0)))), []⟩]
@[simp] def b_RBytes_2 (_ : Unit) : EB := reg0 (hid l_RBytes_1) 1
@[simp] def l_RBytes_3 (_ : Unit) : List EOp := [⟨0, (some 7), none, (.q (.mov (.t 0))), []⟩, ⟨1, (some 8), none, (.call 165 [(.t 7)]), []⟩, ⟨2, (some 5), none, (.q (.mov (.t 8))), []⟩]
@[simp] def b_RBytes_4 (_ : Unit) : EB := reg0 (hid l_RBytes_3) 3
@[simp] def l_RBytes_5 (_ : Unit) : List EOp := [⟨0, (some 6), none, (.q (.mov (.k (.int .i64 0)))), []⟩]
@[simp] def b_RBytes_6 (_ : Unit) : EB := reg0 (hid l_RBytes_5) 1
@[simp] def l_RBytes_7 (_ : Unit) : List EOp := [⟨0, (some 9), none, (.q (.mov (.t 6))), []⟩, ⟨1, (some 10), none, (.q (.mov (.t 1))), []⟩, ⟨2, (some 11), none, (.q (.len (.t 10))), []⟩, ⟨3, (some 12), none, (.q (.bin .lss (.t 9) (.t 11))), []⟩]
@[simp] def b_RBytes_8 (_ : Unit) : EB := reg0 (hid l_RBytes_7) 4
@[simp] def b_RBytes_9 (_ : Unit) : EB := .cond (.t 12) .skip (.exit 0)
@[simp] def b_RBytes_10 (_ : Unit) : EB := .seq (hid b_RBytes_8) (hid b_RBytes_9)
@[simp] def l_RBytes_12 (_ : Unit) : List EOp := [⟨6, (some 21), none, (.app 5 1 1 (.t 15) (.t 20)), []⟩, ⟨7, (some 5), none, (.q (.mov (.t 21))), []⟩]
@[simp] def l_RBytes_11 (_ : Unit) : List EOp := ⟨0, (some 15), none, (.q (.mov (.t 5))), []⟩ :: ⟨1, (some 16), none, (.q (.mov (.t 1))), []⟩ :: ⟨2, (some 17), none, (.q (.mov (.t 6))), []⟩ :: ⟨3, (some 18), none, (.q (.isl 1 (.t 16) (.t 17))), []⟩ :: ⟨4, (some 19), none, (.q (.ldc (.t 18))), []⟩ :: ⟨5, (some 20), none, (.q (.bsl 1 [(.int .u8 0)] 1 [(0, (.t 19))])), []⟩ :: hid l_RBytes_12
@[simp] def b_RBytes_13 (_ : Unit) : EB := reg0 (hid l_RBytes_11) 8
@[simp] def l_RBytes_14 (_ : Unit) : List EOp := [⟨0, (some 22), none, (.q (.mov (.t 1))), []⟩, ⟨1, (some 23), none, (.q (.mov (.t 6))), []⟩, ⟨2, (some 24), none, (.q (.isl 1 (.t 22) (.t 23))), []⟩, ⟨3, (some 25), none, (.q (.ldc (.t 24))), []⟩, ⟨4, (some 26), none, (.q (.bin .eql (.t 25) (.k (.int .u8 0)))), []⟩]
@[simp] def b_RBytes_15 (_ : Unit) : EB := reg0 (hid l_RBytes_14) 5
@[simp] def l_RBytes_16 (_ : Unit) : List EOp := [⟨0, (some 27), none, (.q (.mov (.t 5))), []⟩, ⟨1, (some 28), none, (.q (.bsl 1 [(.int .u8 0)] 1 [(0, (.k (.int .u8 255)))])), []⟩, ⟨2, (some 29), none, (.app 5 1 1 (.t 27) (.t 28)), []⟩, ⟨3, (some 5), none, (.q (.mov (.t 29))), []⟩]
@[simp] def b_RBytes_17 (_ : Unit) : EB := reg0 (hid l_RBytes_16) 4
@[simp] def b_RBytes_18 (_ : Unit) : EB := .cond (.t 26) (hid b_RBytes_17) .skip
@[simp] def b_RBytes_19 (_ : Unit) : EB := .seq (hid b_RBytes_15) (hid b_RBytes_18)
@[simp] def b_RBytes_20 (_ : Unit) : EB := .seq (hid b_RBytes_13) (hid b_RBytes_19)
@[simp] def b_RBytes_21 (_ : Unit) : EB := .block 1 (hid b_RBytes_20)
@[simp] def l_RBytes_22 (_ : Unit) : List EOp := [⟨0, (some 13), none, (.q (.mov (.t 6))), []⟩, ⟨1, (some 14), none, (.q (.bin .add (.t 13) (.k (.int .i64 1)))), []⟩, ⟨2, (some 6), none, (.q (.mov (.t 14))), []⟩]
@[simp] def b_RBytes_23 (_ : Unit) : EB := reg0 (hid l_RBytes_22) 3
@[simp] def b_RBytes_24 (_ : Unit) : EB := .seq (hid b_RBytes_21) (hid b_RBytes_23)
@[simp] def b_RBytes_25 (_ : Unit) : EB := .seq (hid b_RBytes_10) (hid b_RBytes_24)
@[simp] def b_RBytes_26 (_ : Unit) : EB := .loop (hid b_RBytes_25)
@[simp] def b_RBytes_27 (_ : Unit) : EB := .block 0 (hid b_RBytes_26)
@[simp] def b_RBytes_28 (_ : Unit) : EB := .seq (hid b_RBytes_6) (hid b_RBytes_27)
@[simp] def l_RBytes_29 (_ : Unit) : List EOp := [⟨0, (some 30), none, (.q (.mov (.t 5))), []⟩, ⟨1, (some 31), none, (.q (.bsl 1 [(.int .u8 0)] 2 [(0, (.k (.int .u8 0))), (1, (.k (.int .u8 0)))])), []⟩, ⟨2, (some 32), none, (.app 5 1 1 (.t 30) (.t 31)), []⟩, ⟨3, (some 4), none, (.q (.mov (.t 32))), []⟩]
@[simp] def b_RBytes_30 (_ : Unit) : EB := reg0 (hid l_RBytes_29) 4
@[simp] def b_RBytes_31 (_ : Unit) : EB := .seq (hid b_RBytes_30) .ret
@[simp] def b_RBytes_32 (_ : Unit) : EB := .seq (hid b_RBytes_28) (hid b_RBytes_31)
@[simp] def b_RBytes_33 (_ : Unit) : EB := .seq (hid b_RBytes_4) (hid b_RBytes_32)
@[simp] def b_RBytes_34 (_ : Unit) : EB := .seq (hid b_RBytes_2) (hid b_RBytes_33)
def c_RBytes : EB × List QOp × Nat := ((hid b_RBytes_34), [(.mov (.t 4))], 33)
theorem k_RBytes : cfun Tryz.prog 124 = some c_RBytes := by kernel_rfl

@[simp] def l_RHash_1 (_ : Unit) : List EOp := [⟨0, (some 3), none, (.q (.box 23 (.t 1))), []⟩, ⟨1, (some 4), none, (.q (.mov (.k (.slice none 0 0)))), []⟩]
@[simp] def b_RHash_2 (_ : Unit) : EB := reg0 (hid l_RHash_1) 2
@[simp] def l_RHash_3 (_ : Unit) : List EOp := [⟨0, (some 5), none, (.q (.mov (.t 0))), []⟩, ⟨2, (some 7), none, (.q (.sar 32 (.t 3) none none)), []⟩, ⟨1, (some 6), none, (.call 165 [(.t 5)]), [2]⟩, ⟨3, (some 8), none, (.app 5 1 1 (.t 6) (.t 7)), []⟩, ⟨4, (some 4), none, (.q (.mov (.t 8))), []⟩]
@[simp] def b_RHash_4 (_ : Unit) : EB := reg1 (hid l_RHash_3) 5
@[simp] def b_RHash_5 (_ : Unit) : EB := .seq (hid b_RHash_4) .ret
@[simp] def b_RHash_6 (_ : Unit) : EB := .seq (hid b_RHash_2) (hid b_RHash_5)
def c_RHash : EB × List QOp × Nat := ((hid b_RHash_6), [(.mov (.t 4))], 9)
theorem k_RHash : cfun Tryz.prog 108 = some c_RHash := by kernel_rfl


theorem digits_ok (n : Nat) (h : n < 18446744073709551616) : ECalls Tryz.prog 164 [I .u64 n] [] fun y H' => H' = [some (RO (dg n))] ∧ y = R 0 (dg n) := by
  refine ecalls k_digits ?_
  simp [c_digits, I]
  refine loopW _ (weak_nilR 3 5 1 rfl (by omega)) ?_
  refine eloop (α := Nat × List UInt8) (fun a => a.1 < 18446744073709551616 ∧ a.2.length ≤ 8 ∧ dg a.1 ++ a.2 = dg n) (fun a => a.1)
    (fun a => [I .u64 a.1, .any, .any, R 0 a.2, .any, .any, .any, .any, .any, .any, .any, .any, .any, .any, .any, .any, .any, .any]) (fun a => [some (RO a.2)]) (n, []) [32] ⟨h, by simp, by simp⟩ (by simp [R, I]) (by simp [RO]) (by simp) (by simp) (by simp) ?_
  rintro ⟨k, ds⟩ ⟨hk, hdl, hds⟩
  simp [I, R, RO] at hk hdl hds ⊢
  refine alt (fun hp => ?_) (fun hp => ?_)
  · have h8 := nb_8 h
    have hst := dg_step (n := k) (by omega)
    have hl := congrArg List.length hds
    rw [hst] at hds hl
    simp [dg_len] at hl
    have w1 : IntKind.u8.wrap ((k : Int).tmod 256) = ((b8 k).toNat : Int) := by
      rw [Int.tmod_eq_emod_of_nonneg (by omega), IntKind.wrap_u8, b8_nat]; omega
    have w2 : IntKind.u64.wrap ((k : Int) / 256) = ((k / 256 : Nat) : Int) := by
      rw [wrap_u64 (by omega) (by omega)]; rfl
    simp [w1, w2, -Int.natCast_ediv]
    exact ⟨by omega, round (k / 256, b8 k :: ds) [161] ⟨by simp; omega, by simp; omega, by simpa using hds⟩ (by simp; omega) (by simp; omega) (by simp [bsv, cb]) (by simp) (by simp) (by simp)⟩
  · have : k = 0 := by omega
    subst this
    simp [dg_zero] at hds
    subst hds
    simp
    exact fin [0] (by decide) rfl rfl rfl ⟨rfl, rfl⟩

theorem own_ok (b : List UInt8) (hb : b.length ≤ 1000000000) : ECalls Tryz.prog 165 [Bs b] [] fun y H' => H' = [some (RO b)] ∧ y = R 0 b := by
  refine ecalls k_own ?_
  simp [c_own, Bs]
  exact ⟨by omega, fin [64] (by decide) rfl rfl rfl ⟨rfl, rfl⟩⟩

theorem RUint_ok (b : List UInt8) (n : Nat) (h : n < 18446744073709551616) (hb : b.length ≤ 900000000) : ECalls Tryz.prog 107 [Bs b, I .u64 n] [] fun y H' => H' = [some (RO (b ++ uintB n))] ∧ y = R 0 (b ++ uintB n) := by
  have h8 := nb_8 h
  refine ecalls k_RUint ?_
  simp [c_RUint, I, Bs]
  refine call0 (digits_ok n h) rfl ?_
  rintro y H' ⟨rfl, rfl⟩
  refine ⟨.inl rfl, le_ok rfl, ?_⟩
  simp [R, RO]
  refine call0 (own_ok b (by omega)) rfl ?_
  rintro y H' ⟨rfl, rfl⟩
  refine ⟨.inl rfl, le_ok rfl, ?_⟩
  simp [R, RO]
  exact ⟨by omega, by simp [dg_len]; omega, fin [192] (by decide) rfl rfl rfl ⟨by simp [uintB, dg_len, wrap_u8_nat, bsv, cb], by simp [uintB]; omega⟩⟩

theorem RBytes_ok (b l : List UInt8) (hb : b.length ≤ 900000000) (hl : l.length ≤ 10000000) : ECalls Tryz.prog 124 [Bs b, Bs l] [] fun y H' => H' = [some (RO (b ++ bytesB l))] ∧ y = R 0 (b ++ bytesB l) := by
  refine ecalls k_RBytes ?_
  simp [c_RBytes, Bs]
  refine call0 (own_ok b (by omega)) rfl ?_
  rintro y H' ⟨rfl, rfl⟩
  refine ⟨.inl rfl, le_ok rfl, ?_⟩
  simp [R, RO]
  refine eloop (α := Nat) (fun i => i ≤ l.length) (fun i => l.length - i)
    (fun i => [.any, Bs l, .any, .any, .any, R 0 (b ++ stuffB (l.take i)), I .i64 i, .any, .any, .any, .any, .any, .any, .any, .any, .any, .any, .any, .any, .any, .any, .any, .any, .any, .any, .any, .any, .any, .any, .any, .any, .any, .any]) (fun i => [some (RO (b ++ stuffB (l.take i)))]) 0 [32]
    (Nat.zero_le _) (by simp [Bs, I, R, stuffB]) (by simp [RO, stuffB]) (by simp) (by simp) (by simp) ?_
  intro i hi
  have hle := stuff_len (l.take i)
  have hlt : (l.take i).length = i := by simp; omega
  simp [I, Bs, R, RO]
  refine alt (fun hp => ?_) (fun hp => ?_)
  · obtain ⟨c, hc⟩ : ∃ c, l[i]? = some c := ⟨l[i], by simp [hp]⟩
    have hcb : (bsv l)[i]? = some (cb c) := by simp [bsv, hc]
    have hts := take_snoc hc
    have w1 : IntKind.i64.wrap ((i : Int) + 1) = ((i + 1 : Nat) : Int) := wrap_i64 (by omega) (by omega)
    simp [hcb, cb]
    refine ⟨by omega, alt (fun hz => ?_) (fun hz => ?_)⟩
    · have hc0 : c = 0 := by apply UInt8.toNat_inj.1; simpa using hz
      have hst : stuffB (l.take (i + 1)) = stuffB (l.take i) ++ [0, 255] := by rw [hts, stuff_snoc, if_pos hc0]
      simp [w1, -Int.natCast_add]
      refine ⟨by omega, round (i + 1) [305] (by omega) (by omega) ?_ ?_ (by simp) (by simp) (by simp)⟩
      · simp [hst]; omega
      · subst hc0; simp [hst, bsv, cb]
    · have hc0 : c ≠ 0 := by rintro rfl; exact hz rfl
      have hst : stuffB (l.take (i + 1)) = stuffB (l.take i) ++ [c] := by rw [hts, stuff_snoc, if_neg hc0]
      simp [w1, -Int.natCast_add]
      refine round (i + 1) [161] (by omega) (by omega) ?_ ?_ (by simp) (by simp) (by simp)
      · simp [hst]; omega
      · simp [hst, bsv, cb]
  · have hil : i = l.length := by omega
    subst hil
    simp at hle
    simp
    exact ⟨by omega, fin [97] (by decide) rfl rfl rfl ⟨by simp [bytesB, bsv, cb], by simp [bytesB]; omega⟩⟩

theorem RHash_ok (b h : List UInt8) (hb : b.length ≤ 900000000) (hl : h.length = 32) : ECalls Tryz.prog 108 [Bs b, Ag h] [] fun y H' => H' = [some (RO (b ++ h))] ∧ y = R 0 (b ++ h) := by
  refine ecalls k_RHash ?_
  have ht : h.take 32 = h := List.take_of_length_le (by omega)
  simp [c_RHash, Bs, Ag, ht]
  refine call0 (own_ok b (by omega)) rfl ?_
  rintro y H' ⟨rfl, rfl⟩
  refine ⟨.inl rfl, le_ok rfl, ?_⟩
  simp [R, RO, ht]
  exact ⟨by omega, by omega, fin [80] (by decide) rfl rfl rfl ⟨by simp, by simp⟩⟩

end Go.Proofs.YtejjhgdnmknejaaGreatDoor

namespace Go.Proofs.YtejjhgdnmknejaaGreatDoor
open Go Go.EW
set_option linter.unusedSimpArgs false
set_option linter.unusedVariables false

@[simp] def l_REncode_1 (_ : Unit) : List EOp := [⟨0, (some 1), none, (.q (.box 35 (.t 0))), []⟩, ⟨1, (some 2), none, (.q (.mov (.k (.slice none 0 0)))), []⟩]
@[simp] def b_REncode_2 (_ : Unit) : EB := reg0 (hid l_REncode_1) 2
@[simp] def l_REncode_5 (_ : Unit) : List EOp := [⟨8, (some 17), none, (.call 107 [(.t 12), (.t 16)]), [9, 10, 11, 12]⟩, ⟨13, (some 22), none, (.call 107 [(.t 17), (.t 21)]), []⟩, ⟨14, (some 3), none, (.q (.mov (.t 22))), []⟩]
@[simp] def l_REncode_4 (_ : Unit) : List EOp := ⟨7, (some 16), none, (.q (.cnv .u64 (.t 15))), []⟩ :: ⟨9, (some 18), none, (.q (.fad 1 (.t 1))), []⟩ :: ⟨10, (some 19), none, (.q (.iad 2 1 (.t 18) (.k (.int .i64 1)))), []⟩ :: ⟨11, (some 20), none, (.q (.ldc (.t 19))), []⟩ :: ⟨12, (some 21), none, (.q (.cnv .u64 (.t 20))), []⟩ :: ⟨3, (some 12), none, (.call 107 [(.k (.slice none 0 0)), (.t 11)]), [4, 5, 6, 7, 9, 10, 11, 12]⟩ :: hid l_REncode_5
@[simp] def l_REncode_3 (_ : Unit) : List EOp := ⟨0, (some 9), none, (.q (.fad 0 (.t 1))), []⟩ :: ⟨1, (some 10), none, (.q (.ldc (.t 9))), []⟩ :: ⟨2, (some 11), none, (.q (.cnv .u64 (.t 10))), []⟩ :: ⟨4, (some 13), none, (.q (.fad 1 (.t 1))), []⟩ :: ⟨5, (some 14), none, (.q (.iad 2 1 (.t 13) (.k (.int .i64 0)))), []⟩ :: ⟨6, (some 15), none, (.q (.ldc (.t 14))), []⟩ :: hid l_REncode_4
@[simp] def b_REncode_6 (_ : Unit) : EB := reg1 (hid l_REncode_3) 15
@[simp] def l_REncode_8 (_ : Unit) : List EOp := [⟨6, (some 3), none, (.q (.mov (.t 28))), []⟩]
@[simp] def l_REncode_7 (_ : Unit) : List EOp := ⟨0, (some 23), none, (.q (.mov (.t 3))), []⟩ :: ⟨1, (some 24), none, (.q (.fad 3 (.t 1))), []⟩ :: ⟨2, (some 25), none, (.q (.ldc (.t 24))), []⟩ :: ⟨3, (some 26), none, (.q (.len (.t 25))), []⟩ :: ⟨4, (some 27), none, (.q (.cnv .u64 (.t 26))), []⟩ :: ⟨5, (some 28), none, (.call 107 [(.t 23), (.t 27)]), []⟩ :: hid l_REncode_8
@[simp] def b_REncode_9 (_ : Unit) : EB := reg0 (hid l_REncode_7) 7
@[simp] def l_REncode_10 (_ : Unit) : List EOp := [⟨0, (some 4), none, (.q (.mov (.k (.int .i64 0)))), []⟩]
@[simp] def b_REncode_11 (_ : Unit) : EB := reg0 (hid l_REncode_10) 1
@[simp] def l_REncode_12 (_ : Unit) : List EOp := [⟨0, (some 29), none, (.q (.mov (.t 4))), []⟩, ⟨1, (some 30), none, (.q (.fad 3 (.t 1))), []⟩, ⟨2, (some 31), none, (.q (.ldc (.t 30))), []⟩, ⟨3, (some 32), none, (.q (.len (.t 31))), []⟩, ⟨4, (some 33), none, (.q (.bin .lss (.t 29) (.t 32))), []⟩]
@[simp] def b_REncode_13 (_ : Unit) : EB := reg0 (hid l_REncode_12) 5
@[simp] def b_REncode_14 (_ : Unit) : EB := .cond (.t 33) .skip (.exit 0)
@[simp] def b_REncode_15 (_ : Unit) : EB := .seq (hid b_REncode_13) (hid b_REncode_14)
@[simp] def l_REncode_17 (_ : Unit) : List EOp := [⟨6, none, none, (.sto 36 (.t 5) (.t 40)), []⟩]
@[simp] def l_REncode_16 (_ : Unit) : List EOp := ⟨0, (some 36), none, (.q (.fad 3 (.t 1))), []⟩ :: ⟨1, (some 37), none, (.q (.ldc (.t 36))), []⟩ :: ⟨2, (some 38), none, (.q (.mov (.t 4))), []⟩ :: ⟨3, (some 39), none, (.q (.isl 36 (.t 37) (.t 38))), []⟩ :: ⟨4, (some 40), none, (.q (.lda 36 (.t 39))), []⟩ :: ⟨5, (some 5), none, (.q (.alloc 128 (([(.int .i64 0), (.int .i64 0), (.int .i64 0), (.int .i64 0)] : List Value) ++ zU8))), []⟩ :: hid l_REncode_17
@[simp] def b_REncode_18 (_ : Unit) : EB := reg0 (hid l_REncode_16) 7
@[simp] def l_REncode_21 (_ : Unit) : List EOp := [⟨15, (some 56), none, (.q (.cnv .u64 (.t 55))), []⟩, ⟨4, (some 45), none, (.call 107 [(.t 41), (.t 44)]), [5, 6, 7, 9, 10, 11, 13, 14, 15]⟩, ⟨8, (some 49), none, (.call 107 [(.t 45), (.t 48)]), [9, 10, 11, 13, 14, 15]⟩, ⟨12, (some 53), none, (.call 107 [(.t 49), (.t 52)]), [13, 14, 15]⟩, ⟨16, (some 57), none, (.call 107 [(.t 53), (.t 56)]), []⟩, ⟨17, (some 3), none, (.q (.mov (.t 57))), []⟩]
@[simp] def l_REncode_20 (_ : Unit) : List EOp := ⟨7, (some 48), none, (.q (.cnv .u64 (.t 47))), []⟩ :: ⟨9, (some 50), none, (.q (.fad 2 (.t 5))), []⟩ :: ⟨10, (some 51), none, (.q (.ldc (.t 50))), []⟩ :: ⟨11, (some 52), none, (.q (.cnv .u64 (.t 51))), []⟩ :: ⟨13, (some 54), none, (.q (.fad 3 (.t 5))), []⟩ :: ⟨14, (some 55), none, (.q (.ldc (.t 54))), []⟩ :: hid l_REncode_21
@[simp] def l_REncode_19 (_ : Unit) : List EOp := ⟨0, (some 41), none, (.q (.mov (.t 3))), []⟩ :: ⟨1, (some 42), none, (.q (.fad 0 (.t 5))), []⟩ :: ⟨2, (some 43), none, (.q (.ldc (.t 42))), []⟩ :: ⟨3, (some 44), none, (.q (.cnv .u64 (.t 43))), []⟩ :: ⟨5, (some 46), none, (.q (.fad 1 (.t 5))), []⟩ :: ⟨6, (some 47), none, (.q (.ldc (.t 46))), []⟩ :: hid l_REncode_20
@[simp] def b_REncode_22 (_ : Unit) : EB := reg1 (hid l_REncode_19) 18
@[simp] def l_REncode_23 (_ : Unit) : List EOp := [⟨0, (some 58), none, (.q (.mov (.t 3))), []⟩, ⟨1, (some 59), none, (.q (.fad 4 (.t 5))), []⟩, ⟨2, (some 60), none, (.q (.lda 32 (.t 59))), []⟩, ⟨3, (some 61), none, (.call 108 [(.t 58), (.t 60)]), []⟩, ⟨4, (some 3), none, (.q (.mov (.t 61))), []⟩]
@[simp] def b_REncode_24 (_ : Unit) : EB := reg0 (hid l_REncode_23) 5
@[simp] def b_REncode_25 (_ : Unit) : EB := .seq (hid b_REncode_22) (hid b_REncode_24)
@[simp] def b_REncode_26 (_ : Unit) : EB := .seq (hid b_REncode_18) (hid b_REncode_25)
@[simp] def b_REncode_27 (_ : Unit) : EB := .block 1 (hid b_REncode_26)
@[simp] def l_REncode_28 (_ : Unit) : List EOp := [⟨0, (some 34), none, (.q (.mov (.t 4))), []⟩, ⟨1, (some 35), none, (.q (.bin .add (.t 34) (.k (.int .i64 1)))), []⟩, ⟨2, (some 4), none, (.q (.mov (.t 35))), []⟩]
@[simp] def b_REncode_29 (_ : Unit) : EB := reg0 (hid l_REncode_28) 3
@[simp] def b_REncode_30 (_ : Unit) : EB := .seq (hid b_REncode_27) (hid b_REncode_29)
@[simp] def b_REncode_31 (_ : Unit) : EB := .seq (hid b_REncode_15) (hid b_REncode_30)
@[simp] def b_REncode_32 (_ : Unit) : EB := .loop (hid b_REncode_31)
@[simp] def b_REncode_33 (_ : Unit) : EB := .block 0 (hid b_REncode_32)
@[simp] def b_REncode_34 (_ : Unit) : EB := .seq (hid b_REncode_11) (hid b_REncode_33)
@[simp] def l_REncode_36 (_ : Unit) : List EOp := [⟨6, (some 3), none, (.q (.mov (.t 67))), []⟩]
@[simp] def l_REncode_35 (_ : Unit) : List EOp := ⟨0, (some 62), none, (.q (.mov (.t 3))), []⟩ :: ⟨1, (some 63), none, (.q (.fad 4 (.t 1))), []⟩ :: ⟨2, (some 64), none, (.q (.ldc (.t 63))), []⟩ :: ⟨3, (some 65), none, (.q (.len (.t 64))), []⟩ :: ⟨4, (some 66), none, (.q (.cnv .u64 (.t 65))), []⟩ :: ⟨5, (some 67), none, (.call 107 [(.t 62), (.t 66)]), []⟩ :: hid l_REncode_36
@[simp] def b_REncode_37 (_ : Unit) : EB := reg0 (hid l_REncode_35) 7
@[simp] def l_REncode_38 (_ : Unit) : List EOp := [⟨0, (some 6), none, (.q (.mov (.k (.int .i64 0)))), []⟩]
@[simp] def b_REncode_39 (_ : Unit) : EB := reg0 (hid l_REncode_38) 1
@[simp] def l_REncode_40 (_ : Unit) : List EOp := [⟨0, (some 68), none, (.q (.mov (.t 6))), []⟩, ⟨1, (some 69), none, (.q (.fad 4 (.t 1))), []⟩, ⟨2, (some 70), none, (.q (.ldc (.t 69))), []⟩, ⟨3, (some 71), none, (.q (.len (.t 70))), []⟩, ⟨4, (some 72), none, (.q (.bin .lss (.t 68) (.t 71))), []⟩]
@[simp] def b_REncode_41 (_ : Unit) : EB := reg0 (hid l_REncode_40) 5
@[simp] def b_REncode_42 (_ : Unit) : EB := .cond (.t 72) .skip (.exit 2)
@[simp] def b_REncode_43 (_ : Unit) : EB := .seq (hid b_REncode_41) (hid b_REncode_42)
@[simp] def l_REncode_45 (_ : Unit) : List EOp := [⟨6, none, none, (.fz (.sto 3 (.t 7) (.t 79))), []⟩]
@[simp] def l_REncode_44 (_ : Unit) : List EOp := ⟨0, (some 75), none, (.q (.fad 4 (.t 1))), []⟩ :: ⟨1, (some 76), none, (.q (.ldc (.t 75))), []⟩ :: ⟨2, (some 77), none, (.q (.mov (.t 6))), []⟩ :: ⟨3, (some 78), none, (.q (.isl 3 (.t 76) (.t 77))), []⟩ :: ⟨4, (some 79), none, (.q (.lda 3 (.t 78))), []⟩ :: ⟨5, (some 7), none, (.q (.alloc 120 [(.int .i64 0), (.int .i64 0), (.slice none 0 0)])), []⟩ :: hid l_REncode_45
@[simp] def b_REncode_46 (_ : Unit) : EB := reg0 (hid l_REncode_44) 7
@[simp] def l_REncode_49 (_ : Unit) : List EOp := [⟨8, (some 88), none, (.call 107 [(.t 84), (.t 87)]), [9, 10, 11, 12]⟩, ⟨13, (some 93), none, (.call 107 [(.t 88), (.t 92)]), []⟩, ⟨14, (some 3), none, (.q (.mov (.t 93))), []⟩]
@[simp] def l_REncode_48 (_ : Unit) : List EOp := ⟨7, (some 87), none, (.q (.cnv .u64 (.t 86))), []⟩ :: ⟨9, (some 89), none, (.q (.fad 2 (.t 7))), []⟩ :: ⟨10, (some 90), none, (.q (.ldc (.t 89))), []⟩ :: ⟨11, (some 91), none, (.q (.len (.t 90))), []⟩ :: ⟨12, (some 92), none, (.q (.cnv .u64 (.t 91))), []⟩ :: ⟨4, (some 84), none, (.call 107 [(.t 80), (.t 83)]), [5, 6, 7, 9, 10, 11, 12]⟩ :: hid l_REncode_49
@[simp] def l_REncode_47 (_ : Unit) : List EOp := ⟨0, (some 80), none, (.q (.mov (.t 3))), []⟩ :: ⟨1, (some 81), none, (.q (.fad 0 (.t 7))), []⟩ :: ⟨2, (some 82), none, (.q (.ldc (.t 81))), []⟩ :: ⟨3, (some 83), none, (.q (.cnv .u64 (.t 82))), []⟩ :: ⟨5, (some 85), none, (.q (.fad 1 (.t 7))), []⟩ :: ⟨6, (some 86), none, (.q (.ldc (.t 85))), []⟩ :: hid l_REncode_48
@[simp] def b_REncode_50 (_ : Unit) : EB := reg1 (hid l_REncode_47) 15
@[simp] def l_REncode_51 (_ : Unit) : List EOp := [⟨0, (some 8), none, (.q (.mov (.k (.int .i64 0)))), []⟩]
@[simp] def b_REncode_52 (_ : Unit) : EB := reg0 (hid l_REncode_51) 1
@[simp] def l_REncode_53 (_ : Unit) : List EOp := [⟨0, (some 94), none, (.q (.mov (.t 8))), []⟩, ⟨1, (some 95), none, (.q (.fad 2 (.t 7))), []⟩, ⟨2, (some 96), none, (.q (.ldc (.t 95))), []⟩, ⟨3, (some 97), none, (.q (.len (.t 96))), []⟩, ⟨4, (some 98), none, (.q (.bin .lss (.t 94) (.t 97))), []⟩]
@[simp] def b_REncode_54 (_ : Unit) : EB := reg0 (hid l_REncode_53) 5
@[simp] def b_REncode_55 (_ : Unit) : EB := .cond (.t 98) .skip (.exit 4)
@[simp] def b_REncode_56 (_ : Unit) : EB := .seq (hid b_REncode_54) (hid b_REncode_55)
@[simp] def l_REncode_58 (_ : Unit) : List EOp := [⟨6, (some 107), none, (.q (.cnv .u64 (.t 106))), []⟩, ⟨7, (some 108), none, (.call 107 [(.t 101), (.t 107)]), []⟩, ⟨8, (some 3), none, (.q (.mov (.t 108))), []⟩]
@[simp] def l_REncode_57 (_ : Unit) : List EOp := ⟨0, (some 101), none, (.q (.mov (.t 3))), []⟩ :: ⟨1, (some 102), none, (.q (.fad 2 (.t 7))), []⟩ :: ⟨2, (some 103), none, (.q (.ldc (.t 102))), []⟩ :: ⟨3, (some 104), none, (.q (.mov (.t 8))), []⟩ :: ⟨4, (some 105), none, (.q (.isl 1 (.t 103) (.t 104))), []⟩ :: ⟨5, (some 106), none, (.q (.ldc (.t 105))), []⟩ :: hid l_REncode_58
@[simp] def b_REncode_59 (_ : Unit) : EB := reg0 (hid l_REncode_57) 9
@[simp] def b_REncode_60 (_ : Unit) : EB := .block 5 (hid b_REncode_59)
@[simp] def l_REncode_61 (_ : Unit) : List EOp := [⟨0, (some 99), none, (.q (.mov (.t 8))), []⟩, ⟨1, (some 100), none, (.q (.bin .add (.t 99) (.k (.int .i64 1)))), []⟩, ⟨2, (some 8), none, (.q (.mov (.t 100))), []⟩]
@[simp] def b_REncode_62 (_ : Unit) : EB := reg0 (hid l_REncode_61) 3
@[simp] def b_REncode_63 (_ : Unit) : EB := .seq (hid b_REncode_60) (hid b_REncode_62)
@[simp] def b_REncode_64 (_ : Unit) : EB := .seq (hid b_REncode_56) (hid b_REncode_63)
@[simp] def b_REncode_65 (_ : Unit) : EB := .loop (hid b_REncode_64)
@[simp] def b_REncode_66 (_ : Unit) : EB := .block 4 (hid b_REncode_65)
@[simp] def b_REncode_67 (_ : Unit) : EB := .seq (hid b_REncode_52) (hid b_REncode_66)
@[simp] def b_REncode_68 (_ : Unit) : EB := .seq (hid b_REncode_50) (hid b_REncode_67)
@[simp] def b_REncode_69 (_ : Unit) : EB := .seq (hid b_REncode_46) (hid b_REncode_68)
@[simp] def b_REncode_70 (_ : Unit) : EB := .block 3 (hid b_REncode_69)
@[simp] def l_REncode_71 (_ : Unit) : List EOp := [⟨0, (some 73), none, (.q (.mov (.t 6))), []⟩, ⟨1, (some 74), none, (.q (.bin .add (.t 73) (.k (.int .i64 1)))), []⟩, ⟨2, (some 6), none, (.q (.mov (.t 74))), []⟩]
@[simp] def b_REncode_72 (_ : Unit) : EB := reg0 (hid l_REncode_71) 3
@[simp] def b_REncode_73 (_ : Unit) : EB := .seq (hid b_REncode_70) (hid b_REncode_72)
@[simp] def b_REncode_74 (_ : Unit) : EB := .seq (hid b_REncode_43) (hid b_REncode_73)
@[simp] def b_REncode_75 (_ : Unit) : EB := .loop (hid b_REncode_74)
@[simp] def b_REncode_76 (_ : Unit) : EB := .block 2 (hid b_REncode_75)
@[simp] def b_REncode_77 (_ : Unit) : EB := .seq (hid b_REncode_39) (hid b_REncode_76)
@[simp] def l_REncode_78 (_ : Unit) : List EOp := [⟨0, (some 109), none, (.q (.mov (.t 3))), []⟩, ⟨1, (some 2), none, (.q (.mov (.t 109))), []⟩]
@[simp] def b_REncode_79 (_ : Unit) : EB := reg0 (hid l_REncode_78) 2
@[simp] def b_REncode_80 (_ : Unit) : EB := .seq (hid b_REncode_79) .ret
@[simp] def b_REncode_81 (_ : Unit) : EB := .seq (hid b_REncode_77) (hid b_REncode_80)
@[simp] def b_REncode_82 (_ : Unit) : EB := .seq (hid b_REncode_37) (hid b_REncode_81)
@[simp] def b_REncode_83 (_ : Unit) : EB := .seq (hid b_REncode_34) (hid b_REncode_82)
@[simp] def b_REncode_84 (_ : Unit) : EB := .seq (hid b_REncode_9) (hid b_REncode_83)
@[simp] def b_REncode_85 (_ : Unit) : EB := .seq (hid b_REncode_6) (hid b_REncode_84)
@[simp] def b_REncode_86 (_ : Unit) : EB := .seq (hid b_REncode_2) (hid b_REncode_85)
def c_REncode : EB × List QOp × Nat := ((hid b_REncode_86), [(.mov (.t 2))], 110)
theorem k_REncode : cfun Tryz.prog 48 = some c_REncode := by kernel_rfl


theorem RUint_nil (n : Nat) (h : n < 18446744073709551616) : ECalls Tryz.prog 107 [.v (.c (.fz (.lit (.slice none 0 0)))), I .u64 n] [] fun y H' => H' = [some (RO (uintB n))] ∧ y = R 0 (uintB n) := ecalls_nil (es := 1) (RUint_ok [] n h (by simp))
theorem usB_cons (n : Int) (l : List Int) : usB (n :: l) = uB n ++ usB l := by simp [usB]
theorem usB_nil : usB [] = [] := rfl
theorem uB_eq (n : Int) : uintB (u64n n) = uB n := rfl
theorem u64n_nat (n : Nat) : (n : Int) = ((n : Nat) : Int) := rfl

set_option maxHeartbeats 2000000 in
theorem REncode_ok (s : Sta) (hs : s.ok) (hm : s.small) : ECalls Tryz.prog 48 [SV s] [] fun y H' => H' = [] ∧ y = Bs (encS s) := by
  obtain ⟨ok1, ok2, ok3, ok4, ok5, ok6, ok7⟩ := id hs
  obtain ⟨m1, m2, m3⟩ := hm
  have lh : (headB s).length ≤ 36 := usB_len [s.num, s.h0, s.h1, (s.pays.length : Int)]
  have lp : ∀ i, (pB (s.pays.take i)).length ≤ 68000 := by
    intro i
    have h1 := flat_len (f := payB) (k := 68) (l := s.pays.take i) (fun p hp => payB_len (ok4 p (List.mem_of_mem_take hp)).2.2.2.2)
    have h2 : (s.pays.take i).length ≤ 1000 := by simp; omega
    unfold pB; omega
  have lq : (pB s.pays).length ≤ 68000 := by have := lp s.pays.length; rwa [List.take_length] at this
  have lm : (midB s).length ≤ 70000 := by
    have := usB_len [(s.holds.length : Int)]
    simp only [midB, List.length_append]
    simp only [List.length_cons, List.length_nil] at this
    omega
  have lk : ∀ i, (hB (s.holds.take i)).length ≤ 9100000 := by
    intro i
    have h1 := flat_len (f := holB) (k := 9100) (l := s.holds.take i) (fun p hp => holB_len (m3 p (List.mem_of_mem_take hp)))
    have h2 : (s.holds.take i).length ≤ 1000 := by simp; omega
    unfold hB; omega
  have hl : ∀ n, (uB n).length ≤ 9 := uB_len
  refine ecalls k_REncode ?_
  simp [c_REncode, SV, staC, wrap_u64n]
  refine call0 (RUint_nil (u64n s.num) (u64n_lt _)) (by simp [I]) ?_
  rintro y H' ⟨rfl, rfl⟩
  refine ⟨.inl (by simp), le_ok rfl, ?_⟩
  simp [R, RO, wrap_u64n, uB_eq]
  refine call0 (RUint_ok (uB s.num) (u64n s.h0) (u64n_lt _) (by have := hl s.num; omega)) (by simp [I, Bs]) ?_
  rintro y H' ⟨rfl, rfl⟩
  refine ⟨.inr ⟨rfl, by simp [RO, bsv, cb]⟩, le_ok rfl, ?_⟩
  simp [R, RO, wrap_u64n, uB_eq]
  refine call0 (RUint_ok (uB s.num ++ uB s.h0) (u64n s.h1) (u64n_lt _) (by have := hl s.num; have := hl s.h0; simp; omega)) (by simp [I, Bs, List.take_of_length_le]) ?_
  rintro y H' ⟨rfl, rfl⟩
  refine ⟨.inr ⟨rfl, by simp [RO, bsv, cb]⟩, le_ok rfl, ?_⟩
  simp [R, RO, wrap_u64n, uB_eq]
  refine call0 (RUint_ok (uB s.num ++ (uB s.h0 ++ uB s.h1)) (u64n (s.pays.length : Int)) (u64n_lt _) (by have := hl s.num; have := hl s.h0; have := hl s.h1; simp; omega)) (by simp [I, Bs, List.take_of_length_le]) ?_
  rintro y H' ⟨rfl, rfl⟩
  refine ⟨.inr ⟨rfl, by simp [RO, bsv, cb]⟩, le_ok rfl, ?_⟩
  have hhead : uB s.num ++ (uB s.h0 ++ (uB s.h1 ++ uB (s.pays.length : Int))) = headB s := by simp [headB, usB_cons, usB_nil]
  simp [R, RO, wrap_u64n, uB_eq, hhead]
  refine eloop (α := Nat) (fun i => i ≤ s.pays.length) (fun i => s.pays.length - i)
    (fun i => [.any, Ptr 0, .any, R 1 (headB s ++ pB (s.pays.take i)), I .i64 i, .any, .any, .any, .any, .any, .any, .any, .any, .any, .any, .any, .any, .any, .any, .any, .any, .any, .any, .any, .any, .any, .any, .any, .any, .any, .any, .any, .any, .any, .any, .any, .any, .any, .any, .any, .any, .any, .any, .any, .any, .any, .any, .any, .any, .any, .any, .any, .any, .any, .any, .any, .any, .any, .any, .any, .any, .any, .any, .any, .any, .any, .any, .any, .any, .any, .any, .any, .any, .any, .any, .any, .any, .any, .any, .any, .any, .any, .any, .any, .any, .any, .any, .any, .any, .any, .any, .any, .any, .any, .any, .any, .any, .any, .any, .any, .any, .any, .any, .any, .any, .any, .any, .any, .any, .any]) (fun i => [some (.box 35 (staC s)), some (RO (headB s ++ pB (s.pays.take i)))]) 0 [0, 352]
    (Nat.zero_le _) (by simp [Ptr, I, R, pB]) (by simp [RO, pB, staC]) (by simp) (by simp) (by simp) ?_
  intro i hi
  have lpi := lp i
  simp [Ptr, I, staC, R, RO]
  refine alt (fun hlt => ?_) (fun hlt => ?_)
  · obtain ⟨p, hc⟩ : ∃ p, s.pays[i]? = some p := ⟨s.pays[i], by simp [hlt]⟩
    have hpo := ok4 p (List.mem_of_getElem? hc)
    have hl32 := hpo.2.2.2.2
    have ht : p.lock.take 32 = p.lock := List.take_of_length_le (by omega)
    have hcb := payv_get hc
    have w2 : IntKind.i64.wrap ((i : Int) + 1) = ((i + 1 : Nat) : Int) := wrap_i64 (by omega) (by omega)
    have hl4 := hl p.id
    have hl5 := hl p.fr
    have hl6 := hl p.am
    have hl7 := hl p.af
    simp [hcb, payF, hl32, ht, wrap_u64n]
    refine call0 (RUint_ok (headB s ++ pB (s.pays.take i)) (u64n p.id) (u64n_lt _) (by simp; omega)) (by simp [I, Bs, Ag, List.take_of_length_le]) ?_
    rintro y H' ⟨rfl, rfl⟩
    refine ⟨.inr ⟨rfl, by simp [RO, bsv, cb]⟩, le_ok rfl, ?_⟩
    simp [R, RO, wrap_u64n, uB_eq]
    refine call0 (RUint_ok (headB s ++ pB (s.pays.take i) ++ uB p.id) (u64n p.fr) (u64n_lt _) (by simp; omega)) (by simp [I, Bs, Ag, List.take_of_length_le]) ?_
    rintro y H' ⟨rfl, rfl⟩
    refine ⟨.inr ⟨rfl, by simp [RO, bsv, cb]⟩, le_ok rfl, ?_⟩
    simp [R, RO, wrap_u64n, uB_eq]
    refine call0 (RUint_ok (headB s ++ pB (s.pays.take i) ++ uB p.id ++ uB p.fr) (u64n p.am) (u64n_lt _) (by simp; omega)) (by simp [I, Bs, Ag, List.take_of_length_le]) ?_
    rintro y H' ⟨rfl, rfl⟩
    refine ⟨.inr ⟨rfl, by simp [RO, bsv, cb]⟩, le_ok rfl, ?_⟩
    simp [R, RO, wrap_u64n, uB_eq]
    refine call0 (RUint_ok (headB s ++ pB (s.pays.take i) ++ uB p.id ++ uB p.fr ++ uB p.am) (u64n p.af) (u64n_lt _) (by simp; omega)) (by simp [I, Bs, Ag, List.take_of_length_le]) ?_
    rintro y H' ⟨rfl, rfl⟩
    refine ⟨.inr ⟨rfl, by simp [RO, bsv, cb]⟩, le_ok rfl, ?_⟩
    simp [R, RO, wrap_u64n, uB_eq]
    simp [hl32, ht]
    refine call0 (RHash_ok (headB s ++ pB (s.pays.take i) ++ uB p.id ++ uB p.fr ++ uB p.am ++ uB p.af) p.lock (by simp; omega) hl32) (by simp [I, Bs, Ag, ht, List.take_of_length_le]) ?_
    rintro y H' ⟨rfl, rfl⟩
    refine ⟨.inr ⟨rfl, by simp [RO, bsv, cb]⟩, le_ok rfl, ?_⟩
    simp [w2, R, RO, -Int.natCast_add]
    have hsn : pB (s.pays.take (i + 1)) = pB (s.pays.take i) ++ (uB p.id ++ (uB p.fr ++ (uB p.am ++ (uB p.af ++ p.lock)))) := by rw [take_s hc, pB_snoc]; simp [payB, usB_cons, usB_nil]
    exact round (i + 1) [0, 530] (by omega) (by omega) (by simp [hsn, R]) (by simp [hsn, RO]) (by simp) (by simp) (by simp)
  have hil : i = s.pays.length := by omega
  subst hil
  rw [List.take_length] at lpi ⊢
  simp [wrap_u64n]
  have hl8 := hl (s.holds.length : Int)
  refine call0 (RUint_ok (headB s ++ pB s.pays) (u64n (s.holds.length : Int)) (u64n_lt _) (by simp; omega)) (by simp [I, Bs, Ag, List.take_of_length_le]) ?_
  rintro y H' ⟨rfl, rfl⟩
  refine ⟨.inr ⟨rfl, by simp [RO, bsv, cb]⟩, le_ok rfl, ?_⟩
  simp [R, RO, wrap_u64n, uB_eq]
  have hmid : headB s ++ (pB s.pays ++ uB (s.holds.length : Int)) = midB s := by simp [midB, usB_cons, usB_nil]
  simp [hmid]
  refine eloop (α := Nat) (fun i => i ≤ s.holds.length) (fun i => s.holds.length - i)
    (fun i => [.any, Ptr 0, .any, R 1 (midB s ++ hB (s.holds.take i)), .any, .any, I .i64 i, .any, .any, .any, .any, .any, .any, .any, .any, .any, .any, .any, .any, .any, .any, .any, .any, .any, .any, .any, .any, .any, .any, .any, .any, .any, .any, .any, .any, .any, .any, .any, .any, .any, .any, .any, .any, .any, .any, .any, .any, .any, .any, .any, .any, .any, .any, .any, .any, .any, .any, .any, .any, .any, .any, .any, .any, .any, .any, .any, .any, .any, .any, .any, .any, .any, .any, .any, .any, .any, .any, .any, .any, .any, .any, .any, .any, .any, .any, .any, .any, .any, .any, .any, .any, .any, .any, .any, .any, .any, .any, .any, .any, .any, .any, .any, .any, .any, .any, .any, .any, .any, .any, .any]) (fun i => [some (.box 35 (staC s)), some (RO (midB s ++ hB (s.holds.take i)))]) 0 [0, 162]
    (Nat.zero_le _) (by simp [Ptr, I, R, hB, ← hmid]) (by simp [RO, hB, staC, ← hmid]) (by simp) (by simp) (by simp) ?_
  intro i hi
  have lki := lk i
  simp [Ptr, I, staC, R, RO]
  refine alt (fun hlt => ?_) (fun hlt => ?_)
  · obtain ⟨p, hc⟩ : ∃ p, s.holds[i]? = some p := ⟨s.holds[i], by simp [hlt]⟩
    have hk := m3 p (List.mem_of_getElem? hc)
    have hcb := holv_get hc
    have w2 : IntKind.i64.wrap ((i : Int) + 1) = ((i + 1 : Nat) : Int) := wrap_i64 (by omega) (by omega)
    have hl4 := hl p.id
    have hl5 := hl p.am
    have hl6 := hl (p.keys.length : Int)
    simp [hcb, holF, wrap_u64n]
    refine call0 (RUint_ok (midB s ++ hB (s.holds.take i)) (u64n p.id) (u64n_lt _) (by simp; omega)) (by simp [I, Bs, Ag, List.take_of_length_le]) ?_
    rintro y H' ⟨rfl, rfl⟩
    refine ⟨.inr ⟨rfl, by simp [RO, bsv, cb]⟩, le_ok rfl, ?_⟩
    simp [R, RO, wrap_u64n, uB_eq]
    refine call0 (RUint_ok (midB s ++ hB (s.holds.take i) ++ uB p.id) (u64n p.am) (u64n_lt _) (by simp; omega)) (by simp [I, Bs, Ag, List.take_of_length_le]) ?_
    rintro y H' ⟨rfl, rfl⟩
    refine ⟨.inr ⟨rfl, by simp [RO, bsv, cb]⟩, le_ok rfl, ?_⟩
    simp [R, RO, wrap_u64n, uB_eq]
    refine call0 (RUint_ok (midB s ++ hB (s.holds.take i) ++ uB p.id ++ uB p.am) (u64n (p.keys.length : Int)) (u64n_lt _) (by simp; omega)) (by simp [I, Bs, Ag, List.take_of_length_le]) ?_
    rintro y H' ⟨rfl, rfl⟩
    refine ⟨.inr ⟨rfl, by simp [RO, bsv, cb]⟩, le_ok rfl, ?_⟩
    simp [R, RO, wrap_u64n, uB_eq]
    refine eloop (α := Nat) (fun j => j ≤ p.keys.length) (fun j => p.keys.length - j)
      (fun j => [.any, Ptr 0, .any, R 2 (midB s ++ hB (s.holds.take i) ++ uB p.id ++ uB p.am ++ uB (p.keys.length : Int) ++ usB (p.keys.take j)), .any, .any, I .i64 i, Ptr 1, I .i64 j, .any, .any, .any, .any, .any, .any, .any, .any, .any, .any, .any, .any, .any, .any, .any, .any, .any, .any, .any, .any, .any, .any, .any, .any, .any, .any, .any, .any, .any, .any, .any, .any, .any, .any, .any, .any, .any, .any, .any, .any, .any, .any, .any, .any, .any, .any, .any, .any, .any, .any, .any, .any, .any, .any, .any, .any, .any, .any, .any, .any, .any, .any, .any, .any, .any, .any, .any, .any, .any, .any, .any, .any, .any, .any, .any, .any, .any, .any, .any, .any, .any, .any, .any, .any, .any, .any, .any, .any, .any, .any, .any, .any, .any, .any, .any, .any, .any, .any, .any, .any, .any])
      (fun j => [some (.box 35 (staC s)), some (.box 120 (holC p)), some (RO (midB s ++ hB (s.holds.take i) ++ uB p.id ++ uB p.am ++ uB (p.keys.length : Int) ++ usB (p.keys.take j)))]) 0 [0, 162, 402]
      (Nat.zero_le _) (by simp [Ptr, I, R, usB]) (by simp [RO, usB, staC, holC]) (by simp) (by simp) (by simp) ?_
    intro j hj
    have lkj := usB_len (p.keys.take j)
    have lkk : (p.keys.take j).length = j := by simp; omega
    simp [Ptr, I, staC, holC, R, RO]
    refine alt (fun hlt2 => ?_) (fun hlt2 => ?_)
    · obtain ⟨k, hc2⟩ : ∃ k, p.keys[j]? = some k := ⟨p.keys[j], by simp [hlt2]⟩
      have hcb2 := intv_get hc2
      have w3 : IntKind.i64.wrap ((j : Int) + 1) = ((j + 1 : Nat) : Int) := wrap_i64 (by omega) (by omega)
      have hts : p.keys.take (j + 1) = p.keys.take j ++ [k] := by rw [List.take_add_one, hc2]; rfl
      simp [hcb2, wrap_u64n]
      refine call0 (RUint_ok (midB s ++ hB (s.holds.take i) ++ uB p.id ++ uB p.am ++ uB (p.keys.length : Int) ++ usB (p.keys.take j)) (u64n k) (u64n_lt _) (by simp; omega)) (by simp [I, Bs, Ag, List.take_of_length_le]) ?_
      rintro y H' ⟨rfl, rfl⟩
      refine ⟨.inr ⟨rfl, by simp [RO, bsv, cb]⟩, le_ok rfl, ?_⟩
      simp [R, RO, wrap_u64n, uB_eq, w3, -Int.natCast_add]
      exact round (j + 1) [0, 1, 195] (by omega) (by omega) (by simp [hts, usB_snoc, R]) (by simp [hts, usB_snoc, RO]) (by simp) (by simp) (by simp)
    have hjl : j = p.keys.length := by omega
    subst hjl
    rw [List.take_length] at lkj ⊢
    have hsn : hB (s.holds.take (i + 1)) = hB (s.holds.take i) ++ (uB p.id ++ (uB p.am ++ (uB (p.keys.length : Int) ++ usB p.keys))) := by rw [take_s hc, hB_snoc]; simp [holB, usB_cons, usB_nil]
    simp [w2, -Int.natCast_add]
    exact round (i + 1) [0, 2] (by omega) (by omega) (by simp [hsn, R]) (by simp [hsn, RO]) (by simp) (by simp) (by simp)
  have hil : i = s.holds.length := by omega
  subst hil
  rw [List.take_length] at lki ⊢
  simp
  refine finW _ (weak_frz (o := 1) (ty := 5) (es := 1) (xs := bsv (midB s ++ hB s.holds)) rfl) ?_
  exact fin [] (by decide) rfl rfl rfl ⟨rfl, by simp [Bs, encS_eq, List.take_of_length_le]⟩

end Go.Proofs.YtejjhgdnmknejaaGreatDoor

namespace Go.Proofs.YtejjhgdnmknejaaGreatDoor
open Go Go.EW
set_option linter.unusedSimpArgs false
set_option linter.unusedVariables false

@[simp] def l_longState_1 (_ : Unit) : List EOp := [⟨0, (some 1), none, (.q (.box 35 (.t 0))), []⟩, ⟨1, (some 2), none, (.q (.mov (.k (.bool false)))), []⟩]
@[simp] def b_longState_2 (_ : Unit) : EB := reg0 (hid l_longState_1) 2
@[simp] def l_longState_4 (_ : Unit) : List EOp := [⟨6, (some 11), none, (.q (.bin .add (.t 7) (.t 10))), []⟩, ⟨7, (some 3), none, (.q (.mov (.t 11))), []⟩]
@[simp] def l_longState_3 (_ : Unit) : List EOp := ⟨0, (some 5), none, (.q (.fad 3 (.t 1))), []⟩ :: ⟨1, (some 6), none, (.q (.ldc (.t 5))), []⟩ :: ⟨2, (some 7), none, (.q (.len (.t 6))), []⟩ :: ⟨3, (some 8), none, (.q (.fad 4 (.t 1))), []⟩ :: ⟨4, (some 9), none, (.q (.ldc (.t 8))), []⟩ :: ⟨5, (some 10), none, (.q (.len (.t 9))), []⟩ :: hid l_longState_4
@[simp] def b_longState_5 (_ : Unit) : EB := reg0 (hid l_longState_3) 8
@[simp] def l_longState_6 (_ : Unit) : List EOp := [⟨0, (some 12), none, (.q (.mov (.t 3))), []⟩, ⟨1, (some 13), none, (.q (.bin .gtr (.t 12) (.k (.int .i64 100)))), []⟩]
@[simp] def b_longState_7 (_ : Unit) : EB := reg0 (hid l_longState_6) 2
@[simp] def l_longState_8 (_ : Unit) : List EOp := [⟨0, (some 2), none, (.q (.mov (.k (.bool true)))), []⟩]
@[simp] def b_longState_9 (_ : Unit) : EB := reg0 (hid l_longState_8) 1
@[simp] def b_longState_10 (_ : Unit) : EB := .seq (hid b_longState_9) .ret
@[simp] def b_longState_11 (_ : Unit) : EB := .cond (.t 13) (hid b_longState_10) .skip
@[simp] def b_longState_12 (_ : Unit) : EB := .seq (hid b_longState_7) (hid b_longState_11)
@[simp] def l_longState_13 (_ : Unit) : List EOp := [⟨0, (some 4), none, (.q (.mov (.k (.int .i64 0)))), []⟩]
@[simp] def b_longState_14 (_ : Unit) : EB := reg0 (hid l_longState_13) 1
@[simp] def l_longState_15 (_ : Unit) : List EOp := [⟨0, (some 14), none, (.q (.mov (.t 4))), []⟩, ⟨1, (some 15), none, (.q (.fad 4 (.t 1))), []⟩, ⟨2, (some 16), none, (.q (.ldc (.t 15))), []⟩, ⟨3, (some 17), none, (.q (.len (.t 16))), []⟩, ⟨4, (some 18), none, (.q (.bin .lss (.t 14) (.t 17))), []⟩]
@[simp] def b_longState_16 (_ : Unit) : EB := reg0 (hid l_longState_15) 5
@[simp] def b_longState_17 (_ : Unit) : EB := .cond (.t 18) .skip (.exit 0)
@[simp] def b_longState_18 (_ : Unit) : EB := .seq (hid b_longState_16) (hid b_longState_17)
@[simp] def l_longState_20 (_ : Unit) : List EOp := [⟨6, (some 27), none, (.q (.ldc (.t 26))), []⟩, ⟨7, (some 28), none, (.q (.len (.t 27))), []⟩, ⟨8, (some 29), none, (.q (.bin .add (.t 21) (.t 28))), []⟩, ⟨9, (some 3), none, (.q (.mov (.t 29))), []⟩]
@[simp] def l_longState_19 (_ : Unit) : List EOp := ⟨0, (some 21), none, (.q (.mov (.t 3))), []⟩ :: ⟨1, (some 22), none, (.q (.fad 4 (.t 1))), []⟩ :: ⟨2, (some 23), none, (.q (.ldc (.t 22))), []⟩ :: ⟨3, (some 24), none, (.q (.mov (.t 4))), []⟩ :: ⟨4, (some 25), none, (.q (.isl 3 (.t 23) (.t 24))), []⟩ :: ⟨5, (some 26), none, (.q (.fad 2 (.t 25))), []⟩ :: hid l_longState_20
@[simp] def b_longState_21 (_ : Unit) : EB := reg0 (hid l_longState_19) 10
@[simp] def b_longState_22 (_ : Unit) : EB := .block 1 (hid b_longState_21)
@[simp] def l_longState_23 (_ : Unit) : List EOp := [⟨0, (some 19), none, (.q (.mov (.t 4))), []⟩, ⟨1, (some 20), none, (.q (.bin .add (.t 19) (.k (.int .i64 1)))), []⟩, ⟨2, (some 4), none, (.q (.mov (.t 20))), []⟩]
@[simp] def b_longState_24 (_ : Unit) : EB := reg0 (hid l_longState_23) 3
@[simp] def b_longState_25 (_ : Unit) : EB := .seq (hid b_longState_22) (hid b_longState_24)
@[simp] def b_longState_26 (_ : Unit) : EB := .seq (hid b_longState_18) (hid b_longState_25)
@[simp] def b_longState_27 (_ : Unit) : EB := .loop (hid b_longState_26)
@[simp] def b_longState_28 (_ : Unit) : EB := .block 0 (hid b_longState_27)
@[simp] def b_longState_29 (_ : Unit) : EB := .seq (hid b_longState_14) (hid b_longState_28)
@[simp] def l_longState_30 (_ : Unit) : List EOp := [⟨0, (some 30), none, (.q (.mov (.t 3))), []⟩, ⟨1, (some 31), none, (.q (.bin .gtr (.t 30) (.k (.int .i64 300)))), []⟩, ⟨2, (some 2), none, (.q (.mov (.t 31))), []⟩]
@[simp] def b_longState_31 (_ : Unit) : EB := reg0 (hid l_longState_30) 3
@[simp] def b_longState_32 (_ : Unit) : EB := .seq (hid b_longState_31) .ret
@[simp] def b_longState_33 (_ : Unit) : EB := .seq (hid b_longState_29) (hid b_longState_32)
@[simp] def b_longState_34 (_ : Unit) : EB := .seq (hid b_longState_12) (hid b_longState_33)
@[simp] def b_longState_35 (_ : Unit) : EB := .seq (hid b_longState_5) (hid b_longState_34)
@[simp] def b_longState_36 (_ : Unit) : EB := .seq (hid b_longState_2) (hid b_longState_35)
def c_longState : EB × List QOp × Nat := ((hid b_longState_36), [(.mov (.t 2))], 32)
theorem k_longState : cfun Tryz.prog 7 = some c_longState := by kernel_rfl


def sumK (l : List Hol) : Nat := (l.map (·.keys.length)).sum
theorem sumK_snoc (l : List Hol) (h : Hol) : sumK (l ++ [h]) = sumK l + h.keys.length := by simp [sumK]
theorem sumK_le : ∀ {l : List Hol}, (∀ h ∈ l, h.keys.length ≤ 100000000) → sumK l ≤ 100000000 * l.length
  | [], _ => by simp [sumK]
  | h :: r, q => by
    have h1 := q h (by simp)
    have h2 := sumK_le (l := r) (fun y hy => q y (by simp [hy]))
    simp [sumK] at *; omega
theorem sumK_mem : ∀ {l : List Hol} {h : Hol}, h ∈ l → h.keys.length ≤ sumK l
  | x :: r, h, q => by
    rcases List.mem_cons.1 q with rfl | q
    · simp [sumK]
    · have := sumK_mem q
      simp [sumK] at *; omega
/-- Has a state more than is gone through here? -/
def longS (s : Sta) : Bool := decide (100 < s.pays.length + s.holds.length ∨ 300 < s.pays.length + s.holds.length + sumK s.holds)
theorem longS_small {s : Sta} (h : longS s = false) : s.small ∧ s.pays.length ≤ 100 ∧ s.holds.length ≤ 100 ∧ ∀ h ∈ s.holds, h.keys.length ≤ 300 := by
  have h' := of_decide_eq_false h
  refine ⟨⟨by omega, by omega, fun x hx => ?_⟩, by omega, by omega, fun x hx => ?_⟩ <;>
  · have := sumK_mem hx
    omega

set_option maxHeartbeats 2000000 in
theorem longState_ok (s : Sta) (hs : s.ok) : ECalls Tryz.prog 7 [SV s] [] fun y H' => H' = [] ∧ y = .lit (.bool (longS s)) := by
  obtain ⟨ok1, ok2, ok3, ok4, ok5, ok6, ok7⟩ := id hs
  have w0 : IntKind.i64.wrap ((s.pays.length : Int) + (s.holds.length : Int)) = ((s.pays.length + s.holds.length : Nat) : Int) := by rw [wrap_i64 (by omega) (by omega)]; simp
  refine ecalls k_longState ?_
  simp [c_longState, SV, staC, w0, -Int.natCast_add]
  refine alt (fun hlt => ?_) (fun hlt => ?_)
  · simp
    have : longS s = true := by unfold longS; exact decide_eq_true (.inl (by omega))
    exact fin [] (by decide) rfl rfl rfl ⟨rfl, by simp [this]⟩
  simp [-Int.natCast_add]
  refine eloop (α := Nat) (fun i => i ≤ s.holds.length) (fun i => s.holds.length - i)
    (fun i => [.any, Ptr 0, .any, I .i64 ((s.pays.length + s.holds.length + sumK (s.holds.take i) : Nat) : Int), I .i64 i, .any, .any, .any, .any, .any, .any, .any, .any, .any, .any, .any, .any, .any, .any, .any, .any, .any, .any, .any, .any, .any, .any, .any, .any, .any, .any, .any]) (fun i => [some (.box 35 (staC s))]) 0 [0]
    (Nat.zero_le _) (by simp [Ptr, I, sumK]) (by simp [staC]) (by simp) (by simp) (by simp) ?_
  intro i hi
  have hlk := sumK_le (l := s.holds.take i) (fun h hh => (ok5 h (List.mem_of_mem_take hh)).2.2.2)
  have hlt' : (s.holds.take i).length = i := by simp; omega
  simp [Ptr, I, staC, -Int.natCast_add]
  refine alt (fun hlt => ?_) (fun hlt => ?_)
  · obtain ⟨p, hc⟩ : ∃ p, s.holds[i]? = some p := ⟨s.holds[i], by simp [hlt]⟩
    have hcb := holv_get hc
    have hk := (ok5 p (List.mem_of_getElem? hc)).2.2.2
    have hts : sumK (s.holds.take (i + 1)) = sumK (s.holds.take i) + p.keys.length := by rw [take_s hc, sumK_snoc]
    have w2 : IntKind.i64.wrap ((i : Int) + 1) = ((i + 1 : Nat) : Int) := wrap_i64 (by omega) (by omega)
    have w3 : IntKind.i64.wrap (((s.pays.length + s.holds.length + sumK (s.holds.take i) : Nat) : Int) + (p.keys.length : Int)) = ((s.pays.length + s.holds.length + sumK (s.holds.take (i + 1)) : Nat) : Int) := by
      rw [wrap_i64 (by omega) (by omega), hts]; simp; omega
    simp [hcb, holF, w2, w3, -Int.natCast_add]
    exact round (i + 1) [0] (by omega) (by omega) (by simp) (by simp) (by simp) (by simp) (by simp)
  have hil : i = s.holds.length := by omega
  subst hil
  rw [List.take_length] at *
  simp [-Int.natCast_add]
  exact fin [] (by decide) rfl rfl rfl ⟨rfl, by
    have : longS s = decide (300 < ((s.pays.length + s.holds.length + sumK s.holds : Nat) : Int)) := decide_eq_decide.2 (by omega)
    simp [this]⟩

end Go.Proofs.YtejjhgdnmknejaaGreatDoor

namespace Go.Proofs.YtejjhgdnmknejaaGreatDoor
open Go Go.EW
set_option linter.unusedSimpArgs false
set_option linter.unusedVariables false

@[simp] def l_giveState_1 (_ : Unit) : List EOp := [⟨0, (some 1), none, (.q (.box 35 (.t 0))), []⟩, ⟨1, (some 2), none, (.q (.alloc 49 [(.int .i64 0), (.int .i64 0), (.int .i64 0), (.slice none 0 0), (.slice none 0 0)])), []⟩]
@[simp] def b_giveState_2 (_ : Unit) : EB := reg0 (hid l_giveState_1) 2
@[simp] def l_giveState_4 (_ : Unit) : List EOp := [⟨6, none, none, (.fz (.sto 5 (.t 3) (.t 11))), []⟩]
@[simp] def l_giveState_3 (_ : Unit) : List EOp := ⟨0, (some 7), none, (.q (.fad 0 (.t 1))), []⟩ :: ⟨1, (some 8), none, (.q (.ldc (.t 7))), []⟩ :: ⟨2, (some 9), none, (.q (.fad 1 (.t 1))), []⟩ :: ⟨3, (some 10), none, (.q (.lda 2 (.t 9))), []⟩ :: ⟨4, (some 11), none, (.q (.build [(.int .i64 0), (.int .i64 0), (.int .i64 0), (.slice none 0 0), (.slice none 0 0)] [(0, 1, (.t 8)), (1, 2, (.t 10))])), []⟩ :: ⟨5, (some 3), none, (.q (.alloc 49 [(.int .i64 0), (.int .i64 0), (.int .i64 0), (.slice none 0 0), (.slice none 0 0)])), []⟩ :: hid l_giveState_4
@[simp] def b_giveState_5 (_ : Unit) : EB := reg0 (hid l_giveState_3) 7
@[simp] def l_giveState_6 (_ : Unit) : List EOp := [⟨0, (some 4), none, (.q (.mov (.k (.int .i64 0)))), []⟩]
@[simp] def b_giveState_7 (_ : Unit) : EB := reg0 (hid l_giveState_6) 1
@[simp] def l_giveState_8 (_ : Unit) : List EOp := [⟨0, (some 12), none, (.q (.mov (.t 4))), []⟩, ⟨1, (some 13), none, (.q (.fad 3 (.t 1))), []⟩, ⟨2, (some 14), none, (.q (.ldc (.t 13))), []⟩, ⟨3, (some 15), none, (.q (.len (.t 14))), []⟩, ⟨4, (some 16), none, (.q (.bin .lss (.t 12) (.t 15))), []⟩]
@[simp] def b_giveState_9 (_ : Unit) : EB := reg0 (hid l_giveState_8) 5
@[simp] def b_giveState_10 (_ : Unit) : EB := .cond (.t 16) .skip (.exit 0)
@[simp] def b_giveState_11 (_ : Unit) : EB := .seq (hid b_giveState_9) (hid b_giveState_10)
@[simp] def l_giveState_13 (_ : Unit) : List EOp := [⟨6, (some 25), none, (.q (.lda 36 (.t 24))), []⟩, ⟨7, (some 26), none, (.q (.bsl 36 (([(.int .i64 0), (.int .i64 0), (.int .i64 0), (.int .i64 0)] : List Value) ++ zU8) 1 [(0, (.t 25))])), []⟩, ⟨8, (some 27), none, (.app 127 36 64 (.t 20) (.t 26)), []⟩, ⟨9, (some 28), none, (.q (.fad 3 (.t 3))), []⟩, ⟨10, none, none, (.fz (.sto 1 (.t 28) (.t 27))), []⟩]
@[simp] def l_giveState_12 (_ : Unit) : List EOp := ⟨0, (some 19), none, (.q (.fad 3 (.t 3))), []⟩ :: ⟨1, (some 20), none, (.q (.ldc (.t 19))), []⟩ :: ⟨2, (some 21), none, (.q (.fad 3 (.t 1))), []⟩ :: ⟨3, (some 22), none, (.q (.ldc (.t 21))), []⟩ :: ⟨4, (some 23), none, (.q (.mov (.t 4))), []⟩ :: ⟨5, (some 24), none, (.q (.isl 36 (.t 22) (.t 23))), []⟩ :: hid l_giveState_13
@[simp] def b_giveState_14 (_ : Unit) : EB := reg0 (hid l_giveState_12) 11
@[simp] def b_giveState_15 (_ : Unit) : EB := .block 1 (hid b_giveState_14)
@[simp] def l_giveState_16 (_ : Unit) : List EOp := [⟨0, (some 17), none, (.q (.mov (.t 4))), []⟩, ⟨1, (some 18), none, (.q (.bin .add (.t 17) (.k (.int .i64 1)))), []⟩, ⟨2, (some 4), none, (.q (.mov (.t 18))), []⟩]
@[simp] def b_giveState_17 (_ : Unit) : EB := reg0 (hid l_giveState_16) 3
@[simp] def b_giveState_18 (_ : Unit) : EB := .seq (hid b_giveState_15) (hid b_giveState_17)
@[simp] def b_giveState_19 (_ : Unit) : EB := .seq (hid b_giveState_11) (hid b_giveState_18)
@[simp] def b_giveState_20 (_ : Unit) : EB := .loop (hid b_giveState_19)
@[simp] def b_giveState_21 (_ : Unit) : EB := .block 0 (hid b_giveState_20)
@[simp] def b_giveState_22 (_ : Unit) : EB := .seq (hid b_giveState_7) (hid b_giveState_21)
@[simp] def l_giveState_23 (_ : Unit) : List EOp := [⟨0, (some 5), none, (.q (.mov (.k (.int .i64 0)))), []⟩]
@[simp] def b_giveState_24 (_ : Unit) : EB := reg0 (hid l_giveState_23) 1
@[simp] def l_giveState_25 (_ : Unit) : List EOp := [⟨0, (some 29), none, (.q (.mov (.t 5))), []⟩, ⟨1, (some 30), none, (.q (.fad 4 (.t 1))), []⟩, ⟨2, (some 31), none, (.q (.ldc (.t 30))), []⟩, ⟨3, (some 32), none, (.q (.len (.t 31))), []⟩, ⟨4, (some 33), none, (.q (.bin .lss (.t 29) (.t 32))), []⟩]
@[simp] def b_giveState_26 (_ : Unit) : EB := reg0 (hid l_giveState_25) 5
@[simp] def b_giveState_27 (_ : Unit) : EB := .cond (.t 33) .skip (.exit 2)
@[simp] def b_giveState_28 (_ : Unit) : EB := .seq (hid b_giveState_26) (hid b_giveState_27)
@[simp] def l_giveState_29 (_ : Unit) : List EOp := [⟨0, (some 6), none, (.q (.mov (.k (.slice none 0 0)))), []⟩]
@[simp] def b_giveState_30 (_ : Unit) : EB := reg0 (hid l_giveState_29) 1
@[simp] def l_giveState_35 (_ : Unit) : List EOp := [⟨24, (some 60), none, (.app 124 3 40 (.t 37) (.t 59)), []⟩, ⟨25, (some 61), none, (.q (.fad 4 (.t 3))), []⟩, ⟨26, none, none, (.fz (.sto 1 (.t 61) (.t 60))), []⟩]
@[simp] def l_giveState_34 (_ : Unit) : List EOp := ⟨18, (some 54), none, (.q (.isl 3 (.t 52) (.t 53))), []⟩ :: ⟨19, (some 55), none, (.q (.fad 2 (.t 54))), []⟩ :: ⟨20, (some 56), none, (.q (.ldc (.t 55))), []⟩ :: ⟨21, (some 57), none, (.app 3 1 8 (.t 50) (.t 56)), [0, 1, 2, 3, 4, 5, 6, 7, 8, 9, 10, 11, 12, 13]⟩ :: ⟨22, (some 58), none, (.q (.build [(.int .i64 0), (.int .i64 0), (.slice none 0 0)] [(0, 1, (.t 43)), (1, 1, (.t 49)), (2, 1, (.t 57))])), []⟩ :: ⟨23, (some 59), none, (.fz (.q (.bsl 3 [(.int .i64 0), (.int .i64 0), (.slice none 0 0)] 1 [(0, (.t 58))]))), [0, 1]⟩ :: hid l_giveState_35
@[simp] def l_giveState_33 (_ : Unit) : List EOp := ⟨12, (some 48), none, (.q (.fad 1 (.t 47))), []⟩ :: ⟨13, (some 49), none, (.q (.ldc (.t 48))), []⟩ :: ⟨14, (some 50), none, (.q (.mov (.t 6))), []⟩ :: ⟨15, (some 51), none, (.q (.fad 4 (.t 1))), []⟩ :: ⟨16, (some 52), none, (.q (.ldc (.t 51))), []⟩ :: ⟨17, (some 53), none, (.q (.mov (.t 5))), []⟩ :: hid l_giveState_34
@[simp] def l_giveState_32 (_ : Unit) : List EOp := ⟨6, (some 42), none, (.q (.fad 0 (.t 41))), []⟩ :: ⟨7, (some 43), none, (.q (.ldc (.t 42))), []⟩ :: ⟨8, (some 44), none, (.q (.fad 4 (.t 1))), []⟩ :: ⟨9, (some 45), none, (.q (.ldc (.t 44))), []⟩ :: ⟨10, (some 46), none, (.q (.mov (.t 5))), []⟩ :: ⟨11, (some 47), none, (.q (.isl 3 (.t 45) (.t 46))), []⟩ :: hid l_giveState_33
@[simp] def l_giveState_31 (_ : Unit) : List EOp := ⟨0, (some 36), none, (.q (.fad 4 (.t 3))), []⟩ :: ⟨1, (some 37), none, (.q (.ldc (.t 36))), []⟩ :: ⟨2, (some 38), none, (.q (.fad 4 (.t 1))), []⟩ :: ⟨3, (some 39), none, (.q (.ldc (.t 38))), []⟩ :: ⟨4, (some 40), none, (.q (.mov (.t 5))), []⟩ :: ⟨5, (some 41), none, (.q (.isl 3 (.t 39) (.t 40))), []⟩ :: hid l_giveState_32
@[simp] def b_giveState_36 (_ : Unit) : EB := reg1 (hid l_giveState_31) 27
@[simp] def b_giveState_37 (_ : Unit) : EB := .seq (hid b_giveState_30) (hid b_giveState_36)
@[simp] def b_giveState_38 (_ : Unit) : EB := .block 3 (hid b_giveState_37)
@[simp] def l_giveState_39 (_ : Unit) : List EOp := [⟨0, (some 34), none, (.q (.mov (.t 5))), []⟩, ⟨1, (some 35), none, (.q (.bin .add (.t 34) (.k (.int .i64 1)))), []⟩, ⟨2, (some 5), none, (.q (.mov (.t 35))), []⟩]
@[simp] def b_giveState_40 (_ : Unit) : EB := reg0 (hid l_giveState_39) 3
@[simp] def b_giveState_41 (_ : Unit) : EB := .seq (hid b_giveState_38) (hid b_giveState_40)
@[simp] def b_giveState_42 (_ : Unit) : EB := .seq (hid b_giveState_28) (hid b_giveState_41)
@[simp] def b_giveState_43 (_ : Unit) : EB := .loop (hid b_giveState_42)
@[simp] def b_giveState_44 (_ : Unit) : EB := .block 2 (hid b_giveState_43)
@[simp] def b_giveState_45 (_ : Unit) : EB := .seq (hid b_giveState_24) (hid b_giveState_44)
@[simp] def l_giveState_46 (_ : Unit) : List EOp := [⟨0, (some 62), none, (.q (.lda 5 (.t 3))), []⟩, ⟨1, none, none, (.fz (.sto 5 (.t 2) (.t 62))), []⟩]
@[simp] def b_giveState_47 (_ : Unit) : EB := reg0 (hid l_giveState_46) 2
@[simp] def b_giveState_48 (_ : Unit) : EB := .seq (hid b_giveState_47) .ret
@[simp] def b_giveState_49 (_ : Unit) : EB := .seq (hid b_giveState_45) (hid b_giveState_48)
@[simp] def b_giveState_50 (_ : Unit) : EB := .seq (hid b_giveState_22) (hid b_giveState_49)
@[simp] def b_giveState_51 (_ : Unit) : EB := .seq (hid b_giveState_5) (hid b_giveState_50)
@[simp] def b_giveState_52 (_ : Unit) : EB := .seq (hid b_giveState_2) (hid b_giveState_51)
def c_giveState : EB × List QOp × Nat := ((hid b_giveState_52), [(.lda 5 (.t 2))], 63)
theorem k_giveState : cfun Tryz.prog 11 = some c_giveState := by kernel_rfl


def zC : List EC := [.fz (.lit (.int .i64 0)), .fz (.lit (.int .i64 0)), .fz (.lit (.int .i64 0)), .fz (.lit (.slice none 0 0)), .fz (.lit (.slice none 0 0))]
def gC (s : Sta) (a b : EC) : List EC := [.fz (.lit (.int .i64 s.num)), .fz (.lit (.int .i64 s.h0)), .fz (.lit (.int .i64 s.h1)), a, b]

set_option maxHeartbeats 2000000 in
theorem giveState_ok (s : Sta) (hs : s.ok) (hm : s.small) : ECalls Tryz.prog 11 [SV s] [] fun y H' => H' = [] ∧ y = SV s := by
  obtain ⟨ok1, ok2, ok3, ok4, ok5, ok6, ok7⟩ := id hs
  obtain ⟨m1, m2, m3⟩ := hm
  refine ecalls k_giveState ?_
  simp [c_giveState, SV, staC]
  refine loopW _ (weak_nil (o := 112) (k := 3) (ty := 127) (es := 36) rfl rfl (by omega)) ?_
  refine loopW _ (weak_nil (o := 112) (k := 4) (ty := 124) (es := 3) rfl rfl (by omega)) ?_
  refine eloop (α := Nat) (fun i => i ≤ s.pays.length) (fun i => s.pays.length - i)
    (fun i => [.any, Ptr 0, Ptr 1, Ptr 2, I .i64 i, .any, .any, .any, .any, .any, .any, .any, .any, .any, .any, .any, .any, .any, .any, .any, .any, .any, .any, .any, .any, .any, .any, .any, .any, .any, .any, .any, .any, .any, .any, .any, .any, .any, .any, .any, .any, .any, .any, .any, .any, .any, .any, .any, .any, .any, .any, .any, .any, .any, .any, .any, .any, .any, .any, .any, .any, .any, .any]) (fun i => [some (.box 35 (staC s)), some (.box 49 zC), some (.box 49 (gC s (.row 3 i) (.row 4 0))), some (.row 127 36 (payv (s.pays.take i))), some (.row 124 3 [])]) 0 [0, 16, 112, 160, 161]
    (Nat.zero_le _) (by simp [Ptr, I]) (by simp [zC, gC, staC, payv]) (by simp) (by simp) (by simp) ?_
  intro i hi
  simp [Ptr, I, staC, zC, gC]
  refine alt (fun hlt => ?_) (fun hlt => ?_)
  · obtain ⟨p, hc⟩ : ∃ p, s.pays[i]? = some p := ⟨s.pays[i], by simp [hlt]⟩
    have hpo := ok4 p (List.mem_of_getElem? hc)
    have hl32 := hpo.2.2.2.2
    have ht : p.lock.take 32 = p.lock := List.take_of_length_le (by omega)
    have hcb := payv_get hc
    have w2 : IntKind.i64.wrap ((i : Int) + 1) = ((i + 1 : Nat) : Int) := wrap_i64 (by omega) (by omega)
    have e2 : payv (s.pays.take (i + 1)) = payv (s.pays.take i) ++ [payF p] := by rw [take_s hc]; simp [payv]
    have hm0 : min i s.pays.length = i := by omega
    simp [hcb, payF, hl32, ht, w2, hm0, -Int.natCast_add]
    refine ⟨by omega, ?_⟩
    exact round (i + 1) [0, 1, 2, 213, 4] (by omega) (by omega) (by simp) (by simp [e2, payF]) (by simp) (by simp) (by simp)
  have hil : i = s.pays.length := by omega
  subst hil
  rw [List.take_length]
  simp
  refine eloop (α := Nat) (fun i => i ≤ s.holds.length) (fun i => s.holds.length - i)
    (fun i => [.any, Ptr 0, Ptr 1, Ptr 2, .any, I .i64 i, .any, .any, .any, .any, .any, .any, .any, .any, .any, .any, .any, .any, .any, .any, .any, .any, .any, .any, .any, .any, .any, .any, .any, .any, .any, .any, .any, .any, .any, .any, .any, .any, .any, .any, .any, .any, .any, .any, .any, .any, .any, .any, .any, .any, .any, .any, .any, .any, .any, .any, .any, .any, .any, .any, .any, .any, .any]) (fun i => [some (.box 35 (staC s)), some (.box 49 zC), some (.box 49 (gC s (.row 3 s.pays.length) (.row 4 i))), some (.row 127 36 (payv s.pays)), some (.row 124 3 (holv (s.holds.take i)))]) 0 [0, 1, 2, 3, 4]
    (Nat.zero_le _) (by simp [Ptr, I]) (by simp [zC, gC, staC, holv]) (by simp) (by simp) (by simp) ?_
  intro i hi
  simp [Ptr, I, staC, zC, gC]
  refine alt (fun hlt => ?_) (fun hlt => ?_)
  · obtain ⟨p, hc⟩ : ∃ p, s.holds[i]? = some p := ⟨s.holds[i], by simp [hlt]⟩
    have hk := m3 p (List.mem_of_getElem? hc)
    have hcb := holv_get hc
    have w2 : IntKind.i64.wrap ((i : Int) + 1) = ((i + 1 : Nat) : Int) := wrap_i64 (by omega) (by omega)
    have e2 : holv (s.holds.take (i + 1)) = holv (s.holds.take i) ++ [holF p] := by rw [take_s hc]; simp [holv]
    have hm0 : min i s.holds.length = i := by omega
    simp [hcb, holF, w2, hm0, -Int.natCast_add]
    refine ⟨⟨by omega, by omega⟩, ⟨by omega, by omega⟩, ?_⟩
    exact round (i + 1) [0, 1, 2, 3, 485] (by omega) (by omega) (by simp) (by simp [e2, holF, List.take_of_length_le]) (by simp) (by simp) (by simp)
  have hil : i = s.holds.length := by omega
  subst hil
  rw [List.take_length]
  simp
  refine finW _ (weak_frz (o := 3) (ty := 127) (es := 36) (xs := payv s.pays) rfl) ?_
  refine finW _ (weak_frz (o := 4) (ty := 124) (es := 3) (xs := holv s.holds) rfl) ?_
  exact fin [] (by decide) rfl rfl rfl ⟨rfl, by simp [List.take_of_length_le]⟩

end Go.Proofs.YtejjhgdnmknejaaGreatDoor

namespace Go.Proofs.YtejjhgdnmknejaaGreatDoor
open Go Go.EW
set_option linter.unusedSimpArgs false
set_option linter.unusedVariables false

@[simp] def l_same_1 (_ : Unit) : List EOp := [⟨0, (some 4), none, (.q (.box 49 (.t 0))), []⟩, ⟨1, (some 5), none, (.q (.box 49 (.t 1))), []⟩, ⟨2, (some 6), none, (.q (.box 35 (.t 2))), []⟩, ⟨3, (some 7), none, (.q (.box 35 (.t 3))), []⟩, ⟨4, (some 8), none, (.q (.mov (.k (.bool false)))), []⟩]
@[simp] def b_same_2 (_ : Unit) : EB := reg0 (hid l_same_1) 5
@[simp] def l_same_5 (_ : Unit) : List EOp := [⟨12, (some 21), (some (16, true)), (.call 48 [(.t 20)]), [10]⟩, ⟨13, (some 22), (some (16, true)), (.q (.b2s (.t 21))), []⟩, ⟨14, (some 23), (some (16, true)), (.q (.bin .eql (.t 19) (.t 22))), []⟩, ⟨15, (some 24), none, (.q (.pick (.t 16) (.t 23) (.k (.bool false)))), []⟩, ⟨16, (some 8), none, (.q (.mov (.t 24))), []⟩]
@[simp] def l_same_4 (_ : Unit) : List EOp := ⟨6, (some 15), none, (.q (.bin .eql (.t 11) (.t 14))), []⟩ :: ⟨7, (some 16), none, (.q (.mov (.t 15))), []⟩ :: ⟨8, (some 17), (some (16, true)), (.q (.lda 5 (.t 5))), []⟩ :: ⟨11, (some 20), (some (16, true)), (.q (.lda 5 (.t 7))), []⟩ :: ⟨9, (some 18), (some (16, true)), (.call 47 [(.t 17)]), [11]⟩ :: ⟨10, (some 19), (some (16, true)), (.q (.b2s (.t 18))), []⟩ :: hid l_same_5
@[simp] def l_same_3 (_ : Unit) : List EOp := ⟨0, (some 9), none, (.q (.lda 5 (.t 4))), []⟩ :: ⟨3, (some 12), none, (.q (.lda 5 (.t 6))), []⟩ :: ⟨1, (some 10), none, (.call 47 [(.t 9)]), [3]⟩ :: ⟨2, (some 11), none, (.q (.b2s (.t 10))), []⟩ :: ⟨4, (some 13), none, (.call 48 [(.t 12)]), [2]⟩ :: ⟨5, (some 14), none, (.q (.b2s (.t 13))), []⟩ :: hid l_same_4
@[simp] def b_same_6 (_ : Unit) : EB := reg1 (hid l_same_3) 17
@[simp] def b_same_7 (_ : Unit) : EB := .seq (hid b_same_6) .ret
@[simp] def b_same_8 (_ : Unit) : EB := .seq (hid b_same_2) (hid b_same_7)
def c_same : EB × List QOp × Nat := ((hid b_same_8), [(.mov (.t 8))], 25)
theorem k_same : cfun Tryz.prog 14 = some c_same := by kernel_rfl


theorem zSta_ok : zSta.ok ∧ zSta.small := by simp [zSta, Sta.ok, Sta.small, i64]
theorem mayS_b {s : Sta} (h : mayS s = true) : 0 ≤ s.num ∧ s.num ≤ 1099511627776 ∧ 0 ≤ s.h0 ∧ s.h0 ≤ 1125899906842624 ∧ 0 ≤ s.h1 ∧ s.h1 ≤ 1125899906842624 := by
  unfold mayS at h
  simp only [Bool.and_eq_true, decide_eq_true_eq] at h
  omega
theorem nxt_mayS {s : Sta} (h : ¬ (nxt s).2 ≠ 0) : mayS s = true ∧ s.num ≠ 1099511627776 := by
  unfold nxt at h
  split at h
  · rename_i h'; exact h'
  · simp at h
theorem keeS_ok {s : Sta} {who : Int} {h : Hol} (hs : s.ok) (hm : s.small) (hh : h.ok) (hk : h.keys.length ≤ 1000) : (keeS s who h).1.ok ∧ (keeS s who h).1.small := by
  have hz := zSta_ok
  obtain ⟨ok1, ok2, ok3, ok4, ok5, ok6, ok7⟩ := id hs
  obtain ⟨m1, m2, m3⟩ := id hm
  obtain ⟨⟨p1, p1'⟩, ⟨p2, p2'⟩, p3, p4⟩ := id hh
  unfold keeS
  split
  · exact hz
  rename_i h1
  have hy := nxt_mayS h1
  have hb := mayS_b hy.1
  obtain ⟨hr', hpl', hhl, htot⟩ := mayS_t hy.1
  split
  · exact hz
  split
  · exact hz
  split
  · exact hz
  split
  · exact hz
  split
  · exact hz
  have hl := len_ins Hol.id s.holds h
  have key : ∀ x y : Int, i64 x → i64 y → (Sta.mk (s.num + 1) x y s.pays (insA Hol.id s.holds h)).ok ∧ (Sta.mk (s.num + 1) x y s.pays (insA Hol.id s.holds h)).small := by
    intro x y hx hy
    refine ⟨⟨by unfold i64; simp; omega, hx, hy, ok4, ?_, ok6, by dsimp only; omega⟩, m1, by dsimp only; omega, ?_⟩
    · intro b hb
      rcases mem_ins hb with rfl | hb
      · exact hh
      · exact ok5 b hb
    · intro b hb
      rcases mem_ins hb with rfl | hb
      · exact hk
      · exact m3 b hb
  rename_i c1 c2 c3 c4 c5
  split
  · exact hz
  exact key _ _ (by unfold i64; split <;> omega) (by unfold i64; split <;> omega)
theorem freS_ok {s : Sta} {x a : Int} (hs : s.ok) (hm : s.small) : (freS s x a).1.ok ∧ (freS s x a).1.small := by
  have hz := zSta_ok
  obtain ⟨ok1, ok2, ok3, ok4, ok5, ok6, ok7⟩ := id hs
  obtain ⟨m1, m2, m3⟩ := id hm
  unfold freS
  split
  · exact hz
  rename_i h1
  have hy := nxt_mayS h1
  have hb := mayS_b hy.1
  obtain ⟨hr', hpl', hhl, htot⟩ := mayS_t hy.1
  split
  · exact hz
  rename_i h hc
  split
  · exact hz
  split
  · exact hz
  have hl := len_del (f := Hol.id) hc
  have hle := holL_sum hhl h (List.mem_of_getElem? hc)
  have hma := mayH_am (holL_mem hhl h (List.mem_of_getElem? hc))
  have hnn := sumP_nn hpl'
  have hto : total s = s.h0 + s.h1 + sumP s.pays + sumH s.holds := rfl
  refine ⟨⟨by unfold i64; dsimp only; omega, by unfold i64; dsimp only; omega, by unfold i64; dsimp only; omega, ok4, ?_, ok6, by dsimp only; omega⟩, m1, by dsimp only; omega, ?_⟩
  · intro b hb
    exact ok5 b (mem_del hb)
  · intro b hb
    exact m3 b (mem_del hb)

theorem opnS_ok {r : Rte} {x : Int} {s t : Sta} (hr : r.ok) (hx : i64 x) (hs : s.ok) (ht : t.ok) (ms : s.small) (mt : t.small) : ((opnS r x s t).1.ok ∧ (opnS r x s t).1.small) ∧ (opnS r x s t).2.1.ok ∧ (opnS r x s t).2.1.small := by
  have hz := zSta_ok
  have hh := holV_ok hr hx
  have hk : (holV r x).keys.length ≤ 1000 := by simp [holV, srt_len]
  unfold opnS
  split
  · exact ⟨hz, hz⟩
  split
  · exact ⟨hz, hz⟩
  split
  · exact ⟨hz, hz⟩
  exact ⟨keeS_ok hs ms hh hk, keeS_ok ht mt hh hk⟩
theorem freV_ok {r : Rte} {s : Sta} {x near far : Int} (hs : s.ok) (hm : s.small) : (freV r s x near far).1.ok ∧ (freV r s x near far).1.small := by
  unfold freV
  split
  · exact freS_ok hs hm
  · exact freS_ok hs hm
theorem cloS_ok {r : Rte} {x last : Int} {s t : Sta} (hs : s.ok) (ht : t.ok) (ms : s.small) (mt : t.small) : ((cloS r x last s t).1.ok ∧ (cloS r x last s t).1.small) ∧ (cloS r x last s t).2.1.ok ∧ (cloS r x last s t).2.1.small := by
  have hz := zSta_ok
  unfold cloS
  split
  · exact ⟨hz, hz⟩
  split
  · exact ⟨hz, hz⟩
  split
  · exact ⟨hz, hz⟩
  split
  · exact ⟨hz, hz⟩
  split
  · exact ⟨hz, hz⟩
  exact ⟨freV_ok hs ms, freV_ok ht mt⟩

set_option maxHeartbeats 2000000 in
theorem same_ok (x y : Sta) (hx : x.ok) (mx : x.small) (hy : y.ok) (my : y.small) : ECalls Tryz.prog 14 [SV x, SV y, SV x, SV y] [] fun y H' => H' = [] ∧ y = .lit (.bool true) := by
  refine ecalls k_same ?_
  simp [c_same, SV, staC, I]
  refine call0 (Encode_ok x hx mx) (by simp [Ptr, I, EV.lit, Bs, SV, staC]) ?_
  rintro y H' ⟨rfl, rfl⟩
  refine ⟨.inl (by simp [Ptr, I, EV.lit, Bs, SV, staC]), le_ok rfl, ?_⟩
  simp [Ptr, I, EV.lit, Bs, SV, staC]
  refine call0 (REncode_ok x hx mx) (by simp [Ptr, I, EV.lit, Bs, SV, staC]) ?_
  rintro y H' ⟨rfl, rfl⟩
  refine ⟨.inl (by simp [Ptr, I, EV.lit, Bs, SV, staC]), le_ok rfl, ?_⟩
  simp [Ptr, I, EV.lit, Bs, SV, staC]
  refine call0 (Encode_ok y hy my) (by simp [Ptr, I, EV.lit, Bs, SV, staC]) ?_
  rintro y H' ⟨rfl, rfl⟩
  refine ⟨.inl (by simp [Ptr, I, EV.lit, Bs, SV, staC]), le_ok rfl, ?_⟩
  simp [Ptr, I, EV.lit, Bs, SV, staC]
  refine call0 (REncode_ok y hy my) (by simp [Ptr, I, EV.lit, Bs, SV, staC]) ?_
  rintro y H' ⟨rfl, rfl⟩
  refine ⟨.inl (by simp [Ptr, I, EV.lit, Bs, SV, staC]), le_ok rfl, ?_⟩
  simp [Ptr, I, EV.lit, Bs, SV, staC]
  exact fin [] (by decide) rfl rfl rfl ⟨rfl, rfl⟩

end Go.Proofs.YtejjhgdnmknejaaGreatDoor
