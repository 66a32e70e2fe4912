import Derived.Test.YtpohjnhlhfbnaaaDoorState2
namespace Go.Proofs.YtpohjnhlhfbnaaaDoor
open Go Go.EW
set_option linter.unusedSimpArgs false
set_option linter.unusedVariables false

@[simp] def l_Encode_1 (_ : Unit) : List EOp := [⟨0, (some 1), none, (.q (.box 32 (.t 0))), []⟩, ⟨1, (some 2), none, (.q (.mov (.k (.slice none 0 0)))), []⟩]
@[simp] def b_Encode_2 (_ : Unit) : EB := reg0 (hid l_Encode_1) 2
@[simp] def l_Encode_3 (_ : Unit) : List EOp := [⟨0, (some 9), none, (.call 55 []), []⟩, ⟨1, (some 3), none, (.q (.alloc 99 [(.pointer none)])), []⟩, ⟨2, none, none, (.sto 1 (.t 3) (.t 9)), []⟩]
@[simp] def b_Encode_4 (_ : Unit) : EB := reg0 (hid l_Encode_3) 3
@[simp] def l_Encode_5 (_ : Unit) : List EOp := [⟨0, (some 10), none, (.q (.mkf 56 [(.t 3)])), []⟩, ⟨1, (some 4), none, (.q (.mov (.t 10))), []⟩]
@[simp] def b_Encode_6 (_ : Unit) : EB := reg0 (hid l_Encode_5) 2
@[simp] def l_Encode_9 (_ : Unit) : List EOp := [⟨12, (some 23), none, (.q (.bsl 1 [(.int .i64 0)] 4 [(0, (.t 13)), (1, (.t 16)), (2, (.t 19)), (3, (.t 22))])), []⟩, ⟨13, (some 24), none, (.clo (.t 11) [(.t 23)]), []⟩]
@[simp] def l_Encode_8 (_ : Unit) : List EOp := ⟨6, (some 17), none, (.q (.fad 1 (.t 1))), []⟩ :: ⟨7, (some 18), none, (.q (.iad 2 1 (.t 17) (.k (.int .i64 1)))), []⟩ :: ⟨8, (some 19), none, (.q (.ldc (.t 18))), []⟩ :: ⟨9, (some 20), none, (.q (.fad 3 (.t 1))), []⟩ :: ⟨10, (some 21), none, (.q (.ldc (.t 20))), []⟩ :: ⟨11, (some 22), none, (.q (.len (.t 21))), []⟩ :: hid l_Encode_9
@[simp] def l_Encode_7 (_ : Unit) : List EOp := ⟨0, (some 11), none, (.q (.mov (.t 4))), []⟩ :: ⟨1, (some 12), none, (.q (.fad 0 (.t 1))), []⟩ :: ⟨2, (some 13), none, (.q (.ldc (.t 12))), []⟩ :: ⟨3, (some 14), none, (.q (.fad 1 (.t 1))), []⟩ :: ⟨4, (some 15), none, (.q (.iad 2 1 (.t 14) (.k (.int .i64 0)))), []⟩ :: ⟨5, (some 16), none, (.q (.ldc (.t 15))), []⟩ :: hid l_Encode_8
@[simp] def b_Encode_10 (_ : Unit) : EB := reg0 (hid l_Encode_7) 14
@[simp] def l_Encode_11 (_ : Unit) : List EOp := [⟨0, (some 25), none, (.q (.fad 3 (.t 1))), []⟩, ⟨1, (some 26), none, (.q (.ldc (.t 25))), []⟩, ⟨2, (some 27), none, (.q (.len (.t 26))), []⟩, ⟨3, (some 28), none, (.q (.mov (.k (.int .i64 0)))), []⟩]
@[simp] def b_Encode_12 (_ : Unit) : EB := reg0 (hid l_Encode_11) 4
@[simp] def l_Encode_13 (_ : Unit) : List EOp := [⟨0, (some 29), none, (.q (.bin .lss (.t 28) (.t 27))), []⟩]
@[simp] def b_Encode_14 (_ : Unit) : EB := reg0 (hid l_Encode_13) 1
@[simp] def b_Encode_15 (_ : Unit) : EB := .cond (.t 29) .skip (.exit 0)
@[simp] def l_Encode_16 (_ : Unit) : List EOp := [⟨0, (some 30), none, (.q (.isl 36 (.t 26) (.t 28))), []⟩, ⟨1, (some 31), none, (.q (.lda 36 (.t 30))), []⟩, ⟨2, (some 6), none, (.q (.alloc 61 (([(.int .i64 0), (.int .i64 0), (.int .i64 0), (.int .i64 0)] : List Value) ++ zU8))), []⟩, ⟨3, none, none, (.sto 36 (.t 6) (.t 31)), []⟩]
@[simp] def b_Encode_17 (_ : Unit) : EB := reg0 (hid l_Encode_16) 4
@[simp] def l_Encode_19 (_ : Unit) : List EOp := [⟨6, (some 38), none, (.q (.ldc (.t 37))), []⟩, ⟨7, (some 39), none, (.q (.fad 3 (.t 6))), []⟩, ⟨8, (some 40), none, (.q (.ldc (.t 39))), []⟩, ⟨9, (some 41), none, (.q (.bsl 1 [(.int .i64 0)] 4 [(0, (.t 34)), (1, (.t 36)), (2, (.t 38)), (3, (.t 40))])), []⟩, ⟨10, (some 42), none, (.clo (.t 32) [(.t 41)]), []⟩]
@[simp] def l_Encode_18 (_ : Unit) : List EOp := ⟨0, (some 32), none, (.q (.mov (.t 4))), []⟩ :: ⟨1, (some 33), none, (.q (.fad 0 (.t 6))), []⟩ :: ⟨2, (some 34), none, (.q (.ldc (.t 33))), []⟩ :: ⟨3, (some 35), none, (.q (.fad 1 (.t 6))), []⟩ :: ⟨4, (some 36), none, (.q (.ldc (.t 35))), []⟩ :: ⟨5, (some 37), none, (.q (.fad 2 (.t 6))), []⟩ :: hid l_Encode_19
@[simp] def b_Encode_20 (_ : Unit) : EB := reg0 (hid l_Encode_18) 11
@[simp] def l_Encode_21 (_ : Unit) : List EOp := [⟨0, (some 43), none, (.q (.ldc (.t 3))), []⟩, ⟨1, (some 44), none, (.q (.fad 4 (.t 6))), []⟩, ⟨2, (some 45), none, (.q (.lda 32 (.t 44))), []⟩, ⟨3, (some 46), none, (.call 58 [(.t 43), (.t 45)]), []⟩]
@[simp] def b_Encode_22 (_ : Unit) : EB := reg0 (hid l_Encode_21) 4
@[simp] def b_Encode_23 (_ : Unit) : EB := .seq (hid b_Encode_20) (hid b_Encode_22)
@[simp] def b_Encode_24 (_ : Unit) : EB := .seq (hid b_Encode_17) (hid b_Encode_23)
@[simp] def b_Encode_25 (_ : Unit) : EB := .block 1 (hid b_Encode_24)
@[simp] def l_Encode_26 (_ : Unit) : List EOp := [⟨0, (some 47), none, (.q (.bin .add (.t 28) (.k (.int .i64 1)))), []⟩, ⟨1, (some 28), none, (.q (.mov (.t 47))), []⟩]
@[simp] def b_Encode_27 (_ : Unit) : EB := reg0 (hid l_Encode_26) 2
@[simp] def b_Encode_28 (_ : Unit) : EB := .seq (hid b_Encode_25) (hid b_Encode_27)
@[simp] def b_Encode_29 (_ : Unit) : EB := .seq (hid b_Encode_15) (hid b_Encode_28)
@[simp] def b_Encode_30 (_ : Unit) : EB := .seq (hid b_Encode_14) (hid b_Encode_29)
@[simp] def b_Encode_31 (_ : Unit) : EB := .loop (hid b_Encode_30)
@[simp] def b_Encode_32 (_ : Unit) : EB := .block 0 (hid b_Encode_31)
@[simp] def b_Encode_33 (_ : Unit) : EB := .seq (hid b_Encode_12) (hid b_Encode_32)
@[simp] def l_Encode_34 (_ : Unit) : List EOp := [⟨0, (some 48), none, (.q (.mov (.t 4))), []⟩, ⟨1, (some 49), none, (.q (.fad 4 (.t 1))), []⟩, ⟨2, (some 50), none, (.q (.ldc (.t 49))), []⟩, ⟨3, (some 51), none, (.q (.len (.t 50))), []⟩, ⟨4, (some 52), none, (.q (.bsl 1 [(.int .i64 0)] 1 [(0, (.t 51))])), []⟩, ⟨5, (some 53), none, (.clo (.t 48) [(.t 52)]), []⟩]
@[simp] def b_Encode_35 (_ : Unit) : EB := reg0 (hid l_Encode_34) 6
@[simp] def l_Encode_36 (_ : Unit) : List EOp := [⟨0, (some 54), none, (.q (.fad 4 (.t 1))), []⟩, ⟨1, (some 55), none, (.q (.ldc (.t 54))), []⟩, ⟨2, (some 56), none, (.q (.len (.t 55))), []⟩, ⟨3, (some 57), none, (.q (.mov (.k (.int .i64 0)))), []⟩]
@[simp] def b_Encode_37 (_ : Unit) : EB := reg0 (hid l_Encode_36) 4
@[simp] def l_Encode_38 (_ : Unit) : List EOp := [⟨0, (some 58), none, (.q (.bin .lss (.t 57) (.t 56))), []⟩]
@[simp] def b_Encode_39 (_ : Unit) : EB := reg0 (hid l_Encode_38) 1
@[simp] def b_Encode_40 (_ : Unit) : EB := .cond (.t 58) .skip (.exit 2)
@[simp] def l_Encode_41 (_ : Unit) : List EOp := [⟨0, (some 59), none, (.q (.isl 3 (.t 55) (.t 57))), []⟩, ⟨1, (some 60), none, (.q (.lda 3 (.t 59))), []⟩, ⟨2, (some 8), none, (.q (.alloc 65 [(.int .i64 0), (.int .i64 0), (.slice none 0 0)])), []⟩, ⟨3, none, none, (.fz (.sto 3 (.t 8) (.t 60))), []⟩]
@[simp] def b_Encode_42 (_ : Unit) : EB := reg0 (hid l_Encode_41) 4
@[simp] def l_Encode_44 (_ : Unit) : List EOp := [⟨6, (some 67), none, (.q (.ldc (.t 66))), []⟩, ⟨7, (some 68), none, (.q (.len (.t 67))), []⟩, ⟨8, (some 69), none, (.q (.bsl 1 [(.int .i64 0)] 3 [(0, (.t 63)), (1, (.t 65)), (2, (.t 68))])), []⟩, ⟨9, (some 70), none, (.clo (.t 61) [(.t 69)]), []⟩]
@[simp] def l_Encode_43 (_ : Unit) : List EOp := ⟨0, (some 61), none, (.q (.mov (.t 4))), []⟩ :: ⟨1, (some 62), none, (.q (.fad 0 (.t 8))), []⟩ :: ⟨2, (some 63), none, (.q (.ldc (.t 62))), []⟩ :: ⟨3, (some 64), none, (.q (.fad 1 (.t 8))), []⟩ :: ⟨4, (some 65), none, (.q (.ldc (.t 64))), []⟩ :: ⟨5, (some 66), none, (.q (.fad 2 (.t 8))), []⟩ :: hid l_Encode_44
@[simp] def b_Encode_45 (_ : Unit) : EB := reg0 (hid l_Encode_43) 10
@[simp] def l_Encode_46 (_ : Unit) : List EOp := [⟨0, (some 71), none, (.q (.mov (.t 4))), []⟩, ⟨1, (some 72), none, (.q (.fad 2 (.t 8))), []⟩, ⟨2, (some 73), none, (.q (.ldc (.t 72))), []⟩, ⟨3, (some 74), none, (.clo (.t 71) [(.t 73)]), []⟩]
@[simp] def b_Encode_47 (_ : Unit) : EB := reg0 (hid l_Encode_46) 4
@[simp] def b_Encode_48 (_ : Unit) : EB := .seq (hid b_Encode_45) (hid b_Encode_47)
@[simp] def b_Encode_49 (_ : Unit) : EB := .seq (hid b_Encode_42) (hid b_Encode_48)
@[simp] def b_Encode_50 (_ : Unit) : EB := .block 3 (hid b_Encode_49)
@[simp] def l_Encode_51 (_ : Unit) : List EOp := [⟨0, (some 75), none, (.q (.bin .add (.t 57) (.k (.int .i64 1)))), []⟩, ⟨1, (some 57), none, (.q (.mov (.t 75))), []⟩]
@[simp] def b_Encode_52 (_ : Unit) : EB := reg0 (hid l_Encode_51) 2
@[simp] def b_Encode_53 (_ : Unit) : EB := .seq (hid b_Encode_50) (hid b_Encode_52)
@[simp] def b_Encode_54 (_ : Unit) : EB := .seq (hid b_Encode_40) (hid b_Encode_53)
@[simp] def b_Encode_55 (_ : Unit) : EB := .seq (hid b_Encode_39) (hid b_Encode_54)
@[simp] def b_Encode_56 (_ : Unit) : EB := .loop (hid b_Encode_55)
@[simp] def b_Encode_57 (_ : Unit) : EB := .block 2 (hid b_Encode_56)
@[simp] def b_Encode_58 (_ : Unit) : EB := .seq (hid b_Encode_37) (hid b_Encode_57)
@[simp] def l_Encode_59 (_ : Unit) : List EOp := [⟨0, (some 76), none, (.q (.ldc (.t 3))), []⟩, ⟨1, (some 77), none, (.call 59 [(.t 76)]), []⟩, ⟨2, (some 2), none, (.q (.mov (.t 77))), []⟩]
@[simp] def b_Encode_60 (_ : Unit) : EB := reg0 (hid l_Encode_59) 3
@[simp] def b_Encode_61 (_ : Unit) : EB := .seq (hid b_Encode_60) .ret
@[simp] def b_Encode_62 (_ : Unit) : EB := .seq (hid b_Encode_58) (hid b_Encode_61)
@[simp] def b_Encode_63 (_ : Unit) : EB := .seq (hid b_Encode_35) (hid b_Encode_62)
@[simp] def b_Encode_64 (_ : Unit) : EB := .seq (hid b_Encode_33) (hid b_Encode_63)
@[simp] def b_Encode_65 (_ : Unit) : EB := .seq (hid b_Encode_10) (hid b_Encode_64)
@[simp] def b_Encode_66 (_ : Unit) : EB := .seq (hid b_Encode_6) (hid b_Encode_65)
@[simp] def b_Encode_67 (_ : Unit) : EB := .seq (hid b_Encode_4) (hid b_Encode_66)
@[simp] def b_Encode_68 (_ : Unit) : EB := .seq (hid b_Encode_2) (hid b_Encode_67)
def c_Encode : EB × List QOp × Nat := ((hid b_Encode_68), [(.mov (.t 2))], 78)
theorem k_Encode : cfun Tryd.prog 22 = some c_Encode := by kernel_rfl

@[simp] def l_put_1 (_ : Unit) : List EOp := [⟨0, (some 5), none, (.q (.mov (.t 0))), []⟩, ⟨1, (some 6), none, (.q (.len (.t 5))), []⟩, ⟨2, (some 7), none, (.q (.mov (.k (.int .i64 0)))), []⟩]
@[simp] def b_put_2 (_ : Unit) : EB := reg0 (hid l_put_1) 3
@[simp] def l_put_3 (_ : Unit) : List EOp := [⟨0, (some 8), none, (.q (.bin .lss (.t 7) (.t 6))), []⟩]
@[simp] def b_put_4 (_ : Unit) : EB := reg0 (hid l_put_3) 1
@[simp] def b_put_5 (_ : Unit) : EB := .cond (.t 8) .skip (.exit 0)
@[simp] def l_put_6 (_ : Unit) : List EOp := [⟨0, (some 9), none, (.q (.isl 1 (.t 5) (.t 7))), []⟩, ⟨1, (some 10), none, (.q (.ldc (.t 9))), []⟩, ⟨2, (some 4), none, (.q (.mov (.t 10))), []⟩]
@[simp] def b_put_7 (_ : Unit) : EB := reg0 (hid l_put_6) 3
@[simp] def l_put_8 (_ : Unit) : List EOp := [⟨0, (some 11), none, (.q (.ldc (.t 1))), []⟩, ⟨1, (some 12), none, (.q (.mov (.t 4))), []⟩, ⟨2, (some 13), none, (.q (.cnv .u64 (.t 12))), []⟩, ⟨3, (some 14), none, (.call 57 [(.t 11), (.t 13)]), []⟩]
@[simp] def b_put_9 (_ : Unit) : EB := reg0 (hid l_put_8) 4
@[simp] def b_put_10 (_ : Unit) : EB := .seq (hid b_put_7) (hid b_put_9)
@[simp] def b_put_11 (_ : Unit) : EB := .block 1 (hid b_put_10)
@[simp] def l_put_12 (_ : Unit) : List EOp := [⟨0, (some 15), none, (.q (.bin .add (.t 7) (.k (.int .i64 1)))), []⟩, ⟨1, (some 7), none, (.q (.mov (.t 15))), []⟩]
@[simp] def b_put_13 (_ : Unit) : EB := reg0 (hid l_put_12) 2
@[simp] def b_put_14 (_ : Unit) : EB := .seq (hid b_put_11) (hid b_put_13)
@[simp] def b_put_15 (_ : Unit) : EB := .seq (hid b_put_5) (hid b_put_14)
@[simp] def b_put_16 (_ : Unit) : EB := .seq (hid b_put_4) (hid b_put_15)
@[simp] def b_put_17 (_ : Unit) : EB := .loop (hid b_put_16)
@[simp] def b_put_18 (_ : Unit) : EB := .block 0 (hid b_put_17)
@[simp] def b_put_19 (_ : Unit) : EB := .seq (hid b_put_2) (hid b_put_18)
def c_put : EB × List QOp × Nat := ((hid b_put_19), [], 16)
theorem k_put : cfun Tryd.prog 56 = some c_put := by kernel_rfl


def u64n (n : Int) : Nat := (n % 18446744073709551616).toNat
theorem u64n_lt (n : Int) : u64n n < 18446744073709551616 := by unfold u64n; omega
theorem wrap_u64n (n : Int) : IntKind.u64.wrap n = (u64n n : Int) := by
  simp [IntKind.wrap, IntKind.bits, IntKind.signed, u64n]
  omega
def uB (n : Int) : List UInt8 := uintB (u64n n)
def usB (l : List Int) : List UInt8 := l.flatMap uB
def payB (p : Pay) : List UInt8 := usB [p.id, p.fr, p.am, p.af] ++ p.lock
def holB (h : Hol) : List UInt8 := usB [h.id, h.am, (h.keys.length : Int)] ++ usB h.keys
def encS (s : Sta) : List UInt8 := usB [s.num, s.h0, s.h1, (s.pays.length : Int)] ++ s.pays.flatMap payB ++ usB [(s.holds.length : Int)] ++ s.holds.flatMap holB
theorem uB_len (n : Int) : (uB n).length ≤ 9 := by
  have := nb_8 (u64n_lt n)
  simp [uB, uintB, dg_len]; omega
theorem usB_len : ∀ (l : List Int), (usB l).length ≤ 9 * l.length
  | [] => by simp [usB]
  | n :: r => by
    have h1 := uB_len n
    have h2 := usB_len r
    have : usB (n :: r) = uB n ++ usB r := by simp [usB]
    rw [this, List.length_append, List.length_cons]
    omega
theorem usB_snoc (l : List Int) (n : Int) : usB (l ++ [n]) = usB l ++ uB n := by simp [usB]
def Sta.small (s : Sta) : Prop := s.pays.length ≤ 1000 ∧ s.holds.length ≤ 1000 ∧ ∀ h ∈ s.holds, h.keys.length ≤ 1000
theorem payB_len {p : Pay} (h : p.lock.length = 32) : (payB p).length ≤ 68 := by
  have := usB_len [p.id, p.fr, p.am, p.af]
  simp [payB] at *; omega
theorem holB_len {p : Hol} (h : p.keys.length ≤ 1000) : (holB p).length ≤ 9100 := by
  have h1 := usB_len [p.id, p.am, (p.keys.length : Int)]
  have h2 := usB_len p.keys
  simp [holB] at *; omega
theorem flat_len {α : Type} {f : α → List UInt8} {k : Nat} : ∀ {l : List α}, (∀ x ∈ l, (f x).length ≤ k) → (l.flatMap f).length ≤ k * l.length
  | [], _ => by simp
  | x :: r, h => by
    have h1 := h x (by simp)
    have h2 := flat_len (l := r) (fun y hy => h y (by simp [hy]))
    rw [List.flatMap_cons, List.length_append, List.length_cons, Nat.mul_succ]
    omega

/-- A variable that holds a writer. -/
def PO (r : Nat) : EO := .box 99 [.ptr r 0]
def PutV (o : Nat) : EV := .v (.c (.clo 56 [(o, 0)]))

set_option maxHeartbeats 1000000 in
theorem put_ok (bs : List UInt8) (l : List Int) (hl : l.length ≤ 10000000) (hb : bs.length + 9 * l.length ≤ 800000000) :
    ECalls Tryd.prog 56 [IL l, Ptr 0] [PO 1, WO 2 bs, RO bs] fun y H' => H' = [some (PO 1), some (WO 3 (bs ++ usB l)), none, some (RO (bs ++ usB l))] ∧ y = .tup [] := by
  refine ecalls k_put ?_
  simp [c_put, IL, Ptr]
  refine eloop (α := Nat) (fun i => i ≤ l.length) (fun i => l.length - i)
    (fun i => [.any, Ptr 0, .any, .any, .any, IL l, I .i64 l.length, I .i64 i, .any, .any, .any, .any, .any, .any, .any, .any]) (fun i => [some (PO 1), some (WO 3 (bs ++ usB (l.take i))), none, some (RO (bs ++ usB (l.take i)))]) 0 [0, 1, 2, 2]
    (Nat.zero_le _) (by simp [Ptr, I, IL]) (by simp [PO, WO, RO, usB]) (by simp) (by decide) (by simp) ?_
  intro i hi
  have hle := usB_len (l.take i)
  have hlt' : (l.take i).length = i := by simp; omega
  simp [Ptr, I, IL]
  refine alt (fun hlt => ?_) (fun hlt => ?_)
  · obtain ⟨k, hc⟩ : ∃ k, l[i]? = some k := ⟨l[i], by simp [hlt]⟩
    have hcb := intv_get hc
    have hts : l.take (i + 1) = l.take i ++ [k] := by rw [List.take_add_one, hc]; rfl
    have w1 : IntKind.i64.wrap ((i : Int) + 1) = ((i + 1 : Nat) : Int) := wrap_i64 (by omega) (by omega)
    simp [hcb, PO, wrap_u64n]
    refine callH [1, 3] (WUint_ok (bs ++ usB (l.take i)) (u64n k) (u64n_lt k) (by simp; omega)) (by simp [Ptr, I]) (by simp [WO, RO]) (by simp) (by simp [WO]) (by simp) ?_
    rintro y H' ⟨rfl, rfl⟩
    refine ⟨.inl (by simp), le_ok rfl, ?_⟩
    simp [w1, WO, RO, -Int.natCast_add]
    exact round (i + 1) [0, 1, 2, 116] (by omega) (by omega) (by simp) (by simp [hts, usB_snoc, uB, PO, WO, RO]) (by simp) (by decide) (by simp)
  · have hil : i = l.length := by omega
    subst hil
    simp
    exact fin [3] (by decide) rfl rfl rfl ⟨by simp [PO, WO, RO], rfl⟩

theorem put_body : bodyOK Tryd.prog 56 = true := by kernel_rfl
def pB (l : List Pay) : List UInt8 := l.flatMap payB
def hB (l : List Hol) : List UInt8 := l.flatMap holB
theorem pB_snoc (l : List Pay) (p : Pay) : pB (l ++ [p]) = pB l ++ payB p := by simp [pB]
theorem hB_snoc (l : List Hol) (p : Hol) : hB (l ++ [p]) = hB l ++ holB p := by simp [hB]
def headB (s : Sta) : List UInt8 := usB [s.num, s.h0, s.h1, (s.pays.length : Int)]
def midB (s : Sta) : List UInt8 := headB s ++ pB s.pays ++ usB [(s.holds.length : Int)]
theorem encS_eq (s : Sta) : encS s = midB s ++ hB s.holds := rfl

set_option maxHeartbeats 2000000 in
theorem Encode_ok (s : Sta) (hs : s.ok) (hm : s.small) : ECalls Tryd.prog 22 [SV s] [] fun y H' => H' = [] ∧ y = Bs (encS s) := by
  obtain ⟨ok1, ok2, ok3, ok4, ok5, ok6, ok7⟩ := id hs
  obtain ⟨m1, m2, m3⟩ := hm
  have lh : (headB s).length ≤ 36 := usB_len [s.num, s.h0, s.h1, (s.pays.length : Int)]
  have lp : ∀ i, (pB (s.pays.take i)).length ≤ 68000 := by
    intro i
    have h1 := flat_len (f := payB) (k := 68) (l := s.pays.take i) (fun p hp => payB_len (ok4 p (List.mem_of_mem_take hp)).2.2.2.2)
    have h2 : (s.pays.take i).length ≤ 1000 := by simp; omega
    unfold pB; omega
  have lq : (pB s.pays).length ≤ 68000 := by have := lp s.pays.length; rwa [List.take_length] at this
  have lm : (midB s).length ≤ 70000 := by
    have := usB_len [(s.holds.length : Int)]
    simp only [midB, List.length_append]
    simp only [List.length_cons, List.length_nil] at this
    omega
  have lk : ∀ i, (hB (s.holds.take i)).length ≤ 9100000 := by
    intro i
    have h1 := flat_len (f := holB) (k := 9100) (l := s.holds.take i) (fun p hp => holB_len (m3 p (List.mem_of_mem_take hp)))
    have h2 : (s.holds.take i).length ≤ 1000 := by simp; omega
    unfold hB; omega
  refine ecalls k_Encode ?_
  simp [c_Encode, SV, staC]
  refine call0 New_ok rfl ?_
  rintro y H' ⟨rfl, rfl⟩
  refine ⟨.inl rfl, le_ok rfl, ?_⟩
  simp [Ptr, WO, RO]
  refine ⟨put_body, ?_⟩
  refine callH [48, 32, 33] (put_ok [] [s.num, s.h0, s.h1, (s.pays.length : Int)] (by simp) (by simp)) (by simp [IL, intv, Ptr]) (by simp [PO, WO, RO]) (by simp) (by simp) (by simp) ?_
  rintro y H' ⟨rfl, rfl⟩
  refine ⟨.inl (by simp), le_ok rfl, ?_⟩
  simp [PO, WO, RO]
  refine eloop (α := Nat) (fun i => i ≤ s.pays.length) (fun i => s.pays.length - i)
    (fun i => [.any, Ptr 0, .any, Ptr 1, PutV 1, .any, .any, .any, .any, .any, .any, .any, .any, .any, .any, .any, .any, .any, .any, .any, .any, .any, .any, .any, .any, .any, PL s.pays, I .i64 s.pays.length, I .i64 i, .any, .any, .any, .any, .any, .any, .any, .any, .any, .any, .any, .any, .any, .any, .any, .any, .any, .any, .any, .any, .any, .any, .any, .any, .any, .any, .any, .any, .any, .any, .any, .any, .any, .any, .any, .any, .any, .any, .any, .any, .any, .any, .any, .any, .any, .any, .any, .any, .any]) (fun i => [some (.box 32 (staC s)), some (PO 2), some (WO 3 (headB s ++ pB (s.pays.take i))), some (RO (headB s ++ pB (s.pays.take i)))]) 0 [0, 48, 32, 320]
    (Nat.zero_le _) (by simp [Ptr, I, PL, PutV]) (by simp [PO, WO, RO, pB, headB, staC]) (by simp) (by simp) (by simp) ?_
  intro i hi
  have lpi := lp i
  simp [Ptr, I, PL, PutV, staC]
  refine alt (fun hlt => ?_) (fun hlt => ?_)
  · obtain ⟨p, hc⟩ : ∃ p, s.pays[i]? = some p := ⟨s.pays[i], by simp [hlt]⟩
    have hpo := ok4 p (List.mem_of_getElem? hc)
    have hl32 := hpo.2.2.2.2
    have ht : p.lock.take 32 = p.lock := List.take_of_length_le (by omega)
    have hcb := payv_get hc
    have w2 : IntKind.i64.wrap ((i : Int) + 1) = ((i + 1 : Nat) : Int) := wrap_i64 (by omega) (by omega)
    have l4 := usB_len [p.id, p.fr, p.am, p.af]
    simp only [List.length_cons, List.length_nil] at l4
    simp [hcb, payF, hl32, ht]
    refine ⟨put_body, ?_⟩
    refine callH [1, 2, 3] (put_ok (headB s ++ pB (s.pays.take i)) [p.id, p.fr, p.am, p.af] (by simp) (by simp; omega)) (by simp [IL, intv, Ptr]) (by simp [PO, WO, RO]) (by simp) (by simp [PO, WO]) (by simp) ?_
    rintro y H' ⟨rfl, rfl⟩
    refine ⟨.inl (by simp), le_ok rfl, ?_⟩
    simp [PO, WO, RO, hl32, ht]
    refine callH [2, 244] (WHash_ok (headB s ++ pB (s.pays.take i) ++ usB [p.id, p.fr, p.am, p.af]) p.lock (by simp; omega) hl32) (by simp [Ptr, Ag]) (by simp [WO, RO]) (by simp) (by simp) (by simp) ?_
    rintro y H' ⟨rfl, rfl⟩
    refine ⟨.inl (by simp), le_ok rfl, ?_⟩
    simp [w2, WO, RO, -Int.natCast_add]
    have hsn : pB (s.pays.take (i + 1)) = pB (s.pays.take i) ++ (usB [p.id, p.fr, p.am, p.af] ++ p.lock) := by rw [take_s hc, pB_snoc]; rfl
    exact round (i + 1) [0, 1, 2, 308] (by omega) (by omega) (by simp) (by simp [hsn, PO, WO, RO] <;> omega) (by simp) (by simp) (by simp)
  have hil : i = s.pays.length := by omega
  subst hil
  rw [List.take_length] at lpi ⊢
  simp
  refine ⟨put_body, ?_⟩
  have l1 := usB_len [(s.holds.length : Int)]
  simp only [List.length_cons, List.length_nil] at l1
  refine callH [1, 2, 3] (put_ok (headB s ++ pB s.pays) [(s.holds.length : Int)] (by simp) (by simp; omega)) (by simp [IL, intv, Ptr]) (by simp [PO, WO, RO]) (by simp) (by simp [PO, WO]) (by simp) ?_
  rintro y H' ⟨rfl, rfl⟩
  refine ⟨.inl (by simp), le_ok rfl, ?_⟩
  simp [PO, WO, RO]
  refine eloop (α := Nat) (fun i => i ≤ s.holds.length) (fun i => s.holds.length - i)
    (fun i => [.any, .any, .any, Ptr 0, PutV 0, .any, .any, .any, .any, .any, .any, .any, .any, .any, .any, .any, .any, .any, .any, .any, .any, .any, .any, .any, .any, .any, .any, .any, .any, .any, .any, .any, .any, .any, .any, .any, .any, .any, .any, .any, .any, .any, .any, .any, .any, .any, .any, .any, .any, .any, .any, .any, .any, .any, .any, HL s.holds, I .i64 s.holds.length, I .i64 i, .any, .any, .any, .any, .any, .any, .any, .any, .any, .any, .any, .any, .any, .any, .any, .any, .any, .any, .any, .any]) (fun i => [some (PO 1), some (WO 2 (midB s ++ hB (s.holds.take i))), some (RO (midB s ++ hB (s.holds.take i)))]) 0 [1, 2, 100]
    (Nat.zero_le _) (by simp [Ptr, I, HL, PutV]) (by simp [PO, WO, RO, hB, midB] <;> omega) (by simp) (by simp) (by simp) ?_
  intro i hi
  have lki := lk i
  simp [Ptr, I, HL, PutV]
  refine alt (fun hlt => ?_) (fun hlt => ?_)
  · obtain ⟨p, hc⟩ : ∃ p, s.holds[i]? = some p := ⟨s.holds[i], by simp [hlt]⟩
    have hk := m3 p (List.mem_of_getElem? hc)
    have hcb := holv_get hc
    have w2 : IntKind.i64.wrap ((i : Int) + 1) = ((i + 1 : Nat) : Int) := wrap_i64 (by omega) (by omega)
    have l3 := usB_len [p.id, p.am, (p.keys.length : Int)]
    have l5 := usB_len p.keys
    simp only [List.length_cons, List.length_nil] at l3
    simp [hcb, holF]
    refine ⟨put_body, ?_⟩
    refine callH [0, 1, 2] (put_ok (midB s ++ hB (s.holds.take i)) [p.id, p.am, (p.keys.length : Int)] (by simp) (by simp; omega)) (by simp [IL, intv, Ptr]) (by simp [PO, WO, RO]) (by simp) (by simp [PO, WO]) (by simp) ?_
    rintro y H' ⟨rfl, rfl⟩
    refine ⟨.inl (by simp), le_ok rfl, ?_⟩
    simp [PO, WO, RO]
    refine ⟨put_body, ?_⟩
    refine callH [0, 1, 227] (put_ok (midB s ++ hB (s.holds.take i) ++ usB [p.id, p.am, (p.keys.length : Int)]) p.keys (by omega) (by simp; omega)) (by simp [IL, Ptr]) (by simp [PO, WO, RO]) (by simp) (by simp [PO, WO]) (by simp) ?_
    rintro y H' ⟨rfl, rfl⟩
    refine ⟨.inl (by simp), le_ok rfl, ?_⟩
    simp [w2, PO, WO, RO, -Int.natCast_add]
    have hsn : hB (s.holds.take (i + 1)) = hB (s.holds.take i) ++ (usB [p.id, p.am, (p.keys.length : Int)] ++ usB p.keys) := by rw [take_s hc, hB_snoc]; rfl
    exact round (i + 1) [0, 1, 291] (by omega) (by omega) (by simp) (by simp [hsn, PO, WO, RO] <;> omega) (by simp) (by simp) (by simp)
  have hil : i = s.holds.length := by omega
  subst hil
  rw [List.take_length] at lki ⊢
  simp [PO, WO, RO]
  refine callH [1, 2] (WDone_ok (midB s ++ hB s.holds) (by simp; omega)) (by simp [Ptr]) (by simp [WO, RO]) (by simp) (by simp) (by simp) ?_
  rintro y H' ⟨rfl, rfl⟩
  refine ⟨.inl (by simp), le_ok rfl, ?_⟩
  simp [R, RO, WO]
  refine finW _ (weak_frz (o := 35) (ty := 5) (es := 1) (xs := bsv (midB s ++ hB s.holds)) rfl) ?_
  exact fin [] (by decide) rfl rfl rfl ⟨rfl, by simp [Bs, encS_eq, List.take_of_length_le]⟩

end Go.Proofs.YtpohjnhlhfbnaaaDoor
