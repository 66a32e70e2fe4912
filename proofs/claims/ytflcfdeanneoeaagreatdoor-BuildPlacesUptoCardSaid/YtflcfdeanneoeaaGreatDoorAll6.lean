import Derived.Test.YtflcfdeanneoeaaGreatDoorAll5
namespace Go.Proofs.YtflcfdeanneoeaaGreatDoor
open Go Go.EW
set_option linter.unusedSimpArgs false
set_option linter.unusedVariables false

@[simp] def l_side_1 (_ : Unit) : List EOp := [⟨0, (some 2), none, (.q (.mov (.k (.bool false)))), []⟩]
@[simp] def b_side_2 (_ : Unit) : EB := reg0 (hid l_side_1) 1
@[simp] def l_side_4 (_ : Unit) : List EOp := [⟨6, (some 2), none, (.q (.mov (.t 8))), []⟩]
@[simp] def l_side_3 (_ : Unit) : List EOp := ⟨0, (some 3), none, (.q (.mov (.t 0))), []⟩ :: ⟨1, (some 4), none, (.q (.bin .eql (.t 3) (.k (.int .i64 0)))), []⟩ :: ⟨2, (some 5), none, (.q (.mov (.t 4))), []⟩ :: ⟨3, (some 6), (some (5, false)), (.q (.mov (.t 0))), []⟩ :: ⟨4, (some 7), (some (5, false)), (.q (.bin .eql (.t 6) (.k (.int .i64 1)))), []⟩ :: ⟨5, (some 8), none, (.q (.pick (.t 5) (.k (.bool true)) (.t 7))), []⟩ :: hid l_side_4
@[simp] def b_side_5 (_ : Unit) : EB := reg0 (hid l_side_3) 7
@[simp] def b_side_6 (_ : Unit) : EB := .seq (hid b_side_5) .ret
@[simp] def b_side_7 (_ : Unit) : EB := .seq (hid b_side_2) (hid b_side_6)
def c_side : EB × List QOp × Nat := ((hid b_side_7), [(.mov (.t 2))], 9)
theorem k_side : cfun Tryz.prog 112 = some c_side := by kernel_rfl

@[simp] def l_amount_1 (_ : Unit) : List EOp := [⟨0, (some 4), none, (.q (.mov (.k (.bool false)))), []⟩]
@[simp] def b_amount_2 (_ : Unit) : EB := reg0 (hid l_amount_1) 1
@[simp] def l_amount_4 (_ : Unit) : List EOp := [⟨6, (some 11), none, (.q (.pick (.t 8) (.t 10) (.k (.bool false)))), []⟩, ⟨7, (some 4), none, (.q (.mov (.t 11))), []⟩]
@[simp] def l_amount_3 (_ : Unit) : List EOp := ⟨0, (some 5), none, (.q (.mov (.t 0))), []⟩ :: ⟨1, (some 6), none, (.q (.mov (.t 1))), []⟩ :: ⟨2, (some 7), none, (.q (.bin .geq (.t 5) (.t 6))), []⟩ :: ⟨3, (some 8), none, (.q (.mov (.t 7))), []⟩ :: ⟨4, (some 9), (some (8, true)), (.q (.mov (.t 0))), []⟩ :: ⟨5, (some 10), (some (8, true)), (.q (.bin .leq (.t 9) (.k (.int .i64 1125899906842624)))), []⟩ :: hid l_amount_4
@[simp] def b_amount_5 (_ : Unit) : EB := reg0 (hid l_amount_3) 8
@[simp] def b_amount_6 (_ : Unit) : EB := .seq (hid b_amount_5) .ret
@[simp] def b_amount_7 (_ : Unit) : EB := .seq (hid b_amount_2) (hid b_amount_6)
def c_amount : EB × List QOp × Nat := ((hid b_amount_7), [(.mov (.t 4))], 12)
theorem k_amount : cfun Tryz.prog 119 = some c_amount := by kernel_rfl

@[simp] def l_Pmay_1 (_ : Unit) : List EOp := [⟨0, (some 1), none, (.q (.box 126 (.t 0))), []⟩, ⟨1, (some 2), none, (.q (.mov (.k (.bool false)))), []⟩]
@[simp] def b_Pmay_2 (_ : Unit) : EB := reg0 (hid l_Pmay_1) 2
@[simp] def l_Pmay_8 (_ : Unit) : List EOp := [⟨30, (some 33), (some (31, true)), (.q (.lda 32 (.t 32))), []⟩, ⟨31, (some 34), (some (31, true)), (.q (.build zU8 [])), []⟩, ⟨32, (some 35), (some (31, true)), (.q (.eqa true 32 .u8 (.t 33) (.t 34))), []⟩, ⟨33, (some 36), none, (.q (.pick (.t 31) (.t 35) (.k (.bool false)))), []⟩, ⟨34, (some 2), none, (.q (.mov (.t 36))), []⟩]
@[simp] def l_Pmay_7 (_ : Unit) : List EOp := ⟨24, (some 27), (some (26, true)), (.q (.fad 3 (.t 1))), []⟩ :: ⟨25, (some 28), (some (26, true)), (.q (.ldc (.t 27))), []⟩ :: ⟨26, (some 29), (some (26, true)), (.q (.bin .leq (.t 28) (.k (.int .i64 1099511627776)))), []⟩ :: ⟨27, (some 30), none, (.q (.pick (.t 26) (.t 29) (.k (.bool false)))), []⟩ :: ⟨28, (some 31), none, (.q (.mov (.t 30))), []⟩ :: ⟨29, (some 32), (some (31, true)), (.q (.fad 4 (.t 1))), []⟩ :: hid l_Pmay_8
@[simp] def l_Pmay_6 (_ : Unit) : List EOp := ⟨18, (some 21), none, (.q (.mov (.t 20))), []⟩ :: ⟨19, (some 22), (some (21, true)), (.q (.fad 3 (.t 1))), []⟩ :: ⟨20, (some 23), (some (21, true)), (.q (.ldc (.t 22))), []⟩ :: ⟨21, (some 24), (some (21, true)), (.q (.bin .geq (.t 23) (.k (.int .i64 0)))), []⟩ :: ⟨22, (some 25), none, (.q (.pick (.t 21) (.t 24) (.k (.bool false)))), []⟩ :: ⟨23, (some 26), none, (.q (.mov (.t 25))), []⟩ :: hid l_Pmay_7
@[simp] def l_Pmay_5 (_ : Unit) : List EOp := ⟨12, (some 15), none, (.q (.pick (.t 11) (.t 14) (.k (.bool false)))), []⟩ :: ⟨13, (some 16), none, (.q (.mov (.t 15))), []⟩ :: ⟨14, (some 17), (some (16, true)), (.q (.fad 2 (.t 1))), []⟩ :: ⟨15, (some 18), (some (16, true)), (.q (.ldc (.t 17))), []⟩ :: ⟨16, (some 19), (some (16, true)), (.call 119 [(.t 18), (.k (.int .i64 10))]), []⟩ :: ⟨17, (some 20), none, (.q (.pick (.t 16) (.t 19) (.k (.bool false)))), []⟩ :: hid l_Pmay_6
@[simp] def l_Pmay_4 (_ : Unit) : List EOp := ⟨6, (some 9), (some (6, true)), (.q (.bin .leq (.t 8) (.k (.int .i64 4294967296)))), []⟩ :: ⟨7, (some 10), none, (.q (.pick (.t 6) (.t 9) (.k (.bool false)))), []⟩ :: ⟨8, (some 11), none, (.q (.mov (.t 10))), []⟩ :: ⟨9, (some 12), (some (11, true)), (.q (.fad 1 (.t 1))), []⟩ :: ⟨10, (some 13), (some (11, true)), (.q (.ldc (.t 12))), []⟩ :: ⟨11, (some 14), (some (11, true)), (.call 112 [(.t 13)]), []⟩ :: hid l_Pmay_5
@[simp] def l_Pmay_3 (_ : Unit) : List EOp := ⟨0, (some 3), none, (.q (.fad 0 (.t 1))), []⟩ :: ⟨1, (some 4), none, (.q (.ldc (.t 3))), []⟩ :: ⟨2, (some 5), none, (.q (.bin .geq (.t 4) (.k (.int .i64 0)))), []⟩ :: ⟨3, (some 6), none, (.q (.mov (.t 5))), []⟩ :: ⟨4, (some 7), (some (6, true)), (.q (.fad 0 (.t 1))), []⟩ :: ⟨5, (some 8), (some (6, true)), (.q (.ldc (.t 7))), []⟩ :: hid l_Pmay_4
@[simp] def b_Pmay_9 (_ : Unit) : EB := reg0 (hid l_Pmay_3) 35
@[simp] def b_Pmay_10 (_ : Unit) : EB := .seq (hid b_Pmay_9) .ret
@[simp] def b_Pmay_11 (_ : Unit) : EB := .seq (hid b_Pmay_2) (hid b_Pmay_10)
def c_Pmay : EB × List QOp × Nat := ((hid b_Pmay_11), [(.mov (.t 2))], 37)
theorem k_Pmay : cfun Tryz.prog 113 = some c_Pmay := by kernel_rfl

@[simp] def l_Hmay_1 (_ : Unit) : List EOp := [⟨0, (some 1), none, (.q (.box 128 (.t 0))), []⟩, ⟨1, (some 2), none, (.q (.mov (.k (.bool false)))), []⟩]
@[simp] def b_Hmay_2 (_ : Unit) : EB := reg0 (hid l_Hmay_1) 2
@[simp] def l_Hmay_3 (_ : Unit) : List EOp := [⟨0, (some 3), none, (.q (.mov (.k (.int .i64 (-1))))), []⟩]
@[simp] def b_Hmay_4 (_ : Unit) : EB := reg0 (hid l_Hmay_3) 1
@[simp] def l_Hmay_5 (_ : Unit) : List EOp := [⟨0, (some 6), none, (.q (.fad 2 (.t 1))), []⟩, ⟨1, (some 7), none, (.q (.ldc (.t 6))), []⟩, ⟨2, (some 8), none, (.q (.len (.t 7))), []⟩, ⟨3, (some 9), none, (.q (.mov (.k (.int .i64 0)))), []⟩]
@[simp] def b_Hmay_6 (_ : Unit) : EB := reg0 (hid l_Hmay_5) 4
@[simp] def l_Hmay_7 (_ : Unit) : List EOp := [⟨0, (some 10), none, (.q (.bin .lss (.t 9) (.t 8))), []⟩]
@[simp] def b_Hmay_8 (_ : Unit) : EB := reg0 (hid l_Hmay_7) 1
@[simp] def b_Hmay_9 (_ : Unit) : EB := .cond (.t 10) .skip (.exit 0)
@[simp] def l_Hmay_10 (_ : Unit) : List EOp := [⟨0, (some 11), none, (.q (.isl 1 (.t 7) (.t 9))), []⟩, ⟨1, (some 12), none, (.q (.ldc (.t 11))), []⟩, ⟨2, (some 5), none, (.q (.mov (.t 12))), []⟩]
@[simp] def b_Hmay_11 (_ : Unit) : EB := reg0 (hid l_Hmay_10) 3
@[simp] def l_Hmay_13 (_ : Unit) : List EOp := [⟨6, (some 19), none, (.q (.pick (.t 16) (.k (.bool true)) (.t 18))), []⟩]
@[simp] def l_Hmay_12 (_ : Unit) : List EOp := ⟨0, (some 13), none, (.q (.mov (.t 5))), []⟩ :: ⟨1, (some 14), none, (.q (.mov (.t 3))), []⟩ :: ⟨2, (some 15), none, (.q (.bin .leq (.t 13) (.t 14))), []⟩ :: ⟨3, (some 16), none, (.q (.mov (.t 15))), []⟩ :: ⟨4, (some 17), (some (16, false)), (.q (.mov (.t 5))), []⟩ :: ⟨5, (some 18), (some (16, false)), (.q (.bin .geq (.t 17) (.k (.int .i64 16)))), []⟩ :: hid l_Hmay_13
@[simp] def b_Hmay_14 (_ : Unit) : EB := reg0 (hid l_Hmay_12) 7
@[simp] def l_Hmay_15 (_ : Unit) : List EOp := [⟨0, (some 2), none, (.q (.mov (.k (.bool false)))), []⟩]
@[simp] def b_Hmay_16 (_ : Unit) : EB := reg0 (hid l_Hmay_15) 1
@[simp] def b_Hmay_17 (_ : Unit) : EB := .seq (hid b_Hmay_16) .ret
@[simp] def b_Hmay_18 (_ : Unit) : EB := .cond (.t 19) (hid b_Hmay_17) .skip
@[simp] def b_Hmay_19 (_ : Unit) : EB := .seq (hid b_Hmay_14) (hid b_Hmay_18)
@[simp] def l_Hmay_20 (_ : Unit) : List EOp := [⟨0, (some 20), none, (.q (.mov (.t 5))), []⟩, ⟨1, (some 3), none, (.q (.mov (.t 20))), []⟩]
@[simp] def b_Hmay_21 (_ : Unit) : EB := reg0 (hid l_Hmay_20) 2
@[simp] def b_Hmay_22 (_ : Unit) : EB := .seq (hid b_Hmay_19) (hid b_Hmay_21)
@[simp] def b_Hmay_23 (_ : Unit) : EB := .seq (hid b_Hmay_11) (hid b_Hmay_22)
@[simp] def b_Hmay_24 (_ : Unit) : EB := .block 1 (hid b_Hmay_23)
@[simp] def l_Hmay_25 (_ : Unit) : List EOp := [⟨0, (some 21), none, (.q (.bin .add (.t 9) (.k (.int .i64 1)))), []⟩, ⟨1, (some 9), none, (.q (.mov (.t 21))), []⟩]
@[simp] def b_Hmay_26 (_ : Unit) : EB := reg0 (hid l_Hmay_25) 2
@[simp] def b_Hmay_27 (_ : Unit) : EB := .seq (hid b_Hmay_24) (hid b_Hmay_26)
@[simp] def b_Hmay_28 (_ : Unit) : EB := .seq (hid b_Hmay_9) (hid b_Hmay_27)
@[simp] def b_Hmay_29 (_ : Unit) : EB := .seq (hid b_Hmay_8) (hid b_Hmay_28)
@[simp] def b_Hmay_30 (_ : Unit) : EB := .loop (hid b_Hmay_29)
@[simp] def b_Hmay_31 (_ : Unit) : EB := .block 0 (hid b_Hmay_30)
@[simp] def b_Hmay_32 (_ : Unit) : EB := .seq (hid b_Hmay_6) (hid b_Hmay_31)
@[simp] def l_Hmay_36 (_ : Unit) : List EOp := [⟨18, (some 40), none, (.q (.pick (.t 35) (.t 39) (.k (.bool false)))), []⟩, ⟨19, (some 2), none, (.q (.mov (.t 40))), []⟩]
@[simp] def l_Hmay_35 (_ : Unit) : List EOp := ⟨12, (some 34), none, (.q (.pick (.t 30) (.t 33) (.k (.bool false)))), []⟩ :: ⟨13, (some 35), none, (.q (.mov (.t 34))), []⟩ :: ⟨14, (some 36), (some (35, true)), (.q (.fad 2 (.t 1))), []⟩ :: ⟨15, (some 37), (some (35, true)), (.q (.ldc (.t 36))), []⟩ :: ⟨16, (some 38), (some (35, true)), (.q (.len (.t 37))), []⟩ :: ⟨17, (some 39), (some (35, true)), (.q (.bin .geq (.t 38) (.k (.int .i64 1)))), []⟩ :: hid l_Hmay_36
@[simp] def l_Hmay_34 (_ : Unit) : List EOp := ⟨6, (some 28), (some (25, true)), (.q (.bin .leq (.t 27) (.k (.int .i64 4294967296)))), []⟩ :: ⟨7, (some 29), none, (.q (.pick (.t 25) (.t 28) (.k (.bool false)))), []⟩ :: ⟨8, (some 30), none, (.q (.mov (.t 29))), []⟩ :: ⟨9, (some 31), (some (30, true)), (.q (.fad 1 (.t 1))), []⟩ :: ⟨10, (some 32), (some (30, true)), (.q (.ldc (.t 31))), []⟩ :: ⟨11, (some 33), (some (30, true)), (.call 119 [(.t 32), (.k (.int .i64 10))]), []⟩ :: hid l_Hmay_35
@[simp] def l_Hmay_33 (_ : Unit) : List EOp := ⟨0, (some 22), none, (.q (.fad 0 (.t 1))), []⟩ :: ⟨1, (some 23), none, (.q (.ldc (.t 22))), []⟩ :: ⟨2, (some 24), none, (.q (.bin .geq (.t 23) (.k (.int .i64 0)))), []⟩ :: ⟨3, (some 25), none, (.q (.mov (.t 24))), []⟩ :: ⟨4, (some 26), (some (25, true)), (.q (.fad 0 (.t 1))), []⟩ :: ⟨5, (some 27), (some (25, true)), (.q (.ldc (.t 26))), []⟩ :: hid l_Hmay_34
@[simp] def b_Hmay_37 (_ : Unit) : EB := reg0 (hid l_Hmay_33) 20
@[simp] def b_Hmay_38 (_ : Unit) : EB := .seq (hid b_Hmay_37) .ret
@[simp] def b_Hmay_39 (_ : Unit) : EB := .seq (hid b_Hmay_32) (hid b_Hmay_38)
@[simp] def b_Hmay_40 (_ : Unit) : EB := .seq (hid b_Hmay_4) (hid b_Hmay_39)
@[simp] def b_Hmay_41 (_ : Unit) : EB := .seq (hid b_Hmay_2) (hid b_Hmay_40)
def c_Hmay : EB × List QOp × Nat := ((hid b_Hmay_41), [(.mov (.t 2))], 41)
theorem k_Hmay : cfun Tryz.prog 120 = some c_Hmay := by kernel_rfl


/-! ### payments, holds, states: plain -/
structure Pay where
  id : Int
  fr : Int
  am : Int
  af : Int
  lock : List UInt8
structure Hol where
  id : Int
  am : Int
  keys : List Int
structure Sta where
  num : Int
  h0 : Int
  h1 : Int
  pays : List Pay
  holds : List Hol
def i64 (n : Int) : Prop := -9223372036854775808 ≤ n ∧ n ≤ 9223372036854775807
def Pay.ok (p : Pay) : Prop := i64 p.id ∧ i64 p.fr ∧ i64 p.am ∧ i64 p.af ∧ p.lock.length = 32
def Hol.ok (h : Hol) : Prop := i64 h.id ∧ i64 h.am ∧ (∀ k ∈ h.keys, i64 k) ∧ h.keys.length ≤ 100000000
def Sta.ok (s : Sta) : Prop := i64 s.num ∧ i64 s.h0 ∧ i64 s.h1 ∧ (∀ p ∈ s.pays, p.ok) ∧ (∀ h ∈ s.holds, h.ok) ∧ s.pays.length ≤ 100000000 ∧ s.holds.length ≤ 100000000
def payF (p : Pay) : List FV := .lit (.int .i64 p.id) :: .lit (.int .i64 p.fr) :: .lit (.int .i64 p.am) :: .lit (.int .i64 p.af) :: hf p.lock
def intv (l : List Int) : List (List FV) := l.map fun k => [.lit (.int .i64 k)]
def holF (h : Hol) : List FV := [.lit (.int .i64 h.id), .lit (.int .i64 h.am), .sl 1 (intv h.keys)]
def payv (l : List Pay) : List (List FV) := l.map payF
def holv (l : List Hol) : List (List FV) := l.map holF
@[simp] theorem payv_len (l : List Pay) : (payv l).length = l.length := by simp [payv]
@[simp] theorem holv_len (l : List Hol) : (holv l).length = l.length := by simp [holv]
theorem payv_get {l : List Pay} {i : Nat} {p : Pay} (h : l[i]? = some p) : (payv l)[i]? = some (payF p) := by simp [payv, h]
theorem holv_get {l : List Hol} {i : Nat} {p : Hol} (h : l[i]? = some p) : (holv l)[i]? = some (holF p) := by simp [holv, h]
def payC (p : Pay) : List EC := .fz (.lit (.int .i64 p.id)) :: .fz (.lit (.int .i64 p.fr)) :: .fz (.lit (.int .i64 p.am)) :: .fz (.lit (.int .i64 p.af)) :: hc p.lock
def holC (h : Hol) : List EC := [.fz (.lit (.int .i64 h.id)), .fz (.lit (.int .i64 h.am)), .fz (.sl 1 (intv h.keys))]
def staC (s : Sta) : List EC := [.fz (.lit (.int .i64 s.num)), .fz (.lit (.int .i64 s.h0)), .fz (.lit (.int .i64 s.h1)), .fz (.sl 36 (payv s.pays)), .fz (.sl 3 (holv s.holds))]
def SV (s : Sta) : EV := .v (.agg (staC s))
theorem payF_len {p : Pay} (h : p.lock.length = 32) : (payF p).length = 36 := by simp [payF, h]
theorem payF_fz (p : Pay) : (payF p).map EC.fz = payC p := by simp [payF, payC]
theorem payC_len {p : Pay} (h : p.lock.length = 32) : (payC p).length = 36 := by simp [payC, h]
theorem payC_take {p : Pay} (h : p.lock.length = 32) : (payC p).take 36 = payC p := List.take_of_length_le (by rw [payC_len h]; omega)
theorem hc_t32 {l : List UInt8} (h : l.length = 32) : (hc l).take 32 = hc l := List.take_of_length_le (by rw [hc_len, h]; omega)
@[simp] theorem intv_len (l : List Int) : (intv l).length = l.length := by simp [intv]

/-! ### what may be -/
def mayP (p : Pay) : Bool := decide (0 ≤ p.id ∧ p.id ≤ 4294967296 ∧ (p.fr = 0 ∨ p.fr = 1) ∧ 10 ≤ p.am ∧ p.am ≤ 1125899906842624 ∧ 0 ≤ p.af ∧ p.af ≤ 1099511627776 ∧ p.lock ≠ hz)
def keysS : Int → List Int → Bool
  | _, [] => true
  | last, k :: r => decide (last < k ∧ k < 16) && keysS k r
def mayH (h : Hol) : Bool := keysS (-1) h.keys && decide (0 ≤ h.id ∧ h.id ≤ 4294967296 ∧ 10 ≤ h.am ∧ h.am ≤ 1125899906842624 ∧ 1 ≤ h.keys.length)
def aft (o : Option Int) (n : Int) : Bool := match o with
  | none => true
  | some q => decide (q < n)
def payL : Option Int → List Pay → Bool
  | _, [] => true
  | o, p :: r => mayP p && aft o p.id && payL (some p.id) r
def holL : Option Int → List Hol → Bool
  | _, [] => true
  | o, h :: r => mayH h && aft o h.id && holL (some h.id) r
def sumP (l : List Pay) : Int := (l.map (·.am)).sum
def sumH (l : List Hol) : Int := (l.map (·.am)).sum
def total (s : Sta) : Int := s.h0 + s.h1 + sumP s.pays + sumH s.holds
def mayS (s : Sta) : Bool := decide (0 ≤ s.num ∧ s.num ≤ 1099511627776 ∧ 0 ≤ s.h0 ∧ s.h0 ≤ 1125899906842624 ∧ 0 ≤ s.h1 ∧ s.h1 ≤ 1125899906842624 ∧ s.pays.length ≤ 8 ∧ s.holds.length + s.pays.length ≤ 8) && payL none s.pays && holL none s.holds && decide (total s ≤ 1125899906842624)

theorem side_ok (n : Int) : ECalls Tryz.prog 112 [I .i64 n] [] fun y H' => H' = [] ∧ y = .lit (.bool (decide (n = 0 ∨ n = 1))) := by
  refine ecalls k_side ?_
  simp [c_side, I]
  by_cases h : n = 0
  · simp [h]
    exact fin [] (by decide) rfl rfl rfl ⟨rfl, rfl⟩
  · simp [h]
    exact fin [] (by decide) rfl rfl rfl ⟨rfl, rfl⟩

theorem amount_ok (n least : Int) : ECalls Tryz.prog 119 [I .i64 n, I .i64 least] [] fun y H' => H' = [] ∧ y = .lit (.bool (decide (least ≤ n ∧ n ≤ 1125899906842624))) := by
  refine ecalls k_amount ?_
  simp [c_amount, I]
  by_cases h : least ≤ n
  · simp [h]
    exact fin [] (by decide) rfl rfl rfl ⟨rfl, rfl⟩
  · simp [h]
    exact fin [] (by decide) rfl rfl rfl ⟨rfl, rfl⟩

set_option maxHeartbeats 1000000 in
theorem Pmay_ok (p : Pay) (hp : p.lock.length = 32) : ECalls Tryz.prog 113 [.v (.agg (payC p))] [] fun y H' => H' = [] ∧ y = .lit (.bool (mayP p)) := by
  have ht : p.lock.take 32 = p.lock := List.take_of_length_le (by omega)
  refine ecalls k_Pmay ?_
  simp [c_Pmay, payC, I, ht]
  refine alt (fun h1 => ?_) (fun h1 => ?_)
  rotate_left
  · (first | simp [I, EV.lit, h1, Int.not_le.2 h1] | simp [I, EV.lit, h1, Int.not_lt.2 h1] | simp [I, EV.lit, h1, Int.not_lt.1 h1] | simp [I, EV.lit, h1, Int.not_le.1 h1] | simp [I, EV.lit, h1])
    exact fin [] (by decide) rfl rfl rfl ⟨rfl, by rw [show mayP p = false from decide_eq_false (by omega)]⟩
  (first | simp [I, EV.lit, h1, Int.not_le.2 h1] | simp [I, EV.lit, h1, Int.not_lt.2 h1] | simp [I, EV.lit, h1, Int.not_lt.1 h1] | simp [I, EV.lit, h1, Int.not_le.1 h1] | simp [I, EV.lit, h1])
  refine alt (fun h2 => ?_) (fun h2 => ?_)
  rotate_left
  · (first | simp [I, EV.lit, h2, Int.not_le.2 h2] | simp [I, EV.lit, h2, Int.not_lt.2 h2] | simp [I, EV.lit, h2, Int.not_lt.1 h2] | simp [I, EV.lit, h2, Int.not_le.1 h2] | simp [I, EV.lit, h2])
    exact fin [] (by decide) rfl rfl rfl ⟨rfl, by rw [show mayP p = false from decide_eq_false (by omega)]⟩
  (first | simp [I, EV.lit, h2, Int.not_le.2 h2] | simp [I, EV.lit, h2, Int.not_lt.2 h2] | simp [I, EV.lit, h2, Int.not_lt.1 h2] | simp [I, EV.lit, h2, Int.not_le.1 h2] | simp [I, EV.lit, h2])
  refine call0 (side_ok p.fr) (by simp [I, EV.lit]) ?_
  rintro y H' ⟨rfl, rfl⟩
  refine ⟨.inl (by simp [I, EV.lit]), le_ok rfl, ?_⟩
  simp [EV.lit]
  refine alt (fun h3 => ?_) (fun h3 => ?_)
  rotate_left
  · (first | simp [I, EV.lit, h3, Int.not_le.2 h3] | simp [I, EV.lit, h3, Int.not_lt.2 h3] | simp [I, EV.lit, h3, Int.not_lt.1 h3] | simp [I, EV.lit, h3, Int.not_le.1 h3] | simp [I, EV.lit, h3])
    exact fin [] (by decide) rfl rfl rfl ⟨rfl, by rw [show mayP p = false from decide_eq_false (by omega)]⟩
  (first | simp [I, EV.lit, h3, Int.not_le.2 h3] | simp [I, EV.lit, h3, Int.not_lt.2 h3] | simp [I, EV.lit, h3, Int.not_lt.1 h3] | simp [I, EV.lit, h3, Int.not_le.1 h3] | simp [I, EV.lit, h3])
  refine call0 (amount_ok p.am 10) (by simp [I, EV.lit]) ?_
  rintro y H' ⟨rfl, rfl⟩
  refine ⟨.inl (by simp [I, EV.lit]), le_ok rfl, ?_⟩
  simp [EV.lit]
  refine alt (fun h4 => ?_) (fun h4 => ?_)
  rotate_left
  · (first | simp [I, EV.lit, h4, Int.not_le.2 h4] | simp [I, EV.lit, h4, Int.not_lt.2 h4] | simp [I, EV.lit, h4, Int.not_lt.1 h4] | simp [I, EV.lit, h4, Int.not_le.1 h4] | simp [I, EV.lit, h4])
    exact fin [] (by decide) rfl rfl rfl ⟨rfl, by rw [show mayP p = false from decide_eq_false (by omega)]⟩
  (first | simp [I, EV.lit, h4, Int.not_le.2 h4] | simp [I, EV.lit, h4, Int.not_lt.2 h4] | simp [I, EV.lit, h4, Int.not_lt.1 h4] | simp [I, EV.lit, h4, Int.not_le.1 h4] | simp [I, EV.lit, h4])
  refine alt (fun h5 => ?_) (fun h5 => ?_)
  rotate_left
  · (first | simp [I, EV.lit, h5, Int.not_le.2 h5] | simp [I, EV.lit, h5, Int.not_lt.2 h5] | simp [I, EV.lit, h5, Int.not_lt.1 h5] | simp [I, EV.lit, h5, Int.not_le.1 h5] | simp [I, EV.lit, h5])
    exact fin [] (by decide) rfl rfl rfl ⟨rfl, by rw [show mayP p = false from decide_eq_false (by omega)]⟩
  (first | simp [I, EV.lit, h5, Int.not_le.2 h5] | simp [I, EV.lit, h5, Int.not_lt.2 h5] | simp [I, EV.lit, h5, Int.not_lt.1 h5] | simp [I, EV.lit, h5, Int.not_le.1 h5] | simp [I, EV.lit, h5])
  refine alt (fun h6 => ?_) (fun h6 => ?_)
  rotate_left
  · (first | simp [I, EV.lit, h6, Int.not_le.2 h6] | simp [I, EV.lit, h6, Int.not_lt.2 h6] | simp [I, EV.lit, h6, Int.not_lt.1 h6] | simp [I, EV.lit, h6, Int.not_le.1 h6] | simp [I, EV.lit, h6])
    exact fin [] (by decide) rfl rfl rfl ⟨rfl, by rw [show mayP p = false from decide_eq_false (by omega)]⟩
  (first | simp [I, EV.lit, h6, Int.not_le.2 h6] | simp [I, EV.lit, h6, Int.not_lt.2 h6] | simp [I, EV.lit, h6, Int.not_lt.1 h6] | simp [I, EV.lit, h6, Int.not_le.1 h6] | simp [I, EV.lit, h6])
  refine alt (fun h7 => ?_) (fun h7 => ?_)
  rotate_left
  · simp [h7]
    exact fin [] (by decide) rfl rfl rfl ⟨rfl, by rw [show mayP p = false from decide_eq_false (by omega)]⟩
  simp [h7, hp, ht]
  have hm : mayP p = !decide (p.lock = hz) := by
    by_cases e : p.lock = hz
    · rw [show mayP p = false from decide_eq_false (fun h => h.2.2.2.2.2.2.2 e)]; simp [e]
    · rw [show mayP p = true from decide_eq_true ⟨by omega, by omega, by omega, by omega, by omega, by omega, by omega, e⟩]; simp [e]
  exact fin [] (by decide) rfl rfl rfl ⟨rfl, by rw [hm]⟩

theorem mayH_f {h : Hol} (q : ¬ (0 ≤ h.id ∧ h.id ≤ 4294967296 ∧ 10 ≤ h.am ∧ h.am ≤ 1125899906842624 ∧ 1 ≤ h.keys.length)) : mayH h = false := by simp only [mayH, decide_eq_false q, Bool.and_false]
theorem intv_get {l : List Int} {i : Nat} {k : Int} (h : l[i]? = some k) : (intv l)[i]? = some [.lit (.int .i64 k)] := by simp [intv, h]
def IL (l : List Int) : EV := .v (.c (.fz (.sl 1 (intv l))))

set_option maxHeartbeats 1000000 in
theorem Hmay_ok (h : Hol) (hk : h.keys.length ≤ 100000000) : ECalls Tryz.prog 120 [.v (.agg (holC h))] [] fun y H' => H' = [] ∧ y = .lit (.bool (mayH h)) := by
  refine ecalls k_Hmay ?_
  simp [c_Hmay, holC]
  refine eloop (α := Nat × Int) (fun a => a.1 ≤ h.keys.length ∧ keysS (-1) h.keys = keysS a.2 (h.keys.drop a.1)) (fun a => h.keys.length - a.1)
    (fun a => [.any, Ptr 0, .any, I .i64 a.2, .any, .any, .any, IL h.keys, I .i64 h.keys.length, I .i64 a.1, .any, .any, .any, .any, .any, .any, .any, .any, .any, .any, .any, .any, .any, .any, .any, .any, .any, .any, .any, .any, .any, .any, .any, .any, .any, .any, .any, .any, .any, .any, .any]) (fun a => [some (.box 128 (holC h))]) (0, -1) [0]
    ⟨by simp, by simp⟩ (by simp [Ptr, I, IL]) (by simp [holC]) (by simp) (by simp) (by simp) ?_
  rintro ⟨i, last⟩ ⟨hi1, hi2⟩
  simp [Ptr, I, IL, holC] at hi1 hi2 ⊢
  refine alt (fun hlt => ?_) (fun hlt => ?_)
  · obtain ⟨k, hc⟩ : ∃ k, h.keys[i]? = some k := ⟨h.keys[i], by simp [hlt]⟩
    have hcb := intv_get hc
    rw [drop_cons hc] at hi2
    have w1 : IntKind.i64.wrap ((i : Int) + 1) = ((i + 1 : Nat) : Int) := wrap_i64 (by omega) (by omega)
    have hbad : ¬ (last < k ∧ k < 16) → mayH h = false := fun q => by simp only [mayH, hi2, keysS, decide_eq_false q, Bool.false_and]
    have hgood : last < k → k < 16 → keysS (-1) h.keys = keysS k (h.keys.drop (i + 1)) := fun q1 q2 => by rw [hi2, keysS, decide_eq_true ⟨q1, q2⟩, Bool.true_and]
    simp [hcb]
    refine alt (fun c1 => ?_) (fun c1 => ?_)
    rotate_left
    · (first | simp [I, EV.lit, c1, Int.not_le.2 c1] | simp [I, EV.lit, c1, Int.not_lt.2 c1] | simp [I, EV.lit, c1, Int.not_lt.1 c1] | simp [I, EV.lit, c1, Int.not_le.1 c1] | simp [I, EV.lit, c1])
      exact fin [] (by decide) rfl rfl rfl ⟨rfl, by rw [hbad (by omega)]⟩
    (first | simp [I, EV.lit, c1, Int.not_le.2 c1] | simp [I, EV.lit, c1, Int.not_lt.2 c1] | simp [I, EV.lit, c1, Int.not_lt.1 c1] | simp [I, EV.lit, c1, Int.not_le.1 c1] | simp [I, EV.lit, c1])
    refine alt (fun c2 => ?_) (fun c2 => ?_)
    · (first | simp [I, EV.lit, c2, Int.not_le.2 c2] | simp [I, EV.lit, c2, Int.not_lt.2 c2] | simp [I, EV.lit, c2, Int.not_lt.1 c2] | simp [I, EV.lit, c2, Int.not_le.1 c2] | simp [I, EV.lit, c2])
      exact fin [] (by decide) rfl rfl rfl ⟨rfl, by rw [hbad (by omega)]⟩
    (first | simp [I, EV.lit, c2, Int.not_le.2 c2, w1, -Int.natCast_add] | simp [I, EV.lit, c2, Int.not_lt.2 c2, w1, -Int.natCast_add] | simp [I, EV.lit, c2, Int.not_lt.1 c2, w1, -Int.natCast_add] | simp [I, EV.lit, c2, Int.not_le.1 c2, w1, -Int.natCast_add] | simp [I, EV.lit, c2, w1, -Int.natCast_add])
    exact round (i + 1, k) [0] ⟨by omega, hgood (by omega) (by omega)⟩ (by simp; omega) (by simp) (by simp) (by simp) (by simp) (by simp)
  · have hd : h.keys.drop i = [] := by rw [List.drop_eq_nil_iff]; omega
    have hks : keysS (-1) h.keys = true := by rw [hi2, hd]; rfl
    simp
    refine alt (fun c1 => ?_) (fun c1 => ?_)
    rotate_left
    · (first | simp [I, EV.lit, c1, Int.not_le.2 c1] | simp [I, EV.lit, c1, Int.not_lt.2 c1] | simp [I, EV.lit, c1, Int.not_lt.1 c1] | simp [I, EV.lit, c1, Int.not_le.1 c1] | simp [I, EV.lit, c1])
      exact fin [] (by decide) rfl rfl rfl ⟨rfl, by rw [mayH_f (by omega)]⟩
    (first | simp [I, EV.lit, c1, Int.not_le.2 c1] | simp [I, EV.lit, c1, Int.not_lt.2 c1] | simp [I, EV.lit, c1, Int.not_lt.1 c1] | simp [I, EV.lit, c1, Int.not_le.1 c1] | simp [I, EV.lit, c1])
    refine alt (fun c2 => ?_) (fun c2 => ?_)
    rotate_left
    · (first | simp [I, EV.lit, c2, Int.not_le.2 c2] | simp [I, EV.lit, c2, Int.not_lt.2 c2] | simp [I, EV.lit, c2, Int.not_lt.1 c2] | simp [I, EV.lit, c2, Int.not_le.1 c2] | simp [I, EV.lit, c2])
      exact fin [] (by decide) rfl rfl rfl ⟨rfl, by rw [mayH_f (by omega)]⟩
    (first | simp [I, EV.lit, c2, Int.not_le.2 c2] | simp [I, EV.lit, c2, Int.not_lt.2 c2] | simp [I, EV.lit, c2, Int.not_lt.1 c2] | simp [I, EV.lit, c2, Int.not_le.1 c2] | simp [I, EV.lit, c2])
    refine call0 (amount_ok h.am 10) (by simp [I, EV.lit]) ?_
    rintro y H' ⟨rfl, rfl⟩
    refine ⟨.inl (by simp [I, EV.lit]), le_ok rfl, ?_⟩
    simp [EV.lit]
    refine alt (fun c3 => ?_) (fun c3 => ?_)
    rotate_left
    · (first | simp [I, EV.lit, c3, Int.not_le.2 c3] | simp [I, EV.lit, c3, Int.not_lt.2 c3] | simp [I, EV.lit, c3, Int.not_lt.1 c3] | simp [I, EV.lit, c3, Int.not_le.1 c3] | simp [I, EV.lit, c3])
      exact fin [] (by decide) rfl rfl rfl ⟨rfl, by rw [mayH_f (by omega)]⟩
    (first | simp [I, EV.lit, c3, Int.not_le.2 c3] | simp [I, EV.lit, c3, Int.not_lt.2 c3] | simp [I, EV.lit, c3, Int.not_lt.1 c3] | simp [I, EV.lit, c3, Int.not_le.1 c3] | simp [I, EV.lit, c3])
    by_cases q : 1 ≤ h.keys.length
    · have hm : mayH h = true := by
        simp only [mayH, hks, Bool.true_and]
        exact decide_eq_true ⟨by omega, by omega, by omega, by omega, q⟩
      exact fin [] (by decide) rfl rfl rfl ⟨rfl, litB (by rw [hm]; exact decide_eq_true (by omega))⟩
    · exact fin [] (by decide) rfl rfl rfl ⟨rfl, litB (by rw [mayH_f (by omega)]; exact decide_eq_false (by omega))⟩

end Go.Proofs.YtflcfdeanneoeaaGreatDoor

namespace Go.Proofs.YtflcfdeanneoeaaGreatDoor
open Go Go.EW
set_option linter.unusedSimpArgs false
set_option linter.unusedVariables false

@[simp] def l_Smay_1 (_ : Unit) : List EOp := [⟨0, (some 1), none, (.q (.box 47 (.t 0))), []⟩, ⟨1, (some 2), none, (.q (.mov (.k (.bool false)))), []⟩]
@[simp] def b_Smay_2 (_ : Unit) : EB := reg0 (hid l_Smay_1) 2
@[simp] def l_Smay_9 (_ : Unit) : List EOp := [⟨36, (some 44), (some (36, false)), (.q (.bin .gtr (.t 39) (.t 43))), []⟩, ⟨37, (some 45), none, (.q (.pick (.t 36) (.k (.bool true)) (.t 44))), []⟩]
@[simp] def l_Smay_8 (_ : Unit) : List EOp := ⟨30, (some 38), (some (36, false)), (.q (.ldc (.t 37))), []⟩ :: ⟨31, (some 39), (some (36, false)), (.q (.len (.t 38))), []⟩ :: ⟨32, (some 40), (some (36, false)), (.q (.fad 3 (.t 1))), []⟩ :: ⟨33, (some 41), (some (36, false)), (.q (.ldc (.t 40))), []⟩ :: ⟨34, (some 42), (some (36, false)), (.q (.len (.t 41))), []⟩ :: ⟨35, (some 43), (some (36, false)), (.q (.bin .sub (.k (.int .i64 8)) (.t 42))), []⟩ :: hid l_Smay_9
@[simp] def l_Smay_7 (_ : Unit) : List EOp := ⟨24, (some 32), (some (30, false)), (.q (.ldc (.t 31))), []⟩ :: ⟨25, (some 33), (some (30, false)), (.q (.len (.t 32))), []⟩ :: ⟨26, (some 34), (some (30, false)), (.q (.bin .gtr (.t 33) (.k (.int .i64 8)))), []⟩ :: ⟨27, (some 35), none, (.q (.pick (.t 30) (.k (.bool true)) (.t 34))), []⟩ :: ⟨28, (some 36), none, (.q (.mov (.t 35))), []⟩ :: ⟨29, (some 37), (some (36, false)), (.q (.fad 4 (.t 1))), []⟩ :: hid l_Smay_8
@[simp] def l_Smay_6 (_ : Unit) : List EOp := ⟨18, (some 26), (some (23, false)), (.q (.ldc (.t 25))), []⟩ :: ⟨19, (some 27), (some (23, false)), (.call 119 [(.t 26), (.k (.int .i64 0))]), []⟩ :: ⟨20, (some 28), (some (23, false)), (.q (.un .not (.t 27))), []⟩ :: ⟨21, (some 29), none, (.q (.pick (.t 23) (.k (.bool true)) (.t 28))), []⟩ :: ⟨22, (some 30), none, (.q (.mov (.t 29))), []⟩ :: ⟨23, (some 31), (some (30, false)), (.q (.fad 3 (.t 1))), []⟩ :: hid l_Smay_7
@[simp] def l_Smay_5 (_ : Unit) : List EOp := ⟨12, (some 20), (some (16, false)), (.call 119 [(.t 19), (.k (.int .i64 0))]), []⟩ :: ⟨13, (some 21), (some (16, false)), (.q (.un .not (.t 20))), []⟩ :: ⟨14, (some 22), none, (.q (.pick (.t 16) (.k (.bool true)) (.t 21))), []⟩ :: ⟨15, (some 23), none, (.q (.mov (.t 22))), []⟩ :: ⟨16, (some 24), (some (23, false)), (.q (.fad 1 (.t 1))), []⟩ :: ⟨17, (some 25), (some (23, false)), (.q (.iad 2 1 (.t 24) (.k (.int .i64 1)))), []⟩ :: hid l_Smay_6
@[simp] def l_Smay_4 (_ : Unit) : List EOp := ⟨6, (some 14), (some (11, false)), (.q (.bin .gtr (.t 13) (.k (.int .i64 1099511627776)))), []⟩ :: ⟨7, (some 15), none, (.q (.pick (.t 11) (.k (.bool true)) (.t 14))), []⟩ :: ⟨8, (some 16), none, (.q (.mov (.t 15))), []⟩ :: ⟨9, (some 17), (some (16, false)), (.q (.fad 1 (.t 1))), []⟩ :: ⟨10, (some 18), (some (16, false)), (.q (.iad 2 1 (.t 17) (.k (.int .i64 0)))), []⟩ :: ⟨11, (some 19), (some (16, false)), (.q (.ldc (.t 18))), []⟩ :: hid l_Smay_5
@[simp] def l_Smay_3 (_ : Unit) : List EOp := ⟨0, (some 8), none, (.q (.fad 0 (.t 1))), []⟩ :: ⟨1, (some 9), none, (.q (.ldc (.t 8))), []⟩ :: ⟨2, (some 10), none, (.q (.bin .lss (.t 9) (.k (.int .i64 0)))), []⟩ :: ⟨3, (some 11), none, (.q (.mov (.t 10))), []⟩ :: ⟨4, (some 12), (some (11, false)), (.q (.fad 0 (.t 1))), []⟩ :: ⟨5, (some 13), (some (11, false)), (.q (.ldc (.t 12))), []⟩ :: hid l_Smay_4
@[simp] def b_Smay_10 (_ : Unit) : EB := reg0 (hid l_Smay_3) 38
@[simp] def l_Smay_11 (_ : Unit) : List EOp := [⟨0, (some 2), none, (.q (.mov (.k (.bool false)))), []⟩]
@[simp] def b_Smay_12 (_ : Unit) : EB := reg0 (hid l_Smay_11) 1
@[simp] def b_Smay_13 (_ : Unit) : EB := .seq (hid b_Smay_12) .ret
@[simp] def b_Smay_14 (_ : Unit) : EB := .cond (.t 45) (hid b_Smay_13) .skip
@[simp] def b_Smay_15 (_ : Unit) : EB := .seq (hid b_Smay_10) (hid b_Smay_14)
@[simp] def l_Smay_17 (_ : Unit) : List EOp := [⟨6, (some 52), none, (.q (.bin .add (.t 48) (.t 51))), []⟩, ⟨7, (some 3), none, (.q (.mov (.t 52))), []⟩]
@[simp] def l_Smay_16 (_ : Unit) : List EOp := ⟨0, (some 46), none, (.q (.fad 1 (.t 1))), []⟩ :: ⟨1, (some 47), none, (.q (.iad 2 1 (.t 46) (.k (.int .i64 0)))), []⟩ :: ⟨2, (some 48), none, (.q (.ldc (.t 47))), []⟩ :: ⟨3, (some 49), none, (.q (.fad 1 (.t 1))), []⟩ :: ⟨4, (some 50), none, (.q (.iad 2 1 (.t 49) (.k (.int .i64 1)))), []⟩ :: ⟨5, (some 51), none, (.q (.ldc (.t 50))), []⟩ :: hid l_Smay_17
@[simp] def b_Smay_18 (_ : Unit) : EB := reg0 (hid l_Smay_16) 8
@[simp] def l_Smay_19 (_ : Unit) : List EOp := [⟨0, (some 53), none, (.q (.fad 3 (.t 1))), []⟩, ⟨1, (some 54), none, (.q (.ldc (.t 53))), []⟩, ⟨2, (some 55), none, (.q (.len (.t 54))), []⟩, ⟨3, (some 56), none, (.q (.mov (.k (.int .i64 0)))), []⟩]
@[simp] def b_Smay_20 (_ : Unit) : EB := reg0 (hid l_Smay_19) 4
@[simp] def l_Smay_21 (_ : Unit) : List EOp := [⟨0, (some 57), none, (.q (.bin .lss (.t 56) (.t 55))), []⟩]
@[simp] def b_Smay_22 (_ : Unit) : EB := reg0 (hid l_Smay_21) 1
@[simp] def b_Smay_23 (_ : Unit) : EB := .cond (.t 57) .skip (.exit 0)
@[simp] def l_Smay_24 (_ : Unit) : List EOp := [⟨0, (some 58), none, (.q (.mov (.t 56))), []⟩, ⟨1, (some 59), none, (.q (.isl 36 (.t 54) (.t 56))), []⟩, ⟨2, (some 60), none, (.q (.lda 36 (.t 59))), []⟩, ⟨3, (some 5), none, (.q (.alloc 126 (([(.int .i64 0), (.int .i64 0), (.int .i64 0), (.int .i64 0)] : List Value) ++ zU8))), []⟩, ⟨4, (some 4), none, (.q (.mov (.t 58))), []⟩, ⟨5, none, none, (.sto 36 (.t 5) (.t 60)), []⟩]
@[simp] def b_Smay_25 (_ : Unit) : EB := reg0 (hid l_Smay_24) 6
@[simp] def l_Smay_29 (_ : Unit) : List EOp := [⟨18, (some 79), none, (.q (.pick (.t 64) (.k (.bool true)) (.t 78))), []⟩]
@[simp] def l_Smay_28 (_ : Unit) : List EOp := ⟨12, (some 73), (some (67, true)), (.q (.fad 0 (.t 72))), []⟩ :: ⟨13, (some 74), (some (67, true)), (.q (.ldc (.t 73))), []⟩ :: ⟨14, (some 75), (some (67, true)), (.q (.fad 0 (.t 5))), []⟩ :: ⟨15, (some 76), (some (67, true)), (.q (.ldc (.t 75))), []⟩ :: ⟨16, (some 77), (some (67, true)), (.q (.bin .geq (.t 74) (.t 76))), []⟩ :: ⟨17, (some 78), (some (64, false)), (.q (.pick (.t 67) (.t 77) (.k (.bool false)))), []⟩ :: hid l_Smay_29
@[simp] def l_Smay_27 (_ : Unit) : List EOp := ⟨6, (some 67), (some (64, false)), (.q (.mov (.t 66))), []⟩ :: ⟨7, (some 68), (some (67, true)), (.q (.fad 3 (.t 1))), []⟩ :: ⟨8, (some 69), (some (67, true)), (.q (.ldc (.t 68))), []⟩ :: ⟨9, (some 70), (some (67, true)), (.q (.mov (.t 4))), []⟩ :: ⟨10, (some 71), (some (67, true)), (.q (.bin .sub (.t 70) (.k (.int .i64 1)))), []⟩ :: ⟨11, (some 72), (some (67, true)), (.q (.isl 36 (.t 69) (.t 71))), []⟩ :: hid l_Smay_28
@[simp] def l_Smay_26 (_ : Unit) : List EOp := ⟨0, (some 61), none, (.q (.lda 36 (.t 5))), []⟩ :: ⟨1, (some 62), none, (.call 113 [(.t 61)]), []⟩ :: ⟨2, (some 63), none, (.q (.un .not (.t 62))), []⟩ :: ⟨3, (some 64), none, (.q (.mov (.t 63))), []⟩ :: ⟨4, (some 65), (some (64, false)), (.q (.mov (.t 4))), []⟩ :: ⟨5, (some 66), (some (64, false)), (.q (.bin .gtr (.t 65) (.k (.int .i64 0)))), []⟩ :: hid l_Smay_27
@[simp] def b_Smay_30 (_ : Unit) : EB := reg0 (hid l_Smay_26) 19
@[simp] def l_Smay_31 (_ : Unit) : List EOp := [⟨0, (some 2), none, (.q (.mov (.k (.bool false)))), []⟩]
@[simp] def b_Smay_32 (_ : Unit) : EB := reg0 (hid l_Smay_31) 1
@[simp] def b_Smay_33 (_ : Unit) : EB := .seq (hid b_Smay_32) .ret
@[simp] def b_Smay_34 (_ : Unit) : EB := .cond (.t 79) (hid b_Smay_33) .skip
@[simp] def b_Smay_35 (_ : Unit) : EB := .seq (hid b_Smay_30) (hid b_Smay_34)
@[simp] def l_Smay_36 (_ : Unit) : List EOp := [⟨0, (some 80), none, (.q (.mov (.t 3))), []⟩, ⟨1, (some 81), none, (.q (.fad 2 (.t 5))), []⟩, ⟨2, (some 82), none, (.q (.ldc (.t 81))), []⟩, ⟨3, (some 83), none, (.q (.bin .add (.t 80) (.t 82))), []⟩, ⟨4, (some 3), none, (.q (.mov (.t 83))), []⟩]
@[simp] def b_Smay_37 (_ : Unit) : EB := reg0 (hid l_Smay_36) 5
@[simp] def b_Smay_38 (_ : Unit) : EB := .seq (hid b_Smay_35) (hid b_Smay_37)
@[simp] def b_Smay_39 (_ : Unit) : EB := .seq (hid b_Smay_25) (hid b_Smay_38)
@[simp] def b_Smay_40 (_ : Unit) : EB := .block 1 (hid b_Smay_39)
@[simp] def l_Smay_41 (_ : Unit) : List EOp := [⟨0, (some 84), none, (.q (.bin .add (.t 56) (.k (.int .i64 1)))), []⟩, ⟨1, (some 56), none, (.q (.mov (.t 84))), []⟩]
@[simp] def b_Smay_42 (_ : Unit) : EB := reg0 (hid l_Smay_41) 2
@[simp] def b_Smay_43 (_ : Unit) : EB := .seq (hid b_Smay_40) (hid b_Smay_42)
@[simp] def b_Smay_44 (_ : Unit) : EB := .seq (hid b_Smay_23) (hid b_Smay_43)
@[simp] def b_Smay_45 (_ : Unit) : EB := .seq (hid b_Smay_22) (hid b_Smay_44)
@[simp] def b_Smay_46 (_ : Unit) : EB := .loop (hid b_Smay_45)
@[simp] def b_Smay_47 (_ : Unit) : EB := .block 0 (hid b_Smay_46)
@[simp] def b_Smay_48 (_ : Unit) : EB := .seq (hid b_Smay_20) (hid b_Smay_47)
@[simp] def l_Smay_49 (_ : Unit) : List EOp := [⟨0, (some 85), none, (.q (.fad 4 (.t 1))), []⟩, ⟨1, (some 86), none, (.q (.ldc (.t 85))), []⟩, ⟨2, (some 87), none, (.q (.len (.t 86))), []⟩, ⟨3, (some 88), none, (.q (.mov (.k (.int .i64 0)))), []⟩]
@[simp] def b_Smay_50 (_ : Unit) : EB := reg0 (hid l_Smay_49) 4
@[simp] def l_Smay_51 (_ : Unit) : List EOp := [⟨0, (some 89), none, (.q (.bin .lss (.t 88) (.t 87))), []⟩]
@[simp] def b_Smay_52 (_ : Unit) : EB := reg0 (hid l_Smay_51) 1
@[simp] def b_Smay_53 (_ : Unit) : EB := .cond (.t 89) .skip (.exit 2)
@[simp] def l_Smay_54 (_ : Unit) : List EOp := [⟨0, (some 90), none, (.q (.mov (.t 88))), []⟩, ⟨1, (some 91), none, (.q (.isl 3 (.t 86) (.t 88))), []⟩, ⟨2, (some 92), none, (.q (.lda 3 (.t 91))), []⟩, ⟨3, (some 7), none, (.q (.alloc 128 [(.int .i64 0), (.int .i64 0), (.slice none 0 0)])), []⟩, ⟨4, (some 6), none, (.q (.mov (.t 90))), []⟩, ⟨5, none, none, (.fz (.sto 3 (.t 7) (.t 92))), []⟩]
@[simp] def b_Smay_55 (_ : Unit) : EB := reg0 (hid l_Smay_54) 6
@[simp] def l_Smay_59 (_ : Unit) : List EOp := [⟨18, (some 111), none, (.q (.pick (.t 96) (.k (.bool true)) (.t 110))), []⟩]
@[simp] def l_Smay_58 (_ : Unit) : List EOp := ⟨12, (some 105), (some (99, true)), (.q (.fad 0 (.t 104))), []⟩ :: ⟨13, (some 106), (some (99, true)), (.q (.ldc (.t 105))), []⟩ :: ⟨14, (some 107), (some (99, true)), (.q (.fad 0 (.t 7))), []⟩ :: ⟨15, (some 108), (some (99, true)), (.q (.ldc (.t 107))), []⟩ :: ⟨16, (some 109), (some (99, true)), (.q (.bin .geq (.t 106) (.t 108))), []⟩ :: ⟨17, (some 110), (some (96, false)), (.q (.pick (.t 99) (.t 109) (.k (.bool false)))), []⟩ :: hid l_Smay_59
@[simp] def l_Smay_57 (_ : Unit) : List EOp := ⟨6, (some 99), (some (96, false)), (.q (.mov (.t 98))), []⟩ :: ⟨7, (some 100), (some (99, true)), (.q (.fad 4 (.t 1))), []⟩ :: ⟨8, (some 101), (some (99, true)), (.q (.ldc (.t 100))), []⟩ :: ⟨9, (some 102), (some (99, true)), (.q (.mov (.t 6))), []⟩ :: ⟨10, (some 103), (some (99, true)), (.q (.bin .sub (.t 102) (.k (.int .i64 1)))), []⟩ :: ⟨11, (some 104), (some (99, true)), (.q (.isl 3 (.t 101) (.t 103))), []⟩ :: hid l_Smay_58
@[simp] def l_Smay_56 (_ : Unit) : List EOp := ⟨0, (some 93), none, (.q (.lda 3 (.t 7))), []⟩ :: ⟨1, (some 94), none, (.call 120 [(.t 93)]), []⟩ :: ⟨2, (some 95), none, (.q (.un .not (.t 94))), []⟩ :: ⟨3, (some 96), none, (.q (.mov (.t 95))), []⟩ :: ⟨4, (some 97), (some (96, false)), (.q (.mov (.t 6))), []⟩ :: ⟨5, (some 98), (some (96, false)), (.q (.bin .gtr (.t 97) (.k (.int .i64 0)))), []⟩ :: hid l_Smay_57
@[simp] def b_Smay_60 (_ : Unit) : EB := reg0 (hid l_Smay_56) 19
@[simp] def l_Smay_61 (_ : Unit) : List EOp := [⟨0, (some 2), none, (.q (.mov (.k (.bool false)))), []⟩]
@[simp] def b_Smay_62 (_ : Unit) : EB := reg0 (hid l_Smay_61) 1
@[simp] def b_Smay_63 (_ : Unit) : EB := .seq (hid b_Smay_62) .ret
@[simp] def b_Smay_64 (_ : Unit) : EB := .cond (.t 111) (hid b_Smay_63) .skip
@[simp] def b_Smay_65 (_ : Unit) : EB := .seq (hid b_Smay_60) (hid b_Smay_64)
@[simp] def l_Smay_66 (_ : Unit) : List EOp := [⟨0, (some 112), none, (.q (.mov (.t 3))), []⟩, ⟨1, (some 113), none, (.q (.fad 1 (.t 7))), []⟩, ⟨2, (some 114), none, (.q (.ldc (.t 113))), []⟩, ⟨3, (some 115), none, (.q (.bin .add (.t 112) (.t 114))), []⟩, ⟨4, (some 3), none, (.q (.mov (.t 115))), []⟩]
@[simp] def b_Smay_67 (_ : Unit) : EB := reg0 (hid l_Smay_66) 5
@[simp] def b_Smay_68 (_ : Unit) : EB := .seq (hid b_Smay_65) (hid b_Smay_67)
@[simp] def b_Smay_69 (_ : Unit) : EB := .seq (hid b_Smay_55) (hid b_Smay_68)
@[simp] def b_Smay_70 (_ : Unit) : EB := .block 3 (hid b_Smay_69)
@[simp] def l_Smay_71 (_ : Unit) : List EOp := [⟨0, (some 116), none, (.q (.bin .add (.t 88) (.k (.int .i64 1)))), []⟩, ⟨1, (some 88), none, (.q (.mov (.t 116))), []⟩]
@[simp] def b_Smay_72 (_ : Unit) : EB := reg0 (hid l_Smay_71) 2
@[simp] def b_Smay_73 (_ : Unit) : EB := .seq (hid b_Smay_70) (hid b_Smay_72)
@[simp] def b_Smay_74 (_ : Unit) : EB := .seq (hid b_Smay_53) (hid b_Smay_73)
@[simp] def b_Smay_75 (_ : Unit) : EB := .seq (hid b_Smay_52) (hid b_Smay_74)
@[simp] def b_Smay_76 (_ : Unit) : EB := .loop (hid b_Smay_75)
@[simp] def b_Smay_77 (_ : Unit) : EB := .block 2 (hid b_Smay_76)
@[simp] def b_Smay_78 (_ : Unit) : EB := .seq (hid b_Smay_50) (hid b_Smay_77)
@[simp] def l_Smay_79 (_ : Unit) : List EOp := [⟨0, (some 117), none, (.q (.mov (.t 3))), []⟩, ⟨1, (some 118), none, (.q (.bin .leq (.t 117) (.k (.int .i64 1125899906842624)))), []⟩, ⟨2, (some 2), none, (.q (.mov (.t 118))), []⟩]
@[simp] def b_Smay_80 (_ : Unit) : EB := reg0 (hid l_Smay_79) 3
@[simp] def b_Smay_81 (_ : Unit) : EB := .seq (hid b_Smay_80) .ret
@[simp] def b_Smay_82 (_ : Unit) : EB := .seq (hid b_Smay_78) (hid b_Smay_81)
@[simp] def b_Smay_83 (_ : Unit) : EB := .seq (hid b_Smay_48) (hid b_Smay_82)
@[simp] def b_Smay_84 (_ : Unit) : EB := .seq (hid b_Smay_18) (hid b_Smay_83)
@[simp] def b_Smay_85 (_ : Unit) : EB := .seq (hid b_Smay_15) (hid b_Smay_84)
@[simp] def b_Smay_86 (_ : Unit) : EB := .seq (hid b_Smay_2) (hid b_Smay_85)
def c_Smay : EB × List QOp × Nat := ((hid b_Smay_86), [(.mov (.t 2))], 119)
theorem k_Smay : cfun Tryz.prog 69 = some c_Smay := by kernel_rfl


theorem mayS_f {s : Sta} (q : ¬ (0 ≤ s.num ∧ s.num ≤ 1099511627776 ∧ 0 ≤ s.h0 ∧ s.h0 ≤ 1125899906842624 ∧ 0 ≤ s.h1 ∧ s.h1 ≤ 1125899906842624 ∧ s.pays.length ≤ 8 ∧ s.holds.length + s.pays.length ≤ 8)) : mayS s = false := by simp only [mayS, decide_eq_false q, Bool.false_and]
theorem mayS_p {s : Sta} (q : payL none s.pays = false) : mayS s = false := by simp only [mayS, q, Bool.and_false, Bool.false_and]
theorem mayS_h {s : Sta} (q : holL none s.holds = false) : mayS s = false := by simp only [mayS, q, Bool.and_false, Bool.false_and]
def prevP (l : List Pay) (i : Nat) : Option Int := if i = 0 then none else (l[i - 1]?).map (·.id)
def prevH (l : List Hol) (i : Nat) : Option Int := if i = 0 then none else (l[i - 1]?).map (·.id)
def PL (l : List Pay) : EV := .v (.c (.fz (.sl 36 (payv l))))
def HL (l : List Hol) : EV := .v (.c (.fz (.sl 3 (holv l))))
theorem sumP_snoc (l : List Pay) (p : Pay) : sumP (l ++ [p]) = sumP l + p.am := by simp [sumP]
theorem sumH_snoc (l : List Hol) (p : Hol) : sumH (l ++ [p]) = sumH l + p.am := by simp [sumH]
theorem take_s {α : Type} {l : List α} {i : Nat} {c : α} (h : l[i]? = some c) : l.take (i + 1) = l.take i ++ [c] := by rw [List.take_add_one, h]; rfl
theorem mayP_am {p : Pay} (h : mayP p = true) : 10 ≤ p.am ∧ p.am ≤ 1125899906842624 := by
  have := of_decide_eq_true h
  omega
theorem mayH_am {p : Hol} (h : mayH p = true) : 10 ≤ p.am ∧ p.am ≤ 1125899906842624 := by
  simp only [mayH, Bool.and_eq_true, decide_eq_true_eq] at h
  omega
set_option maxHeartbeats 2000000 in
theorem Smay_ok (s : Sta) (hs : s.ok) : ECalls Tryz.prog 69 [SV s] [] fun y H' => H' = [] ∧ y = .lit (.bool (mayS s)) := by
  obtain ⟨ok1, ok2, ok3, ok4, ok5, ok6, ok7⟩ := hs
  refine ecalls k_Smay ?_
  simp [c_Smay, SV, staC]
  refine alt (fun a1 => ?_) (fun a1 => ?_)
  rotate_left
  · (first | simp [I, EV.lit, a1, Int.not_le.2 a1] | simp [I, EV.lit, a1, Int.not_lt.2 a1] | simp [I, EV.lit, a1, Int.not_lt.1 a1] | simp [I, EV.lit, a1, Int.not_le.1 a1] | simp [I, EV.lit, a1])
    exact fin [] (by decide) rfl rfl rfl ⟨rfl, by rw [mayS_f (by omega)]⟩
  (first | simp [I, EV.lit, a1, Int.not_le.2 a1] | simp [I, EV.lit, a1, Int.not_lt.2 a1] | simp [I, EV.lit, a1, Int.not_lt.1 a1] | simp [I, EV.lit, a1, Int.not_le.1 a1] | simp [I, EV.lit, a1])
  refine alt (fun a2 => ?_) (fun a2 => ?_)
  rotate_left
  · (first | simp [I, EV.lit, a2, Int.not_le.2 a2] | simp [I, EV.lit, a2, Int.not_lt.2 a2] | simp [I, EV.lit, a2, Int.not_lt.1 a2] | simp [I, EV.lit, a2, Int.not_le.1 a2] | simp [I, EV.lit, a2])
    exact fin [] (by decide) rfl rfl rfl ⟨rfl, by rw [mayS_f (by omega)]⟩
  (first | simp [I, EV.lit, a2, Int.not_le.2 a2] | simp [I, EV.lit, a2, Int.not_lt.2 a2] | simp [I, EV.lit, a2, Int.not_lt.1 a2] | simp [I, EV.lit, a2, Int.not_le.1 a2] | simp [I, EV.lit, a2])
  refine call0 (amount_ok s.h0 0) (by simp [I, EV.lit]) ?_
  rintro y H' ⟨rfl, rfl⟩
  refine ⟨.inl (by simp [I, EV.lit]), le_ok rfl, ?_⟩
  cases hb3 : decide (0 ≤ s.h0 ∧ s.h0 ≤ 1125899906842624)
  · have a3 := of_decide_eq_false hb3
    simp [EV.lit]
    exact fin [] (by decide) rfl rfl rfl ⟨rfl, by rw [mayS_f (by omega)]⟩
  have a3 := of_decide_eq_true hb3
  simp [EV.lit]
  refine call0 (amount_ok s.h1 0) (by simp [I, EV.lit]) ?_
  rintro y H' ⟨rfl, rfl⟩
  refine ⟨.inl (by simp [I, EV.lit]), le_ok rfl, ?_⟩
  cases hb4 : decide (0 ≤ s.h1 ∧ s.h1 ≤ 1125899906842624)
  · have a4 := of_decide_eq_false hb4
    simp [EV.lit]
    exact fin [] (by decide) rfl rfl rfl ⟨rfl, by rw [mayS_f (by omega)]⟩
  have a4 := of_decide_eq_true hb4
  simp [EV.lit]
  refine alt (fun a5 => ?_) (fun a5 => ?_)
  rotate_left
  · (first | simp [I, EV.lit, a5, Int.not_le.2 a5] | simp [I, EV.lit, a5, Int.not_lt.2 a5] | simp [I, EV.lit, a5, Int.not_lt.1 a5] | simp [I, EV.lit, a5, Int.not_le.1 a5] | simp [I, EV.lit, a5])
    exact fin [] (by decide) rfl rfl rfl ⟨rfl, by rw [mayS_f (by omega)]⟩
  (first | simp [I, EV.lit, a5, Int.not_le.2 a5] | simp [I, EV.lit, a5, Int.not_lt.2 a5] | simp [I, EV.lit, a5, Int.not_lt.1 a5] | simp [I, EV.lit, a5, Int.not_le.1 a5] | simp [I, EV.lit, a5])
  have w0 : IntKind.i64.wrap (8 - (s.pays.length : Int)) = 8 - (s.pays.length : Int) := wrap_i64 (by omega) (by omega)
  have w1 : IntKind.i64.wrap (s.h0 + s.h1) = s.h0 + s.h1 := wrap_i64 (by omega) (by omega)
  rw [w0]
  refine alt (fun a6 => ?_) (fun a6 => ?_)
  · simp
    exact fin [] (by decide) rfl rfl rfl ⟨rfl, by rw [mayS_f (by omega)]⟩
  simp [w1]
  refine eloop (α := Nat × Int) (fun a => a.1 ≤ s.pays.length ∧ payL none s.pays = payL (prevP s.pays a.1) (s.pays.drop a.1) ∧ a.2 = s.h0 + s.h1 + sumP (s.pays.take a.1) ∧ 0 ≤ a.2 ∧ a.2 ≤ 2251799813685248 + (a.1 : Int) * 1125899906842624) (fun a => s.pays.length - a.1)
    (fun a => [.any, Ptr 0, .any, I .i64 a.2, .any, .any, .any, .any, .any, .any, .any, .any, .any, .any, .any, .any, .any, .any, .any, .any, .any, .any, .any, .any, .any, .any, .any, .any, .any, .any, .any, .any, .any, .any, .any, .any, .any, .any, .any, .any, .any, .any, .any, .any, .any, .any, .any, .any, .any, .any, .any, .any, .any, .any, PL s.pays, I .i64 s.pays.length, I .i64 a.1, .any, .any, .any, .any, .any, .any, .any, .any, .any, .any, .any, .any, .any, .any, .any, .any, .any, .any, .any, .any, .any, .any, .any, .any, .any, .any, .any, .any, .any, .any, .any, .any, .any, .any, .any, .any, .any, .any, .any, .any, .any, .any, .any, .any, .any, .any, .any, .any, .any, .any, .any, .any, .any, .any, .any, .any, .any, .any, .any, .any, .any, .any]) (fun a => [some (.box 47 (staC s))]) (0, s.h0 + s.h1) [0]
    ⟨by simp, by simp [prevP], by simp [sumP], by simp; omega, by simp; omega⟩ (by simp [Ptr, I, PL]) (by simp [staC]) (by simp) (by simp) (by simp) ?_
  rintro ⟨i, n⟩ ⟨hi1, hi2, hi3, hi4, hi5⟩
  simp [Ptr, I, PL, staC] at hi1 hi2 hi3 hi4 hi5 ⊢
  refine alt (fun hlt => ?_) (fun hlt => ?_)
  · obtain ⟨p, hc⟩ : ∃ p, s.pays[i]? = some p := ⟨s.pays[i], by simp [hlt]⟩
    have hpo := ok4 p (List.mem_of_getElem? hc)
    have hl32 := hpo.2.2.2.2
    have ht : p.lock.take 32 = p.lock := List.take_of_length_le (by omega)
    have hcb := payv_get hc
    rw [drop_cons hc] at hi2
    have w2 : IntKind.i64.wrap ((i : Int) + 1) = ((i + 1 : Nat) : Int) := wrap_i64 (by omega) (by omega)
    have w3 : IntKind.i64.wrap ((i : Int) - 1) = (i : Int) - 1 := wrap_i64 (by omega) (by omega)
    simp [hcb, payF, hl32, ht]
    refine call0 (Pmay_ok p hl32) (by simp [payC]) ?_
    rintro y H' ⟨rfl, rfl⟩
    refine ⟨.inl (by simp), le_ok rfl, ?_⟩
    cases hm : mayP p
    · simp [EV.lit]
      exact fin [] (by decide) rfl rfl rfl ⟨rfl, by rw [mayS_p (by rw [hi2, payL, hm]; simp)]⟩
    have ham := mayP_am hm
    have w4 : IntKind.i64.wrap (n + p.am) = n + p.am := wrap_i64 (by omega) (by omega)
    have hnx : ∀ (q : aft (prevP s.pays i) p.id = true), payL none s.pays = payL (prevP s.pays (i + 1)) (s.pays.drop (i + 1)) := by
      intro q
      rw [hi2, payL, hm, q]
      simp [prevP, hc]
    have hsum : n + p.am = s.h0 + s.h1 + sumP (s.pays.take (i + 1)) := by rw [take_s hc, sumP_snoc]; omega
    simp [EV.lit]
    refine alt (fun h0 => ?_) (fun h0 => ?_)
    · obtain ⟨q, hq⟩ : ∃ q, s.pays[i - 1]? = some q := ⟨s.pays[i - 1]'(by omega), by simp⟩
      have hqb := payv_get hq
      have hti : ((i : Int) - 1).toNat = i - 1 := by omega
      have hpv : prevP s.pays i = some q.id := by simp [prevP, hq, show i ≠ 0 by omega]
      have h1 : (1 : Int) ≤ (i : Int) := by omega
      simp [h0, w3, hqb, hti, payF, h1]
      refine alt (fun c1 => ?_) (fun c1 => ?_)
      · simp
        exact fin [] (by decide) rfl rfl rfl ⟨rfl, by rw [mayS_p (by rw [hi2, payL, hm, hpv]; simp [aft, decide_eq_false (show ¬ q.id < p.id by omega)])]⟩
      simp [w2, w4, -Int.natCast_add]
      exact round (i + 1, n + p.am) [0] ⟨by omega, hnx (by rw [hpv]; exact decide_eq_true (by omega)), hsum, by simp; omega, by simp; omega⟩ (by simp; omega) (by simp) (by simp) (by simp) (by simp) (by simp)
    · have hi0 : i = 0 := by omega
      subst hi0
      simp [w4, IntKind.wrap_i64]
      exact round (1, n + p.am) [0] ⟨by omega, hnx (by simp [prevP, aft]), hsum, by simp; omega, by simp; omega⟩ (by simp; omega) (by simp) (by simp) (by simp) (by simp) (by simp)
  have hil : i = s.pays.length := by omega
  subst hil
  have hps : payL none s.pays = true := by rw [hi2]; simp [payL]
  rw [List.take_length] at hi3
  simp
  refine eloop (α := Nat × Int) (fun a => a.1 ≤ s.holds.length ∧ holL none s.holds = holL (prevH s.holds a.1) (s.holds.drop a.1) ∧ a.2 = s.h0 + s.h1 + sumP s.pays + sumH (s.holds.take a.1) ∧ 0 ≤ a.2 ∧ a.2 ≤ 22517998136852480 + (a.1 : Int) * 1125899906842624) (fun a => s.holds.length - a.1)
    (fun a => [.any, Ptr 0, .any, I .i64 a.2, .any, .any, .any, .any, .any, .any, .any, .any, .any, .any, .any, .any, .any, .any, .any, .any, .any, .any, .any, .any, .any, .any, .any, .any, .any, .any, .any, .any, .any, .any, .any, .any, .any, .any, .any, .any, .any, .any, .any, .any, .any, .any, .any, .any, .any, .any, .any, .any, .any, .any, .any, .any, .any, .any, .any, .any, .any, .any, .any, .any, .any, .any, .any, .any, .any, .any, .any, .any, .any, .any, .any, .any, .any, .any, .any, .any, .any, .any, .any, .any, .any, .any, HL s.holds, I .i64 s.holds.length, I .i64 a.1, .any, .any, .any, .any, .any, .any, .any, .any, .any, .any, .any, .any, .any, .any, .any, .any, .any, .any, .any, .any, .any, .any, .any, .any, .any, .any, .any, .any, .any, .any]) (fun a => [some (.box 47 (staC s))]) (0, n) [0]
    ⟨by simp, by simp [prevH], by simp [sumH]; omega, hi4, by simp; omega⟩ (by simp [Ptr, I, HL]) (by simp [staC]) (by simp) (by simp) (by simp) ?_
  clear hi1 hi2 hi3 hi4 hi5 hlt
  clear n
  rintro ⟨i, n⟩ ⟨hi1, hi2, hi3, hi4, hi5⟩
  simp [Ptr, I, HL, staC] at hi1 hi2 hi3 hi4 hi5 ⊢
  refine alt (fun hlt => ?_) (fun hlt => ?_)
  · obtain ⟨p, hc⟩ : ∃ p, s.holds[i]? = some p := ⟨s.holds[i], by simp [hlt]⟩
    have hpo := ok5 p (List.mem_of_getElem? hc)
    have hcb := holv_get hc
    rw [drop_cons hc] at hi2
    have w2 : IntKind.i64.wrap ((i : Int) + 1) = ((i + 1 : Nat) : Int) := wrap_i64 (by omega) (by omega)
    have w3 : IntKind.i64.wrap ((i : Int) - 1) = (i : Int) - 1 := wrap_i64 (by omega) (by omega)
    simp [hcb, holF]
    refine call0 (Hmay_ok p hpo.2.2.2) (by simp [holC]) ?_
    rintro y H' ⟨rfl, rfl⟩
    refine ⟨.inl (by simp), le_ok rfl, ?_⟩
    cases hm : mayH p
    · simp [EV.lit]
      exact fin [] (by decide) rfl rfl rfl ⟨rfl, by rw [mayS_h (by rw [hi2, holL, hm]; simp)]⟩
    have ham := mayH_am hm
    have w4 : IntKind.i64.wrap (n + p.am) = n + p.am := wrap_i64 (by omega) (by omega)
    have hnx : ∀ (q : aft (prevH s.holds i) p.id = true), holL none s.holds = holL (prevH s.holds (i + 1)) (s.holds.drop (i + 1)) := by
      intro q
      rw [hi2, holL, hm, q]
      simp [prevH, hc]
    have hsum : n + p.am = s.h0 + s.h1 + sumP s.pays + sumH (s.holds.take (i + 1)) := by rw [take_s hc, sumH_snoc]; omega
    simp [EV.lit]
    refine alt (fun h0 => ?_) (fun h0 => ?_)
    · obtain ⟨q, hq⟩ : ∃ q, s.holds[i - 1]? = some q := ⟨s.holds[i - 1]'(by omega), by simp⟩
      have hqb := holv_get hq
      have hti : ((i : Int) - 1).toNat = i - 1 := by omega
      have hpv : prevH s.holds i = some q.id := by simp [prevH, hq, show i ≠ 0 by omega]
      have h1 : (1 : Int) ≤ (i : Int) := by omega
      simp [h0, w3, hqb, hti, holF, h1]
      refine alt (fun c1 => ?_) (fun c1 => ?_)
      · simp
        exact fin [] (by decide) rfl rfl rfl ⟨rfl, by rw [mayS_h (by rw [hi2, holL, hm, hpv]; simp [aft, decide_eq_false (show ¬ q.id < p.id by omega)])]⟩
      simp [w2, w4, -Int.natCast_add]
      exact round (i + 1, n + p.am) [0] ⟨by omega, hnx (by rw [hpv]; exact decide_eq_true (by omega)), hsum, by simp; omega, by simp; omega⟩ (by simp; omega) (by simp) (by simp) (by simp) (by simp) (by simp)
    · have hi0 : i = 0 := by omega
      subst hi0
      simp [w4, IntKind.wrap_i64]
      exact round (1, n + p.am) [0] ⟨by omega, hnx (by simp [prevH, aft]), hsum, by simp; omega, by simp; omega⟩ (by simp; omega) (by simp) (by simp) (by simp) (by simp) (by simp)
  have hil : i = s.holds.length := by omega
  subst hil
  have hhs : holL none s.holds = true := by rw [hi2]; simp [holL]
  rw [List.take_length] at hi3
  have hS : mayS s = decide (n ≤ 1125899906842624) := by
    simp only [mayS, hps, hhs, Bool.and_true]
    rw [decide_eq_true (show 0 ≤ s.num ∧ s.num ≤ 1099511627776 ∧ 0 ≤ s.h0 ∧ s.h0 ≤ 1125899906842624 ∧ 0 ≤ s.h1 ∧ s.h1 ≤ 1125899906842624 ∧ s.pays.length ≤ 8 ∧ s.holds.length + s.pays.length ≤ 8 by omega), Bool.true_and, hi3]
    rfl
  simp
  exact fin [] (by decide) rfl rfl rfl ⟨rfl, by rw [hS]⟩

end Go.Proofs.YtflcfdeanneoeaaGreatDoor

namespace Go.Proofs.YtflcfdeanneoeaaGreatDoor
open Go Go.EW
set_option linter.unusedSimpArgs false
set_option linter.unusedVariables false

@[simp] def l_Total_1 (_ : Unit) : List EOp := [⟨0, (some 1), none, (.q (.box 47 (.t 0))), []⟩, ⟨1, (some 2), none, (.q (.mov (.k (.int .i64 0)))), []⟩]
@[simp] def b_Total_2 (_ : Unit) : EB := reg0 (hid l_Total_1) 2
@[simp] def l_Total_3 (_ : Unit) : List EOp := [⟨0, (some 8), none, (.q (.lda 5 (.t 1))), []⟩, ⟨1, (some 9), none, (.call 69 [(.t 8)]), []⟩, ⟨2, (some 10), none, (.q (.un .not (.t 9))), []⟩]
@[simp] def b_Total_4 (_ : Unit) : EB := reg0 (hid l_Total_3) 3
@[simp] def l_Total_5 (_ : Unit) : List EOp := [⟨0, (some 2), none, (.q (.mov (.k (.int .i64 0)))), []⟩]
@[simp] def b_Total_6 (_ : Unit) : EB := reg0 (hid l_Total_5) 1
@[simp] def b_Total_7 (_ : Unit) : EB := .seq (hid b_Total_6) .ret
@[simp] def b_Total_8 (_ : Unit) : EB := .cond (.t 10) (hid b_Total_7) .skip
@[simp] def b_Total_9 (_ : Unit) : EB := .seq (hid b_Total_4) (hid b_Total_8)
@[simp] def l_Total_11 (_ : Unit) : List EOp := [⟨6, (some 17), none, (.q (.bin .add (.t 13) (.t 16))), []⟩, ⟨7, (some 3), none, (.q (.mov (.t 17))), []⟩]
@[simp] def l_Total_10 (_ : Unit) : List EOp := ⟨0, (some 11), none, (.q (.fad 1 (.t 1))), []⟩ :: ⟨1, (some 12), none, (.q (.iad 2 1 (.t 11) (.k (.int .i64 0)))), []⟩ :: ⟨2, (some 13), none, (.q (.ldc (.t 12))), []⟩ :: ⟨3, (some 14), none, (.q (.fad 1 (.t 1))), []⟩ :: ⟨4, (some 15), none, (.q (.iad 2 1 (.t 14) (.k (.int .i64 1)))), []⟩ :: ⟨5, (some 16), none, (.q (.ldc (.t 15))), []⟩ :: hid l_Total_11
@[simp] def b_Total_12 (_ : Unit) : EB := reg0 (hid l_Total_10) 8
@[simp] def l_Total_13 (_ : Unit) : List EOp := [⟨0, (some 18), none, (.q (.fad 3 (.t 1))), []⟩, ⟨1, (some 19), none, (.q (.ldc (.t 18))), []⟩, ⟨2, (some 20), none, (.q (.len (.t 19))), []⟩, ⟨3, (some 21), none, (.q (.mov (.k (.int .i64 0)))), []⟩]
@[simp] def b_Total_14 (_ : Unit) : EB := reg0 (hid l_Total_13) 4
@[simp] def l_Total_15 (_ : Unit) : List EOp := [⟨0, (some 22), none, (.q (.bin .lss (.t 21) (.t 20))), []⟩]
@[simp] def b_Total_16 (_ : Unit) : EB := reg0 (hid l_Total_15) 1
@[simp] def b_Total_17 (_ : Unit) : EB := .cond (.t 22) .skip (.exit 0)
@[simp] def l_Total_18 (_ : Unit) : List EOp := [⟨0, (some 23), none, (.q (.isl 36 (.t 19) (.t 21))), []⟩, ⟨1, (some 24), none, (.q (.lda 36 (.t 23))), []⟩, ⟨2, (some 5), none, (.q (.alloc 126 (([(.int .i64 0), (.int .i64 0), (.int .i64 0), (.int .i64 0)] : List Value) ++ zU8))), []⟩, ⟨3, none, none, (.sto 36 (.t 5) (.t 24)), []⟩]
@[simp] def b_Total_19 (_ : Unit) : EB := reg0 (hid l_Total_18) 4
@[simp] def l_Total_20 (_ : Unit) : List EOp := [⟨0, (some 25), none, (.q (.mov (.t 3))), []⟩, ⟨1, (some 26), none, (.q (.fad 2 (.t 5))), []⟩, ⟨2, (some 27), none, (.q (.ldc (.t 26))), []⟩, ⟨3, (some 28), none, (.q (.bin .add (.t 25) (.t 27))), []⟩, ⟨4, (some 3), none, (.q (.mov (.t 28))), []⟩]
@[simp] def b_Total_21 (_ : Unit) : EB := reg0 (hid l_Total_20) 5
@[simp] def b_Total_22 (_ : Unit) : EB := .seq (hid b_Total_19) (hid b_Total_21)
@[simp] def b_Total_23 (_ : Unit) : EB := .block 1 (hid b_Total_22)
@[simp] def l_Total_24 (_ : Unit) : List EOp := [⟨0, (some 29), none, (.q (.bin .add (.t 21) (.k (.int .i64 1)))), []⟩, ⟨1, (some 21), none, (.q (.mov (.t 29))), []⟩]
@[simp] def b_Total_25 (_ : Unit) : EB := reg0 (hid l_Total_24) 2
@[simp] def b_Total_26 (_ : Unit) : EB := .seq (hid b_Total_23) (hid b_Total_25)
@[simp] def b_Total_27 (_ : Unit) : EB := .seq (hid b_Total_17) (hid b_Total_26)
@[simp] def b_Total_28 (_ : Unit) : EB := .seq (hid b_Total_16) (hid b_Total_27)
@[simp] def b_Total_29 (_ : Unit) : EB := .loop (hid b_Total_28)
@[simp] def b_Total_30 (_ : Unit) : EB := .block 0 (hid b_Total_29)
@[simp] def b_Total_31 (_ : Unit) : EB := .seq (hid b_Total_14) (hid b_Total_30)
@[simp] def l_Total_32 (_ : Unit) : List EOp := [⟨0, (some 30), none, (.q (.fad 4 (.t 1))), []⟩, ⟨1, (some 31), none, (.q (.ldc (.t 30))), []⟩, ⟨2, (some 32), none, (.q (.len (.t 31))), []⟩, ⟨3, (some 33), none, (.q (.mov (.k (.int .i64 0)))), []⟩]
@[simp] def b_Total_33 (_ : Unit) : EB := reg0 (hid l_Total_32) 4
@[simp] def l_Total_34 (_ : Unit) : List EOp := [⟨0, (some 34), none, (.q (.bin .lss (.t 33) (.t 32))), []⟩]
@[simp] def b_Total_35 (_ : Unit) : EB := reg0 (hid l_Total_34) 1
@[simp] def b_Total_36 (_ : Unit) : EB := .cond (.t 34) .skip (.exit 2)
@[simp] def l_Total_37 (_ : Unit) : List EOp := [⟨0, (some 35), none, (.q (.isl 3 (.t 31) (.t 33))), []⟩, ⟨1, (some 36), none, (.q (.lda 3 (.t 35))), []⟩, ⟨2, (some 7), none, (.q (.alloc 128 [(.int .i64 0), (.int .i64 0), (.slice none 0 0)])), []⟩, ⟨3, none, none, (.fz (.sto 3 (.t 7) (.t 36))), []⟩]
@[simp] def b_Total_38 (_ : Unit) : EB := reg0 (hid l_Total_37) 4
@[simp] def l_Total_39 (_ : Unit) : List EOp := [⟨0, (some 37), none, (.q (.mov (.t 3))), []⟩, ⟨1, (some 38), none, (.q (.fad 1 (.t 7))), []⟩, ⟨2, (some 39), none, (.q (.ldc (.t 38))), []⟩, ⟨3, (some 40), none, (.q (.bin .add (.t 37) (.t 39))), []⟩, ⟨4, (some 3), none, (.q (.mov (.t 40))), []⟩]
@[simp] def b_Total_40 (_ : Unit) : EB := reg0 (hid l_Total_39) 5
@[simp] def b_Total_41 (_ : Unit) : EB := .seq (hid b_Total_38) (hid b_Total_40)
@[simp] def b_Total_42 (_ : Unit) : EB := .block 3 (hid b_Total_41)
@[simp] def l_Total_43 (_ : Unit) : List EOp := [⟨0, (some 41), none, (.q (.bin .add (.t 33) (.k (.int .i64 1)))), []⟩, ⟨1, (some 33), none, (.q (.mov (.t 41))), []⟩]
@[simp] def b_Total_44 (_ : Unit) : EB := reg0 (hid l_Total_43) 2
@[simp] def b_Total_45 (_ : Unit) : EB := .seq (hid b_Total_42) (hid b_Total_44)
@[simp] def b_Total_46 (_ : Unit) : EB := .seq (hid b_Total_36) (hid b_Total_45)
@[simp] def b_Total_47 (_ : Unit) : EB := .seq (hid b_Total_35) (hid b_Total_46)
@[simp] def b_Total_48 (_ : Unit) : EB := .loop (hid b_Total_47)
@[simp] def b_Total_49 (_ : Unit) : EB := .block 2 (hid b_Total_48)
@[simp] def b_Total_50 (_ : Unit) : EB := .seq (hid b_Total_33) (hid b_Total_49)
@[simp] def l_Total_51 (_ : Unit) : List EOp := [⟨0, (some 42), none, (.q (.mov (.t 3))), []⟩, ⟨1, (some 2), none, (.q (.mov (.t 42))), []⟩]
@[simp] def b_Total_52 (_ : Unit) : EB := reg0 (hid l_Total_51) 2
@[simp] def b_Total_53 (_ : Unit) : EB := .seq (hid b_Total_52) .ret
@[simp] def b_Total_54 (_ : Unit) : EB := .seq (hid b_Total_50) (hid b_Total_53)
@[simp] def b_Total_55 (_ : Unit) : EB := .seq (hid b_Total_31) (hid b_Total_54)
@[simp] def b_Total_56 (_ : Unit) : EB := .seq (hid b_Total_12) (hid b_Total_55)
@[simp] def b_Total_57 (_ : Unit) : EB := .seq (hid b_Total_9) (hid b_Total_56)
@[simp] def b_Total_58 (_ : Unit) : EB := .seq (hid b_Total_2) (hid b_Total_57)
def c_Total : EB × List QOp × Nat := ((hid b_Total_58), [(.mov (.t 2))], 43)
theorem k_Total : cfun Tryz.prog 37 = some c_Total := by kernel_rfl

@[simp] def l_cloneP_1 (_ : Unit) : List EOp := [⟨0, (some 2), none, (.q (.mov (.k (.slice none 0 0)))), []⟩]
@[simp] def b_cloneP_2 (_ : Unit) : EB := reg0 (hid l_cloneP_1) 1
@[simp] def l_cloneP_3 (_ : Unit) : List EOp := [⟨0, (some 3), none, (.q (.mov (.t 0))), []⟩, ⟨1, (some 4), none, (.nild false (.t 3)), []⟩]
@[simp] def b_cloneP_4 (_ : Unit) : EB := reg0 (hid l_cloneP_3) 2
@[simp] def l_cloneP_5 (_ : Unit) : List EOp := [⟨0, (some 2), none, (.q (.mov (.k (.slice none 0 0)))), []⟩]
@[simp] def b_cloneP_6 (_ : Unit) : EB := reg0 (hid l_cloneP_5) 1
@[simp] def b_cloneP_7 (_ : Unit) : EB := .seq (hid b_cloneP_6) .ret
@[simp] def b_cloneP_8 (_ : Unit) : EB := .cond (.t 4) (hid b_cloneP_7) .skip
@[simp] def b_cloneP_9 (_ : Unit) : EB := .seq (hid b_cloneP_4) (hid b_cloneP_8)
@[simp] def l_cloneP_10 (_ : Unit) : List EOp := [⟨0, (some 5), none, (.q (.bsr 126 36 (([(.int .i64 0), (.int .i64 0), (.int .i64 0), (.int .i64 0)] : List Value) ++ zU8) 0 [])), []⟩, ⟨1, (some 6), none, (.q (.mov (.t 0))), []⟩, ⟨2, (some 7), none, (.app 126 36 64 (.t 5) (.t 6)), []⟩, ⟨3, (some 2), none, (.q (.mov (.t 7))), []⟩]
@[simp] def b_cloneP_11 (_ : Unit) : EB := reg0 (hid l_cloneP_10) 4
@[simp] def b_cloneP_12 (_ : Unit) : EB := .seq (hid b_cloneP_11) .ret
@[simp] def b_cloneP_13 (_ : Unit) : EB := .seq (hid b_cloneP_9) (hid b_cloneP_12)
@[simp] def b_cloneP_14 (_ : Unit) : EB := .seq (hid b_cloneP_2) (hid b_cloneP_13)
@[simp] def l_cloneH_1 (_ : Unit) : List EOp := [⟨0, (some 2), none, (.q (.mov (.k (.slice none 0 0)))), []⟩]
@[simp] def b_cloneH_2 (_ : Unit) : EB := reg0 (hid l_cloneH_1) 1
@[simp] def l_cloneH_3 (_ : Unit) : List EOp := [⟨0, (some 3), none, (.q (.mov (.t 0))), []⟩, ⟨1, (some 4), none, (.nild false (.t 3)), []⟩]
@[simp] def b_cloneH_4 (_ : Unit) : EB := reg0 (hid l_cloneH_3) 2
@[simp] def l_cloneH_5 (_ : Unit) : List EOp := [⟨0, (some 2), none, (.q (.mov (.k (.slice none 0 0)))), []⟩]
@[simp] def b_cloneH_6 (_ : Unit) : EB := reg0 (hid l_cloneH_5) 1
@[simp] def b_cloneH_7 (_ : Unit) : EB := .seq (hid b_cloneH_6) .ret
@[simp] def b_cloneH_8 (_ : Unit) : EB := .cond (.t 4) (hid b_cloneH_7) .skip
@[simp] def b_cloneH_9 (_ : Unit) : EB := .seq (hid b_cloneH_4) (hid b_cloneH_8)
@[simp] def l_cloneH_10 (_ : Unit) : List EOp := [⟨0, (some 5), none, (.q (.bsr 128 3 [(.int .i64 0), (.int .i64 0), (.slice none 0 0)] 0 [])), []⟩, ⟨1, (some 6), none, (.q (.mov (.t 0))), []⟩, ⟨2, (some 7), none, (.app 128 3 40 (.t 5) (.t 6)), []⟩, ⟨3, (some 2), none, (.q (.mov (.t 7))), []⟩]
@[simp] def b_cloneH_11 (_ : Unit) : EB := reg0 (hid l_cloneH_10) 4
@[simp] def b_cloneH_12 (_ : Unit) : EB := .seq (hid b_cloneH_11) .ret
@[simp] def b_cloneH_13 (_ : Unit) : EB := .seq (hid b_cloneH_9) (hid b_cloneH_12)
@[simp] def b_cloneH_14 (_ : Unit) : EB := .seq (hid b_cloneH_2) (hid b_cloneH_13)
@[simp] def l_cloneI_1 (_ : Unit) : List EOp := [⟨0, (some 2), none, (.q (.mov (.k (.slice none 0 0)))), []⟩]
@[simp] def b_cloneI_2 (_ : Unit) : EB := reg0 (hid l_cloneI_1) 1
@[simp] def l_cloneI_3 (_ : Unit) : List EOp := [⟨0, (some 3), none, (.q (.mov (.t 0))), []⟩, ⟨1, (some 4), none, (.nild false (.t 3)), []⟩]
@[simp] def b_cloneI_4 (_ : Unit) : EB := reg0 (hid l_cloneI_3) 2
@[simp] def l_cloneI_5 (_ : Unit) : List EOp := [⟨0, (some 2), none, (.q (.mov (.k (.slice none 0 0)))), []⟩]
@[simp] def b_cloneI_6 (_ : Unit) : EB := reg0 (hid l_cloneI_5) 1
@[simp] def b_cloneI_7 (_ : Unit) : EB := .seq (hid b_cloneI_6) .ret
@[simp] def b_cloneI_8 (_ : Unit) : EB := .cond (.t 4) (hid b_cloneI_7) .skip
@[simp] def b_cloneI_9 (_ : Unit) : EB := .seq (hid b_cloneI_4) (hid b_cloneI_8)
@[simp] def l_cloneI_10 (_ : Unit) : List EOp := [⟨0, (some 5), none, (.q (.bsr 3 1 [(.int .i64 0)] 0 [])), []⟩, ⟨1, (some 6), none, (.q (.mov (.t 0))), []⟩, ⟨2, (some 7), none, (.app 3 1 8 (.t 5) (.t 6)), []⟩, ⟨3, (some 2), none, (.q (.mov (.t 7))), []⟩]
@[simp] def b_cloneI_11 (_ : Unit) : EB := reg0 (hid l_cloneI_10) 4
@[simp] def b_cloneI_12 (_ : Unit) : EB := .seq (hid b_cloneI_11) .ret
@[simp] def b_cloneI_13 (_ : Unit) : EB := .seq (hid b_cloneI_9) (hid b_cloneI_12)
@[simp] def b_cloneI_14 (_ : Unit) : EB := .seq (hid b_cloneI_2) (hid b_cloneI_13)
def c_cloneI : EB × List QOp × Nat := ((hid b_cloneI_14), [(.mov (.t 2))], 8)
theorem k_cloneI : cfun Tryz.prog 100 = some c_cloneI := by kernel_rfl


theorem mayS_t {s : Sta} (h : mayS s = true) : (0 ≤ s.num ∧ s.num ≤ 1099511627776 ∧ 0 ≤ s.h0 ∧ s.h0 ≤ 1125899906842624 ∧ 0 ≤ s.h1 ∧ s.h1 ≤ 1125899906842624 ∧ s.pays.length ≤ 8 ∧ s.holds.length + s.pays.length ≤ 8) ∧ payL none s.pays = true ∧ holL none s.holds = true ∧ total s ≤ 1125899906842624 := by
  simp only [mayS, Bool.and_eq_true, decide_eq_true_eq] at h
  exact ⟨h.1.1.1, h.1.1.2, h.1.2, h.2⟩
theorem payL_am : ∀ {o : Option Int} {l : List Pay}, payL o l = true → ∀ p ∈ l, 10 ≤ p.am ∧ p.am ≤ 1125899906842624
  | _, [], _, p, hp => by simp at hp
  | o, q :: r, h, p, hp => by
    simp only [payL, Bool.and_eq_true] at h
    rcases List.mem_cons.1 hp with rfl | hp
    · exact mayP_am h.1.1
    · exact payL_am h.2 p hp
theorem holL_am : ∀ {o : Option Int} {l : List Hol}, holL o l = true → ∀ p ∈ l, 10 ≤ p.am ∧ p.am ≤ 1125899906842624
  | _, [], _, p, hp => by simp at hp
  | o, q :: r, h, p, hp => by
    simp only [holL, Bool.and_eq_true] at h
    rcases List.mem_cons.1 hp with rfl | hp
    · exact mayH_am h.1.1
    · exact holL_am h.2 p hp
def totS (s : Sta) : Int := if mayS s = true then total s else 0

set_option maxHeartbeats 1000000 in
theorem Total_ok (s : Sta) (hs : s.ok) : ECalls Tryz.prog 37 [SV s] [] fun y H' => H' = [] ∧ y = I .i64 (totS s) := by
  obtain ⟨ok1, ok2, ok3, ok4, ok5, ok6, ok7⟩ := id hs
  refine ecalls k_Total ?_
  simp [c_Total, SV, staC]
  refine call0 (Smay_ok s hs) (by simp [SV, staC]) ?_
  rintro y H' ⟨rfl, rfl⟩
  cases hm : mayS s
  · have ht : totS s = 0 := by simp [totS, hm]
    rw [ht]
    simp [EV.lit, I]
    exact fin [] (by decide) rfl rfl rfl ⟨rfl, rfl⟩
  have ht : totS s = total s := by simp [totS, hm]
  obtain ⟨hr, hp, hh, htot⟩ := mayS_t hm
  rw [ht]
  have w1 : IntKind.i64.wrap (s.h0 + s.h1) = s.h0 + s.h1 := wrap_i64 (by omega) (by omega)
  simp [EV.lit, w1]
  refine eloop (α := Nat × Int) (fun a => a.1 ≤ s.pays.length ∧ a.2 = s.h0 + s.h1 + sumP (s.pays.take a.1) ∧ 0 ≤ a.2 ∧ a.2 ≤ 2251799813685248 + (a.1 : Int) * 1125899906842624) (fun a => s.pays.length - a.1)
    (fun a => [.any, Ptr 0, .any, I .i64 a.2, .any, .any, .any, .any, .any, .any, .any, .any, .any, .any, .any, .any, .any, .any, .any, PL s.pays, I .i64 s.pays.length, I .i64 a.1, .any, .any, .any, .any, .any, .any, .any, .any, .any, .any, .any, .any, .any, .any, .any, .any, .any, .any, .any, .any, .any]) (fun a => [some (.box 47 (staC s))]) (0, s.h0 + s.h1) [0]
    ⟨by simp, by simp [sumP], by simp; omega, by simp; omega⟩ (by simp [Ptr, I, PL]) (by simp [staC]) (by simp) (by simp) (by simp) ?_
  rintro ⟨i, n⟩ ⟨hi1, hi3, hi4, hi5⟩
  simp [Ptr, I, PL, staC] at hi1 hi3 hi4 hi5 ⊢
  refine alt (fun hlt => ?_) (fun hlt => ?_)
  · obtain ⟨p, hc⟩ : ∃ p, s.pays[i]? = some p := ⟨s.pays[i], by simp [hlt]⟩
    have hl32 := (ok4 p (List.mem_of_getElem? hc)).2.2.2.2
    have ht : p.lock.take 32 = p.lock := List.take_of_length_le (by omega)
    have hcb := payv_get hc
    have ham := payL_am hp p (List.mem_of_getElem? hc)
    have w2 : IntKind.i64.wrap ((i : Int) + 1) = ((i + 1 : Nat) : Int) := wrap_i64 (by omega) (by omega)
    have w4 : IntKind.i64.wrap (n + p.am) = n + p.am := wrap_i64 (by omega) (by omega)
    simp [hcb, payF, hl32, ht, w2, w4, -Int.natCast_add]
    exact round (i + 1, n + p.am) [0] ⟨by omega, by rw [take_s hc, sumP_snoc]; omega, by simp; omega, by simp; omega⟩ (by simp; omega) (by simp) (by simp) (by simp) (by simp) (by simp)
  have hil : i = s.pays.length := by omega
  subst hil
  rw [List.take_length] at hi3
  simp
  refine eloop (α := Nat × Int) (fun a => a.1 ≤ s.holds.length ∧ a.2 = s.h0 + s.h1 + sumP s.pays + sumH (s.holds.take a.1) ∧ 0 ≤ a.2 ∧ a.2 ≤ 22517998136852480 + (a.1 : Int) * 1125899906842624) (fun a => s.holds.length - a.1)
    (fun a => [.any, .any, .any, I .i64 a.2, .any, .any, .any, .any, .any, .any, .any, .any, .any, .any, .any, .any, .any, .any, .any, .any, .any, .any, .any, .any, .any, .any, .any, .any, .any, .any, .any, HL s.holds, I .i64 s.holds.length, I .i64 a.1, .any, .any, .any, .any, .any, .any, .any, .any, .any]) (fun a => []) (0, n) []
    ⟨by simp, by simp [sumH]; omega, hi4, by simp; omega⟩ (by simp [Ptr, I, HL]) (by simp [staC]) (by simp) (by simp) (by simp) ?_
  clear hi1 hi3 hi4 hi5 hlt
  clear n
  rintro ⟨i, n⟩ ⟨hi1, hi3, hi4, hi5⟩
  simp [Ptr, I, HL, staC] at hi1 hi3 hi4 hi5 ⊢
  refine alt (fun hlt => ?_) (fun hlt => ?_)
  · obtain ⟨p, hc⟩ : ∃ p, s.holds[i]? = some p := ⟨s.holds[i], by simp [hlt]⟩
    have hcb := holv_get hc
    have ham := holL_am hh p (List.mem_of_getElem? hc)
    have w2 : IntKind.i64.wrap ((i : Int) + 1) = ((i + 1 : Nat) : Int) := wrap_i64 (by omega) (by omega)
    have w4 : IntKind.i64.wrap (n + p.am) = n + p.am := wrap_i64 (by omega) (by omega)
    simp [hcb, holF, w2, w4, -Int.natCast_add]
    exact round (i + 1, n + p.am) [] ⟨by omega, by rw [take_s hc, sumH_snoc]; omega, by simp; omega, by simp; omega⟩ (by simp; omega) (by simp) (by simp) (by simp) (by simp) (by simp)
  have hil : i = s.holds.length := by omega
  subst hil
  rw [List.take_length] at hi3
  simp
  exact fin [] (by decide) rfl rfl rfl ⟨rfl, by rw [hi3]; rfl⟩

theorem cloneI_ok (l : List Int) (hl : l.length ≤ 100000000) : ECalls Tryz.prog 100 [IL l] [] fun y H' => H' = [some (.row 3 1 (intv l))] ∧ y = .v (.c (.row 0 l.length)) := by
  refine ecalls k_cloneI ?_
  simp [c_cloneI, IL]
  refine both (fun h => ?_) (fun _ => ?_)
  · simp
    refine finW _ (weak_nilR 2 3 1 rfl (by omega)) ?_
    have hn : l = [] := by cases l <;> simp_all
    subst hn
    exact fin [64] (by decide) rfl rfl rfl ⟨rfl, rfl⟩
  · simp
    exact ⟨by omega, fin [80] (by decide) rfl rfl rfl ⟨rfl, by simp⟩⟩

end Go.Proofs.YtflcfdeanneoeaaGreatDoor

namespace Go.Proofs.YtflcfdeanneoeaaGreatDoor
open Go Go.EW
set_option linter.unusedSimpArgs false
set_option linter.unusedVariables false

@[simp] def l_next_1 (_ : Unit) : List EOp := [⟨0, (some 1), none, (.q (.box 47 (.t 0))), []⟩, ⟨1, (some 2), none, (.q (.alloc 47 [(.int .i64 0), (.int .i64 0), (.int .i64 0), (.slice none 0 0), (.slice none 0 0)])), []⟩, ⟨2, (some 3), none, (.q (.mov (.k .nilIface))), []⟩]
@[simp] def b_next_2 (_ : Unit) : EB := reg0 (hid l_next_1) 3
@[simp] def l_next_4 (_ : Unit) : List EOp := [⟨6, (some 11), (some (8, false)), (.q (.bin .eql (.t 10) (.k (.int .i64 1099511627776)))), []⟩, ⟨7, (some 12), none, (.q (.pick (.t 8) (.k (.bool true)) (.t 11))), []⟩]
@[simp] def l_next_3 (_ : Unit) : List EOp := ⟨0, (some 5), none, (.q (.lda 5 (.t 1))), []⟩ :: ⟨1, (some 6), none, (.call 69 [(.t 5)]), []⟩ :: ⟨2, (some 7), none, (.q (.un .not (.t 6))), []⟩ :: ⟨3, (some 8), none, (.q (.mov (.t 7))), []⟩ :: ⟨4, (some 9), (some (8, false)), (.q (.fad 0 (.t 1))), []⟩ :: ⟨5, (some 10), (some (8, false)), (.q (.ldc (.t 9))), []⟩ :: hid l_next_4
@[simp] def b_next_5 (_ : Unit) : EB := reg0 (hid l_next_3) 8
@[simp] def l_next_6 (_ : Unit) : List EOp := [⟨0, (some 13), none, (.q (.build [(.int .i64 0), (.int .i64 0), (.int .i64 0), (.slice none 0 0), (.slice none 0 0)] [])), []⟩, ⟨1, (some 14), none, (.q (.mki 120 (.k (.int .i64 1)))), []⟩, ⟨2, none, none, (.fz (.sto 5 (.t 2) (.t 13))), []⟩, ⟨3, (some 3), none, (.q (.mov (.t 14))), []⟩]
@[simp] def b_next_7 (_ : Unit) : EB := reg0 (hid l_next_6) 4
@[simp] def b_next_8 (_ : Unit) : EB := .seq (hid b_next_7) .ret
@[simp] def b_next_9 (_ : Unit) : EB := .cond (.t 12) (hid b_next_8) .skip
@[simp] def b_next_10 (_ : Unit) : EB := .seq (hid b_next_5) (hid b_next_9)
@[simp] def l_next_11 (_ : Unit) : List EOp := [⟨0, (some 15), none, (.q (.fad 0 (.t 1))), []⟩, ⟨1, (some 16), none, (.q (.ldc (.t 15))), []⟩, ⟨2, (some 17), none, (.q (.bin .add (.t 16) (.k (.int .i64 1)))), []⟩, ⟨3, (some 18), none, (.q (.fad 0 (.t 1))), []⟩, ⟨4, none, none, (.sto 1 (.t 18) (.t 17)), []⟩]
@[simp] def b_next_12 (_ : Unit) : EB := reg0 (hid l_next_11) 5
@[simp] def l_next_14 (_ : Unit) : List EOp := [⟨5, (some 24), none, (.call 158 [(.t 23)]), [6]⟩, ⟨7, none, none, (.fz (.sto 1 (.t 25) (.t 21))), []⟩, ⟨8, (some 26), none, (.q (.fad 4 (.t 1))), []⟩, ⟨9, none, none, (.fz (.sto 1 (.t 26) (.t 24))), []⟩]
@[simp] def l_next_13 (_ : Unit) : List EOp := ⟨0, (some 19), none, (.q (.fad 3 (.t 1))), []⟩ :: ⟨1, (some 20), none, (.q (.ldc (.t 19))), []⟩ :: ⟨3, (some 22), none, (.q (.fad 4 (.t 1))), []⟩ :: ⟨4, (some 23), none, (.q (.ldc (.t 22))), []⟩ :: ⟨2, (some 21), none, (.call 157 [(.t 20)]), [3, 4]⟩ :: ⟨6, (some 25), none, (.q (.fad 3 (.t 1))), []⟩ :: hid l_next_14
@[simp] def b_next_15 (_ : Unit) : EB := reg1 (hid l_next_13) 10
@[simp] def l_next_16 (_ : Unit) : List EOp := [⟨0, (some 27), none, (.q (.fad 4 (.t 1))), []⟩, ⟨1, (some 28), none, (.q (.ldc (.t 27))), []⟩, ⟨2, (some 29), none, (.q (.len (.t 28))), []⟩, ⟨3, (some 30), none, (.q (.mov (.k (.int .i64 0)))), []⟩]
@[simp] def b_next_17 (_ : Unit) : EB := reg0 (hid l_next_16) 4
@[simp] def l_next_18 (_ : Unit) : List EOp := [⟨0, (some 31), none, (.q (.bin .lss (.t 30) (.t 29))), []⟩]
@[simp] def b_next_19 (_ : Unit) : EB := reg0 (hid l_next_18) 1
@[simp] def b_next_20 (_ : Unit) : EB := .cond (.t 31) .skip (.exit 0)
@[simp] def l_next_21 (_ : Unit) : List EOp := [⟨0, (some 32), none, (.q (.mov (.t 30))), []⟩, ⟨1, (some 4), none, (.q (.mov (.t 32))), []⟩]
@[simp] def b_next_22 (_ : Unit) : EB := reg0 (hid l_next_21) 2
@[simp] def l_next_25 (_ : Unit) : List EOp := [⟨12, none, none, (.fz (.sto 1 (.t 44) (.t 42))), []⟩]
@[simp] def l_next_24 (_ : Unit) : List EOp := ⟨6, (some 39), none, (.q (.isl 3 (.t 37) (.t 38))), []⟩ :: ⟨7, (some 40), none, (.q (.fad 2 (.t 39))), []⟩ :: ⟨8, (some 41), none, (.q (.ldc (.t 40))), []⟩ :: ⟨9, (some 42), none, (.call 100 [(.t 41)]), [0, 1, 2]⟩ :: ⟨10, (some 43), none, (.q (.isl 3 (.t 34) (.t 35))), []⟩ :: ⟨11, (some 44), none, (.q (.fad 2 (.t 43))), []⟩ :: hid l_next_25
@[simp] def l_next_23 (_ : Unit) : List EOp := ⟨0, (some 33), none, (.q (.fad 4 (.t 1))), []⟩ :: ⟨1, (some 34), none, (.q (.ldc (.t 33))), []⟩ :: ⟨2, (some 35), none, (.q (.mov (.t 4))), []⟩ :: ⟨3, (some 36), none, (.q (.fad 4 (.t 1))), []⟩ :: ⟨4, (some 37), none, (.q (.ldc (.t 36))), []⟩ :: ⟨5, (some 38), none, (.q (.mov (.t 4))), []⟩ :: hid l_next_24
@[simp] def b_next_26 (_ : Unit) : EB := reg1 (hid l_next_23) 13
@[simp] def b_next_27 (_ : Unit) : EB := .seq (hid b_next_22) (hid b_next_26)
@[simp] def b_next_28 (_ : Unit) : EB := .block 1 (hid b_next_27)
@[simp] def l_next_29 (_ : Unit) : List EOp := [⟨0, (some 45), none, (.q (.bin .add (.t 30) (.k (.int .i64 1)))), []⟩, ⟨1, (some 30), none, (.q (.mov (.t 45))), []⟩]
@[simp] def b_next_30 (_ : Unit) : EB := reg0 (hid l_next_29) 2
@[simp] def b_next_31 (_ : Unit) : EB := .seq (hid b_next_28) (hid b_next_30)
@[simp] def b_next_32 (_ : Unit) : EB := .seq (hid b_next_20) (hid b_next_31)
@[simp] def b_next_33 (_ : Unit) : EB := .seq (hid b_next_19) (hid b_next_32)
@[simp] def b_next_34 (_ : Unit) : EB := .loop (hid b_next_33)
@[simp] def b_next_35 (_ : Unit) : EB := .block 0 (hid b_next_34)
@[simp] def b_next_36 (_ : Unit) : EB := .seq (hid b_next_17) (hid b_next_35)
@[simp] def l_next_37 (_ : Unit) : List EOp := [⟨0, (some 46), none, (.q (.lda 5 (.t 1))), []⟩, ⟨1, none, none, (.fz (.sto 5 (.t 2) (.t 46))), []⟩, ⟨2, (some 3), none, (.q (.mov (.k .nilIface))), []⟩]
@[simp] def b_next_38 (_ : Unit) : EB := reg0 (hid l_next_37) 3
@[simp] def b_next_39 (_ : Unit) : EB := .seq (hid b_next_38) .ret
@[simp] def b_next_40 (_ : Unit) : EB := .seq (hid b_next_36) (hid b_next_39)
@[simp] def b_next_41 (_ : Unit) : EB := .seq (hid b_next_15) (hid b_next_40)
@[simp] def b_next_42 (_ : Unit) : EB := .seq (hid b_next_12) (hid b_next_41)
@[simp] def b_next_43 (_ : Unit) : EB := .seq (hid b_next_10) (hid b_next_42)
@[simp] def b_next_44 (_ : Unit) : EB := .seq (hid b_next_2) (hid b_next_43)
@[simp] theorem errV_5 : Value.iface 120 (.int .i64 5) = errV 5 := rfl
@[simp] theorem errV_20 : Value.iface 120 (.int .i64 20) = errV 20 := rfl
@[simp] theorem errV_27 : Value.iface 120 (.int .i64 27) = errV 27 := rfl
@[simp] theorem errV_33 : Value.iface 120 (.int .i64 33) = errV 33 := rfl
def SE (q : Sta × Nat) : EV := .tup [.agg (staC q.1), .c (.fz (.lit (errV q.2)))]
end Go.Proofs.YtflcfdeanneoeaaGreatDoor

namespace Go.Proofs.YtflcfdeanneoeaaGreatDoor
open Go Go.EW
set_option linter.unusedSimpArgs false
set_option linter.unusedVariables false

/- A state's copy: its payments, or its holds, as rows of one's own. -/
end Go.Proofs.YtflcfdeanneoeaaGreatDoor
