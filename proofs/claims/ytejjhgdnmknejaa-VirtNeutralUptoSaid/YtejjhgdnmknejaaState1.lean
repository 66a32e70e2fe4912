import Derived.Test.YtejjhgdnmknejaaEncM
namespace Go.Proofs.Ytejjhgdnmknejaa
open Go Go.EW
set_option linter.unusedSimpArgs false
set_option linter.unusedVariables false

@[simp] def l_side_1 (_ : Unit) : List EOp := [⟨0, (some 2), none, (.q (.mov (.k (.bool false)))), []⟩]
@[simp] def b_side_2 (_ : Unit) : EB := reg0 (hid l_side_1) 1
@[simp] def l_side_4 (_ : Unit) : List EOp := [⟨6, (some 2), none, (.q (.mov (.t 8))), []⟩]
@[simp] def l_side_3 (_ : Unit) : List EOp := ⟨0, (some 3), none, (.q (.mov (.t 0))), []⟩ :: ⟨1, (some 4), none, (.q (.bin .eql (.t 3) (.k (.int .i64 0)))), []⟩ :: ⟨2, (some 5), none, (.q (.mov (.t 4))), []⟩ :: ⟨3, (some 6), (some (5, false)), (.q (.mov (.t 0))), []⟩ :: ⟨4, (some 7), (some (5, false)), (.q (.bin .eql (.t 6) (.k (.int .i64 1)))), []⟩ :: ⟨5, (some 8), none, (.q (.pick (.t 5) (.k (.bool true)) (.t 7))), []⟩ :: hid l_side_4
@[simp] def b_side_5 (_ : Unit) : EB := reg0 (hid l_side_3) 7
@[simp] def b_side_6 (_ : Unit) : EB := .seq (hid b_side_5) .ret
@[simp] def b_side_7 (_ : Unit) : EB := .seq (hid b_side_2) (hid b_side_6)
def c_side : EB × List QOp × Nat := ((hid b_side_7), [(.mov (.t 2))], 9)
theorem k_side : cfun Try.prog 23 = some c_side := by kernel_rfl

@[simp] def l_amount_1 (_ : Unit) : List EOp := [⟨0, (some 4), none, (.q (.mov (.k (.bool false)))), []⟩]
@[simp] def b_amount_2 (_ : Unit) : EB := reg0 (hid l_amount_1) 1
@[simp] def l_amount_4 (_ : Unit) : List EOp := [⟨6, (some 11), none, (.q (.pick (.t 8) (.t 10) (.k (.bool false)))), []⟩, ⟨7, (some 4), none, (.q (.mov (.t 11))), []⟩]
@[simp] def l_amount_3 (_ : Unit) : List EOp := ⟨0, (some 5), none, (.q (.mov (.t 0))), []⟩ :: ⟨1, (some 6), none, (.q (.mov (.t 1))), []⟩ :: ⟨2, (some 7), none, (.q (.bin .geq (.t 5) (.t 6))), []⟩ :: ⟨3, (some 8), none, (.q (.mov (.t 7))), []⟩ :: ⟨4, (some 9), (some (8, true)), (.q (.mov (.t 0))), []⟩ :: ⟨5, (some 10), (some (8, true)), (.q (.bin .leq (.t 9) (.k (.int .i64 1125899906842624)))), []⟩ :: hid l_amount_4
@[simp] def b_amount_5 (_ : Unit) : EB := reg0 (hid l_amount_3) 8
@[simp] def b_amount_6 (_ : Unit) : EB := .seq (hid b_amount_5) .ret
@[simp] def b_amount_7 (_ : Unit) : EB := .seq (hid b_amount_2) (hid b_amount_6)
def c_amount : EB × List QOp × Nat := ((hid b_amount_7), [(.mov (.t 4))], 12)
theorem k_amount : cfun Try.prog 33 = some c_amount := by kernel_rfl

@[simp] def l_Pmay_1 (_ : Unit) : List EOp := [⟨0, (some 1), none, (.q (.box 63 (.t 0))), []⟩, ⟨1, (some 2), none, (.q (.mov (.k (.bool false)))), []⟩]
@[simp] def b_Pmay_2 (_ : Unit) : EB := reg0 (hid l_Pmay_1) 2
@[simp] def l_Pmay_8 (_ : Unit) : List EOp := [⟨30, (some 33), (some (31, true)), (.q (.lda 32 (.t 32))), []⟩, ⟨31, (some 34), (some (31, true)), (.q (.build zU8 [])), []⟩, ⟨32, (some 35), (some (31, true)), (.q (.eqa true 32 .u8 (.t 33) (.t 34))), []⟩, ⟨33, (some 36), none, (.q (.pick (.t 31) (.t 35) (.k (.bool false)))), []⟩, ⟨34, (some 2), none, (.q (.mov (.t 36))), []⟩]
@[simp] def l_Pmay_7 (_ : Unit) : List EOp := ⟨24, (some 27), (some (26, true)), (.q (.fad 3 (.t 1))), []⟩ :: ⟨25, (some 28), (some (26, true)), (.q (.ldc (.t 27))), []⟩ :: ⟨26, (some 29), (some (26, true)), (.q (.bin .leq (.t 28) (.k (.int .i64 1099511627776)))), []⟩ :: ⟨27, (some 30), none, (.q (.pick (.t 26) (.t 29) (.k (.bool false)))), []⟩ :: ⟨28, (some 31), none, (.q (.mov (.t 30))), []⟩ :: ⟨29, (some 32), (some (31, true)), (.q (.fad 4 (.t 1))), []⟩ :: hid l_Pmay_8
@[simp] def l_Pmay_6 (_ : Unit) : List EOp := ⟨18, (some 21), none, (.q (.mov (.t 20))), []⟩ :: ⟨19, (some 22), (some (21, true)), (.q (.fad 3 (.t 1))), []⟩ :: ⟨20, (some 23), (some (21, true)), (.q (.ldc (.t 22))), []⟩ :: ⟨21, (some 24), (some (21, true)), (.q (.bin .geq (.t 23) (.k (.int .i64 0)))), []⟩ :: ⟨22, (some 25), none, (.q (.pick (.t 21) (.t 24) (.k (.bool false)))), []⟩ :: ⟨23, (some 26), none, (.q (.mov (.t 25))), []⟩ :: hid l_Pmay_7
@[simp] def l_Pmay_5 (_ : Unit) : List EOp := ⟨12, (some 15), none, (.q (.pick (.t 11) (.t 14) (.k (.bool false)))), []⟩ :: ⟨13, (some 16), none, (.q (.mov (.t 15))), []⟩ :: ⟨14, (some 17), (some (16, true)), (.q (.fad 2 (.t 1))), []⟩ :: ⟨15, (some 18), (some (16, true)), (.q (.ldc (.t 17))), []⟩ :: ⟨16, (some 19), (some (16, true)), (.call 33 [(.t 18), (.k (.int .i64 10))]), []⟩ :: ⟨17, (some 20), none, (.q (.pick (.t 16) (.t 19) (.k (.bool false)))), []⟩ :: hid l_Pmay_6
@[simp] def l_Pmay_4 (_ : Unit) : List EOp := ⟨6, (some 9), (some (6, true)), (.q (.bin .leq (.t 8) (.k (.int .i64 4294967296)))), []⟩ :: ⟨7, (some 10), none, (.q (.pick (.t 6) (.t 9) (.k (.bool false)))), []⟩ :: ⟨8, (some 11), none, (.q (.mov (.t 10))), []⟩ :: ⟨9, (some 12), (some (11, true)), (.q (.fad 1 (.t 1))), []⟩ :: ⟨10, (some 13), (some (11, true)), (.q (.ldc (.t 12))), []⟩ :: ⟨11, (some 14), (some (11, true)), (.call 23 [(.t 13)]), []⟩ :: hid l_Pmay_5
@[simp] def l_Pmay_3 (_ : Unit) : List EOp := ⟨0, (some 3), none, (.q (.fad 0 (.t 1))), []⟩ :: ⟨1, (some 4), none, (.q (.ldc (.t 3))), []⟩ :: ⟨2, (some 5), none, (.q (.bin .geq (.t 4) (.k (.int .i64 0)))), []⟩ :: ⟨3, (some 6), none, (.q (.mov (.t 5))), []⟩ :: ⟨4, (some 7), (some (6, true)), (.q (.fad 0 (.t 1))), []⟩ :: ⟨5, (some 8), (some (6, true)), (.q (.ldc (.t 7))), []⟩ :: hid l_Pmay_4
@[simp] def b_Pmay_9 (_ : Unit) : EB := reg0 (hid l_Pmay_3) 35
@[simp] def b_Pmay_10 (_ : Unit) : EB := .seq (hid b_Pmay_9) .ret
@[simp] def b_Pmay_11 (_ : Unit) : EB := .seq (hid b_Pmay_2) (hid b_Pmay_10)
def c_Pmay : EB × List QOp × Nat := ((hid b_Pmay_11), [(.mov (.t 2))], 37)
theorem k_Pmay : cfun Try.prog 34 = some c_Pmay := by kernel_rfl

@[simp] def l_Hmay_1 (_ : Unit) : List EOp := [⟨0, (some 1), none, (.q (.box 57 (.t 0))), []⟩, ⟨1, (some 2), none, (.q (.mov (.k (.bool false)))), []⟩]
@[simp] def b_Hmay_2 (_ : Unit) : EB := reg0 (hid l_Hmay_1) 2
@[simp] def l_Hmay_3 (_ : Unit) : List EOp := [⟨0, (some 3), none, (.q (.mov (.k (.int .i64 (-1))))), []⟩]
@[simp] def b_Hmay_4 (_ : Unit) : EB := reg0 (hid l_Hmay_3) 1
@[simp] def l_Hmay_5 (_ : Unit) : List EOp := [⟨0, (some 6), none, (.q (.fad 2 (.t 1))), []⟩, ⟨1, (some 7), none, (.q (.ldc (.t 6))), []⟩, ⟨2, (some 8), none, (.q (.len (.t 7))), []⟩, ⟨3, (some 9), none, (.q (.mov (.k (.int .i64 0)))), []⟩]
@[simp] def b_Hmay_6 (_ : Unit) : EB := reg0 (hid l_Hmay_5) 4
@[simp] def l_Hmay_7 (_ : Unit) : List EOp := [⟨0, (some 10), none, (.q (.bin .lss (.t 9) (.t 8))), []⟩]
@[simp] def b_Hmay_8 (_ : Unit) : EB := reg0 (hid l_Hmay_7) 1
@[simp] def b_Hmay_9 (_ : Unit) : EB := .cond (.t 10) .skip (.exit 0)
@[simp] def l_Hmay_10 (_ : Unit) : List EOp := [⟨0, (some 11), none, (.q (.isl 1 (.t 7) (.t 9))), []⟩, ⟨1, (some 12), none, (.q (.ldc (.t 11))), []⟩, ⟨2, (some 5), none, (.q (.mov (.t 12))), []⟩]
@[simp] def b_Hmay_11 (_ : Unit) : EB := reg0 (hid l_Hmay_10) 3
@[simp] def l_Hmay_13 (_ : Unit) : List EOp := [⟨6, (some 19), none, (.q (.pick (.t 16) (.k (.bool true)) (.t 18))), []⟩]
@[simp] def l_Hmay_12 (_ : Unit) : List EOp := ⟨0, (some 13), none, (.q (.mov (.t 5))), []⟩ :: ⟨1, (some 14), none, (.q (.mov (.t 3))), []⟩ :: ⟨2, (some 15), none, (.q (.bin .leq (.t 13) (.t 14))), []⟩ :: ⟨3, (some 16), none, (.q (.mov (.t 15))), []⟩ :: ⟨4, (some 17), (some (16, false)), (.q (.mov (.t 5))), []⟩ :: ⟨5, (some 18), (some (16, false)), (.q (.bin .geq (.t 17) (.k (.int .i64 16)))), []⟩ :: hid l_Hmay_13
@[simp] def b_Hmay_14 (_ : Unit) : EB := reg0 (hid l_Hmay_12) 7
@[simp] def l_Hmay_15 (_ : Unit) : List EOp := [⟨0, (some 2), none, (.q (.mov (.k (.bool false)))), []⟩]
@[simp] def b_Hmay_16 (_ : Unit) : EB := reg0 (hid l_Hmay_15) 1
@[simp] def b_Hmay_17 (_ : Unit) : EB := .seq (hid b_Hmay_16) .ret
@[simp] def b_Hmay_18 (_ : Unit) : EB := .cond (.t 19) (hid b_Hmay_17) .skip
@[simp] def b_Hmay_19 (_ : Unit) : EB := .seq (hid b_Hmay_14) (hid b_Hmay_18)
@[simp] def l_Hmay_20 (_ : Unit) : List EOp := [⟨0, (some 20), none, (.q (.mov (.t 5))), []⟩, ⟨1, (some 3), none, (.q (.mov (.t 20))), []⟩]
@[simp] def b_Hmay_21 (_ : Unit) : EB := reg0 (hid l_Hmay_20) 2
@[simp] def b_Hmay_22 (_ : Unit) : EB := .seq (hid b_Hmay_19) (hid b_Hmay_21)
@[simp] def b_Hmay_23 (_ : Unit) : EB := .seq (hid b_Hmay_11) (hid b_Hmay_22)
@[simp] def b_Hmay_24 (_ : Unit) : EB := .block 1 (hid b_Hmay_23)
@[simp] def l_Hmay_25 (_ : Unit) : List EOp := [⟨0, (some 21), none, (.q (.bin .add (.t 9) (.k (.int .i64 1)))), []⟩, ⟨1, (some 9), none, (.q (.mov (.t 21))), []⟩]
@[simp] def b_Hmay_26 (_ : Unit) : EB := reg0 (hid l_Hmay_25) 2
@[simp] def b_Hmay_27 (_ : Unit) : EB := .seq (hid b_Hmay_24) (hid b_Hmay_26)
@[simp] def b_Hmay_28 (_ : Unit) : EB := .seq (hid b_Hmay_9) (hid b_Hmay_27)
@[simp] def b_Hmay_29 (_ : Unit) : EB := .seq (hid b_Hmay_8) (hid b_Hmay_28)
@[simp] def b_Hmay_30 (_ : Unit) : EB := .loop (hid b_Hmay_29)
@[simp] def b_Hmay_31 (_ : Unit) : EB := .block 0 (hid b_Hmay_30)
@[simp] def b_Hmay_32 (_ : Unit) : EB := .seq (hid b_Hmay_6) (hid b_Hmay_31)
@[simp] def l_Hmay_36 (_ : Unit) : List EOp := [⟨18, (some 40), none, (.q (.pick (.t 35) (.t 39) (.k (.bool false)))), []⟩, ⟨19, (some 2), none, (.q (.mov (.t 40))), []⟩]
@[simp] def l_Hmay_35 (_ : Unit) : List EOp := ⟨12, (some 34), none, (.q (.pick (.t 30) (.t 33) (.k (.bool false)))), []⟩ :: ⟨13, (some 35), none, (.q (.mov (.t 34))), []⟩ :: ⟨14, (some 36), (some (35, true)), (.q (.fad 2 (.t 1))), []⟩ :: ⟨15, (some 37), (some (35, true)), (.q (.ldc (.t 36))), []⟩ :: ⟨16, (some 38), (some (35, true)), (.q (.len (.t 37))), []⟩ :: ⟨17, (some 39), (some (35, true)), (.q (.bin .geq (.t 38) (.k (.int .i64 1)))), []⟩ :: hid l_Hmay_36
@[simp] def l_Hmay_34 (_ : Unit) : List EOp := ⟨6, (some 28), (some (25, true)), (.q (.bin .leq (.t 27) (.k (.int .i64 4294967296)))), []⟩ :: ⟨7, (some 29), none, (.q (.pick (.t 25) (.t 28) (.k (.bool false)))), []⟩ :: ⟨8, (some 30), none, (.q (.mov (.t 29))), []⟩ :: ⟨9, (some 31), (some (30, true)), (.q (.fad 1 (.t 1))), []⟩ :: ⟨10, (some 32), (some (30, true)), (.q (.ldc (.t 31))), []⟩ :: ⟨11, (some 33), (some (30, true)), (.call 33 [(.t 32), (.k (.int .i64 10))]), []⟩ :: hid l_Hmay_35
@[simp] def l_Hmay_33 (_ : Unit) : List EOp := ⟨0, (some 22), none, (.q (.fad 0 (.t 1))), []⟩ :: ⟨1, (some 23), none, (.q (.ldc (.t 22))), []⟩ :: ⟨2, (some 24), none, (.q (.bin .geq (.t 23) (.k (.int .i64 0)))), []⟩ :: ⟨3, (some 25), none, (.q (.mov (.t 24))), []⟩ :: ⟨4, (some 26), (some (25, true)), (.q (.fad 0 (.t 1))), []⟩ :: ⟨5, (some 27), (some (25, true)), (.q (.ldc (.t 26))), []⟩ :: hid l_Hmay_34
@[simp] def b_Hmay_37 (_ : Unit) : EB := reg0 (hid l_Hmay_33) 20
@[simp] def b_Hmay_38 (_ : Unit) : EB := .seq (hid b_Hmay_37) .ret
@[simp] def b_Hmay_39 (_ : Unit) : EB := .seq (hid b_Hmay_32) (hid b_Hmay_38)
@[simp] def b_Hmay_40 (_ : Unit) : EB := .seq (hid b_Hmay_4) (hid b_Hmay_39)
@[simp] def b_Hmay_41 (_ : Unit) : EB := .seq (hid b_Hmay_2) (hid b_Hmay_40)
def c_Hmay : EB × List QOp × Nat := ((hid b_Hmay_41), [(.mov (.t 2))], 41)
theorem k_Hmay : cfun Try.prog 24 = some c_Hmay := by kernel_rfl


/-! ### payments, holds, states: plain -/
structure Pay where
  id : Int
  fr : Int
  am : Int
  af : Int
  lock : List UInt8
structure Hol where
  id : Int
  am : Int
  keys : List Int
structure Sta where
  num : Int
  h0 : Int
  h1 : Int
  pays : List Pay
  holds : List Hol
def i64 (n : Int) : Prop := -9223372036854775808 ≤ n ∧ n ≤ 9223372036854775807
def Pay.ok (p : Pay) : Prop := i64 p.id ∧ i64 p.fr ∧ i64 p.am ∧ i64 p.af ∧ p.lock.length = 32
def Hol.ok (h : Hol) : Prop := i64 h.id ∧ i64 h.am ∧ (∀ k ∈ h.keys, i64 k) ∧ h.keys.length ≤ 100000000
def Sta.ok (s : Sta) : Prop := i64 s.num ∧ i64 s.h0 ∧ i64 s.h1 ∧ (∀ p ∈ s.pays, p.ok) ∧ (∀ h ∈ s.holds, h.ok) ∧ s.pays.length ≤ 100000000 ∧ s.holds.length ≤ 100000000
def payF (p : Pay) : List FV := .lit (.int .i64 p.id) :: .lit (.int .i64 p.fr) :: .lit (.int .i64 p.am) :: .lit (.int .i64 p.af) :: hf p.lock
def intv (l : List Int) : List (List FV) := l.map fun k => [.lit (.int .i64 k)]
def holF (h : Hol) : List FV := [.lit (.int .i64 h.id), .lit (.int .i64 h.am), .sl 1 (intv h.keys)]
def payv (l : List Pay) : List (List FV) := l.map payF
def holv (l : List Hol) : List (List FV) := l.map holF
@[simp] theorem payv_len (l : List Pay) : (payv l).length = l.length := by simp [payv]
@[simp] theorem holv_len (l : List Hol) : (holv l).length = l.length := by simp [holv]
theorem payv_get {l : List Pay} {i : Nat} {p : Pay} (h : l[i]? = some p) : (payv l)[i]? = some (payF p) := by simp [payv, h]
theorem holv_get {l : List Hol} {i : Nat} {p : Hol} (h : l[i]? = some p) : (holv l)[i]? = some (holF p) := by simp [holv, h]
def payC (p : Pay) : List EC := .fz (.lit (.int .i64 p.id)) :: .fz (.lit (.int .i64 p.fr)) :: .fz (.lit (.int .i64 p.am)) :: .fz (.lit (.int .i64 p.af)) :: hc p.lock
def holC (h : Hol) : List EC := [.fz (.lit (.int .i64 h.id)), .fz (.lit (.int .i64 h.am)), .fz (.sl 1 (intv h.keys))]
def staC (s : Sta) : List EC := [.fz (.lit (.int .i64 s.num)), .fz (.lit (.int .i64 s.h0)), .fz (.lit (.int .i64 s.h1)), .fz (.sl 36 (payv s.pays)), .fz (.sl 3 (holv s.holds))]
def SV (s : Sta) : EV := .v (.agg (staC s))
theorem payF_len {p : Pay} (h : p.lock.length = 32) : (payF p).length = 36 := by simp [payF, h]
theorem payF_fz (p : Pay) : (payF p).map EC.fz = payC p := by simp [payF, payC]
theorem payC_len {p : Pay} (h : p.lock.length = 32) : (payC p).length = 36 := by simp [payC, h]
theorem payC_take {p : Pay} (h : p.lock.length = 32) : (payC p).take 36 = payC p := List.take_of_length_le (by rw [payC_len h]; omega)
theorem hc_t32 {l : List UInt8} (h : l.length = 32) : (hc l).take 32 = hc l := List.take_of_length_le (by rw [hc_len, h]; omega)
@[simp] theorem intv_len (l : List Int) : (intv l).length = l.length := by simp [intv]

/-! ### what may be -/
def mayP (p : Pay) : Bool := decide (0 ≤ p.id ∧ p.id ≤ 4294967296 ∧ (p.fr = 0 ∨ p.fr = 1) ∧ 10 ≤ p.am ∧ p.am ≤ 1125899906842624 ∧ 0 ≤ p.af ∧ p.af ≤ 1099511627776 ∧ p.lock ≠ hz)
def keysS : Int → List Int → Bool
  | _, [] => true
  | last, k :: r => decide (last < k ∧ k < 16) && keysS k r
def mayH (h : Hol) : Bool := keysS (-1) h.keys && decide (0 ≤ h.id ∧ h.id ≤ 4294967296 ∧ 10 ≤ h.am ∧ h.am ≤ 1125899906842624 ∧ 1 ≤ h.keys.length)
def aft (o : Option Int) (n : Int) : Bool := match o with
  | none => true
  | some q => decide (q < n)
def payL : Option Int → List Pay → Bool
  | _, [] => true
  | o, p :: r => mayP p && aft o p.id && payL (some p.id) r
def holL : Option Int → List Hol → Bool
  | _, [] => true
  | o, h :: r => mayH h && aft o h.id && holL (some h.id) r
def sumP (l : List Pay) : Int := (l.map (·.am)).sum
def sumH (l : List Hol) : Int := (l.map (·.am)).sum
def total (s : Sta) : Int := s.h0 + s.h1 + sumP s.pays + sumH s.holds
def mayS (s : Sta) : Bool := decide (0 ≤ s.num ∧ s.num ≤ 1099511627776 ∧ 0 ≤ s.h0 ∧ s.h0 ≤ 1125899906842624 ∧ 0 ≤ s.h1 ∧ s.h1 ≤ 1125899906842624 ∧ s.pays.length ≤ 8 ∧ s.holds.length + s.pays.length ≤ 8) && payL none s.pays && holL none s.holds && decide (total s ≤ 1125899906842624)

theorem side_ok (n : Int) : ECalls Try.prog 23 [I .i64 n] [] fun y H' => H' = [] ∧ y = .lit (.bool (decide (n = 0 ∨ n = 1))) := by
  refine ecalls k_side ?_
  simp [c_side, I]
  by_cases h : n = 0
  · simp [h]
    exact fin [] (by decide) rfl rfl rfl ⟨rfl, rfl⟩
  · simp [h]
    exact fin [] (by decide) rfl rfl rfl ⟨rfl, rfl⟩

theorem amount_ok (n least : Int) : ECalls Try.prog 33 [I .i64 n, I .i64 least] [] fun y H' => H' = [] ∧ y = .lit (.bool (decide (least ≤ n ∧ n ≤ 1125899906842624))) := by
  refine ecalls k_amount ?_
  simp [c_amount, I]
  by_cases h : least ≤ n
  · simp [h]
    exact fin [] (by decide) rfl rfl rfl ⟨rfl, rfl⟩
  · simp [h]
    exact fin [] (by decide) rfl rfl rfl ⟨rfl, rfl⟩

set_option maxHeartbeats 1000000 in
theorem Pmay_ok (p : Pay) (hp : p.lock.length = 32) : ECalls Try.prog 34 [.v (.agg (payC p))] [] fun y H' => H' = [] ∧ y = .lit (.bool (mayP p)) := by
  have ht : p.lock.take 32 = p.lock := List.take_of_length_le (by omega)
  refine ecalls k_Pmay ?_
  simp [c_Pmay, payC, I, ht]
  refine alt (fun h1 => ?_) (fun h1 => ?_)
  rotate_left
  · (first | simp [I, EV.lit, h1, Int.not_le.2 h1] | simp [I, EV.lit, h1, Int.not_lt.2 h1] | simp [I, EV.lit, h1, Int.not_lt.1 h1] | simp [I, EV.lit, h1, Int.not_le.1 h1] | simp [I, EV.lit, h1])
    exact fin [] (by decide) rfl rfl rfl ⟨rfl, by rw [show mayP p = false from decide_eq_false (by omega)]⟩
  (first | simp [I, EV.lit, h1, Int.not_le.2 h1] | simp [I, EV.lit, h1, Int.not_lt.2 h1] | simp [I, EV.lit, h1, Int.not_lt.1 h1] | simp [I, EV.lit, h1, Int.not_le.1 h1] | simp [I, EV.lit, h1])
  refine alt (fun h2 => ?_) (fun h2 => ?_)
  rotate_left
  · (first | simp [I, EV.lit, h2, Int.not_le.2 h2] | simp [I, EV.lit, h2, Int.not_lt.2 h2] | simp [I, EV.lit, h2, Int.not_lt.1 h2] | simp [I, EV.lit, h2, Int.not_le.1 h2] | simp [I, EV.lit, h2])
    exact fin [] (by decide) rfl rfl rfl ⟨rfl, by rw [show mayP p = false from decide_eq_false (by omega)]⟩
  (first | simp [I, EV.lit, h2, Int.not_le.2 h2] | simp [I, EV.lit, h2, Int.not_lt.2 h2] | simp [I, EV.lit, h2, Int.not_lt.1 h2] | simp [I, EV.lit, h2, Int.not_le.1 h2] | simp [I, EV.lit, h2])
  refine call0 (side_ok p.fr) (by simp [I, EV.lit]) ?_
  rintro y H' ⟨rfl, rfl⟩
  refine ⟨.inl (by simp [I, EV.lit]), le_ok rfl, ?_⟩
  simp [EV.lit]
  refine alt (fun h3 => ?_) (fun h3 => ?_)
  rotate_left
  · (first | simp [I, EV.lit, h3, Int.not_le.2 h3] | simp [I, EV.lit, h3, Int.not_lt.2 h3] | simp [I, EV.lit, h3, Int.not_lt.1 h3] | simp [I, EV.lit, h3, Int.not_le.1 h3] | simp [I, EV.lit, h3])
    exact fin [] (by decide) rfl rfl rfl ⟨rfl, by rw [show mayP p = false from decide_eq_false (by omega)]⟩
  (first | simp [I, EV.lit, h3, Int.not_le.2 h3] | simp [I, EV.lit, h3, Int.not_lt.2 h3] | simp [I, EV.lit, h3, Int.not_lt.1 h3] | simp [I, EV.lit, h3, Int.not_le.1 h3] | simp [I, EV.lit, h3])
  refine call0 (amount_ok p.am 10) (by simp [I, EV.lit]) ?_
  rintro y H' ⟨rfl, rfl⟩
  refine ⟨.inl (by simp [I, EV.lit]), le_ok rfl, ?_⟩
  simp [EV.lit]
  refine alt (fun h4 => ?_) (fun h4 => ?_)
  rotate_left
  · (first | simp [I, EV.lit, h4, Int.not_le.2 h4] | simp [I, EV.lit, h4, Int.not_lt.2 h4] | simp [I, EV.lit, h4, Int.not_lt.1 h4] | simp [I, EV.lit, h4, Int.not_le.1 h4] | simp [I, EV.lit, h4])
    exact fin [] (by decide) rfl rfl rfl ⟨rfl, by rw [show mayP p = false from decide_eq_false (by omega)]⟩
  (first | simp [I, EV.lit, h4, Int.not_le.2 h4] | simp [I, EV.lit, h4, Int.not_lt.2 h4] | simp [I, EV.lit, h4, Int.not_lt.1 h4] | simp [I, EV.lit, h4, Int.not_le.1 h4] | simp [I, EV.lit, h4])
  refine alt (fun h5 => ?_) (fun h5 => ?_)
  rotate_left
  · (first | simp [I, EV.lit, h5, Int.not_le.2 h5] | simp [I, EV.lit, h5, Int.not_lt.2 h5] | simp [I, EV.lit, h5, Int.not_lt.1 h5] | simp [I, EV.lit, h5, Int.not_le.1 h5] | simp [I, EV.lit, h5])
    exact fin [] (by decide) rfl rfl rfl ⟨rfl, by rw [show mayP p = false from decide_eq_false (by omega)]⟩
  (first | simp [I, EV.lit, h5, Int.not_le.2 h5] | simp [I, EV.lit, h5, Int.not_lt.2 h5] | simp [I, EV.lit, h5, Int.not_lt.1 h5] | simp [I, EV.lit, h5, Int.not_le.1 h5] | simp [I, EV.lit, h5])
  refine alt (fun h6 => ?_) (fun h6 => ?_)
  rotate_left
  · (first | simp [I, EV.lit, h6, Int.not_le.2 h6] | simp [I, EV.lit, h6, Int.not_lt.2 h6] | simp [I, EV.lit, h6, Int.not_lt.1 h6] | simp [I, EV.lit, h6, Int.not_le.1 h6] | simp [I, EV.lit, h6])
    exact fin [] (by decide) rfl rfl rfl ⟨rfl, by rw [show mayP p = false from decide_eq_false (by omega)]⟩
  (first | simp [I, EV.lit, h6, Int.not_le.2 h6] | simp [I, EV.lit, h6, Int.not_lt.2 h6] | simp [I, EV.lit, h6, Int.not_lt.1 h6] | simp [I, EV.lit, h6, Int.not_le.1 h6] | simp [I, EV.lit, h6])
  refine alt (fun h7 => ?_) (fun h7 => ?_)
  rotate_left
  · simp [h7]
    exact fin [] (by decide) rfl rfl rfl ⟨rfl, by rw [show mayP p = false from decide_eq_false (by omega)]⟩
  simp [h7, hp, ht]
  have hm : mayP p = !decide (p.lock = hz) := by
    by_cases e : p.lock = hz
    · rw [show mayP p = false from decide_eq_false (fun h => h.2.2.2.2.2.2.2 e)]; simp [e]
    · rw [show mayP p = true from decide_eq_true ⟨by omega, by omega, by omega, by omega, by omega, by omega, by omega, e⟩]; simp [e]
  exact fin [] (by decide) rfl rfl rfl ⟨rfl, by rw [hm]⟩

theorem mayH_f {h : Hol} (q : ¬ (0 ≤ h.id ∧ h.id ≤ 4294967296 ∧ 10 ≤ h.am ∧ h.am ≤ 1125899906842624 ∧ 1 ≤ h.keys.length)) : mayH h = false := by simp only [mayH, decide_eq_false q, Bool.and_false]
theorem intv_get {l : List Int} {i : Nat} {k : Int} (h : l[i]? = some k) : (intv l)[i]? = some [.lit (.int .i64 k)] := by simp [intv, h]
def IL (l : List Int) : EV := .v (.c (.fz (.sl 1 (intv l))))

set_option maxHeartbeats 1000000 in
theorem Hmay_ok (h : Hol) (hk : h.keys.length ≤ 100000000) : ECalls Try.prog 24 [.v (.agg (holC h))] [] fun y H' => H' = [] ∧ y = .lit (.bool (mayH h)) := by
  refine ecalls k_Hmay ?_
  simp [c_Hmay, holC]
  refine eloop (α := Nat × Int) (fun a => a.1 ≤ h.keys.length ∧ keysS (-1) h.keys = keysS a.2 (h.keys.drop a.1)) (fun a => h.keys.length - a.1)
    (fun a => [.any, Ptr 0, .any, I .i64 a.2, .any, .any, .any, IL h.keys, I .i64 h.keys.length, I .i64 a.1, .any, .any, .any, .any, .any, .any, .any, .any, .any, .any, .any, .any, .any, .any, .any, .any, .any, .any, .any, .any, .any, .any, .any, .any, .any, .any, .any, .any, .any, .any, .any]) (fun a => [some (.box 57 (holC h))]) (0, -1) [0]
    ⟨by simp, by simp⟩ (by simp [Ptr, I, IL]) (by simp [holC]) (by simp) (by simp) (by simp) ?_
  rintro ⟨i, last⟩ ⟨hi1, hi2⟩
  simp [Ptr, I, IL, holC] at hi1 hi2 ⊢
  refine alt (fun hlt => ?_) (fun hlt => ?_)
  · obtain ⟨k, hc⟩ : ∃ k, h.keys[i]? = some k := ⟨h.keys[i], by simp [hlt]⟩
    have hcb := intv_get hc
    rw [drop_cons hc] at hi2
    have w1 : IntKind.i64.wrap ((i : Int) + 1) = ((i + 1 : Nat) : Int) := wrap_i64 (by omega) (by omega)
    have hbad : ¬ (last < k ∧ k < 16) → mayH h = false := fun q => by simp only [mayH, hi2, keysS, decide_eq_false q, Bool.false_and]
    have hgood : last < k → k < 16 → keysS (-1) h.keys = keysS k (h.keys.drop (i + 1)) := fun q1 q2 => by rw [hi2, keysS, decide_eq_true ⟨q1, q2⟩, Bool.true_and]
    simp [hcb]
    refine alt (fun c1 => ?_) (fun c1 => ?_)
    rotate_left
    · (first | simp [I, EV.lit, c1, Int.not_le.2 c1] | simp [I, EV.lit, c1, Int.not_lt.2 c1] | simp [I, EV.lit, c1, Int.not_lt.1 c1] | simp [I, EV.lit, c1, Int.not_le.1 c1] | simp [I, EV.lit, c1])
      exact fin [] (by decide) rfl rfl rfl ⟨rfl, by rw [hbad (by omega)]⟩
    (first | simp [I, EV.lit, c1, Int.not_le.2 c1] | simp [I, EV.lit, c1, Int.not_lt.2 c1] | simp [I, EV.lit, c1, Int.not_lt.1 c1] | simp [I, EV.lit, c1, Int.not_le.1 c1] | simp [I, EV.lit, c1])
    refine alt (fun c2 => ?_) (fun c2 => ?_)
    · (first | simp [I, EV.lit, c2, Int.not_le.2 c2] | simp [I, EV.lit, c2, Int.not_lt.2 c2] | simp [I, EV.lit, c2, Int.not_lt.1 c2] | simp [I, EV.lit, c2, Int.not_le.1 c2] | simp [I, EV.lit, c2])
      exact fin [] (by decide) rfl rfl rfl ⟨rfl, by rw [hbad (by omega)]⟩
    (first | simp [I, EV.lit, c2, Int.not_le.2 c2, w1, -Int.natCast_add] | simp [I, EV.lit, c2, Int.not_lt.2 c2, w1, -Int.natCast_add] | simp [I, EV.lit, c2, Int.not_lt.1 c2, w1, -Int.natCast_add] | simp [I, EV.lit, c2, Int.not_le.1 c2, w1, -Int.natCast_add] | simp [I, EV.lit, c2, w1, -Int.natCast_add])
    exact round (i + 1, k) [0] ⟨by omega, hgood (by omega) (by omega)⟩ (by simp; omega) (by simp) (by simp) (by simp) (by simp) (by simp)
  · have hd : h.keys.drop i = [] := by rw [List.drop_eq_nil_iff]; omega
    have hks : keysS (-1) h.keys = true := by rw [hi2, hd]; rfl
    simp
    refine alt (fun c1 => ?_) (fun c1 => ?_)
    rotate_left
    · (first | simp [I, EV.lit, c1, Int.not_le.2 c1] | simp [I, EV.lit, c1, Int.not_lt.2 c1] | simp [I, EV.lit, c1, Int.not_lt.1 c1] | simp [I, EV.lit, c1, Int.not_le.1 c1] | simp [I, EV.lit, c1])
      exact fin [] (by decide) rfl rfl rfl ⟨rfl, by rw [mayH_f (by omega)]⟩
    (first | simp [I, EV.lit, c1, Int.not_le.2 c1] | simp [I, EV.lit, c1, Int.not_lt.2 c1] | simp [I, EV.lit, c1, Int.not_lt.1 c1] | simp [I, EV.lit, c1, Int.not_le.1 c1] | simp [I, EV.lit, c1])
    refine alt (fun c2 => ?_) (fun c2 => ?_)
    rotate_left
    · (first | simp [I, EV.lit, c2, Int.not_le.2 c2] | simp [I, EV.lit, c2, Int.not_lt.2 c2] | simp [I, EV.lit, c2, Int.not_lt.1 c2] | simp [I, EV.lit, c2, Int.not_le.1 c2] | simp [I, EV.lit, c2])
      exact fin [] (by decide) rfl rfl rfl ⟨rfl, by rw [mayH_f (by omega)]⟩
    (first | simp [I, EV.lit, c2, Int.not_le.2 c2] | simp [I, EV.lit, c2, Int.not_lt.2 c2] | simp [I, EV.lit, c2, Int.not_lt.1 c2] | simp [I, EV.lit, c2, Int.not_le.1 c2] | simp [I, EV.lit, c2])
    refine call0 (amount_ok h.am 10) (by simp [I, EV.lit]) ?_
    rintro y H' ⟨rfl, rfl⟩
    refine ⟨.inl (by simp [I, EV.lit]), le_ok rfl, ?_⟩
    simp [EV.lit]
    refine alt (fun c3 => ?_) (fun c3 => ?_)
    rotate_left
    · (first | simp [I, EV.lit, c3, Int.not_le.2 c3] | simp [I, EV.lit, c3, Int.not_lt.2 c3] | simp [I, EV.lit, c3, Int.not_lt.1 c3] | simp [I, EV.lit, c3, Int.not_le.1 c3] | simp [I, EV.lit, c3])
      exact fin [] (by decide) rfl rfl rfl ⟨rfl, by rw [mayH_f (by omega)]⟩
    (first | simp [I, EV.lit, c3, Int.not_le.2 c3] | simp [I, EV.lit, c3, Int.not_lt.2 c3] | simp [I, EV.lit, c3, Int.not_lt.1 c3] | simp [I, EV.lit, c3, Int.not_le.1 c3] | simp [I, EV.lit, c3])
    by_cases q : 1 ≤ h.keys.length
    · have hm : mayH h = true := by
        simp only [mayH, hks, Bool.true_and]
        exact decide_eq_true ⟨by omega, by omega, by omega, by omega, q⟩
      exact fin [] (by decide) rfl rfl rfl ⟨rfl, litB (by rw [hm]; exact decide_eq_true (by omega))⟩
    · exact fin [] (by decide) rfl rfl rfl ⟨rfl, litB (by rw [mayH_f (by omega)]; exact decide_eq_false (by omega))⟩

end Go.Proofs.Ytejjhgdnmknejaa
