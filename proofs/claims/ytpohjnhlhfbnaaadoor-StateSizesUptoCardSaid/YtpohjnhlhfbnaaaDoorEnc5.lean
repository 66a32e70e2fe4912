import Derived.Test.YtpohjnhlhfbnaaaDoorEnc2
namespace Go.Proofs.YtpohjnhlhfbnaaaDoor
open Go Go.EW
set_option linter.unusedSimpArgs false

@[simp] def l_Read_1 (_ : Unit) : List EOp := [⟨0, (some 2), none, (.q (.mov (.k (.pointer none)))), []⟩]
@[simp] def b_Read_2 (_ : Unit) : EB := reg0 (hid l_Read_1) 1
@[simp] def l_Read_3 (_ : Unit) : List EOp := [⟨0, (some 3), none, (.q (.mov (.t 0))), []⟩, ⟨1, (some 4), none, (.q (.build [(.slice none 0 0), (.int .i64 0), .nilIface] [(0, 1, (.t 3))])), []⟩, ⟨2, (some 5), none, (.q (.box 131 (.t 4))), []⟩, ⟨3, (some 2), none, (.q (.mov (.t 5))), []⟩]
@[simp] def b_Read_4 (_ : Unit) : EB := reg0 (hid l_Read_3) 4
@[simp] def b_Read_5 (_ : Unit) : EB := .seq (hid b_Read_4) .ret
@[simp] def b_Read_6 (_ : Unit) : EB := .seq (hid b_Read_2) (hid b_Read_5)
def c_Read : EB × List QOp × Nat := ((hid b_Read_6), [(.mov (.t 2))], 6)
theorem k_Read : cfun Tryd.prog 45 = some c_Read := by kernel_rfl

@[simp] def l_off_1 (_ : Unit) : List EOp := [⟨0, (some 2), none, (.q (.mov (.k (.bool false)))), []⟩]
@[simp] def b_off_2 (_ : Unit) : EB := reg0 (hid l_off_1) 1
@[simp] def l_off_4 (_ : Unit) : List EOp := [⟨6, (some 9), (some (5, false)), (.q (.ldc (.t 8))), []⟩, ⟨7, (some 10), (some (5, false)), (.q (.eqi true (.t 9))), []⟩, ⟨8, (some 11), none, (.q (.pick (.t 5) (.k (.bool true)) (.t 10))), []⟩, ⟨9, (some 2), none, (.q (.mov (.t 11))), []⟩]
@[simp] def l_off_3 (_ : Unit) : List EOp := ⟨0, (some 3), none, (.q (.mov (.t 0))), []⟩ :: ⟨1, (some 4), none, (.q (.eqp false (.t 3))), []⟩ :: ⟨2, (some 5), none, (.q (.mov (.t 4))), []⟩ :: ⟨3, (some 6), (some (5, false)), (.q (.mov (.t 0))), []⟩ :: ⟨4, (some 7), (some (5, false)), (.q (.nilc (.t 6))), []⟩ :: ⟨5, (some 8), (some (5, false)), (.q (.fad 2 (.t 7))), []⟩ :: hid l_off_4
@[simp] def b_off_5 (_ : Unit) : EB := reg0 (hid l_off_3) 10
@[simp] def b_off_6 (_ : Unit) : EB := .seq (hid b_off_5) .ret
@[simp] def b_off_7 (_ : Unit) : EB := .seq (hid b_off_2) (hid b_off_6)
def c_off : EB × List QOp × Nat := ((hid b_off_7), [(.mov (.t 2))], 12)
theorem k_off : cfun Tryd.prog 86 = some c_off := by kernel_rfl

@[simp] def l_rest_1 (_ : Unit) : List EOp := [⟨0, (some 2), none, (.q (.mov (.k (.slice none 0 0)))), []⟩]
@[simp] def b_rest_2 (_ : Unit) : EB := reg0 (hid l_rest_1) 1
@[simp] def l_rest_4 (_ : Unit) : List EOp := [⟨6, (some 9), none, (.q (.fad 1 (.t 8))), []⟩, ⟨7, (some 10), none, (.q (.ldc (.t 9))), []⟩, ⟨8, (some 11), none, (.q (.ssl 1 (.t 6) (some (.t 10)) none)), []⟩, ⟨9, (some 2), none, (.q (.mov (.t 11))), []⟩]
@[simp] def l_rest_3 (_ : Unit) : List EOp := ⟨0, (some 3), none, (.q (.mov (.t 0))), []⟩ :: ⟨1, (some 4), none, (.q (.nilc (.t 3))), []⟩ :: ⟨2, (some 5), none, (.q (.fad 0 (.t 4))), []⟩ :: ⟨3, (some 6), none, (.q (.ldc (.t 5))), []⟩ :: ⟨4, (some 7), none, (.q (.mov (.t 0))), []⟩ :: ⟨5, (some 8), none, (.q (.nilc (.t 7))), []⟩ :: hid l_rest_4
@[simp] def b_rest_5 (_ : Unit) : EB := reg0 (hid l_rest_3) 10
@[simp] def b_rest_6 (_ : Unit) : EB := .seq (hid b_rest_5) .ret
@[simp] def b_rest_7 (_ : Unit) : EB := .seq (hid b_rest_2) (hid b_rest_6)
def c_rest : EB × List QOp × Nat := ((hid b_rest_7), [(.mov (.t 2))], 12)
theorem k_rest : cfun Tryd.prog 88 = some c_rest := by kernel_rfl

@[simp] def l_fail_1 (_ : Unit) : List EOp := [⟨0, (some 4), none, (.q (.mov (.t 0))), []⟩, ⟨1, (some 5), none, (.q (.nilc (.t 4))), []⟩, ⟨2, (some 6), none, (.q (.fad 2 (.t 5))), []⟩, ⟨3, (some 7), none, (.q (.ldc (.t 6))), []⟩, ⟨4, (some 8), none, (.q (.eqi false (.t 7))), []⟩]
@[simp] def b_fail_2 (_ : Unit) : EB := reg0 (hid l_fail_1) 5
@[simp] def l_fail_3 (_ : Unit) : List EOp := [⟨0, (some 9), none, (.q (.mov (.t 0))), []⟩, ⟨1, (some 10), none, (.q (.mov (.t 1))), []⟩, ⟨2, (some 11), none, (.q (.nilc (.t 9))), []⟩, ⟨3, (some 12), none, (.q (.fad 2 (.t 11))), []⟩, ⟨4, none, none, (.sto 1 (.t 12) (.t 10)), []⟩]
@[simp] def b_fail_4 (_ : Unit) : EB := reg0 (hid l_fail_3) 5
@[simp] def b_fail_5 (_ : Unit) : EB := .cond (.t 8) (hid b_fail_4) .skip
@[simp] def b_fail_6 (_ : Unit) : EB := .seq (hid b_fail_2) (hid b_fail_5)
def c_fail : EB × List QOp × Nat := ((hid b_fail_6), [], 13)
theorem k_fail : cfun Tryd.prog 89 = some c_fail := by kernel_rfl

@[simp] def l_low_1 (_ : Unit) : List EOp := [⟨0, (some 6), none, (.q (.mov (.k (.int .u64 0)))), []⟩, ⟨1, (some 7), none, (.q (.mov (.k .nilIface))), []⟩]
@[simp] def b_low_2 (_ : Unit) : EB := reg0 (hid l_low_1) 2
@[simp] def l_low_3 (_ : Unit) : List EOp := [⟨0, (some 12), none, (.q (.mov (.t 0))), []⟩, ⟨1, (some 13), none, (.call 88 [(.t 12)]), []⟩, ⟨2, (some 14), none, (.q (.ssl 1 (.t 13) (some (.k (.int .i64 1))) none)), []⟩, ⟨3, (some 8), none, (.q (.mov (.t 14))), []⟩]
@[simp] def b_low_4 (_ : Unit) : EB := reg0 (hid l_low_3) 4
@[simp] def l_low_5 (_ : Unit) : List EOp := [⟨0, (some 15), none, (.q (.mov (.t 8))), []⟩, ⟨1, (some 16), none, (.q (.len (.t 15))), []⟩, ⟨2, (some 17), none, (.q (.mov (.t 1))), []⟩, ⟨3, (some 18), none, (.q (.bin .lss (.t 16) (.t 17))), []⟩]
@[simp] def b_low_6 (_ : Unit) : EB := reg0 (hid l_low_5) 4
@[simp] def l_low_7 (_ : Unit) : List EOp := [⟨0, (some 19), none, (.q (.mki 79 (.k (.int .i64 12)))), []⟩, ⟨1, (some 6), none, (.q (.mov (.k (.int .u64 0)))), []⟩, ⟨2, (some 7), none, (.q (.mov (.t 19))), []⟩]
@[simp] def b_low_8 (_ : Unit) : EB := reg0 (hid l_low_7) 3
@[simp] def b_low_9 (_ : Unit) : EB := .seq (hid b_low_8) .ret
@[simp] def b_low_10 (_ : Unit) : EB := .cond (.t 18) (hid b_low_9) .skip
@[simp] def b_low_11 (_ : Unit) : EB := .seq (hid b_low_6) (hid b_low_10)
@[simp] def l_low_13 (_ : Unit) : List EOp := [⟨6, (some 26), (some (22, true)), (.q (.mov (.t 2))), []⟩, ⟨7, (some 27), (some (22, true)), (.q (.bin .eql (.t 25) (.t 26))), []⟩, ⟨8, (some 28), none, (.q (.pick (.t 22) (.t 27) (.k (.bool false)))), []⟩]
@[simp] def l_low_12 (_ : Unit) : List EOp := ⟨0, (some 20), none, (.q (.mov (.t 1))), []⟩ :: ⟨1, (some 21), none, (.q (.bin .gtr (.t 20) (.k (.int .i64 0)))), []⟩ :: ⟨2, (some 22), none, (.q (.mov (.t 21))), []⟩ :: ⟨3, (some 23), (some (22, true)), (.q (.mov (.t 8))), []⟩ :: ⟨4, (some 24), (some (22, true)), (.q (.isl 1 (.t 23) (.k (.int .i64 0)))), []⟩ :: ⟨5, (some 25), (some (22, true)), (.q (.ldc (.t 24))), []⟩ :: hid l_low_13
@[simp] def b_low_14 (_ : Unit) : EB := reg0 (hid l_low_12) 9
@[simp] def l_low_15 (_ : Unit) : List EOp := [⟨0, (some 29), none, (.q (.mki 79 (.k (.int .i64 3)))), []⟩, ⟨1, (some 6), none, (.q (.mov (.k (.int .u64 0)))), []⟩, ⟨2, (some 7), none, (.q (.mov (.t 29))), []⟩]
@[simp] def b_low_16 (_ : Unit) : EB := reg0 (hid l_low_15) 3
@[simp] def b_low_17 (_ : Unit) : EB := .seq (hid b_low_16) .ret
@[simp] def b_low_18 (_ : Unit) : EB := .cond (.t 28) (hid b_low_17) .skip
@[simp] def b_low_19 (_ : Unit) : EB := .seq (hid b_low_14) (hid b_low_18)
@[simp] def l_low_20 (_ : Unit) : List EOp := [⟨0, (some 9), none, (.q (.mov (.k (.int .u64 0)))), []⟩]
@[simp] def b_low_21 (_ : Unit) : EB := reg0 (hid l_low_20) 1
@[simp] def l_low_22 (_ : Unit) : List EOp := [⟨0, (some 30), none, (.q (.mov (.t 8))), []⟩, ⟨1, (some 31), none, (.q (.mov (.t 1))), []⟩, ⟨2, (some 32), none, (.q (.ssl 1 (.t 30) none (some (.t 31)))), []⟩, ⟨3, (some 33), none, (.q (.len (.t 32))), []⟩, ⟨4, (some 34), none, (.q (.mov (.k (.int .i64 0)))), []⟩]
@[simp] def b_low_23 (_ : Unit) : EB := reg0 (hid l_low_22) 5
@[simp] def l_low_24 (_ : Unit) : List EOp := [⟨0, (some 35), none, (.q (.bin .lss (.t 34) (.t 33))), []⟩]
@[simp] def b_low_25 (_ : Unit) : EB := reg0 (hid l_low_24) 1
@[simp] def b_low_26 (_ : Unit) : EB := .cond (.t 35) .skip (.exit 0)
@[simp] def l_low_27 (_ : Unit) : List EOp := [⟨0, (some 36), none, (.q (.isl 1 (.t 32) (.t 34))), []⟩, ⟨1, (some 37), none, (.q (.ldc (.t 36))), []⟩, ⟨2, (some 11), none, (.q (.mov (.t 37))), []⟩]
@[simp] def b_low_28 (_ : Unit) : EB := reg0 (hid l_low_27) 3
@[simp] def l_low_30 (_ : Unit) : List EOp := [⟨6, (some 44), none, (.q (.bin .or (.t 39) (.t 43))), []⟩, ⟨7, (some 9), none, (.q (.mov (.t 44))), []⟩]
@[simp] def l_low_29 (_ : Unit) : List EOp := ⟨0, (some 38), none, (.q (.mov (.t 9))), []⟩ :: ⟨1, (some 39), none, (.q (.bin .shl (.t 38) (.k (.int .u64 8)))), []⟩ :: ⟨2, (some 40), none, (.q (.mov (.t 11))), []⟩ :: ⟨3, (some 41), none, (.q (.mov (.t 2))), []⟩ :: ⟨4, (some 42), none, (.q (.bin .xor (.t 40) (.t 41))), []⟩ :: ⟨5, (some 43), none, (.q (.cnv .u64 (.t 42))), []⟩ :: hid l_low_30
@[simp] def b_low_31 (_ : Unit) : EB := reg0 (hid l_low_29) 8
@[simp] def b_low_32 (_ : Unit) : EB := .seq (hid b_low_28) (hid b_low_31)
@[simp] def b_low_33 (_ : Unit) : EB := .block 1 (hid b_low_32)
@[simp] def l_low_34 (_ : Unit) : List EOp := [⟨0, (some 45), none, (.q (.bin .add (.t 34) (.k (.int .i64 1)))), []⟩, ⟨1, (some 34), none, (.q (.mov (.t 45))), []⟩]
@[simp] def b_low_35 (_ : Unit) : EB := reg0 (hid l_low_34) 2
@[simp] def b_low_36 (_ : Unit) : EB := .seq (hid b_low_33) (hid b_low_35)
@[simp] def b_low_37 (_ : Unit) : EB := .seq (hid b_low_26) (hid b_low_36)
@[simp] def b_low_38 (_ : Unit) : EB := .seq (hid b_low_25) (hid b_low_37)
@[simp] def b_low_39 (_ : Unit) : EB := .loop (hid b_low_38)
@[simp] def b_low_40 (_ : Unit) : EB := .block 0 (hid b_low_39)
@[simp] def b_low_41 (_ : Unit) : EB := .seq (hid b_low_23) (hid b_low_40)
@[simp] def l_low_42 (_ : Unit) : List EOp := [⟨0, (some 46), none, (.q (.mov (.t 9))), []⟩, ⟨1, (some 6), none, (.q (.mov (.t 46))), []⟩, ⟨2, (some 7), none, (.q (.mov (.k .nilIface))), []⟩]
@[simp] def b_low_43 (_ : Unit) : EB := reg0 (hid l_low_42) 3
@[simp] def b_low_44 (_ : Unit) : EB := .seq (hid b_low_43) .ret
@[simp] def b_low_45 (_ : Unit) : EB := .seq (hid b_low_41) (hid b_low_44)
@[simp] def b_low_46 (_ : Unit) : EB := .seq (hid b_low_21) (hid b_low_45)
@[simp] def b_low_47 (_ : Unit) : EB := .seq (hid b_low_19) (hid b_low_46)
@[simp] def b_low_48 (_ : Unit) : EB := .seq (hid b_low_11) (hid b_low_47)
@[simp] def b_low_49 (_ : Unit) : EB := .seq (hid b_low_4) (hid b_low_48)
@[simp] def b_low_50 (_ : Unit) : EB := .seq (hid b_low_2) (hid b_low_49)
def c_low : EB × List QOp × Nat := ((hid b_low_50), [(.mov (.t 6)), (.mov (.t 7))], 47)
theorem k_low : cfun Tryd.prog 111 = some c_low := by kernel_rfl


/-- An error, by its number. -/
def errV (e : Nat) : Value := if e = 0 then .nilIface else .iface 79 (.int .i64 e)
@[simp] theorem eqiv_errV (e : Nat) : eqiv (errV e) = some (decide (e = 0)) := by
  unfold errV
  split <;> simp [eqiv, *]
@[simp] theorem cst_errV (e : Nat) : cst (errV e) = .v (.c (.fz (.lit (errV e)))) := by
  unfold errV
  split <;> rfl
@[simp] theorem errV_0 : Value.nilIface = errV 0 := rfl
@[simp] theorem errV_1 : Value.iface 79 (.int .i64 1) = errV 1 := rfl
@[simp] theorem errV_2 : Value.iface 79 (.int .i64 2) = errV 2 := rfl
@[simp] theorem errV_3 : Value.iface 79 (.int .i64 3) = errV 3 := rfl
@[simp] theorem errV_4 : Value.iface 79 (.int .i64 4) = errV 4 := rfl
@[simp] theorem errV_12 : Value.iface 79 (.int .i64 12) = errV 12 := rfl
/-- A reader: its line, its place, its error. -/
def RdO (l : List UInt8) (at' e : Nat) : EO := .box 131 [.fz (.sl 1 (bsv l)), .fz (.lit (.int .i64 at')), .fz (.lit (errV e))]

theorem Read_ok (l : List UInt8) : ECalls Tryd.prog 45 [Bs l] [] fun y H' => H' = [some (RdO l 0 0)] ∧ y = Ptr 0 := by
  refine ecalls k_Read ?_
  simp [c_Read, Bs, litc, -errV_0]
  exact fin [48] (by decide) rfl rfl rfl ⟨rfl, rfl⟩

theorem off_ok (l : List UInt8) (p e : Nat) : ECalls Tryd.prog 86 [Ptr 0] [RdO l p e] fun y H' => H' = [some (RdO l p e)] ∧ y = .lit (.bool (decide (e ≠ 0))) := by
  refine ecalls k_off ?_
  simp [c_off, Ptr, RdO]
  exact fin [] (by decide) rfl rfl rfl ⟨rfl, by simp⟩

theorem off_nil : ECalls Tryd.prog 86 [NP] [] fun y H' => H' = [] ∧ y = .lit (.bool true) := by
  refine ecalls k_off ?_
  simp [c_off, NP]
  exact fin [] (by decide) rfl rfl rfl ⟨rfl, rfl⟩

theorem rest_ok (l : List UInt8) (p e : Nat) (hp : p ≤ l.length) : ECalls Tryd.prog 88 [Ptr 0] [RdO l p e] fun y H' => H' = [some (RdO l p e)] ∧ y = Bs (l.drop p) := by
  refine ecalls k_rest ?_
  simp [c_rest, Ptr, RdO]
  exact ⟨by omega, fin [] (by decide) rfl rfl rfl ⟨rfl, rfl⟩⟩

theorem fail_ok (l : List UInt8) (p e k : Nat) : ECalls Tryd.prog 89 [Ptr 0, .lit (errV k)] [RdO l p e] fun y H' => H' = [some (RdO l p (if e = 0 then k else e))] ∧ y = .tup [] := by
  refine ecalls k_fail ?_
  simp [c_fail, Ptr, RdO]
  refine alt (fun h => ?_) (fun h => ?_)
  · simp
    exact fin [] (by decide) rfl rfl rfl ⟨by simp [h], rfl⟩
  · simp
    exact fin [] (by decide) rfl rfl rfl ⟨by simp [h], rfl⟩

/-- Bytes as a number. -/
def valB (l : List UInt8) : Nat := l.foldl (fun n c => 256 * n + c.toNat) 0
/-- So many bytes, each turned: the number; an error. -/
def lowS (b : List UInt8) (many : Nat) (mask : UInt8) : Nat × Nat :=
  if b.length < many then (0, 12) else if 0 < many ∧ b[0]? = some mask then (0, 3) else (valB ((b.take many).map (· ^^^ mask)), 0)
theorem val_snoc (l : List UInt8) (c : UInt8) : valB (l ++ [c]) = 256 * valB l + c.toNat := by simp [valB]
theorem val_lt (l : List UInt8) : valB l < 256 ^ l.length := by
  have key : ∀ (l : List UInt8) (n k : Nat), n < 256 ^ k → l.foldl (fun n c => 256 * n + c.toNat) n < 256 ^ (k + l.length) := by
    intro l
    induction l with
    | nil => intro n k h; simpa using h
    | cons c r ih =>
      intro n k h
      have hc := c.toNat_lt
      have := ih (256 * n + c.toNat) (k + 1) (by rw [Nat.pow_succ]; simp at hc; omega)
      rw [List.foldl_cons, List.length_cons, show k + (r.length + 1) = k + 1 + r.length by omega]
      exact this
  have := key l 0 0 (by simp)
  simpa [valB] using this
theorem or_byte (n : Nat) (c : UInt8) (h : 256 * n + 256 ≤ 18446744073709551616) : ibit .or .u64 (ishl .u64 (n : Int) 8) (c.toNat : Int) = ((256 * n + c.toNat : Nat) : Int) := by
  have hc := c.toNat_lt
  simp at hc
  have e1 : ishl .u64 (n : Int) 8 = ((256 * n : Nat) : Int) := by
    simp only [ishl]
    rw [show min (8 : Int).toNat IntKind.u64.bits = 8 from rfl, wrap_u64 (by omega) (by omega)]
    omega
  rw [e1]
  simp only [ibit]
  have e2 : (BitVec.ofInt IntKind.u64.bits ((256 * n : Nat) : Int) ||| BitVec.ofInt IntKind.u64.bits (c.toNat : Int)).toNat = 256 * n + c.toNat := by
    rw [BitVec.toNat_or, BitVec.ofInt_natCast, BitVec.ofInt_natCast, BitVec.toNat_ofNat, BitVec.toNat_ofNat, Nat.mod_eq_of_lt (show 256 * n < 2 ^ IntKind.u64.bits by simp [IntKind.bits]; omega), Nat.mod_eq_of_lt (show c.toNat < 2 ^ IntKind.u64.bits by simp [IntKind.bits]; omega)]
    have := Nat.shiftLeft_add_eq_or_of_lt (b := c.toNat) (i := 8) (by omega) n
    rw [Nat.shiftLeft_eq] at this
    rw [show 256 * n = n * 2 ^ 8 by omega]
    exact this.symm
  rw [e2, wrap_u64 (by omega) (by omega)]

theorem low_ok (l : List UInt8) (p e many : Nat) (mask : UInt8) (hp : p < l.length) (hm : many ≤ 8) :
    ECalls Tryd.prog 111 [Ptr 0, I .i64 many, I .u8 mask.toNat] [RdO l p e] fun y H' => H' = [some (RdO l p e)] ∧ y = .tup [.c (.fz (.lit (.int .u64 (lowS (l.drop (p + 1)) many mask).1))), .c (.fz (.lit (errV (lowS (l.drop (p + 1)) many mask).2)))] := by
  refine ecalls k_low ?_
  simp [c_low, Ptr, I]
  refine callH [0] (rest_ok l p e (by omega)) (by simp [Ptr]) (by simp [RdO]) (by simp) (by simp) (by simp) ?_
  rintro y H' ⟨rfl, rfl⟩
  refine ⟨.inl rfl, le_ok rfl, ?_⟩
  obtain ⟨b, hb⟩ : ∃ b, l.drop (p + 1) = b := ⟨_, rfl⟩
  have ht : List.take (l.length - p) (List.drop p l) = List.drop p l := List.take_of_length_le (by rw [List.length_drop]; exact Nat.le_refl _)
  simp [RdO, Bs, ht, hb]
  have hbl : b.length = l.length - p - 1 := by rw [← hb, List.length_drop]; omega
  have hdd : List.drop 1 (List.drop p l) = b := by rw [List.drop_drop]; exact hb
  refine ⟨by omega, alt (fun h1 => ?_) (fun h1 => ?_)⟩
  · simp
    exact fin [] (by decide) rfl rfl rfl ⟨rfl, by simp [lowS, show b.length < many by omega]⟩
  have hm2 : many ≤ l.length - p - 1 := by omega
  have hlm : (b.take many).length = many := by rw [List.length_take]; omega
  by_cases h2 : 0 < many
  · obtain ⟨c0, hc0⟩ : ∃ c, b[0]? = some c := ⟨b[0]'(by omega), by simp⟩
    have hcb0 : (bsv b)[0]? = some (cb c0) := by simp only [bsv, List.getElem?_map, hc0]; rfl
    simp [h2, hb, hcb0, cb]
    refine alt (fun h3 => ?_) (fun h3 => ?_)
    · simp
      have : c0 = mask := UInt8.toNat_inj.1 (by omega)
      subst this
      exact fin [] (by decide) rfl rfl rfl ⟨rfl, by simp [lowS, hc0, h2, show ¬ b.length < many by omega]⟩
    have hS : lowS b many mask = (valB ((b.take many).map (· ^^^ mask)), 0) := by
      rw [lowS, if_neg (by omega), if_neg]
      rintro ⟨_, h⟩
      rw [hc0] at h
      exact h3 (by rw [Option.some.inj h])
    have hmn : min many b.length = many := by omega
    obtain ⟨ms, hms⟩ : ∃ ms, (b.take many).map (· ^^^ mask) = ms := ⟨_, rfl⟩
    have hml : ms.length = many := by rw [← hms, List.length_map, hlm]
    rw [hms] at hS
    rw [hS]
    simp [hm2, hdd]
    refine ⟨by omega, ?_⟩
    refine eloop (α := Nat) (fun i => i ≤ many) (fun i => many - i)
      (fun i => [.any, .any, I .u8 mask.toNat, .any, .any, .any, .any, .any, .any, I .u64 (valB (ms.take i)), .any, .any, .any, .any, .any, .any, .any, .any, .any, .any, .any, .any, .any, .any, .any, .any, .any, .any, .any, .any, .any, .any, Bs (b.take many), I .i64 many, I .i64 i, .any, .any, .any, .any, .any, .any, .any, .any, .any, .any, .any, .any]) (fun i => [some (RdO l p e)]) 0 [0]
      (Nat.zero_le _) (by simp [Bs, I, valB, hmn]) (by simp [RdO]) (by simp) (by decide) (by simp) ?_
    intro i hi
    simp [I, Bs, RdO]
    refine alt (fun hp => ?_) (fun hp => ?_)
    · obtain ⟨c, hc⟩ : ∃ c, (b.take many)[i]? = some c := ⟨(b.take many)[i]'(by omega), by simp [hlm, hp]⟩
      have hcb : (bsv (b.take many))[i]? = some (cb c) := by simp only [bsv, List.getElem?_map, hc]; rfl
      obtain ⟨x, hx⟩ : ∃ x, c ^^^ mask = x := ⟨_, rfl⟩
      have hts := take_snoc (l := ms) (i := i) (c := x) (by rw [← hms, ← hx, List.getElem?_map, hc]; rfl)
      have hv := val_lt (ms.take i)
      have hvl : (ms.take i).length = i := by rw [List.length_take, hml]; omega
      rw [hvl] at hv
      have hv8 : 256 ^ i ≤ 256 ^ 7 := Nat.pow_le_pow_right (by omega) (by omega)
      have hc64 := x.toNat_lt
      have w1 : IntKind.i64.wrap ((i : Int) + 1) = ((i + 1 : Nat) : Int) := wrap_i64 (by omega) (by omega)
      have w4 : ibit .xor .u8 c.toNat mask.toNat = x.toNat := by rw [ibit_xor_u8, hx]
      have w2 : IntKind.u64.wrap (x.toNat : Int) = x.toNat := wrap_u64 (by omega) (by simp at hc64; omega)
      have w3 := or_byte (valB (ms.take i)) x (by omega)
      simp [hcb, cb, w1, w4, w2, w3, -Int.natCast_add]
      exact round (i + 1) [0] (by omega) (by omega) (by simp [hts, val_snoc]) (by simp) (by simp) (by decide) (by simp)
    · have him : i = many := by omega
      subst him
      have ht' : ms.take i = ms := List.take_of_length_le (by omega)
      simp [ht']
      exact fin [] (by decide) rfl rfl rfl ⟨rfl, rfl⟩
  · have h2' : many = 0 := by omega
    subst h2'
    have hS : lowS b 0 mask = (valB ((b.take 0).map (· ^^^ mask)), 0) := by
      rw [lowS, if_neg (by omega), if_neg (by simp)]
    simp [hb]
    refine eloop (α := Unit) (fun _ => True) (fun _ => 0)
      (fun _ => [.any, .any, .any, .any, .any, .any, .any, .any, .any, I .u64 0, .any, .any, .any, .any, .any, .any, .any, .any, .any, .any, .any, .any, .any, .any, .any, .any, .any, .any, .any, .any, .any, .any, .any, I .i64 0, I .i64 0, .any, .any, .any, .any, .any, .any, .any, .any, .any, .any, .any, .any]) (fun _ => [some (RdO l p e)]) () [0]
      trivial (by simp [I]) (by simp [RdO]) (by simp) (by decide) (by simp) ?_
    intro _ _
    simp [I, RdO]
    exact fin [] (by decide) rfl rfl rfl ⟨rfl, by rw [hS]; rfl⟩

/-- The int that bytes begin with: the error, the int, how many bytes it takes. -/
def intS (b : List UInt8) : Nat × Int × Nat :=
  match b with
  | [] => (12, 0, 0)
  | c :: r =>
    let many := if 128 ≤ c.toNat then c.toNat - 128 else 127 - c.toNat
    if 8 < many then (3, 0, 0) else
    let q := lowS r many (if 128 ≤ c.toNat then 0 else 255)
    if q.2 ≠ 0 then (q.2, 0, 0) else if 9223372036854775807 < q.1 then (4, 0, 0) else (0, if 128 ≤ c.toNat then (q.1 : Int) else -(q.1 : Int) - 1, 1 + many)

end Go.Proofs.YtpohjnhlhfbnaaaDoor
