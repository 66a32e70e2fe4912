import Derived.Test.YtoomdgmggkcgfaaDoorEnc1
namespace Go.Proofs.YtoomdgmggkcgfaaDoor
open Go Go.EW
set_option linter.unusedSimpArgs false

@[simp] def l_New_1 (_ : Unit) : List EOp := [⟨0, (some 0), none, (.q (.mov (.k (.pointer none)))), []⟩]
@[simp] def b_New_2 (_ : Unit) : EB := reg0 (hid l_New_1) 1
@[simp] def l_New_3 (_ : Unit) : List EOp := [⟨0, (some 1), none, (.q (.alloc 175 [(.slice none 0 0)])), []⟩, ⟨1, (some 0), none, (.q (.mov (.t 1))), []⟩]
@[simp] def b_New_4 (_ : Unit) : EB := reg0 (hid l_New_3) 2
@[simp] def b_New_5 (_ : Unit) : EB := .seq (hid b_New_4) .ret
@[simp] def b_New_6 (_ : Unit) : EB := .seq (hid b_New_2) (hid b_New_5)
def c_New : EB × List QOp × Nat := ((hid b_New_6), [(.mov (.t 0))], 2)
theorem k_New : cfun Tryd.prog 68 = some c_New := by kernel_rfl

@[simp] def l_WUint_1 (_ : Unit) : List EOp := [⟨0, (some 4), none, (.q (.mov (.k (.pointer none)))), []⟩]
@[simp] def b_WUint_2 (_ : Unit) : EB := reg0 (hid l_WUint_1) 1
@[simp] def l_WUint_3 (_ : Unit) : List EOp := [⟨0, (some 5), none, (.q (.mov (.t 0))), []⟩, ⟨1, (some 6), none, (.q (.eqp true (.t 5))), []⟩]
@[simp] def b_WUint_4 (_ : Unit) : EB := reg0 (hid l_WUint_3) 2
@[simp] def l_WUint_7 (_ : Unit) : List EOp := [⟨12, (some 19), none, (.q (.nilc (.t 7))), []⟩, ⟨13, (some 20), none, (.q (.fad 0 (.t 19))), []⟩, ⟨14, none, none, (.fz (.sto 1 (.t 20) (.t 18))), []⟩]
@[simp] def l_WUint_6 (_ : Unit) : List EOp := ⟨10, (some 17), none, (.q (.mov (.t 1))), []⟩ :: ⟨6, (some 13), none, (.call 97 [(.t 12)]), [0, 1, 2, 3, 4, 10]⟩ :: ⟨7, (some 14), none, (.q (.cnv .u8 (.t 13))), []⟩ :: ⟨8, (some 15), none, (.q (.bsl 1 [(.int .u8 0)] 1 [(0, (.t 14))])), []⟩ :: ⟨9, (some 16), none, (.app 5 1 1 (.t 11) (.t 15)), [0, 10]⟩ :: ⟨11, (some 18), none, (.call 96 [(.t 16), (.t 17), (.k (.int .u8 0))]), [0]⟩ :: hid l_WUint_7
@[simp] def l_WUint_5 (_ : Unit) : List EOp := ⟨0, (some 7), none, (.q (.mov (.t 0))), []⟩ :: ⟨1, (some 8), none, (.q (.mov (.t 0))), []⟩ :: ⟨2, (some 9), none, (.q (.nilc (.t 8))), []⟩ :: ⟨3, (some 10), none, (.q (.fad 0 (.t 9))), []⟩ :: ⟨4, (some 11), none, (.q (.ldc (.t 10))), []⟩ :: ⟨5, (some 12), none, (.q (.mov (.t 1))), []⟩ :: hid l_WUint_6
@[simp] def b_WUint_8 (_ : Unit) : EB := reg1 (hid l_WUint_5) 15
@[simp] def b_WUint_9 (_ : Unit) : EB := .cond (.t 6) (hid b_WUint_8) .skip
@[simp] def b_WUint_10 (_ : Unit) : EB := .seq (hid b_WUint_4) (hid b_WUint_9)
@[simp] def l_WUint_11 (_ : Unit) : List EOp := [⟨0, (some 21), none, (.q (.mov (.t 0))), []⟩, ⟨1, (some 4), none, (.q (.mov (.t 21))), []⟩]
@[simp] def b_WUint_12 (_ : Unit) : EB := reg0 (hid l_WUint_11) 2
@[simp] def b_WUint_13 (_ : Unit) : EB := .seq (hid b_WUint_12) .ret
@[simp] def b_WUint_14 (_ : Unit) : EB := .seq (hid b_WUint_10) (hid b_WUint_13)
@[simp] def b_WUint_15 (_ : Unit) : EB := .seq (hid b_WUint_2) (hid b_WUint_14)
def c_WUint : EB × List QOp × Nat := ((hid b_WUint_15), [(.mov (.t 4))], 22)
theorem k_WUint : cfun Tryd.prog 69 = some c_WUint := by kernel_rfl

@[simp] def l_WBytes_1 (_ : Unit) : List EOp := [⟨0, (some 4), none, (.q (.mov (.k (.pointer none)))), []⟩]
@[simp] def b_WBytes_2 (_ : Unit) : EB := reg0 (hid l_WBytes_1) 1
@[simp] def l_WBytes_3 (_ : Unit) : List EOp := [⟨0, (some 7), none, (.q (.mov (.t 0))), []⟩, ⟨1, (some 8), none, (.q (.eqp false (.t 7))), []⟩]
@[simp] def b_WBytes_4 (_ : Unit) : EB := reg0 (hid l_WBytes_3) 2
@[simp] def l_WBytes_5 (_ : Unit) : List EOp := [⟨0, (some 4), none, (.q (.mov (.k (.pointer none)))), []⟩]
@[simp] def b_WBytes_6 (_ : Unit) : EB := reg0 (hid l_WBytes_5) 1
@[simp] def b_WBytes_7 (_ : Unit) : EB := .seq (hid b_WBytes_6) .ret
@[simp] def b_WBytes_8 (_ : Unit) : EB := .cond (.t 8) (hid b_WBytes_7) .skip
@[simp] def b_WBytes_9 (_ : Unit) : EB := .seq (hid b_WBytes_4) (hid b_WBytes_8)
@[simp] def l_WBytes_10 (_ : Unit) : List EOp := [⟨0, (some 9), none, (.q (.mov (.t 1))), []⟩, ⟨1, (some 10), none, (.q (.len (.t 9))), []⟩, ⟨2, (some 11), none, (.q (.mov (.k (.int .i64 0)))), []⟩]
@[simp] def b_WBytes_11 (_ : Unit) : EB := reg0 (hid l_WBytes_10) 3
@[simp] def l_WBytes_12 (_ : Unit) : List EOp := [⟨0, (some 12), none, (.q (.bin .lss (.t 11) (.t 10))), []⟩]
@[simp] def b_WBytes_13 (_ : Unit) : EB := reg0 (hid l_WBytes_12) 1
@[simp] def b_WBytes_14 (_ : Unit) : EB := .cond (.t 12) .skip (.exit 0)
@[simp] def l_WBytes_15 (_ : Unit) : List EOp := [⟨0, (some 13), none, (.q (.isl 1 (.t 9) (.t 11))), []⟩, ⟨1, (some 14), none, (.q (.ldc (.t 13))), []⟩, ⟨2, (some 6), none, (.q (.mov (.t 14))), []⟩]
@[simp] def b_WBytes_16 (_ : Unit) : EB := reg0 (hid l_WBytes_15) 3
@[simp] def l_WBytes_18 (_ : Unit) : List EOp := [⟨6, (some 21), none, (.q (.bsl 1 [(.int .u8 0)] 1 [(0, (.t 20))])), []⟩, ⟨7, (some 22), none, (.app 5 1 1 (.t 19) (.t 21)), []⟩, ⟨8, (some 23), none, (.q (.nilc (.t 15))), []⟩, ⟨9, (some 24), none, (.q (.fad 0 (.t 23))), []⟩, ⟨10, none, none, (.fz (.sto 1 (.t 24) (.t 22))), []⟩]
@[simp] def l_WBytes_17 (_ : Unit) : List EOp := ⟨0, (some 15), none, (.q (.mov (.t 0))), []⟩ :: ⟨1, (some 16), none, (.q (.mov (.t 0))), []⟩ :: ⟨2, (some 17), none, (.q (.nilc (.t 16))), []⟩ :: ⟨3, (some 18), none, (.q (.fad 0 (.t 17))), []⟩ :: ⟨4, (some 19), none, (.q (.ldc (.t 18))), []⟩ :: ⟨5, (some 20), none, (.q (.mov (.t 6))), []⟩ :: hid l_WBytes_18
@[simp] def b_WBytes_19 (_ : Unit) : EB := reg0 (hid l_WBytes_17) 11
@[simp] def l_WBytes_20 (_ : Unit) : List EOp := [⟨0, (some 25), none, (.q (.mov (.t 6))), []⟩, ⟨1, (some 26), none, (.q (.bin .eql (.t 25) (.k (.int .u8 0)))), []⟩]
@[simp] def b_WBytes_21 (_ : Unit) : EB := reg0 (hid l_WBytes_20) 2
@[simp] def l_WBytes_23 (_ : Unit) : List EOp := [⟨6, (some 33), none, (.app 5 1 1 (.t 31) (.t 32)), []⟩, ⟨7, (some 34), none, (.q (.nilc (.t 27))), []⟩, ⟨8, (some 35), none, (.q (.fad 0 (.t 34))), []⟩, ⟨9, none, none, (.fz (.sto 1 (.t 35) (.t 33))), []⟩]
@[simp] def l_WBytes_22 (_ : Unit) : List EOp := ⟨0, (some 27), none, (.q (.mov (.t 0))), []⟩ :: ⟨1, (some 28), none, (.q (.mov (.t 0))), []⟩ :: ⟨2, (some 29), none, (.q (.nilc (.t 28))), []⟩ :: ⟨3, (some 30), none, (.q (.fad 0 (.t 29))), []⟩ :: ⟨4, (some 31), none, (.q (.ldc (.t 30))), []⟩ :: ⟨5, (some 32), none, (.q (.bsl 1 [(.int .u8 0)] 1 [(0, (.k (.int .u8 255)))])), []⟩ :: hid l_WBytes_23
@[simp] def b_WBytes_24 (_ : Unit) : EB := reg0 (hid l_WBytes_22) 10
@[simp] def b_WBytes_25 (_ : Unit) : EB := .cond (.t 26) (hid b_WBytes_24) .skip
@[simp] def b_WBytes_26 (_ : Unit) : EB := .seq (hid b_WBytes_21) (hid b_WBytes_25)
@[simp] def b_WBytes_27 (_ : Unit) : EB := .seq (hid b_WBytes_19) (hid b_WBytes_26)
@[simp] def b_WBytes_28 (_ : Unit) : EB := .seq (hid b_WBytes_16) (hid b_WBytes_27)
@[simp] def b_WBytes_29 (_ : Unit) : EB := .block 1 (hid b_WBytes_28)
@[simp] def l_WBytes_30 (_ : Unit) : List EOp := [⟨0, (some 36), none, (.q (.bin .add (.t 11) (.k (.int .i64 1)))), []⟩, ⟨1, (some 11), none, (.q (.mov (.t 36))), []⟩]
@[simp] def b_WBytes_31 (_ : Unit) : EB := reg0 (hid l_WBytes_30) 2
@[simp] def b_WBytes_32 (_ : Unit) : EB := .seq (hid b_WBytes_29) (hid b_WBytes_31)
@[simp] def b_WBytes_33 (_ : Unit) : EB := .seq (hid b_WBytes_14) (hid b_WBytes_32)
@[simp] def b_WBytes_34 (_ : Unit) : EB := .seq (hid b_WBytes_13) (hid b_WBytes_33)
@[simp] def b_WBytes_35 (_ : Unit) : EB := .loop (hid b_WBytes_34)
@[simp] def b_WBytes_36 (_ : Unit) : EB := .block 0 (hid b_WBytes_35)
@[simp] def b_WBytes_37 (_ : Unit) : EB := .seq (hid b_WBytes_11) (hid b_WBytes_36)
@[simp] def l_WBytes_39 (_ : Unit) : List EOp := [⟨6, (some 43), none, (.app 5 1 1 (.t 41) (.t 42)), []⟩, ⟨7, (some 44), none, (.q (.nilc (.t 37))), []⟩, ⟨8, (some 45), none, (.q (.fad 0 (.t 44))), []⟩, ⟨9, none, none, (.fz (.sto 1 (.t 45) (.t 43))), []⟩]
@[simp] def l_WBytes_38 (_ : Unit) : List EOp := ⟨0, (some 37), none, (.q (.mov (.t 0))), []⟩ :: ⟨1, (some 38), none, (.q (.mov (.t 0))), []⟩ :: ⟨2, (some 39), none, (.q (.nilc (.t 38))), []⟩ :: ⟨3, (some 40), none, (.q (.fad 0 (.t 39))), []⟩ :: ⟨4, (some 41), none, (.q (.ldc (.t 40))), []⟩ :: ⟨5, (some 42), none, (.q (.bsl 1 [(.int .u8 0)] 2 [(0, (.k (.int .u8 0))), (1, (.k (.int .u8 0)))])), []⟩ :: hid l_WBytes_39
@[simp] def b_WBytes_40 (_ : Unit) : EB := reg0 (hid l_WBytes_38) 10
@[simp] def l_WBytes_41 (_ : Unit) : List EOp := [⟨0, (some 46), none, (.q (.mov (.t 0))), []⟩, ⟨1, (some 4), none, (.q (.mov (.t 46))), []⟩]
@[simp] def b_WBytes_42 (_ : Unit) : EB := reg0 (hid l_WBytes_41) 2
@[simp] def b_WBytes_43 (_ : Unit) : EB := .seq (hid b_WBytes_42) .ret
@[simp] def b_WBytes_44 (_ : Unit) : EB := .seq (hid b_WBytes_40) (hid b_WBytes_43)
@[simp] def b_WBytes_45 (_ : Unit) : EB := .seq (hid b_WBytes_37) (hid b_WBytes_44)
@[simp] def b_WBytes_46 (_ : Unit) : EB := .seq (hid b_WBytes_9) (hid b_WBytes_45)
@[simp] def b_WBytes_47 (_ : Unit) : EB := .seq (hid b_WBytes_2) (hid b_WBytes_46)
def c_WBytes : EB × List QOp × Nat := ((hid b_WBytes_47), [(.mov (.t 4))], 47)
theorem k_WBytes : cfun Tryd.prog 71 = some c_WBytes := by kernel_rfl

@[simp] def l_WHash_1 (_ : Unit) : List EOp := [⟨0, (some 3), none, (.q (.box 23 (.t 1))), []⟩, ⟨1, (some 4), none, (.q (.mov (.k (.pointer none)))), []⟩]
@[simp] def b_WHash_2 (_ : Unit) : EB := reg0 (hid l_WHash_1) 2
@[simp] def l_WHash_3 (_ : Unit) : List EOp := [⟨0, (some 5), none, (.q (.mov (.t 0))), []⟩, ⟨1, (some 6), none, (.q (.eqp true (.t 5))), []⟩]
@[simp] def b_WHash_4 (_ : Unit) : EB := reg0 (hid l_WHash_3) 2
@[simp] def l_WHash_6 (_ : Unit) : List EOp := [⟨6, (some 13), none, (.app 5 1 1 (.t 11) (.t 12)), [0]⟩, ⟨7, (some 14), none, (.q (.nilc (.t 7))), []⟩, ⟨8, (some 15), none, (.q (.fad 0 (.t 14))), []⟩, ⟨9, none, none, (.fz (.sto 1 (.t 15) (.t 13))), []⟩]
@[simp] def l_WHash_5 (_ : Unit) : List EOp := ⟨0, (some 7), none, (.q (.mov (.t 0))), []⟩ :: ⟨1, (some 8), none, (.q (.mov (.t 0))), []⟩ :: ⟨2, (some 9), none, (.q (.nilc (.t 8))), []⟩ :: ⟨3, (some 10), none, (.q (.fad 0 (.t 9))), []⟩ :: ⟨4, (some 11), none, (.q (.ldc (.t 10))), []⟩ :: ⟨5, (some 12), none, (.q (.sar 32 (.t 3) none none)), []⟩ :: hid l_WHash_6
@[simp] def b_WHash_7 (_ : Unit) : EB := reg1 (hid l_WHash_5) 10
@[simp] def b_WHash_8 (_ : Unit) : EB := .cond (.t 6) (hid b_WHash_7) .skip
@[simp] def b_WHash_9 (_ : Unit) : EB := .seq (hid b_WHash_4) (hid b_WHash_8)
@[simp] def l_WHash_10 (_ : Unit) : List EOp := [⟨0, (some 16), none, (.q (.mov (.t 0))), []⟩, ⟨1, (some 4), none, (.q (.mov (.t 16))), []⟩]
@[simp] def b_WHash_11 (_ : Unit) : EB := reg0 (hid l_WHash_10) 2
@[simp] def b_WHash_12 (_ : Unit) : EB := .seq (hid b_WHash_11) .ret
@[simp] def b_WHash_13 (_ : Unit) : EB := .seq (hid b_WHash_9) (hid b_WHash_12)
@[simp] def b_WHash_14 (_ : Unit) : EB := .seq (hid b_WHash_2) (hid b_WHash_13)
def c_WHash : EB × List QOp × Nat := ((hid b_WHash_14), [(.mov (.t 4))], 17)
theorem k_WHash : cfun Tryd.prog 70 = some c_WHash := by kernel_rfl

@[simp] def l_WDone_1 (_ : Unit) : List EOp := [⟨0, (some 2), none, (.q (.mov (.k (.slice none 0 0)))), []⟩]
@[simp] def b_WDone_2 (_ : Unit) : EB := reg0 (hid l_WDone_1) 1
@[simp] def l_WDone_3 (_ : Unit) : List EOp := [⟨0, (some 3), none, (.q (.mov (.t 0))), []⟩, ⟨1, (some 4), none, (.q (.eqp false (.t 3))), []⟩]
@[simp] def b_WDone_4 (_ : Unit) : EB := reg0 (hid l_WDone_3) 2
@[simp] def l_WDone_5 (_ : Unit) : List EOp := [⟨0, (some 2), none, (.q (.mov (.k (.slice none 0 0)))), []⟩]
@[simp] def b_WDone_6 (_ : Unit) : EB := reg0 (hid l_WDone_5) 1
@[simp] def b_WDone_7 (_ : Unit) : EB := .seq (hid b_WDone_6) .ret
@[simp] def b_WDone_8 (_ : Unit) : EB := .cond (.t 4) (hid b_WDone_7) .skip
@[simp] def b_WDone_9 (_ : Unit) : EB := .seq (hid b_WDone_4) (hid b_WDone_8)
@[simp] def l_WDone_10 (_ : Unit) : List EOp := [⟨0, (some 5), none, (.q (.mov (.t 0))), []⟩, ⟨1, (some 6), none, (.q (.nilc (.t 5))), []⟩, ⟨2, (some 7), none, (.q (.fad 0 (.t 6))), []⟩, ⟨3, (some 8), none, (.q (.ldc (.t 7))), []⟩, ⟨4, (some 9), none, (.call 98 [(.t 8)]), []⟩, ⟨5, (some 2), none, (.q (.mov (.t 9))), []⟩]
@[simp] def b_WDone_11 (_ : Unit) : EB := reg0 (hid l_WDone_10) 6
@[simp] def b_WDone_12 (_ : Unit) : EB := .seq (hid b_WDone_11) .ret
@[simp] def b_WDone_13 (_ : Unit) : EB := .seq (hid b_WDone_9) (hid b_WDone_12)
@[simp] def b_WDone_14 (_ : Unit) : EB := .seq (hid b_WDone_2) (hid b_WDone_13)
def c_WDone : EB × List QOp × Nat := ((hid b_WDone_14), [(.mov (.t 2))], 10)
theorem k_WDone : cfun Tryd.prog 72 = some c_WDone := by kernel_rfl

@[simp] def l_CloneB_1 (_ : Unit) : List EOp := [⟨0, (some 2), none, (.q (.mov (.k (.slice none 0 0)))), []⟩]
@[simp] def b_CloneB_2 (_ : Unit) : EB := reg0 (hid l_CloneB_1) 1
@[simp] def l_CloneB_3 (_ : Unit) : List EOp := [⟨0, (some 3), none, (.q (.mov (.t 0))), []⟩, ⟨1, (some 4), none, (.nild false (.t 3)), []⟩]
@[simp] def b_CloneB_4 (_ : Unit) : EB := reg0 (hid l_CloneB_3) 2
@[simp] def l_CloneB_5 (_ : Unit) : List EOp := [⟨0, (some 2), none, (.q (.mov (.k (.slice none 0 0)))), []⟩]
@[simp] def b_CloneB_6 (_ : Unit) : EB := reg0 (hid l_CloneB_5) 1
@[simp] def b_CloneB_7 (_ : Unit) : EB := .seq (hid b_CloneB_6) .ret
@[simp] def b_CloneB_8 (_ : Unit) : EB := .cond (.t 4) (hid b_CloneB_7) .skip
@[simp] def b_CloneB_9 (_ : Unit) : EB := .seq (hid b_CloneB_4) (hid b_CloneB_8)
@[simp] def l_CloneB_10 (_ : Unit) : List EOp := [⟨0, (some 5), none, (.q (.bsr 5 1 [(.int .u8 0)] 0 [])), []⟩, ⟨1, (some 6), none, (.q (.mov (.t 0))), []⟩, ⟨2, (some 7), none, (.app 5 1 1 (.t 5) (.t 6)), []⟩, ⟨3, (some 2), none, (.q (.mov (.t 7))), []⟩]
@[simp] def b_CloneB_11 (_ : Unit) : EB := reg0 (hid l_CloneB_10) 4
@[simp] def b_CloneB_12 (_ : Unit) : EB := .seq (hid b_CloneB_11) .ret
@[simp] def b_CloneB_13 (_ : Unit) : EB := .seq (hid b_CloneB_9) (hid b_CloneB_12)
@[simp] def b_CloneB_14 (_ : Unit) : EB := .seq (hid b_CloneB_2) (hid b_CloneB_13)
def c_CloneB : EB × List QOp × Nat := ((hid b_CloneB_14), [(.mov (.t 2))], 8)
theorem k_CloneB : cfun Tryd.prog 98 = some c_CloneB := by kernel_rfl


def Ptr (o : Nat) : EV := .v (.c (.ptr o 0))
def NP : EV := .v (.c (.fz (.lit (.pointer none))))
/-- A writer, and its line. -/
def WO (r : Nat) (l : List UInt8) : EO := .box 175 [.row r l.length]
def uintB (n : Nat) : List UInt8 := b8 (nb n) :: dg n

theorem xor0 (l : List UInt8) : l.map (· ^^^ 0) = l := by
  induction l with
  | nil => rfl
  | cons x r ih => rw [List.map_cons, ih]; simp

theorem New_ok : ECalls Tryd.prog 68 [] [] fun y H' => H' = [some (WO 1 []), some (RO [])] ∧ y = Ptr 0 := by
  refine ecalls k_New ?_
  simp [c_New]
  refine finW _ (weak_nil (o := 16) (k := 0) (ty := 5) (es := 1) rfl rfl (by omega)) ?_
  exact fin [16, 48] (by simp) rfl rfl rfl ⟨rfl, rfl⟩

theorem clone_ok (l : List UInt8) (hl : l.length ≤ 1000000000) : ECalls Tryd.prog 98 [Bs l] [] fun y H' => H' = [some (RO l)] ∧ y = R 0 l := by
  refine ecalls k_CloneB ?_
  simp [c_CloneB, Bs]
  refine both (fun h => ?_) (fun _ => ?_)
  · simp
    refine finW _ (weak_nilR 2 5 1 rfl (by omega)) ?_
    exact fin [64] (by decide) rfl rfl rfl ⟨by rw [h]; rfl, by rw [h]; rfl⟩
  · simp
    exact ⟨by omega, fin [80] (by decide) rfl rfl rfl ⟨rfl, rfl⟩⟩

set_option maxHeartbeats 1000000 in
theorem WUint_ok (bs : List UInt8) (n : Nat) (h : n < 18446744073709551616) (hb : bs.length ≤ 900000000) :
    ECalls Tryd.prog 69 [Ptr 0, I .u64 n] [WO 1 bs, RO bs] fun y H' => H' = [some (WO 2 (bs ++ uintB n)), none, some (RO (bs ++ uintB n))] ∧ y = Ptr 0 := by
  have h8 := nb_8 h
  refine ecalls k_WUint ?_
  simp [c_WUint, I, Ptr, WO, RO]
  refine call0 (width_ok n h) rfl ?_
  rintro y H' ⟨rfl, rfl⟩
  simp (disch := omega) [I, wrap_u8_nat, Wok]
  refine ⟨by omega, callH [194] (high_ok (bs ++ [b8 (nb n)]) n 0 h (by simp; omega)) (by simp [R, I]) (by simp [RO, bsv, cb]) (by simp) (by simp) (by simp [Wok]) ?_⟩
  rintro y H' ⟨rfl, rfl⟩
  refine ⟨.inl rfl, le_ok rfl, ?_⟩
  simp [R, xor0]
  exact fin [226] (by decide) rfl rfl rfl ⟨by simp [RO, uintB], rfl⟩

theorem WUint_nil (n : Nat) : ECalls Tryd.prog 69 [NP, I .u64 n] [] fun y H' => H' = [] ∧ y = NP := by
  refine ecalls k_WUint ?_
  simp [c_WUint, I, NP]
  exact fin [] (by simp) rfl rfl rfl ⟨rfl, rfl⟩

def intB (n : Int) : List UInt8 := if n < 0 then b8 (127 - nb (-n - 1).toNat) :: (dg (-n - 1).toNat).map (· ^^^ 255) else b8 (128 + nb n.toNat) :: dg n.toNat

def stuffB (l : List UInt8) : List UInt8 := l.flatMap fun c => if c = 0 then [0, 255] else [c]
def bytesB (l : List UInt8) : List UInt8 := stuffB l ++ [0, 0]
theorem stuff_len (l : List UInt8) : (stuffB l).length ≤ 2 * l.length := by
  induction l with
  | nil => simp [stuffB]
  | cons x r ih =>
    have : (stuffB (x :: r)).length = (if x = 0 then [0, 255] else [x] : List UInt8).length + (stuffB r).length := by simp [stuffB]
    rw [this]
    split <;> simp <;> omega
theorem stuff_snoc (l : List UInt8) (c : UInt8) : stuffB (l ++ [c]) = stuffB l ++ (if c = 0 then [0, 255] else [c]) := by simp [stuffB]
theorem take_snoc {l : List UInt8} {i : Nat} {c : UInt8} (h : l[i]? = some c) : l.take (i + 1) = l.take i ++ [c] := by
  rw [List.take_add_one, h]; rfl

theorem WBytes_nil (x : EV) : ECalls Tryd.prog 71 [NP, x] [] fun y H' => H' = [] ∧ y = NP := by
  refine ecalls k_WBytes ?_
  simp [c_WBytes, NP]
  exact fin [] (by simp) rfl rfl rfl ⟨rfl, rfl⟩

set_option maxHeartbeats 1000000 in
theorem WBytes_ok (bs l : List UInt8) (hb : bs.length ≤ 900000000) (hl : l.length ≤ 10000000) :
    ECalls Tryd.prog 71 [Ptr 0, Bs l] [WO 1 bs, RO bs] fun y H' => H' = [some (WO 2 (bs ++ bytesB l)), none, some (RO (bs ++ bytesB l))] ∧ y = Ptr 0 := by
  refine ecalls k_WBytes ?_
  simp [c_WBytes, Bs, Ptr, WO, RO]
  refine eloop (α := Nat) (fun i => i ≤ l.length) (fun i => l.length - i)
    (fun i => [Ptr 0, .any, .any, .any, .any, .any, .any, .any, .any, Bs l, I .i64 l.length, I .i64 i, .any, .any, .any, .any, .any, .any, .any, .any, .any, .any, .any, .any, .any, .any, .any, .any, .any, .any, .any, .any, .any, .any, .any, .any, .any, .any, .any, .any, .any, .any, .any, .any, .any, .any, .any]) (fun i => [some (WO 2 (bs ++ stuffB (l.take i))), none, some (RO (bs ++ stuffB (l.take i)))]) 0 [0, 1, 1]
    (Nat.zero_le _) (by simp [Ptr, Bs, I]) (by simp [RO, WO, stuffB]) (by simp) (by decide) (by simp) ?_
  intro i hi
  have hle := stuff_len (l.take i)
  have hlt : (l.take i).length = i := by simp; omega
  simp [I, Bs, Ptr, WO, RO]
  refine alt (fun hp => ?_) (fun hp => ?_)
  · obtain ⟨c, hc⟩ : ∃ c, l[i]? = some c := ⟨l[i], by simp [hp]⟩
    have hcb : (bsv l)[i]? = some (cb c) := by simp [bsv, hc]
    have hts := take_snoc hc
    simp [hcb, cb]
    refine ⟨by omega, alt (fun hz => ?_) (fun hz => ?_)⟩
    · have hc0 : c = 0 := by apply UInt8.toNat_inj.1; simpa using hz
      have hst : stuffB (l.take (i + 1)) = stuffB (l.take i) ++ [0, 255] := by rw [hts, stuff_snoc, if_pos hc0]
      simp
      have w1 : IntKind.i64.wrap ((i : Int) + 1) = ((i + 1 : Nat) : Int) := wrap_i64 (by omega) (by omega)
      simp [w1, -Int.natCast_add]
      refine ⟨by omega, round (i + 1) [0, 1, 371] (by omega) (by omega) ?_ ?_ (by simp) (by decide) (by simp)⟩
      · simp [hst]
      · subst hc0; simp [hst, bsv, cb]; omega
    · have hc0 : c ≠ 0 := by rintro rfl; exact hz rfl
      have hst : stuffB (l.take (i + 1)) = stuffB (l.take i) ++ [c] := by rw [hts, stuff_snoc, if_neg hc0]
      have w1 : IntKind.i64.wrap ((i : Int) + 1) = ((i + 1 : Nat) : Int) := wrap_i64 (by omega) (by omega)
      simp [w1, -Int.natCast_add]
      refine round (i + 1) [0, 1, 179] (by omega) (by omega) ?_ ?_ (by simp) (by decide) (by simp)
      · simp [hst]
      · simp [hst, bsv, cb]; omega
  · have hil : i = l.length := by omega
    subst hil
    simp at hle
    simp
    exact ⟨by omega, fin [115] (by decide) rfl rfl rfl ⟨by simp [bytesB, bsv, cb]; omega, rfl⟩⟩

theorem WHash_nil (h : List UInt8) : ECalls Tryd.prog 70 [NP, Ag h] [] fun y H' => H' = [] ∧ y = NP := by
  refine ecalls k_WHash ?_
  simp [c_WHash, NP, Ag]
  exact fin [] (by simp) rfl rfl rfl ⟨rfl, rfl⟩

set_option maxHeartbeats 1000000 in
theorem WHash_ok (bs h : List UInt8) (hb : bs.length ≤ 900000000) (hl : h.length = 32) :
    ECalls Tryd.prog 70 [Ptr 0, Ag h] [WO 1 bs, RO bs] fun y H' => H' = [some (WO 2 (bs ++ h)), none, some (RO (bs ++ h))] ∧ y = Ptr 0 := by
  refine ecalls k_WHash ?_
  have ht : h.take 32 = h := List.take_of_length_le (by omega)
  simp [c_WHash, Ptr, WO, RO, Ag, ht]
  exact ⟨by omega, by omega, fin [162] (by decide) rfl rfl rfl ⟨by simp, rfl⟩⟩

theorem WDone_ok (bs : List UInt8) (hb : bs.length ≤ 1000000000) : ECalls Tryd.prog 72 [Ptr 0] [WO 1 bs, RO bs] fun y H' => H' = [some (WO 1 bs), some (RO bs), some (RO bs)] ∧ y = R 2 bs := by
  refine ecalls k_WDone ?_
  simp [c_WDone, Ptr, WO, RO]
  refine call0 (clone_ok bs hb) (by simp [Bs]) ?_
  rintro y H' ⟨rfl, rfl⟩
  refine ⟨.inr ⟨rfl, by simp [RO, noSlO, bsv, cb]⟩, le_ok rfl, ?_⟩
  simp [R, RO]
  exact fin [114] (by decide) rfl rfl rfl ⟨rfl, rfl⟩

theorem WDone_nil : ECalls Tryd.prog 72 [NP] [] fun y H' => H' = [] ∧ y = .v (.c (.fz (.lit (.slice none 0 0)))) := by
  refine ecalls k_WDone ?_
  simp [c_WDone, NP]
  exact fin [] (by simp) rfl rfl rfl ⟨rfl, rfl⟩

end Go.Proofs.YtoomdgmggkcgfaaDoor
