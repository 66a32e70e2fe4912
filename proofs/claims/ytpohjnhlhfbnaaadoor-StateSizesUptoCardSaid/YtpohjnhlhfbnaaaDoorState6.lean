import Derived.Test.YtpohjnhlhfbnaaaDoorState5
namespace Go.Proofs.YtpohjnhlhfbnaaaDoor
open Go Go.EW
set_option linter.unusedSimpArgs false
set_option linter.unusedVariables false

@[simp] def l_RMove_1 (_ : Unit) : List EOp := [⟨0, (some 3), none, (.q (.box 26 (.t 0))), []⟩, ⟨1, (some 6), none, (.q (.alloc 26 [(.int .i64 0), (.int .i64 0), (.int .i64 0), (.slice none 0 0), (.slice none 0 0)])), []⟩, ⟨2, (some 7), none, (.q (.mov (.k (.int .i64 0)))), []⟩]
@[simp] def b_RMove_2 (_ : Unit) : EB := reg0 (hid l_RMove_1) 3
@[simp] def l_RMove_3 (_ : Unit) : List EOp := [⟨0, (some 9), none, (.q (.lda 5 (.t 3))), []⟩, ⟨1, (some 10), none, (.call 39 [(.t 9)]), []⟩, ⟨2, (some 11), none, (.q (.un .not (.t 10))), []⟩, ⟨3, (some 8), none, (.q (.mov (.t 11))), []⟩]
@[simp] def b_RMove_4 (_ : Unit) : EB := reg0 (hid l_RMove_3) 4
@[simp] def l_RMove_5 (_ : Unit) : List EOp := [⟨0, (some 12), none, (.q (.build [(.int .i64 0), (.int .i64 0), (.int .i64 0), (.slice none 0 0), (.slice none 0 0)] [])), []⟩, ⟨1, none, none, (.fz (.sto 5 (.t 6) (.t 12))), []⟩, ⟨2, (some 7), none, (.q (.mov (.k (.int .i64 1)))), []⟩]
@[simp] def b_RMove_6 (_ : Unit) : EB := reg0 (hid l_RMove_5) 3
@[simp] def b_RMove_7 (_ : Unit) : EB := .seq (hid b_RMove_6) .ret
@[simp] def l_RMove_9 (_ : Unit) : List EOp := [⟨6, (some 13), none, (.q (.mov (.t 19))), []⟩]
@[simp] def l_RMove_8 (_ : Unit) : List EOp := ⟨0, (some 14), none, (.q (.mov (.t 1))), []⟩ :: ⟨1, (some 15), none, (.q (.bin .neq (.t 14) (.k (.int .i64 0)))), []⟩ :: ⟨2, (some 16), none, (.q (.mov (.t 15))), []⟩ :: ⟨3, (some 17), (some (16, true)), (.q (.mov (.t 1))), []⟩ :: ⟨4, (some 18), (some (16, true)), (.q (.bin .neq (.t 17) (.k (.int .i64 1)))), []⟩ :: ⟨5, (some 19), none, (.q (.pick (.t 16) (.t 18) (.k (.bool false)))), []⟩ :: hid l_RMove_9
@[simp] def b_RMove_10 (_ : Unit) : EB := reg0 (hid l_RMove_8) 7
@[simp] def l_RMove_11 (_ : Unit) : List EOp := [⟨0, (some 20), none, (.q (.build [(.int .i64 0), (.int .i64 0), (.int .i64 0), (.slice none 0 0), (.slice none 0 0)] [])), []⟩, ⟨1, none, none, (.fz (.sto 5 (.t 6) (.t 20))), []⟩, ⟨2, (some 7), none, (.q (.mov (.k (.int .i64 33)))), []⟩]
@[simp] def b_RMove_12 (_ : Unit) : EB := reg0 (hid l_RMove_11) 3
@[simp] def b_RMove_13 (_ : Unit) : EB := .seq (hid b_RMove_12) .ret
@[simp] def l_RMove_14 (_ : Unit) : List EOp := [⟨0, (some 22), none, (.q (.mov (.t 2))), []⟩, ⟨1, (some 23), none, (.q (.bin .lss (.t 22) (.k (.int .i64 1)))), []⟩, ⟨2, (some 21), none, (.q (.mov (.t 23))), []⟩]
@[simp] def b_RMove_15 (_ : Unit) : EB := reg0 (hid l_RMove_14) 3
@[simp] def l_RMove_16 (_ : Unit) : List EOp := [⟨0, (some 24), none, (.q (.build [(.int .i64 0), (.int .i64 0), (.int .i64 0), (.slice none 0 0), (.slice none 0 0)] [])), []⟩, ⟨1, none, none, (.fz (.sto 5 (.t 6) (.t 24))), []⟩, ⟨2, (some 7), none, (.q (.mov (.k (.int .i64 27)))), []⟩]
@[simp] def b_RMove_17 (_ : Unit) : EB := reg0 (hid l_RMove_16) 3
@[simp] def b_RMove_18 (_ : Unit) : EB := .seq (hid b_RMove_17) .ret
@[simp] def l_RMove_20 (_ : Unit) : List EOp := [⟨6, (some 25), none, (.q (.mov (.t 31))), []⟩]
@[simp] def l_RMove_19 (_ : Unit) : List EOp := ⟨0, (some 26), none, (.q (.mov (.t 1))), []⟩ :: ⟨1, (some 27), none, (.q (.fad 1 (.t 3))), []⟩ :: ⟨2, (some 28), none, (.q (.iad 2 1 (.t 27) (.t 26))), []⟩ :: ⟨3, (some 29), none, (.q (.ldc (.t 28))), []⟩ :: ⟨4, (some 30), none, (.q (.mov (.t 2))), []⟩ :: ⟨5, (some 31), none, (.q (.bin .lss (.t 29) (.t 30))), []⟩ :: hid l_RMove_20
@[simp] def b_RMove_21 (_ : Unit) : EB := reg0 (hid l_RMove_19) 7
@[simp] def l_RMove_22 (_ : Unit) : List EOp := [⟨0, (some 32), none, (.q (.build [(.int .i64 0), (.int .i64 0), (.int .i64 0), (.slice none 0 0), (.slice none 0 0)] [])), []⟩, ⟨1, none, none, (.fz (.sto 5 (.t 6) (.t 32))), []⟩, ⟨2, (some 7), none, (.q (.mov (.k (.int .i64 20)))), []⟩]
@[simp] def b_RMove_23 (_ : Unit) : EB := reg0 (hid l_RMove_22) 3
@[simp] def b_RMove_24 (_ : Unit) : EB := .seq (hid b_RMove_23) .ret
@[simp] def b_RMove_25 (_ : Unit) : EB := .cond (.t 25) (hid b_RMove_24) .skip
@[simp] def b_RMove_26 (_ : Unit) : EB := .seq (hid b_RMove_21) (hid b_RMove_25)
@[simp] def b_RMove_27 (_ : Unit) : EB := .cond (.t 21) (hid b_RMove_18) (hid b_RMove_26)
@[simp] def b_RMove_28 (_ : Unit) : EB := .seq (hid b_RMove_15) (hid b_RMove_27)
@[simp] def b_RMove_29 (_ : Unit) : EB := .cond (.t 13) (hid b_RMove_13) (hid b_RMove_28)
@[simp] def b_RMove_30 (_ : Unit) : EB := .seq (hid b_RMove_10) (hid b_RMove_29)
@[simp] def b_RMove_31 (_ : Unit) : EB := .cond (.t 8) (hid b_RMove_7) (hid b_RMove_30)
@[simp] def b_RMove_32 (_ : Unit) : EB := .seq (hid b_RMove_4) (hid b_RMove_31)
@[simp] def b_RMove_33 (_ : Unit) : EB := .block 0 (hid b_RMove_32)
@[simp] def l_RMove_34 (_ : Unit) : List EOp := [⟨0, (some 33), none, (.q (.mov (.t 1))), []⟩, ⟨1, (some 34), none, (.q (.bin .eql (.t 33) (.k (.int .i64 0)))), []⟩]
@[simp] def b_RMove_35 (_ : Unit) : EB := reg0 (hid l_RMove_34) 2
@[simp] def l_RMove_37 (_ : Unit) : List EOp := [⟨6, (some 41), none, (.q (.fad 4 (.t 3))), []⟩, ⟨7, (some 42), none, (.q (.ldc (.t 41))), []⟩, ⟨8, (some 43), none, (.call 40 [(.t 35), (.t 37), (.t 38), (.t 40), (.t 42)]), []⟩, ⟨9, none, none, (.fz (.sto 5 (.t 6) (.t 43))), []⟩, ⟨10, (some 7), none, (.q (.mov (.k (.int .i64 0)))), []⟩]
@[simp] def l_RMove_36 (_ : Unit) : List EOp := ⟨0, (some 35), none, (.q (.lda 5 (.t 3))), []⟩ :: ⟨1, (some 36), none, (.q (.mov (.t 2))), []⟩ :: ⟨2, (some 37), none, (.q (.un .neg (.t 36))), []⟩ :: ⟨3, (some 38), none, (.q (.mov (.t 2))), []⟩ :: ⟨4, (some 39), none, (.q (.fad 3 (.t 3))), []⟩ :: ⟨5, (some 40), none, (.q (.ldc (.t 39))), []⟩ :: hid l_RMove_37
@[simp] def b_RMove_38 (_ : Unit) : EB := reg0 (hid l_RMove_36) 11
@[simp] def b_RMove_39 (_ : Unit) : EB := .seq (hid b_RMove_38) .ret
@[simp] def b_RMove_40 (_ : Unit) : EB := .cond (.t 34) (hid b_RMove_39) .skip
@[simp] def b_RMove_41 (_ : Unit) : EB := .seq (hid b_RMove_35) (hid b_RMove_40)
@[simp] def l_RMove_43 (_ : Unit) : List EOp := [⟨6, (some 50), none, (.q (.fad 4 (.t 3))), []⟩, ⟨7, (some 51), none, (.q (.ldc (.t 50))), []⟩, ⟨8, (some 52), none, (.call 40 [(.t 44), (.t 45), (.t 47), (.t 49), (.t 51)]), []⟩, ⟨9, none, none, (.fz (.sto 5 (.t 6) (.t 52))), []⟩, ⟨10, (some 7), none, (.q (.mov (.k (.int .i64 0)))), []⟩]
@[simp] def l_RMove_42 (_ : Unit) : List EOp := ⟨0, (some 44), none, (.q (.lda 5 (.t 3))), []⟩ :: ⟨1, (some 45), none, (.q (.mov (.t 2))), []⟩ :: ⟨2, (some 46), none, (.q (.mov (.t 2))), []⟩ :: ⟨3, (some 47), none, (.q (.un .neg (.t 46))), []⟩ :: ⟨4, (some 48), none, (.q (.fad 3 (.t 3))), []⟩ :: ⟨5, (some 49), none, (.q (.ldc (.t 48))), []⟩ :: hid l_RMove_43
@[simp] def b_RMove_44 (_ : Unit) : EB := reg0 (hid l_RMove_42) 11
@[simp] def b_RMove_45 (_ : Unit) : EB := .seq (hid b_RMove_44) .ret
@[simp] def b_RMove_46 (_ : Unit) : EB := .seq (hid b_RMove_41) (hid b_RMove_45)
@[simp] def b_RMove_47 (_ : Unit) : EB := .seq (hid b_RMove_33) (hid b_RMove_46)
@[simp] def b_RMove_48 (_ : Unit) : EB := .seq (hid b_RMove_2) (hid b_RMove_47)
def c_RMove : EB × List QOp × Nat := ((hid b_RMove_48), [(.lda 5 (.t 6)), (.mov (.t 7))], 53)
theorem k_RMove : cfun Tryd.prog 14 = some c_RMove := by kernel_rfl

@[simp] def l_RResize_1 (_ : Unit) : List EOp := [⟨0, (some 3), none, (.q (.box 26 (.t 0))), []⟩, ⟨1, (some 6), none, (.q (.alloc 26 [(.int .i64 0), (.int .i64 0), (.int .i64 0), (.slice none 0 0), (.slice none 0 0)])), []⟩, ⟨2, (some 7), none, (.q (.mov (.k (.int .i64 0)))), []⟩]
@[simp] def b_RResize_2 (_ : Unit) : EB := reg0 (hid l_RResize_1) 3
@[simp] def l_RResize_3 (_ : Unit) : List EOp := [⟨0, (some 11), none, (.q (.lda 5 (.t 3))), []⟩, ⟨1, (some 12), none, (.call 39 [(.t 11)]), []⟩, ⟨2, (some 13), none, (.q (.un .not (.t 12))), []⟩, ⟨3, (some 10), none, (.q (.mov (.t 13))), []⟩]
@[simp] def b_RResize_4 (_ : Unit) : EB := reg0 (hid l_RResize_3) 4
@[simp] def l_RResize_5 (_ : Unit) : List EOp := [⟨0, (some 14), none, (.q (.build [(.int .i64 0), (.int .i64 0), (.int .i64 0), (.slice none 0 0), (.slice none 0 0)] [])), []⟩, ⟨1, none, none, (.fz (.sto 5 (.t 6) (.t 14))), []⟩, ⟨2, (some 7), none, (.q (.mov (.k (.int .i64 1)))), []⟩]
@[simp] def b_RResize_6 (_ : Unit) : EB := reg0 (hid l_RResize_5) 3
@[simp] def b_RResize_7 (_ : Unit) : EB := .seq (hid b_RResize_6) .ret
@[simp] def l_RResize_9 (_ : Unit) : List EOp := [⟨6, (some 15), none, (.q (.mov (.t 21))), []⟩]
@[simp] def l_RResize_8 (_ : Unit) : List EOp := ⟨0, (some 16), none, (.q (.mov (.t 1))), []⟩ :: ⟨1, (some 17), none, (.q (.bin .neq (.t 16) (.k (.int .i64 0)))), []⟩ :: ⟨2, (some 18), none, (.q (.mov (.t 17))), []⟩ :: ⟨3, (some 19), (some (18, true)), (.q (.mov (.t 1))), []⟩ :: ⟨4, (some 20), (some (18, true)), (.q (.bin .neq (.t 19) (.k (.int .i64 1)))), []⟩ :: ⟨5, (some 21), none, (.q (.pick (.t 18) (.t 20) (.k (.bool false)))), []⟩ :: hid l_RResize_9
@[simp] def b_RResize_10 (_ : Unit) : EB := reg0 (hid l_RResize_8) 7
@[simp] def l_RResize_11 (_ : Unit) : List EOp := [⟨0, (some 22), none, (.q (.build [(.int .i64 0), (.int .i64 0), (.int .i64 0), (.slice none 0 0), (.slice none 0 0)] [])), []⟩, ⟨1, none, none, (.fz (.sto 5 (.t 6) (.t 22))), []⟩, ⟨2, (some 7), none, (.q (.mov (.k (.int .i64 33)))), []⟩]
@[simp] def b_RResize_12 (_ : Unit) : EB := reg0 (hid l_RResize_11) 3
@[simp] def b_RResize_13 (_ : Unit) : EB := .seq (hid b_RResize_12) .ret
@[simp] def l_RResize_15 (_ : Unit) : List EOp := [⟨6, (some 30), none, (.q (.bin .lss (.t 24) (.t 29))), []⟩, ⟨7, (some 23), none, (.q (.mov (.t 30))), []⟩]
@[simp] def l_RResize_14 (_ : Unit) : List EOp := ⟨0, (some 24), none, (.q (.mov (.t 2))), []⟩ :: ⟨1, (some 25), none, (.q (.mov (.t 1))), []⟩ :: ⟨2, (some 26), none, (.q (.fad 1 (.t 3))), []⟩ :: ⟨3, (some 27), none, (.q (.iad 2 1 (.t 26) (.t 25))), []⟩ :: ⟨4, (some 28), none, (.q (.ldc (.t 27))), []⟩ :: ⟨5, (some 29), none, (.q (.bin .sub (.k (.int .i64 0)) (.t 28))), []⟩ :: hid l_RResize_15
@[simp] def b_RResize_16 (_ : Unit) : EB := reg0 (hid l_RResize_14) 8
@[simp] def l_RResize_17 (_ : Unit) : List EOp := [⟨0, (some 31), none, (.q (.build [(.int .i64 0), (.int .i64 0), (.int .i64 0), (.slice none 0 0), (.slice none 0 0)] [])), []⟩, ⟨1, none, none, (.fz (.sto 5 (.t 6) (.t 31))), []⟩, ⟨2, (some 7), none, (.q (.mov (.k (.int .i64 20)))), []⟩]
@[simp] def b_RResize_18 (_ : Unit) : EB := reg0 (hid l_RResize_17) 3
@[simp] def b_RResize_19 (_ : Unit) : EB := .seq (hid b_RResize_18) .ret
@[simp] def l_RResize_20 (_ : Unit) : List EOp := [⟨0, (some 33), none, (.q (.mov (.t 2))), []⟩, ⟨1, (some 34), none, (.q (.lda 5 (.t 3))), []⟩, ⟨2, (some 35), none, (.call 41 [(.t 34)]), []⟩, ⟨3, (some 36), none, (.q (.bin .sub (.k (.int .i64 1125899906842624)) (.t 35))), []⟩, ⟨4, (some 37), none, (.q (.bin .gtr (.t 33) (.t 36))), []⟩, ⟨5, (some 32), none, (.q (.mov (.t 37))), []⟩]
@[simp] def b_RResize_21 (_ : Unit) : EB := reg0 (hid l_RResize_20) 6
@[simp] def l_RResize_22 (_ : Unit) : List EOp := [⟨0, (some 38), none, (.q (.build [(.int .i64 0), (.int .i64 0), (.int .i64 0), (.slice none 0 0), (.slice none 0 0)] [])), []⟩, ⟨1, none, none, (.fz (.sto 5 (.t 6) (.t 38))), []⟩, ⟨2, (some 7), none, (.q (.mov (.k (.int .i64 5)))), []⟩]
@[simp] def b_RResize_23 (_ : Unit) : EB := reg0 (hid l_RResize_22) 3
@[simp] def b_RResize_24 (_ : Unit) : EB := .seq (hid b_RResize_23) .ret
@[simp] def b_RResize_25 (_ : Unit) : EB := .cond (.t 32) (hid b_RResize_24) .skip
@[simp] def b_RResize_26 (_ : Unit) : EB := .seq (hid b_RResize_21) (hid b_RResize_25)
@[simp] def b_RResize_27 (_ : Unit) : EB := .cond (.t 23) (hid b_RResize_19) (hid b_RResize_26)
@[simp] def b_RResize_28 (_ : Unit) : EB := .seq (hid b_RResize_16) (hid b_RResize_27)
@[simp] def b_RResize_29 (_ : Unit) : EB := .cond (.t 15) (hid b_RResize_13) (hid b_RResize_28)
@[simp] def b_RResize_30 (_ : Unit) : EB := .seq (hid b_RResize_10) (hid b_RResize_29)
@[simp] def b_RResize_31 (_ : Unit) : EB := .cond (.t 10) (hid b_RResize_7) (hid b_RResize_30)
@[simp] def b_RResize_32 (_ : Unit) : EB := .seq (hid b_RResize_4) (hid b_RResize_31)
@[simp] def b_RResize_33 (_ : Unit) : EB := .block 0 (hid b_RResize_32)
@[simp] def l_RResize_35 (_ : Unit) : List EOp := [⟨6, (some 8), none, (.q (.mov (.t 43))), []⟩, ⟨7, (some 9), none, (.q (.mov (.t 44))), []⟩]
@[simp] def l_RResize_34 (_ : Unit) : List EOp := ⟨0, (some 40), none, (.q (.mov (.t 1))), []⟩ :: ⟨1, (some 41), none, (.q (.mov (.t 2))), []⟩ :: ⟨2, (some 42), none, (.call 42 [(.t 40), (.t 41)]), []⟩ :: ⟨3, (some 39), none, (.q (.mov (.t 42))), []⟩ :: ⟨4, (some 43), none, (.q (.ext 0 (.t 39))), []⟩ :: ⟨5, (some 44), none, (.q (.ext 1 (.t 39))), []⟩ :: hid l_RResize_35
@[simp] def b_RResize_36 (_ : Unit) : EB := reg0 (hid l_RResize_34) 8
@[simp] def l_RResize_38 (_ : Unit) : List EOp := [⟨6, (some 51), none, (.q (.ldc (.t 50))), []⟩, ⟨7, (some 52), none, (.call 40 [(.t 45), (.t 46), (.t 47), (.t 49), (.t 51)]), []⟩, ⟨8, none, none, (.fz (.sto 5 (.t 6) (.t 52))), []⟩, ⟨9, (some 7), none, (.q (.mov (.k (.int .i64 0)))), []⟩]
@[simp] def l_RResize_37 (_ : Unit) : List EOp := ⟨0, (some 45), none, (.q (.lda 5 (.t 3))), []⟩ :: ⟨1, (some 46), none, (.q (.mov (.t 8))), []⟩ :: ⟨2, (some 47), none, (.q (.mov (.t 9))), []⟩ :: ⟨3, (some 48), none, (.q (.fad 3 (.t 3))), []⟩ :: ⟨4, (some 49), none, (.q (.ldc (.t 48))), []⟩ :: ⟨5, (some 50), none, (.q (.fad 4 (.t 3))), []⟩ :: hid l_RResize_38
@[simp] def b_RResize_39 (_ : Unit) : EB := reg0 (hid l_RResize_37) 10
@[simp] def b_RResize_40 (_ : Unit) : EB := .seq (hid b_RResize_39) .ret
@[simp] def b_RResize_41 (_ : Unit) : EB := .seq (hid b_RResize_36) (hid b_RResize_40)
@[simp] def b_RResize_42 (_ : Unit) : EB := .seq (hid b_RResize_33) (hid b_RResize_41)
@[simp] def b_RResize_43 (_ : Unit) : EB := .seq (hid b_RResize_2) (hid b_RResize_42)
def c_RResize : EB × List QOp × Nat := ((hid b_RResize_43), [(.lda 5 (.t 6)), (.mov (.t 7))], 53)
theorem k_RResize : cfun Tryd.prog 17 = some c_RResize := by kernel_rfl


def RE (q : Sta × Nat) : EV := .tup [.agg (staC q.1), .c (.fz (.lit (.int .i64 (q.2 : Int))))]

set_option maxHeartbeats 2000000 in
theorem RMove_ok (s : Sta) (from' n : Int) (hs : s.ok) (hf : i64 from') (hn : i64 n) : ECalls Tryd.prog 14 [SV s, I .i64 from', I .i64 n] [] fun y H' => H' = [] ∧ y = RE (moveS s from' n) := by
  obtain ⟨ok1, ok2, ok3, ok4, ok5, ok6, ok7⟩ := id hs
  obtain ⟨hf1, hf2⟩ := hf
  obtain ⟨hn1, hn2⟩ := hn
  refine ecalls k_RMove ?_
  simp [c_RMove, SV, staC, I]
  refine call0 (Rright_ok s hs) (by simp [SV, staC]) ?_
  rintro y H' ⟨rfl, rfl⟩
  cases hb0 : decide (mayS s = true ∧ s.num ≠ 1099511627776)
  · have h0 := of_decide_eq_false hb0
    have hx : nxt s = (zSta, 1) := by simp only [nxt, if_neg h0]
    rw [show moveS s from' n = (zSta, 1) by simp [moveS, hx]]
    simp [EV.lit]
    refine finW _ (weak_nlB (o := 16) (k := 3) 36 rfl rfl) (finW _ (weak_nlB (o := 16) (k := 4) 3 rfl rfl) ?_)
    exact fin [] (by decide) rfl rfl rfl ⟨rfl, rfl⟩
  have h0 := of_decide_eq_true hb0
  have hx : nxt s = (⟨s.num + 1, s.h0, s.h1, s.pays, s.holds⟩, 0) := by simp only [nxt, if_pos h0]
  obtain ⟨hr, hp, hh, htot⟩ := mayS_t h0.1
  have w9 : IntKind.i64.wrap (s.num + 1) = s.num + 1 := wrap_i64 (by omega) (by omega)
  simp [EV.lit]
  by_cases hb' : from' = 0 ∨ from' = 1
  rotate_left
  · rw [show moveS s from' n = (zSta, 33) by simp only [moveS, hx]; rw [if_neg (by simp), if_pos hb']]
    have q0 : ¬ from' = 0 := fun e => hb' (.inl e)
    have q1 : ¬ from' = 1 := fun e => hb' (.inr e)
    simp [q0, q1]
    refine finW _ (weak_nlB (o := 16) (k := 3) 36 rfl rfl) (finW _ (weak_nlB (o := 16) (k := 4) 3 rfl rfl) ?_)
    exact fin [] (by decide) rfl rfl rfl ⟨rfl, rfl⟩
  rcases hb' with rfl | rfl
  · simp
    refine alt (fun c1 => ?_) (fun c1 => ?_)
    · rw [show moveS s 0 n = (zSta, 27) by simp only [moveS, hx]; rw [if_neg (by simp), if_neg (by simp), if_pos c1]]
      simp
      refine finW _ (weak_nlB (o := 16) (k := 3) 36 rfl rfl) (finW _ (weak_nlB (o := 16) (k := 4) 3 rfl rfl) ?_)
      exact fin [] (by decide) rfl rfl rfl ⟨rfl, rfl⟩
    simp
    refine alt (fun c2 => ?_) (fun c2 => ?_)
    · rw [show moveS s 0 n = (zSta, 20) by simp only [moveS, hx]; rw [if_neg (by simp), if_neg (by simp), if_neg c1]; simp [c2]]
      simp
      refine finW _ (weak_nlB (o := 16) (k := 3) 36 rfl rfl) (finW _ (weak_nlB (o := 16) (k := 4) 3 rfl rfl) ?_)
      exact fin [] (by decide) rfl rfl rfl ⟨rfl, rfl⟩
    rw [show moveS s 0 n = (⟨s.num + 1, s.h0 + -n, s.h1 + n, s.pays, s.holds⟩, 0) by simp only [moveS, hx]; rw [if_neg (by simp), if_neg (by simp), if_neg c1]; simp [c2, Int.sub_eq_add_neg]]
    have w1 : IntKind.i64.wrap (-n) = -n := wrap_i64 (by omega) (by omega)
    simp [w1]
    refine call0 (Rwith_ok s (-n) n w9 (wrap_i64 (by omega) (by omega)) (wrap_i64 (by omega) (by omega)) s.pays s.holds) (by simp [SV, staC, I, PL, HL]) ?_
    rintro y H' ⟨rfl, rfl⟩
    refine ⟨.inl (by simp), le_ok rfl, ?_⟩
    simp [SV, staC]
    exact fin [] (by decide) rfl rfl rfl ⟨rfl, rfl⟩
  · simp
    refine alt (fun c1 => ?_) (fun c1 => ?_)
    · rw [show moveS s 1 n = (zSta, 27) by simp only [moveS, hx]; rw [if_neg (by simp), if_neg (by simp), if_pos c1]]
      simp
      refine finW _ (weak_nlB (o := 16) (k := 3) 36 rfl rfl) (finW _ (weak_nlB (o := 16) (k := 4) 3 rfl rfl) ?_)
      exact fin [] (by decide) rfl rfl rfl ⟨rfl, rfl⟩
    simp
    refine alt (fun c2 => ?_) (fun c2 => ?_)
    · rw [show moveS s 1 n = (zSta, 20) by simp only [moveS, hx]; rw [if_neg (by simp), if_neg (by simp), if_neg c1]; simp [c2]]
      simp
      refine finW _ (weak_nlB (o := 16) (k := 3) 36 rfl rfl) (finW _ (weak_nlB (o := 16) (k := 4) 3 rfl rfl) ?_)
      exact fin [] (by decide) rfl rfl rfl ⟨rfl, rfl⟩
    rw [show moveS s 1 n = (⟨s.num + 1, s.h0 + n, s.h1 + -n, s.pays, s.holds⟩, 0) by simp only [moveS, hx]; rw [if_neg (by simp), if_neg (by simp), if_neg c1]; simp [c2, Int.sub_eq_add_neg]]
    have w1 : IntKind.i64.wrap (-n) = -n := wrap_i64 (by omega) (by omega)
    simp [w1]
    refine call0 (Rwith_ok s n (-n) w9 (wrap_i64 (by omega) (by omega)) (wrap_i64 (by omega) (by omega)) s.pays s.holds) (by simp [SV, staC, I, PL, HL]) ?_
    rintro y H' ⟨rfl, rfl⟩
    refine ⟨.inl (by simp), le_ok rfl, ?_⟩
    simp [SV, staC]
    exact fin [] (by decide) rfl rfl rfl ⟨rfl, rfl⟩

set_option maxHeartbeats 2000000 in
theorem RResize_ok (s : Sta) (who n : Int) (hs : s.ok) (hf : i64 who) (hn : i64 n) : ECalls Tryd.prog 17 [SV s, I .i64 who, I .i64 n] [] fun y H' => H' = [] ∧ y = RE (resS s who n) := by
  obtain ⟨ok1, ok2, ok3, ok4, ok5, ok6, ok7⟩ := id hs
  obtain ⟨hf1, hf2⟩ := hf
  obtain ⟨hn1, hn2⟩ := hn
  refine ecalls k_RResize ?_
  simp [c_RResize, SV, staC, I]
  refine call0 (Rright_ok s hs) (by simp [SV, staC]) ?_
  rintro y H' ⟨rfl, rfl⟩
  cases hb0 : decide (mayS s = true ∧ s.num ≠ 1099511627776)
  · have h0 := of_decide_eq_false hb0
    have hx : nxt s = (zSta, 1) := by simp only [nxt, if_neg h0]
    rw [show resS s who n = (zSta, 1) by simp [resS, hx]]
    simp [EV.lit]
    refine finW _ (weak_nlB (o := 16) (k := 3) 36 rfl rfl) (finW _ (weak_nlB (o := 16) (k := 4) 3 rfl rfl) ?_)
    exact fin [] (by decide) rfl rfl rfl ⟨rfl, rfl⟩
  have h0 := of_decide_eq_true hb0
  have hx : nxt s = (⟨s.num + 1, s.h0, s.h1, s.pays, s.holds⟩, 0) := by simp only [nxt, if_pos h0]
  obtain ⟨hr, hp, hh, htot⟩ := mayS_t h0.1
  have hsp := sumP_nn hp
  have hsh := sumH_nn hh
  have htn : 0 ≤ total s := by unfold total; omega
  have hside : s.h0 ≤ total s ∧ s.h1 ≤ total s := by unfold total; omega
  have w9 : IntKind.i64.wrap (s.num + 1) = s.num + 1 := wrap_i64 (by omega) (by omega)
  have w8 : IntKind.i64.wrap (1125899906842624 - total s) = 1125899906842624 - total s := wrap_i64 (by omega) (by omega)
  simp [EV.lit]
  by_cases hb' : who = 0 ∨ who = 1
  rotate_left
  · rw [show resS s who n = (zSta, 33) by simp only [resS, hx]; rw [if_neg (by simp), if_pos hb']]
    have q0 : ¬ who = 0 := fun e => hb' (.inl e)
    have q1 : ¬ who = 1 := fun e => hb' (.inr e)
    simp [q0, q1]
    refine finW _ (weak_nlB (o := 16) (k := 3) 36 rfl rfl) (finW _ (weak_nlB (o := 16) (k := 4) 3 rfl rfl) ?_)
    exact fin [] (by decide) rfl rfl rfl ⟨rfl, rfl⟩
  rcases hb' with rfl | rfl
  · have w0 : IntKind.i64.wrap (-s.h0) = -s.h0 := wrap_i64 (by omega) (by omega)
    simp [w0]
    refine alt (fun c2 => ?_) (fun c2 => ?_)
    · rw [show resS s 0 n = (zSta, 20) by simp only [resS, hx]; rw [if_neg (by simp), if_neg (by simp)]; simp [c2]]
      simp
      refine finW _ (weak_nlB (o := 16) (k := 3) 36 rfl rfl) (finW _ (weak_nlB (o := 16) (k := 4) 3 rfl rfl) ?_)
      exact fin [] (by decide) rfl rfl rfl ⟨rfl, rfl⟩
    simp
    refine call0 (Rsum_ok s hs (by omega) hp hh) (by simp [SV, staC]) ?_
    rintro y H' ⟨rfl, rfl⟩
    simp [I, w8]
    refine alt (fun c3 => ?_) (fun c3 => ?_)
    · rw [show resS s 0 n = (zSta, 5) by simp only [resS, hx]; rw [if_neg (by simp), if_neg (by simp)]; simp [c2, c3]]
      simp
      refine finW _ (weak_nlB (o := 16) (k := 3) 36 rfl rfl) (finW _ (weak_nlB (o := 16) (k := 4) 3 rfl rfl) ?_)
      exact fin [] (by decide) rfl rfl rfl ⟨rfl, rfl⟩
    rw [show resS s 0 n = (⟨s.num + 1, s.h0 + n, s.h1 + 0, s.pays, s.holds⟩, 0) by simp only [resS, hx]; rw [if_neg (by simp), if_neg (by simp)]; simp [c2, c3]]
    simp
    refine call0 (Rto_ok 0 n) (by simp [I]) ?_
    rintro y H' ⟨rfl, rfl⟩
    simp
    refine call0 (Rwith_ok s n 0 w9 (wrap_i64 (by omega) (by omega)) (wrap_i64 (by omega) (by omega)) s.pays s.holds) (by simp [SV, staC, I, PL, HL]) ?_
    rintro y H' ⟨rfl, rfl⟩
    refine ⟨.inl (by simp), le_ok rfl, ?_⟩
    simp [SV, staC]
    exact fin [] (by decide) rfl rfl rfl ⟨rfl, by simp [RE, staC]⟩
  · have w0 : IntKind.i64.wrap (-s.h1) = -s.h1 := wrap_i64 (by omega) (by omega)
    simp [w0]
    refine alt (fun c2 => ?_) (fun c2 => ?_)
    · rw [show resS s 1 n = (zSta, 20) by simp only [resS, hx]; rw [if_neg (by simp), if_neg (by simp)]; simp [c2]]
      simp
      refine finW _ (weak_nlB (o := 16) (k := 3) 36 rfl rfl) (finW _ (weak_nlB (o := 16) (k := 4) 3 rfl rfl) ?_)
      exact fin [] (by decide) rfl rfl rfl ⟨rfl, rfl⟩
    simp
    refine call0 (Rsum_ok s hs (by omega) hp hh) (by simp [SV, staC]) ?_
    rintro y H' ⟨rfl, rfl⟩
    simp [I, w8]
    refine alt (fun c3 => ?_) (fun c3 => ?_)
    · rw [show resS s 1 n = (zSta, 5) by simp only [resS, hx]; rw [if_neg (by simp), if_neg (by simp)]; simp [c2, c3]]
      simp
      refine finW _ (weak_nlB (o := 16) (k := 3) 36 rfl rfl) (finW _ (weak_nlB (o := 16) (k := 4) 3 rfl rfl) ?_)
      exact fin [] (by decide) rfl rfl rfl ⟨rfl, rfl⟩
    rw [show resS s 1 n = (⟨s.num + 1, s.h0 + 0, s.h1 + n, s.pays, s.holds⟩, 0) by simp only [resS, hx]; rw [if_neg (by simp), if_neg (by simp)]; simp [c2, c3]]
    simp
    refine call0 (Rto_ok 1 n) (by simp [I]) ?_
    rintro y H' ⟨rfl, rfl⟩
    simp
    refine call0 (Rwith_ok s 0 n w9 (wrap_i64 (by omega) (by omega)) (wrap_i64 (by omega) (by omega)) s.pays s.holds) (by simp [SV, staC, I, PL, HL]) ?_
    rintro y H' ⟨rfl, rfl⟩
    refine ⟨.inl (by simp), le_ok rfl, ?_⟩
    simp [SV, staC]
    exact fin [] (by decide) rfl rfl rfl ⟨rfl, by simp [RE, staC]⟩

end Go.Proofs.YtpohjnhlhfbnaaaDoor
